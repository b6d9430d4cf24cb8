/-
  NARROWER THAN 'FOR EVERY INPUT', by the rows' own cells (each row's printed sentence says how): StandingSpec: laid · StandingLast: laid · StandingMore: laid · StandingNames: laid.
  DERIVED. THE GIVEN ROWS OF THIS SEAT. 4 by the template 'for every input the law returns true; each argument reads behind the call as it read before'; 0 by the template 'total and deterministic' (their statements: YtdnmoppegncioaaGreatDoorTotals.lean).
  GIVEN WITH THE SEED: the statements are not yours to turn. If you find one false, say at which input.
  Laid BY PROGRAM, IN A SANDBOX (cutbox-rows.mjs): the forced cells as the released guide's own fill.sh prints them over the translation 9482cdb4d291c6e9… (all of the seat's roots in one cut). By AI agents, Wed Nov 11 2026. No macro, syntax, notation, axiom, sorry.
-/
import Derived.Test.YtdnmoppegncioaaGreatDoorChecked
import GoSem.Claim
import GoSem.ClaimJoined
import GoSem.ClaimMapViews
import Derived.JoinedTies
import Derived.KernelRfl
namespace Go.Proofs.YtdnmoppegncioaaGreatDoor
/- THE CELL 'sum', in the pinned program and in every row, IS THE sha256 OF THE DUMP (.gsa) THAT YtdnmoppegncioaaGreatDoorProg.lean LOADS. Nothing in Lean hashes anything: it is a label: what it is worth is what the hold of that sum in a sandbox is worth. -/
noncomputable def Tryz.pinned : Pinned := { name := "ytdnmoppegncioaagreatdoor", sum := "9482cdb4d291c6e9ddc9bcac8c0dca03e2c8b0d27d9dc2a8afd4f43b15a97c11", checked := Tryz.checked }
namespace Rows
def none {H : Type} : Left H := { results := [], args := [] }

/- WHAT THE LISTED PACKAGE-LEVEL VARIABLES READ AS WHEN THE CALL BEGINS. Each datum BY PROGRAM (the guide's laid-datum.mjs) off the statement by which the dump's own 'gosem.cut.vars' lays the variable. In a bare row this is a premise. The card (YtdnmoppegncioaaGreatDoorCards.lean) ties it to the program's text. -/
def laid_sizar_rules_kinds {H : Type} : DataW H := .iface "func table" (.agg [.agg [.lit (.bool false), .lit (.bool false), .lit (.bool false), .lit (.bool false), .nil, .nil], .agg [.lit (.bool false), .lit (.bool false), .lit (.bool false), .lit (.bool true), .iface "func" (.lit (.string [115, 105, 122, 97, 114, 47, 114, 117, 108, 101, 115, 46, 107, 105, 110, 100, 115, 36, 49])), .iface "func" (.lit (.string [115, 105, 122, 97, 114, 47, 114, 117, 108, 101, 115, 46, 107, 105, 110, 100, 115, 36, 50]))], .agg [.lit (.bool false), .lit (.bool false), .lit (.bool false), .lit (.bool true), .iface "func" (.lit (.string [115, 105, 122, 97, 114, 47, 114, 117, 108, 101, 115, 46, 107, 105, 110, 100, 115, 36, 51])), .iface "func" (.lit (.string [115, 105, 122, 97, 114, 47, 114, 117, 108, 101, 115, 46, 107, 105, 110, 100, 115, 36, 52]))], .agg [.lit (.bool false), .lit (.bool true), .lit (.bool false), .lit (.bool true), .iface "func" (.lit (.string [115, 105, 122, 97, 114, 47, 114, 117, 108, 101, 115, 46, 107, 105, 110, 100, 115, 36, 53])), .iface "func" (.lit (.string [115, 105, 122, 97, 114, 47, 114, 117, 108, 101, 115, 46, 107, 105, 110, 100, 115, 36, 54]))], .agg [.lit (.bool false), .lit (.bool false), .lit (.bool false), .lit (.bool true), .iface "func" (.lit (.string [115, 105, 122, 97, 114, 47, 114, 117, 108, 101, 115, 46, 107, 105, 110, 100, 115, 36, 55])), .iface "func" (.lit (.string [115, 105, 122, 97, 114, 47, 114, 117, 108, 101, 115, 46, 107, 105, 110, 100, 115, 36, 56]))], .agg [.lit (.bool true), .lit (.bool true), .lit (.bool false), .lit (.bool false), .iface "func" (.lit (.string [115, 105, 122, 97, 114, 47, 114, 117, 108, 101, 115, 46, 107, 105, 110, 100, 115, 36, 57])), .iface "func" (.lit (.string [115, 105, 122, 97, 114, 47, 114, 117, 108, 101, 115, 46, 107, 105, 110, 100, 115, 36, 49, 48]))], .agg [.lit (.bool true), .lit (.bool true), .lit (.bool false), .lit (.bool false), .iface "func" (.lit (.string [115, 105, 122, 97, 114, 47, 114, 117, 108, 101, 115, 46, 107, 105, 110, 100, 115, 36, 49, 49])), .iface "func" (.lit (.string [115, 105, 122, 97, 114, 47, 114, 117, 108, 101, 115, 46, 107, 105, 110, 100, 115, 36, 49, 50]))], .agg [.lit (.bool false), .lit (.bool true), .lit (.bool false), .lit (.bool false), .iface "func" (.lit (.string [115, 105, 122, 97, 114, 47, 114, 117, 108, 101, 115, 46, 107, 105, 110, 100, 115, 36, 49, 51])), .iface "func" (.lit (.string [115, 105, 122, 97, 114, 47, 114, 117, 108, 101, 115, 46, 107, 105, 110, 100, 115, 36, 49, 52]))], .agg [.lit (.bool false), .lit (.bool true), .lit (.bool true), .lit (.bool false), .iface "func" (.lit (.string [115, 105, 122, 97, 114, 47, 114, 117, 108, 101, 115, 46, 107, 105, 110, 100, 115, 36, 49, 53])), .iface "func" (.lit (.string [115, 105, 122, 97, 114, 47, 114, 117, 108, 101, 115, 46, 107, 105, 110, 100, 115, 36, 49, 54]))], .agg [.lit (.bool true), .lit (.bool false), .lit (.bool false), .lit (.bool false), .iface "func" (.lit (.string [115, 105, 122, 97, 114, 47, 114, 117, 108, 101, 115, 46, 99, 111, 117, 114, 115, 101])), .iface "func" (.lit (.string [115, 105, 122, 97, 114, 47, 114, 117, 108, 101, 115, 46, 107, 105, 110, 100, 115, 36, 49, 55]))]])

/-- 'sizarlaw21.StandingSpec': WHATEVER THE INPUT: true; the input reads as it did. -/
def standingSpecSpec : ChangeSpec := { name := "standingSpec", fn := fun _ => fun
  | [d1, d2, d3] => { results := [.lit (.bool true)], args := [d1, d2, d3] }
  | _ => none }
def standingSpecRow : OpenClaim := { program := "ytdnmoppegncioaagreatdoor", sum := "9482cdb4d291c6e9ddc9bcac8c0dca03e2c8b0d27d9dc2a8afd4f43b15a97c11", func := "sizar/sizarlaw21.StandingSpec", spec := "standingSpec", unfollowed := true, recurses := true, named := ["sizar/rules.kinds"], apart := false, laid := [("sizar/rules.kinds", laid_sizar_rules_kinds)] }
def StandingSpecSaid : Prop := standingSpecRow.holds Tryz.pinned (OpenSpec.ofChange standingSpecSpec)

/-- ITS FALSE NEIGHBOUR: 'it returns false'. Refute it at one input. -/
def standingSpecWrong : ChangeSpec := { name := "standingSpec", fn := fun _ => fun
  | [d1, d2, d3] => { results := [.lit (.bool false)], args := [d1, d2, d3] }
  | _ => none }
def StandingSpecWrongFalsely : Prop := standingSpecRow.holds Tryz.pinned (OpenSpec.ofChange standingSpecWrong)

/-- 'sizarlaw21.StandingLast': WHATEVER THE INPUT: true; the input reads as it did. -/
def standingLastSpec : ChangeSpec := { name := "standingLast", fn := fun _ => fun
  | [d1, d2, d3] => { results := [.lit (.bool true)], args := [d1, d2, d3] }
  | _ => none }
def standingLastRow : OpenClaim := { program := "ytdnmoppegncioaagreatdoor", sum := "9482cdb4d291c6e9ddc9bcac8c0dca03e2c8b0d27d9dc2a8afd4f43b15a97c11", func := "sizar/sizarlaw21.StandingLast", spec := "standingLast", unfollowed := true, recurses := true, named := ["sizar/rules.kinds"], apart := false, laid := [("sizar/rules.kinds", laid_sizar_rules_kinds)] }
def StandingLastSaid : Prop := standingLastRow.holds Tryz.pinned (OpenSpec.ofChange standingLastSpec)

/-- ITS FALSE NEIGHBOUR: 'it returns false'. Refute it at one input. -/
def standingLastWrong : ChangeSpec := { name := "standingLast", fn := fun _ => fun
  | [d1, d2, d3] => { results := [.lit (.bool false)], args := [d1, d2, d3] }
  | _ => none }
def StandingLastWrongFalsely : Prop := standingLastRow.holds Tryz.pinned (OpenSpec.ofChange standingLastWrong)

/-- 'sizarlaw21.StandingMore': WHATEVER THE INPUT: true; the input reads as it did. -/
def standingMoreSpec : ChangeSpec := { name := "standingMore", fn := fun _ => fun
  | [d1, d2, d3, d4, d5] => { results := [.lit (.bool true)], args := [d1, d2, d3, d4, d5] }
  | _ => none }
def standingMoreRow : OpenClaim := { program := "ytdnmoppegncioaagreatdoor", sum := "9482cdb4d291c6e9ddc9bcac8c0dca03e2c8b0d27d9dc2a8afd4f43b15a97c11", func := "sizar/sizarlaw21.StandingMore", spec := "standingMore", unfollowed := true, recurses := true, named := ["sizar/rules.kinds"], apart := false, laid := [("sizar/rules.kinds", laid_sizar_rules_kinds)] }
def StandingMoreSaid : Prop := standingMoreRow.holds Tryz.pinned (OpenSpec.ofChange standingMoreSpec)

/-- ITS FALSE NEIGHBOUR: 'it returns false'. Refute it at one input. -/
def standingMoreWrong : ChangeSpec := { name := "standingMore", fn := fun _ => fun
  | [d1, d2, d3, d4, d5] => { results := [.lit (.bool false)], args := [d1, d2, d3, d4, d5] }
  | _ => none }
def StandingMoreWrongFalsely : Prop := standingMoreRow.holds Tryz.pinned (OpenSpec.ofChange standingMoreWrong)

/-- 'sizarlaw21.StandingNames': WHATEVER THE INPUT: true; the input reads as it did. -/
def standingNamesSpec : ChangeSpec := { name := "standingNames", fn := fun _ => fun
  | [d1, d2, d3, d4, d5] => { results := [.lit (.bool true)], args := [d1, d2, d3, d4, d5] }
  | _ => none }
def standingNamesRow : OpenClaim := { program := "ytdnmoppegncioaagreatdoor", sum := "9482cdb4d291c6e9ddc9bcac8c0dca03e2c8b0d27d9dc2a8afd4f43b15a97c11", func := "sizar/sizarlaw21.StandingNames", spec := "standingNames", unfollowed := true, recurses := true, named := ["sizar/rules.kinds"], apart := false, laid := [("sizar/rules.kinds", laid_sizar_rules_kinds)] }
def StandingNamesSaid : Prop := standingNamesRow.holds Tryz.pinned (OpenSpec.ofChange standingNamesSpec)

/-- ITS FALSE NEIGHBOUR: 'it returns false'. Refute it at one input. -/
def standingNamesWrong : ChangeSpec := { name := "standingNames", fn := fun _ => fun
  | [d1, d2, d3, d4, d5] => { results := [.lit (.bool false)], args := [d1, d2, d3, d4, d5] }
  | _ => none }
def StandingNamesWrongFalsely : Prop := standingNamesRow.holds Tryz.pinned (OpenSpec.ofChange standingNamesWrong)

/- THE SECOND FORM. 'bulk': how many values and letters a reading holds, each counted each time it is reached (what is shared counts as often as it is met; a slice's spare places count too). A statement '..UptoSaid' is the law's where the arguments, and the package variables that the reading takes, are together of bulk at most 1048576: NARROWER than '..Said'. Prove '..Said' where nothing that the law and all that it calls make is longer than what came in: it says more and counts as full. Else prove '..UptoSaid'. A law counts once. -/
mutual
def uptoBulk {H : Type} : DataW H → Nat
  | .lit (.string bytes) => bytes.length + 1
  | .lit _ => 1
  | .nil => 1
  | .ptr d => uptoBulk d + 1
  | .slice elems spare => uptoBulkAll elems + uptoBulkAll spare + 1
  | .agg parts => uptoBulkAll parts + 1
  | .iface _ d => uptoBulk d + 1
  | .map entries => uptoBulkEntries entries + 1
  | .held _ => 1
def uptoBulkAll {H : Type} : List (DataW H) → Nat
  | [] => 0
  | d :: r => uptoBulk d + uptoBulkAll r
def uptoBulkEntries {H : Type} : List (Lit × DataW H) → Nat
  | [] => 0
  | x :: r => uptoBulkEntry x + uptoBulkEntries r
def uptoBulkEntry {H : Type} : Lit × DataW H → Nat
  | (.string bytes, d) => bytes.length + uptoBulk d + 1
  | (_, d) => uptoBulk d + 1
 end
def uptoSmall : (H : Type) → List (DataW H) → Bool := fun _ ds => decide (uptoBulkAll ds ≤ 1048576)
def OpenSpec.upto (s : _root_.Go.ChangeSpec) : _root_.Go.OpenSpec := { _root_.Go.OpenSpec.ofChange s with cond := some uptoSmall }

/-- 'sizarlaw21.StandingSpec', WHERE WHAT IT READS IS OF BULK AT MOST 1048576: true; the input reads as it did. -/
def standingSpecUptoRow : OpenClaim := { program := "ytdnmoppegncioaagreatdoor", sum := "9482cdb4d291c6e9ddc9bcac8c0dca03e2c8b0d27d9dc2a8afd4f43b15a97c11", func := "sizar/sizarlaw21.StandingSpec", spec := "standingSpec", unfollowed := true, recurses := true, named := ["sizar/rules.kinds"], apart := false, laid := [("sizar/rules.kinds", laid_sizar_rules_kinds)], narrowed := true }
def StandingSpecUptoSaid : Prop := standingSpecUptoRow.holds Tryz.pinned (OpenSpec.upto standingSpecSpec)

/-- 'sizarlaw21.StandingLast', WHERE WHAT IT READS IS OF BULK AT MOST 1048576: true; the input reads as it did. -/
def standingLastUptoRow : OpenClaim := { program := "ytdnmoppegncioaagreatdoor", sum := "9482cdb4d291c6e9ddc9bcac8c0dca03e2c8b0d27d9dc2a8afd4f43b15a97c11", func := "sizar/sizarlaw21.StandingLast", spec := "standingLast", unfollowed := true, recurses := true, named := ["sizar/rules.kinds"], apart := false, laid := [("sizar/rules.kinds", laid_sizar_rules_kinds)], narrowed := true }
def StandingLastUptoSaid : Prop := standingLastUptoRow.holds Tryz.pinned (OpenSpec.upto standingLastSpec)

/-- 'sizarlaw21.StandingMore', WHERE WHAT IT READS IS OF BULK AT MOST 1048576: true; the input reads as it did. -/
def standingMoreUptoRow : OpenClaim := { program := "ytdnmoppegncioaagreatdoor", sum := "9482cdb4d291c6e9ddc9bcac8c0dca03e2c8b0d27d9dc2a8afd4f43b15a97c11", func := "sizar/sizarlaw21.StandingMore", spec := "standingMore", unfollowed := true, recurses := true, named := ["sizar/rules.kinds"], apart := false, laid := [("sizar/rules.kinds", laid_sizar_rules_kinds)], narrowed := true }
def StandingMoreUptoSaid : Prop := standingMoreUptoRow.holds Tryz.pinned (OpenSpec.upto standingMoreSpec)

/-- 'sizarlaw21.StandingNames', WHERE WHAT IT READS IS OF BULK AT MOST 1048576: true; the input reads as it did. -/
def standingNamesUptoRow : OpenClaim := { program := "ytdnmoppegncioaagreatdoor", sum := "9482cdb4d291c6e9ddc9bcac8c0dca03e2c8b0d27d9dc2a8afd4f43b15a97c11", func := "sizar/sizarlaw21.StandingNames", spec := "standingNames", unfollowed := true, recurses := true, named := ["sizar/rules.kinds"], apart := false, laid := [("sizar/rules.kinds", laid_sizar_rules_kinds)], narrowed := true }
def StandingNamesUptoSaid : Prop := standingNamesUptoRow.holds Tryz.pinned (OpenSpec.upto standingNamesSpec)

end Rows
end Go.Proofs.YtdnmoppegncioaaGreatDoor
