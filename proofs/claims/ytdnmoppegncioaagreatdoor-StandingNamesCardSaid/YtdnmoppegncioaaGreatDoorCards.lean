/-
  DERIVED. GIVEN WITH THE SEED: THE CARDS: each row of YtdnmoppegncioaaGreatDoorRows.lean that lists a variable, with what it lists TIED to the program's text (the seventh form; the later family's looks); each row that meets fmt, with fmt's text TOLD by the authors' own Lean function (tested against real Go, not proved from fmt's source: count such statements apart). THE CARD IS WHAT COUNTS. Prove the row's statement (the work); the ties are given (YtdnmoppegncioaaGreatDoorTie.lean); close each card by the builder's one call (the guide's Derived/Test/ToyasCard.lean, 'card_holds'). Laid BY PROGRAM, IN A SANDBOX (cutbox-door.mjs). By AI agents, Wed Nov 11 2026. No macro, syntax, notation, axiom, sorry.
-/
import Derived.Test.YtdnmoppegncioaaGreatDoorRows
import GoSem.ClaimSeven
namespace Go.Proofs.YtdnmoppegncioaaGreatDoor
namespace Rows

/-- THE TIED CARD OF 'sizarlaw21.StandingSpec'. -/
def standingSpecCard : Claim7 := { stood := { row := standingSpecRow, standIns := [], harness := (true, "82300a43750bf73944aa30b1a841f4eff4e980a9186ac696309a8919813d05da"), looks := false }, kinds := [], alts := [], laidByText := true, laidKinds := [.funcs], laidTests := true, laidLooks := .later }
def StandingSpecCardSaid : Prop := Claim7.holds Tryz.pinned (.plain (OpenSpec.ofChange standingSpecSpec)) standingSpecCard

/-- THE TIED CARD OF 'sizarlaw21.StandingLast'. -/
def standingLastCard : Claim7 := { stood := { row := standingLastRow, standIns := [], harness := (true, "82300a43750bf73944aa30b1a841f4eff4e980a9186ac696309a8919813d05da"), looks := false }, kinds := [], alts := [], laidByText := true, laidKinds := [.funcs], laidTests := true, laidLooks := .later }
def StandingLastCardSaid : Prop := Claim7.holds Tryz.pinned (.plain (OpenSpec.ofChange standingLastSpec)) standingLastCard

/-- THE TIED CARD OF 'sizarlaw21.StandingMore'. -/
def standingMoreCard : Claim7 := { stood := { row := standingMoreRow, standIns := [], harness := (true, "82300a43750bf73944aa30b1a841f4eff4e980a9186ac696309a8919813d05da"), looks := false }, kinds := [], alts := [], laidByText := true, laidKinds := [.funcs], laidTests := true, laidLooks := .later }
def StandingMoreCardSaid : Prop := Claim7.holds Tryz.pinned (.plain (OpenSpec.ofChange standingMoreSpec)) standingMoreCard

/-- THE TIED CARD OF 'sizarlaw21.StandingNames'. -/
def standingNamesCard : Claim7 := { stood := { row := standingNamesRow, standIns := [], harness := (true, "82300a43750bf73944aa30b1a841f4eff4e980a9186ac696309a8919813d05da"), looks := false }, kinds := [], alts := [], laidByText := true, laidKinds := [.funcs], laidTests := true, laidLooks := .later }
def StandingNamesCardSaid : Prop := Claim7.holds Tryz.pinned (.plain (OpenSpec.ofChange standingNamesSpec)) standingNamesCard

/-- THE SECOND FORM's CARD OF 'sizarlaw21.StandingSpec'. -/
def standingSpecUptoCard : Claim7 := { stood := { row := standingSpecUptoRow, standIns := [], harness := (true, "82300a43750bf73944aa30b1a841f4eff4e980a9186ac696309a8919813d05da"), looks := false }, kinds := [], alts := [], laidByText := true, laidKinds := [.funcs], laidTests := true, laidLooks := .later }
def StandingSpecUptoCardSaid : Prop := Claim7.holds Tryz.pinned (.plain (OpenSpec.upto standingSpecSpec)) standingSpecUptoCard

/-- THE SECOND FORM's CARD OF 'sizarlaw21.StandingLast'. -/
def standingLastUptoCard : Claim7 := { stood := { row := standingLastUptoRow, standIns := [], harness := (true, "82300a43750bf73944aa30b1a841f4eff4e980a9186ac696309a8919813d05da"), looks := false }, kinds := [], alts := [], laidByText := true, laidKinds := [.funcs], laidTests := true, laidLooks := .later }
def StandingLastUptoCardSaid : Prop := Claim7.holds Tryz.pinned (.plain (OpenSpec.upto standingLastSpec)) standingLastUptoCard

/-- THE SECOND FORM's CARD OF 'sizarlaw21.StandingMore'. -/
def standingMoreUptoCard : Claim7 := { stood := { row := standingMoreUptoRow, standIns := [], harness := (true, "82300a43750bf73944aa30b1a841f4eff4e980a9186ac696309a8919813d05da"), looks := false }, kinds := [], alts := [], laidByText := true, laidKinds := [.funcs], laidTests := true, laidLooks := .later }
def StandingMoreUptoCardSaid : Prop := Claim7.holds Tryz.pinned (.plain (OpenSpec.upto standingMoreSpec)) standingMoreUptoCard

/-- THE SECOND FORM's CARD OF 'sizarlaw21.StandingNames'. -/
def standingNamesUptoCard : Claim7 := { stood := { row := standingNamesUptoRow, standIns := [], harness := (true, "82300a43750bf73944aa30b1a841f4eff4e980a9186ac696309a8919813d05da"), looks := false }, kinds := [], alts := [], laidByText := true, laidKinds := [.funcs], laidTests := true, laidLooks := .later }
def StandingNamesUptoCardSaid : Prop := Claim7.holds Tryz.pinned (.plain (OpenSpec.upto standingNamesSpec)) standingNamesUptoCard
end Rows
end Go.Proofs.YtdnmoppegncioaaGreatDoor
