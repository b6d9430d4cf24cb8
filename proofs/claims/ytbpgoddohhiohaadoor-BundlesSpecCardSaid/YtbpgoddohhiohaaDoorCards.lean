/-
  DERIVED. GIVEN WITH THE SEED: THE CARDS: each row of YtbpgoddohhiohaaDoorRows.lean that lists a variable, with what it lists TIED to the program's text (the seventh form; the later family's looks); each row that meets fmt, with fmt's text TOLD by the authors' own Lean function (tested against real Go, not proved from fmt's source: count such statements apart). THE CARD IS WHAT COUNTS. Prove the row's statement (the work); the ties are given (YtbpgoddohhiohaaDoorTie.lean); close each card by the builder's one call (the guide's Derived/Test/ToyasCard.lean, 'card_holds'). Laid BY PROGRAM, IN A SANDBOX (cutbox-door.mjs). By AI agents, Wed Nov 11 2026. No macro, syntax, notation, axiom, sorry.
-/
import Derived.Test.YtbpgoddohhiohaaDoorRows
import GoSem.ClaimSeven
namespace Go.Proofs.YtbpgoddohhiohaaDoor
namespace Rows

/-- THE TIED CARD OF 'sizarlaw24.BundlesSpec'. -/
def bundlesSpecCard : Claim7 := { stood := { row := bundlesSpecRow, standIns := [], harness := (true, "13a68574204d659a2539efbe6cd09cc3b916433f3e7b8775d7e47a6ecb9e3704"), looks := true }, kinds := [], alts := [], laidByText := true, laidKinds := [.handle], laidTests := true, laidLooks := .later }
def BundlesSpecCardSaid : Prop := Claim7.holds Tryd.pinned (.plain (OpenSpec.ofChange bundlesSpecSpec)) bundlesSpecCard

/-- THE TIED CARD OF 'sizarlaw24.BundlesClashSpec'. -/
def bundlesClashSpecCard : Claim7 := { stood := { row := bundlesClashSpecRow, standIns := [], harness := (true, "13a68574204d659a2539efbe6cd09cc3b916433f3e7b8775d7e47a6ecb9e3704"), looks := true }, kinds := [], alts := [], laidByText := true, laidKinds := [.handle], laidTests := true, laidLooks := .later }
def BundlesClashSpecCardSaid : Prop := Claim7.holds Tryd.pinned (.plain (OpenSpec.ofChange bundlesClashSpecSpec)) bundlesClashSpecCard

/-- THE TIED CARD OF 'sizarlaw24.BundlesOfSpec'. -/
def bundlesOfSpecCard : Claim7 := { stood := { row := bundlesOfSpecRow, standIns := [], harness := (true, "13a68574204d659a2539efbe6cd09cc3b916433f3e7b8775d7e47a6ecb9e3704"), looks := true }, kinds := [], alts := [], laidByText := true, laidKinds := [.handle], laidTests := true, laidLooks := .later }
def BundlesOfSpecCardSaid : Prop := Claim7.holds Tryd.pinned (.plain (OpenSpec.ofChange bundlesOfSpecSpec)) bundlesOfSpecCard

/-- THE TIED CARD OF 'sizarlaw24.BundlesAll'. -/
def bundlesAllCard : Claim7 := { stood := { row := bundlesAllRow, standIns := [], harness := (true, "13a68574204d659a2539efbe6cd09cc3b916433f3e7b8775d7e47a6ecb9e3704"), looks := true }, kinds := [], alts := [], laidByText := true, laidKinds := [.handle], laidTests := true, laidLooks := .later }
def BundlesAllCardSaid : Prop := Claim7.holds Tryd.pinned (.plain (OpenSpec.ofChange bundlesAllSpec)) bundlesAllCard

/-- THE TIED CARD OF 'sizarlaw24.BundlesApart'. -/
def bundlesApartCard : Claim7 := { stood := { row := bundlesApartRow, standIns := [], harness := (true, "13a68574204d659a2539efbe6cd09cc3b916433f3e7b8775d7e47a6ecb9e3704"), looks := true }, kinds := [], alts := [], laidByText := true, laidKinds := [.handle], laidTests := true, laidLooks := .later }
def BundlesApartCardSaid : Prop := Claim7.holds Tryd.pinned (.plain (OpenSpec.ofChange bundlesApartSpec)) bundlesApartCard

/-- THE TIED CARD OF 'sizarlaw24.BundlesBack'. -/
def bundlesBackCard : Claim7 := { stood := { row := bundlesBackRow, standIns := [], harness := (true, "13a68574204d659a2539efbe6cd09cc3b916433f3e7b8775d7e47a6ecb9e3704"), looks := true }, kinds := [], alts := [], laidByText := true, laidKinds := [.handle], laidTests := true, laidLooks := .later }
def BundlesBackCardSaid : Prop := Claim7.holds Tryd.pinned (.plain (OpenSpec.ofChange bundlesBackSpec)) bundlesBackCard

/-- THE TIED CARD OF 'sizarlaw24.BundlesOthers'. -/
def bundlesOthersCard : Claim7 := { stood := { row := bundlesOthersRow, standIns := [], harness := (true, "13a68574204d659a2539efbe6cd09cc3b916433f3e7b8775d7e47a6ecb9e3704"), looks := true }, kinds := [], alts := [], laidByText := true, laidKinds := [.handle], laidTests := true, laidLooks := .later }
def BundlesOthersCardSaid : Prop := Claim7.holds Tryd.pinned (.plain (OpenSpec.ofChange bundlesOthersSpec)) bundlesOthersCard

/-- THE SECOND FORM's CARD OF 'sizarlaw24.BundlesSpec'. -/
def bundlesSpecUptoCard : Claim7 := { stood := { row := bundlesSpecUptoRow, standIns := [], harness := (true, "13a68574204d659a2539efbe6cd09cc3b916433f3e7b8775d7e47a6ecb9e3704"), looks := true }, kinds := [], alts := [], laidByText := true, laidKinds := [.handle], laidTests := true, laidLooks := .later }
def BundlesSpecUptoCardSaid : Prop := Claim7.holds Tryd.pinned (.plain (OpenSpec.upto bundlesSpecSpec)) bundlesSpecUptoCard

/-- THE SECOND FORM's CARD OF 'sizarlaw24.BundlesClashSpec'. -/
def bundlesClashSpecUptoCard : Claim7 := { stood := { row := bundlesClashSpecUptoRow, standIns := [], harness := (true, "13a68574204d659a2539efbe6cd09cc3b916433f3e7b8775d7e47a6ecb9e3704"), looks := true }, kinds := [], alts := [], laidByText := true, laidKinds := [.handle], laidTests := true, laidLooks := .later }
def BundlesClashSpecUptoCardSaid : Prop := Claim7.holds Tryd.pinned (.plain (OpenSpec.upto bundlesClashSpecSpec)) bundlesClashSpecUptoCard

/-- THE SECOND FORM's CARD OF 'sizarlaw24.BundlesOfSpec'. -/
def bundlesOfSpecUptoCard : Claim7 := { stood := { row := bundlesOfSpecUptoRow, standIns := [], harness := (true, "13a68574204d659a2539efbe6cd09cc3b916433f3e7b8775d7e47a6ecb9e3704"), looks := true }, kinds := [], alts := [], laidByText := true, laidKinds := [.handle], laidTests := true, laidLooks := .later }
def BundlesOfSpecUptoCardSaid : Prop := Claim7.holds Tryd.pinned (.plain (OpenSpec.upto bundlesOfSpecSpec)) bundlesOfSpecUptoCard

/-- THE SECOND FORM's CARD OF 'sizarlaw24.BundlesAll'. -/
def bundlesAllUptoCard : Claim7 := { stood := { row := bundlesAllUptoRow, standIns := [], harness := (true, "13a68574204d659a2539efbe6cd09cc3b916433f3e7b8775d7e47a6ecb9e3704"), looks := true }, kinds := [], alts := [], laidByText := true, laidKinds := [.handle], laidTests := true, laidLooks := .later }
def BundlesAllUptoCardSaid : Prop := Claim7.holds Tryd.pinned (.plain (OpenSpec.upto bundlesAllSpec)) bundlesAllUptoCard

/-- THE SECOND FORM's CARD OF 'sizarlaw24.BundlesApart'. -/
def bundlesApartUptoCard : Claim7 := { stood := { row := bundlesApartUptoRow, standIns := [], harness := (true, "13a68574204d659a2539efbe6cd09cc3b916433f3e7b8775d7e47a6ecb9e3704"), looks := true }, kinds := [], alts := [], laidByText := true, laidKinds := [.handle], laidTests := true, laidLooks := .later }
def BundlesApartUptoCardSaid : Prop := Claim7.holds Tryd.pinned (.plain (OpenSpec.upto bundlesApartSpec)) bundlesApartUptoCard

/-- THE SECOND FORM's CARD OF 'sizarlaw24.BundlesBack'. -/
def bundlesBackUptoCard : Claim7 := { stood := { row := bundlesBackUptoRow, standIns := [], harness := (true, "13a68574204d659a2539efbe6cd09cc3b916433f3e7b8775d7e47a6ecb9e3704"), looks := true }, kinds := [], alts := [], laidByText := true, laidKinds := [.handle], laidTests := true, laidLooks := .later }
def BundlesBackUptoCardSaid : Prop := Claim7.holds Tryd.pinned (.plain (OpenSpec.upto bundlesBackSpec)) bundlesBackUptoCard

/-- THE SECOND FORM's CARD OF 'sizarlaw24.BundlesOthers'. -/
def bundlesOthersUptoCard : Claim7 := { stood := { row := bundlesOthersUptoRow, standIns := [], harness := (true, "13a68574204d659a2539efbe6cd09cc3b916433f3e7b8775d7e47a6ecb9e3704"), looks := true }, kinds := [], alts := [], laidByText := true, laidKinds := [.handle], laidTests := true, laidLooks := .later }
def BundlesOthersUptoCardSaid : Prop := Claim7.holds Tryd.pinned (.plain (OpenSpec.upto bundlesOthersSpec)) bundlesOthersUptoCard
end Rows
end Go.Proofs.YtbpgoddohhiohaaDoor
