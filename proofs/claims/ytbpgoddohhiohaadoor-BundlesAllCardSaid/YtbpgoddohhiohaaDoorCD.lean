/- The cards. -/
import Derived.Test.YtbpgoddohhiohaaDoorRW
import Derived.Test.YtbpgoddohhiohaaDoorTie
import Derived.Test.YtbpgoddohhiohaaDoorCards
import Derived.SevenTiedAt
namespace Go.Proofs.YtbpgoddohhiohaaDoor
open Go
set_option linter.unusedVariables false

theorem all_card : Rows.BundlesAllCardSaid :=
  Claim7.holds_tied_plain_at .later [] [.handle] true (true, "13a68574204d659a2539efbe6cd09cc3b916433f3e7b8775d7e47a6ecb9e3704") true
    all_holds (fun _ h => by cases h) (by kernel_rfl) (fun _ h => by cases h) bundlesAll_row_tie rfl ⟨rfl, rfl⟩ (by kernel_rfl) rfl
    (fun f fn hf hfn => by
      obtain rfl : f = 6 := Option.some.inj ((show Tryd.prog.funcNamed "sizar/sizarlaw24.BundlesAll" = some 6 by kernel_rfl).symm.trans hf) |>.symm
      obtain rfl : fn = Tryd.f6 := (Option.some.inj (Tryd.func6.symm.trans hfn)).symm
      exact ⟨by kernel_rfl, fun j t ht => by
        rw [Tryd.params6] at ht
        have h3 : t = 22 ∨ t = 24 := by
          rcases j with _ | _ | j
          · left; simpa using ht.symm
          · right; simpa using ht.symm
          · simp at ht
        rcases h3 with rfl | rfl
        · exact (show Tryd.prog.wantsStandIn 22 = false by kernel_rfl)
        · exact (show Tryd.prog.wantsStandIn 24 = false by kernel_rfl)⟩)
    (by kernel_rfl)
#print axioms all_card
end Go.Proofs.YtbpgoddohhiohaaDoor
