/- The values of what the functions compute, at the law's example. -/
import Derived.Test.YtbpgoddohhiohaaDoorSM
import Derived.Test.YtbpgoddohhiohaaDoorBK
namespace Go.Proofs.YtbpgoddohhiohaaDoor
open Go.RowKit Go.Proofs.YtbpgoddohhiohaaDoorW.PrintWords
set_option linter.unusedVariables false
set_option linter.unusedSimpArgs false
theorem sv0 : bClash someL 1 3 4 (-1) = (true, 0) := by kernel_rfl
theorem sv1 : bMeet someL 1 3 = ([atM 0, atM 1], 0) := by kernel_rfl
theorem sv2 : oUpto someL [⟨3, 3, -1⟩, ⟨3, 1, -1⟩, ⟨4, 4, -1⟩] 3 3 4 = [⟨1, 3⟩] := by kernel_rfl
theorem sort1 (b : S24) : sortB [b] = [b] := by
  unfold sortB Sort.insertionSort
  rw [Sort.insOuter, if_neg (by simp)]
theorem sort0 : sortB [] = [] := List.eq_nil_of_length_eq_zero (sortB_len [])
theorem sv2' : bOf someL [⟨3, 3, -1⟩, ⟨3, 1, -1⟩, ⟨4, 4, -1⟩] 3 3 = [⟨1, 3⟩] := by
  unfold bOf
  rw [show someL.length = 4 from rfl, sv2, sort1]
theorem sv3 : bCheck [] 0 (-1) = 240 := by kernel_rfl
theorem sv4 : bAll [] 0 = [] := by kernel_rfl
theorem sv5 : bOf [] [] 3 5 = [] := by
  unfold bOf oUpto
  exact sort0
theorem sv6 : bAll someL 1 = [⟨1, 3⟩] := by kernel_rfl
theorem sv7 : bAll someL 4 = [⟨4, -1⟩] := by kernel_rfl
theorem sv8 : bAll someL 2 = [] := by kernel_rfl
theorem sv9 : bCheck someL 1 (-1) = 240 := by kernel_rfl
theorem sv10 : bCheck someL 1 3 = 0 := by kernel_rfl
end Go.Proofs.YtbpgoddohhiohaaDoor
