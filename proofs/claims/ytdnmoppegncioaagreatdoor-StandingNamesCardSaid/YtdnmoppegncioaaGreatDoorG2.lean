/- Plain: the reference's condition of a standing is the program's, where the system and the average are valid. -/
import Derived.Test.YtdnmoppegncioaaGreatDoorJZ
namespace Go.Proofs.YtdnmoppegncioaaGreatDoor
set_option linter.unusedVariables false
theorem fSign_turn (x y : Int) : decide (0 ≤ fSign x y) = decide (fSign y x ≤ 0) := by
  apply decide_eq_decide.2
  unfold fSign
  by_cases h : x < y
  · rw [if_pos h, if_neg (by omega), if_pos h]; omega
  · rw [if_neg h]
    by_cases h2 : y < x
    · rw [if_pos h2, if_pos h2]; omega
    · rw [if_neg h2, if_neg h2, if_neg h]
theorem rP_holds {mean : S28} {c : S42} (earned : Int) (h1 : okR mean = true) (h2 : okR c.f2 = true) : rP earned mean c = holdsC earned mean c := by
  unfold rP holdsC cmpE cmpR
  rw [h1, h2, Bool.true_and, if_pos rfl, if_pos rfl, if_pos rfl, decide_eq_true rfl, Bool.true_and, fSign_turn, Bool.and_comm]
theorem badC_ok {c : S42} (h : badC c = false) : okR c.f2 = true := by
  unfold badC at h
  cases h2 : okR c.f2 with
  | true => rfl
  | false => rw [h2] at h; simp at h
theorem rN_ofN (s : S26) (l : List S42) (hl : l = s.f0 ∨ l = s.f2) (earned : Int) (mean : S28) : rN s l earned mean = ofN s l earned mean := by
  unfold rN ofN
  cases h : (okS s && amt earned && okR mean) with
  | false => rfl
  | true =>
    simp only [Bool.and_eq_true] at h
    have hb : l.any badC = false := by
      have h0 := h.1.1
      simp only [okS, Bool.and_eq_true, Bool.not_eq_true'] at h0
      rcases hl with rfl | rfl
      · exact h0.1
      · exact h0.2.1
    rw [if_pos rfl, if_pos rfl, fLast_congr _ _ l (fun x hx => rP_holds earned h.2 (badC_ok (by
      cases hbx : badC x with
      | false => rfl
      | true => rw [List.any_eq_true.2 ⟨x, hx, hbx⟩] at hb; cases hb)))]
end Go.Proofs.YtdnmoppegncioaaGreatDoor
