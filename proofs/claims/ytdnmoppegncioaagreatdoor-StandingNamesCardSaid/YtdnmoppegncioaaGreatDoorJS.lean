/- standing.amount, Check. -/
import Derived.Test.YtdnmoppegncioaaGreatDoorJL
namespace Go.Proofs.YtdnmoppegncioaaGreatDoor
open Go.RowKit Go.Proofs.YtdnmoppegncioaaGreatDoorW.PrintWords
set_option linter.unusedVariables false
set_option linter.unusedSimpArgs false

def I64 (n : Int) : Prop := -9223372036854775808 ≤ n ∧ n ≤ 9223372036854775807
def amt (n : Int) : Bool := decide (0 ≤ n) && decide (n ≤ 10000)
def badC (c : S42) : Bool := !amt c.f1 || (!okR c.f2 || (decide (c.f2.f0 < 0) || decide (12 * c.f2.f1 < c.f2.f0)))
def badF (f : S38) : Bool := !amt f.f1
theorem amount_calls (n : Int) (W : World) : Calls Tryz.prog 23 #[.int .i64 n] W fun e w' => e = .returned (.bool (amt n)) ∧ w' = W := by
  by_cases h1 : 0 ≤ n
  · have hs : amt n = decide (n ≤ 10000) := by simp [amt, h1]
    rw [hs]
    go_enter Tryz.func23, Tryz.ntmps23
    go_wp2
    go_ret
    exact ⟨rfl, rfl⟩
  · have hs : amt n = false := by simp [amt, h1]
    rw [hs]
    have hd : decide (0 ≤ n) = false := decide_eq_false h1
    go_enter Tryz.func23, Tryz.ntmps23
    go_wp2
    go_ret
    exact ⟨by simp [hd], rfl⟩
theorem okR_den {r : S28} (h : okR r = true) : 1 ≤ r.f1 ∧ r.f1 ≤ 1073741824 := by
  simp only [okR, fRatio, fMost, Bool.and_eq_true] at h
  exact ⟨of_decide_eq_true h.1.1.1.1, of_decide_eq_true h.1.1.1.2⟩
theorem wrong_calls (x : S42) (hr : I64 x.f2.f0) (W : World) : Calls Tryz.prog 26 #[.agg #[.string x.f0, .int .i64 x.f1, .int .i64 x.f2.f0, .int .i64 x.f2.f1]] W fun e w' => e = .returned (.bool (badC x)) ∧ Below W.heap.size W w' := by
  have hc := fun V => check_calls x.f2 hr V
  have ham := fun V => amount_calls x.f1 V
  cases v1 : amt x.f1 with
  | false =>
    have hs : badC x = true := by simp [badC, v1]
    rw [hs]; rw [v1] at ham
    have HAM := Aside0.mk ham; clear ham hc
    go_enter Tryz.func26, Tryz.ntmps26
    go_wp2_with (go_at_call 23; refine (HAM.out _).mono ?_; rintro e w1 ⟨rfl, rfl⟩)
    go_ret
    exact ⟨rfl, (Below.refl _ _).alloc (Nat.le_refl _) _⟩
  | true =>
    rw [v1] at ham
    have HAM := Aside0.mk ham; clear ham
    cases v2 : okR x.f2 with
    | false =>
      have hs : badC x = true := by simp [badC, v2]
      rw [hs]
      simp only [errR, v2, Bool.false_eq_true, if_false] at hc
      have HC := Aside0.mk hc; clear hc
      go_enter Tryz.func26, Tryz.ntmps26
      go_wp2_with (first | (go_at_call 23; refine (HAM.out _).mono ?_; rintro e w1 ⟨rfl, rfl⟩) | (go_at_call 17; refine (HC.out _).mono ?_; rintro e w1 ⟨rfl, hb1⟩))
      go_ret
      exact ⟨rfl, below_al hb1⟩
    | true =>
      simp only [errR, v2, if_true] at hc
      have hden := okR_den v2
      have hw := wrap_i64 (12 * x.f2.f1) (by omega) (by omega)
      have HC := Aside0.mk hc; clear hc
      have hs : badC x = (decide (x.f2.f0 < 0) || decide (12 * x.f2.f1 < x.f2.f0)) := by simp [badC, v1, v2]
      rw [hs]
      by_cases h3 : x.f2.f0 < 0
      · rw [decide_eq_true h3, Bool.true_or]
        go_enter Tryz.func26, Tryz.ntmps26
        have hcl := fun (w1 : World) (hb : Below (W.alloc (.cells #[.string x.f0, .int .i64 x.f1, .int .i64 x.f2.f0, .int .i64 x.f2.f1] 42)).heap.size (W.alloc (.cells #[.string x.f0, .int .i64 x.f1, .int .i64 x.f2.f0, .int .i64 x.f2.f1] 42)) w1) => And.intro (cell_low hb (blk_cell (new_blk W (.cells #[.string x.f0, .int .i64 x.f1, .int .i64 x.f2.f0, .int .i64 x.f2.f1] 42)) 2)) (cell_low hb (blk_cell (new_blk W (.cells #[.string x.f0, .int .i64 x.f1, .int .i64 x.f2.f0, .int .i64 x.f2.f1] 42)) 3))
        have HL := Aside0.mk hcl; clear hcl
        go_wp2_with (first | (go_at_call 23; refine (HAM.out _).mono ?_; rintro e w1 ⟨rfl, rfl⟩) | (go_at_call 17; refine (HC.out _).mono ?_; rintro e w1 ⟨rfl, hb1⟩; have hl := HL.out w1 hb1; have hl2 := hl.1; have hl3 := hl.2; clear hl))
        go_ret
        exact ⟨rfl, below_al hb1⟩
      · rw [decide_eq_false h3, Bool.false_or]
        have hd3 : decide (x.f2.f0 < 0) = false := decide_eq_false h3
        go_enter Tryz.func26, Tryz.ntmps26
        have hcl := fun (w1 : World) (hb : Below (W.alloc (.cells #[.string x.f0, .int .i64 x.f1, .int .i64 x.f2.f0, .int .i64 x.f2.f1] 42)).heap.size (W.alloc (.cells #[.string x.f0, .int .i64 x.f1, .int .i64 x.f2.f0, .int .i64 x.f2.f1] 42)) w1) => And.intro (cell_low hb (blk_cell (new_blk W (.cells #[.string x.f0, .int .i64 x.f1, .int .i64 x.f2.f0, .int .i64 x.f2.f1] 42)) 2)) (cell_low hb (blk_cell (new_blk W (.cells #[.string x.f0, .int .i64 x.f1, .int .i64 x.f2.f0, .int .i64 x.f2.f1] 42)) 3))
        have HL := Aside0.mk hcl; clear hcl
        go_wp2_with (first | (go_at_call 23; refine (HAM.out _).mono ?_; rintro e w1 ⟨rfl, rfl⟩) | (go_at_call 17; refine (HC.out _).mono ?_; rintro e w1 ⟨rfl, hb1⟩; have hl := HL.out w1 hb1; have hl2 := hl.1; have hl3 := hl.2; clear hl))
        go_ret
        exact ⟨rfl, below_al hb1⟩
theorem wrongF_calls (x : S38) (W : World) : Calls Tryz.prog 28 #[.agg #[.string x.f0, .int .i64 x.f1]] W fun e w' => e = .returned (.bool (badF x)) ∧ Below W.heap.size W w' := by
  have ham := fun V => amount_calls x.f1 V
  unfold badF
  generalize amt x.f1 = v1 at *
  have HAM := Aside0.mk ham; clear ham
  go_enter Tryz.func28, Tryz.ntmps28
  go_wp2_with (go_at_call 23; refine (HAM.out _).mono ?_; rintro e w1 ⟨rfl, rfl⟩)
  go_ret
  exact ⟨rfl, (Below.refl _ _).alloc (Nat.le_refl _) _⟩
end Go.Proofs.YtdnmoppegncioaaGreatDoor
