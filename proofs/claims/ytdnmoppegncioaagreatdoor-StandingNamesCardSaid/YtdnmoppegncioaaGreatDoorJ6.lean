/- sizarref05: check, Compare, AtLeast. -/
import Derived.Test.YtdnmoppegncioaaGreatDoorJ5
namespace Go.Proofs.YtdnmoppegncioaaGreatDoor
open Go.RowKit Go.Proofs.YtdnmoppegncioaaGreatDoorW.PrintWords
set_option linter.unusedVariables false
set_option linter.unusedSimpArgs false

theorem rcheck2_calls (a b : S28) (ha : I64 a.f0) (hb : I64 b.f0) (W : World) : Calls Tryz.prog 61 #[.agg #[.int .i64 a.f0, .int .i64 a.f1], .agg #[.int .i64 b.f0, .int .i64 b.f1]] W fun e w' => e = .returned (.int .i64 (cmpE a b)) ∧ Below W.heap.size W w' := by
  have k1 := Aside0.mk (fun V => rcheck_calls a ha V)
  have k2 := Aside0.mk (fun V => rcheck_calls b hb V)
  have n0 := new_blk (W.alloc (.cells #[.int .i64 a.f0, .int .i64 a.f1] 28)) (.cells #[.int .i64 b.f0, .int .i64 b.f1] 28)
  rw [show (W.alloc (.cells #[.int .i64 a.f0, .int .i64 a.f1] 28)).heap.size = W.heap.size + 1 from by simp] at n0
  have HN := Aside0.mk n0; clear n0
  cases va : okR a with
  | false =>
    have r1 : cmpE a b = 50 := by simp [cmpE, va]
    rw [r1]
    simp only [errR, va, Bool.false_eq_true, if_false] at k1
    go_enter Tryz.func61, Tryz.ntmps61
    go_wp2_with fail
    refine (k1.out _).mono ?_
    rintro e w1 ⟨rfl, hb1⟩
    have HB1 := Aside0.mk hb1; clear hb1
    go_wp2
    go_ret
    exact ⟨rfl, below_al (below_al HB1.out)⟩
  | true =>
    have r1 : cmpE a b = errR b := by simp [cmpE, errR, va]
    rw [r1]
    simp only [errR, va, if_true] at k1
    generalize errR b = R at *
    go_enter Tryz.func61, Tryz.ntmps61
    go_wp2_with fail
    refine (k1.out _).mono ?_
    rintro e w1 ⟨rfl, hb1⟩
    have HB1 := Aside0.mk hb1
    have z0 := (blk_cell (blk_low hb1 HN.out) 0).trans rfl
    have z1 := (blk_cell (blk_low hb1 HN.out) 1).trans rfl
    clear hb1
    go_wp2_with fail
    refine (k2.out _).mono ?_
    rintro e w2 ⟨rfl, hb2⟩
    have HB2 := Aside0.mk (below_tr (below_al (below_al HB1.out)) hb2); clear hb2
    go_wp2
    go_ret
    exact ⟨rfl, HB2.out⟩
theorem rcmp_calls (a b : S28) (ha : I64 a.f0) (hb : I64 b.f0) (W : World) : Calls Tryz.prog 50 #[.agg #[.int .i64 a.f0, .int .i64 a.f1], .agg #[.int .i64 b.f0, .int .i64 b.f1]] W fun e w' => e = .returned (.tuple #[.int .i64 (cmpR a b), .int .i64 (cmpE a b)]) ∧ Below W.heap.size W w' := by
  have k1 := Aside0.mk (fun V => rcheck2_calls a b ha hb V)
  have n0 := new_blk (W.alloc (.cells #[.int .i64 a.f0, .int .i64 a.f1] 28)) (.cells #[.int .i64 b.f0, .int .i64 b.f1] 28)
  have m0 := new_blk W (.cells #[.int .i64 a.f0, .int .i64 a.f1] 28)
  have m0 := blk_low ((Below.refl _ _).alloc (Nat.le_refl _) (.cells #[.int .i64 b.f0, .int .i64 b.f1] 28)) m0
  rw [show (W.alloc (.cells #[.int .i64 a.f0, .int .i64 a.f1] 28)).heap.size = W.heap.size + 1 from by simp] at n0
  have HN := Aside0.mk (And.intro m0 n0); clear n0 m0
  cases va : (okR a && okR b) with
  | false =>
    have r1 : cmpE a b = 50 := by simp only [cmpE, va]; rfl
    have r2 : cmpR a b = 0 := by simp only [cmpR, va]; rfl
    rw [r1] at k1; rw [r1, r2]
    go_enter Tryz.func50, Tryz.ntmps50
    go_wp2_with fail
    refine (k1.out _).mono ?_
    rintro e w1 ⟨rfl, hb1⟩
    have HB1 := Aside0.mk hb1; clear hb1
    go_wp2
    exact bodyPost_ret (v := .tuple #[.int .i64 0, .int .i64 50]) (by simp [results, Tryz.f50, go_sem]) rfl ⟨rfl, below_al (below_al HB1.out)⟩
  | true =>
    have r1 : cmpE a b = 0 := by simp only [cmpE, va]; rfl
    have r2 : cmpR a b = fSign (a.f0 * b.f1) (b.f0 * a.f1) := by simp only [cmpR, va]; rfl
    rw [r1] at k1; rw [r1, r2]
    rw [Bool.and_eq_true] at va
    obtain ⟨ga, gb⟩ := va
    simp only [okR, fRatio, Bool.and_eq_true] at ga gb
    have p1 := prod_bound a.f0 b.f1 (of_decide_eq_true ga.1.1.2) (of_decide_eq_true ga.1.2) (of_decide_eq_true gb.1.1.1.1) (of_decide_eq_true gb.1.1.1.2)
    have p2 := prod_bound b.f0 a.f1 (of_decide_eq_true gb.1.1.2) (of_decide_eq_true gb.1.2) (of_decide_eq_true ga.1.1.1.1) (of_decide_eq_true ga.1.1.1.2)
    have q1 := wrap_i64 (a.f0 * b.f1) (by omega) (by omega)
    have q2 := wrap_i64 (b.f0 * a.f1) (by omega) (by omega)
    clear ga gb r1 r2
    generalize hX : a.f0 * b.f1 = X at *
    generalize hY : b.f0 * a.f1 = Y at *
    generalize hR : fSign X Y = R
    have HR := Aside0.mk hR; clear hR
    go_enter Tryz.func50, Tryz.ntmps50
    go_wp2_with fail
    refine (k1.out _).mono ?_
    rintro e w1 ⟨rfl, hb1⟩
    have HB1 := Aside0.mk hb1
    have y0 := (blk_cell (blk_low hb1 HN.out.1) 0).trans rfl
    have y1 := (blk_cell (blk_low hb1 HN.out.1) 1).trans rfl
    have z0 := (blk_cell (blk_low hb1 HN.out.2) 0).trans rfl
    have z1 := (blk_cell (blk_low hb1 HN.out.2) 1).trans rfl
    clear hb1
    go_wp2
    · have hv : R = -1 := by
        rw [← HR.out]; unfold fSign; rw [if_pos (by assumption)]
      exact bodyPost_ret (v := .tuple #[.int .i64 (-1), .int .i64 0]) (by simp [results, Tryz.f50, go_sem]) rfl ⟨by rw [hv], below_al (below_al HB1.out)⟩
    · have hv : R = 1 := by
        rw [← HR.out]; unfold fSign; rw [if_neg (by omega), if_pos (by assumption)]
      exact bodyPost_ret (v := .tuple #[.int .i64 (1), .int .i64 0]) (by simp [results, Tryz.f50, go_sem]) rfl ⟨by rw [hv], below_al (below_al HB1.out)⟩
    · have hv : R = 0 := by
        rw [← HR.out]; unfold fSign; rw [if_neg (by omega), if_neg (by omega)]
      exact bodyPost_ret (v := .tuple #[.int .i64 (0), .int .i64 0]) (by simp [results, Tryz.f50, go_sem]) rfl ⟨by rw [hv], below_al (below_al HB1.out)⟩
theorem atLeast_calls (a b : S28) (ha : I64 a.f0) (hb : I64 b.f0) (W : World) : Calls Tryz.prog 38 #[.agg #[.int .i64 a.f0, .int .i64 a.f1], .agg #[.int .i64 b.f0, .int .i64 b.f1]] W fun e w' => e = .returned (.bool (decide (cmpE a b = 0) && decide (0 ≤ cmpR a b))) ∧ Below W.heap.size W w' := by
  have k1 := Aside0.mk (fun V => rcmp_calls a b ha hb V)
  generalize cmpR a b = X at *
  generalize cmpE a b = Y at *
  by_cases hY : Y = 0
  · subst hY
    rw [decide_eq_true rfl, Bool.true_and]
    go_enter Tryz.func38, Tryz.ntmps38
    go_wp2_with fail
    refine (k1.out _).mono ?_
    rintro e w1 ⟨rfl, hb1⟩
    have HB1 := Aside0.mk hb1; clear hb1
    go_wp2
    go_ret
    exact ⟨rfl, below_al (below_al HB1.out)⟩
  · rw [decide_eq_false hY, Bool.false_and]
    have hd : (Y == 0) = false := by simpa using hY
    go_enter Tryz.func38, Tryz.ntmps38
    go_wp2_with fail
    refine (k1.out _).mono ?_
    rintro e w1 ⟨rfl, hb1⟩
    have HB1 := Aside0.mk hb1; clear hb1
    go_wp2
    go_ret
    exact ⟨rfl, below_al (below_al HB1.out)⟩
end Go.Proofs.YtdnmoppegncioaaGreatDoor
