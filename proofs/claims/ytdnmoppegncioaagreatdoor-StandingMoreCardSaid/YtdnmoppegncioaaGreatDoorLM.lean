/- sizarlaw21.StandingMore: it is true. (Printed by gen_lm.py.) -/
import Derived.Test.YtdnmoppegncioaaGreatDoorSA
import Derived.Test.YtdnmoppegncioaaGreatDoorG3
import Derived.Test.YtdnmoppegncioaaGreatDoorJ7
namespace Go.Proofs.YtdnmoppegncioaaGreatDoor
open Go.RowKit Go.Proofs.YtdnmoppegncioaaGreatDoorW.PrintWords
set_option linter.unusedVariables false
set_option linter.unusedSimpArgs false
set_option maxRecDepth 100000 in
set_option maxHeartbeats 32000000 in
theorem more_calls (s : S26) (A0 : Option Addr) (c0 : Nat) (A1 : Option Addr) (c1 : Nat) (A2 : Option Addr) (c2 : Nat) (A3 : Option Addr) (c3 : Nat) (earned more : Int) (mean other : S28) (w : World) (hs : SysAt w s A0 A1 A2) (hl : s.f0.length + s.f1.length + s.f2.length + s.f3.length ≤ 9223372036854775807) (hm : I64 mean.f0) (ho : I64 other.f0) :
    Calls Tryz.prog 5 #[.agg #[.slice A0 s.f0.length c0, .slice A1 s.f1.length c1, .slice A2 s.f2.length c2, .slice A3 s.f3.length c3], .int .i64 earned, .int .i64 more, .agg #[.int .i64 mean.f0, .int .i64 mean.f1], .agg #[.int .i64 other.f0, .int .i64 other.f1]] w fun e w' => e = .returned (.bool true) ∧ Below w.heap.size w w' := by
  have HS := Aside0.mk hs; clear hs
  obtain ⟨W1, h1⟩ : ∃ W1, W1 = w.alloc (.cells #[.slice A0 s.f0.length c0, .slice A1 s.f1.length c1, .slice A2 s.f2.length c2, .slice A3 s.f3.length c3] 26) := ⟨_, rfl⟩
  obtain ⟨W2, h2⟩ : ∃ W2, W2 = W1.alloc (.cells #[.int .i64 mean.f0, .int .i64 mean.f1] 28) := ⟨_, rfl⟩
  obtain ⟨W3, h3⟩ : ∃ W3, W3 = W2.alloc (.cells #[.int .i64 other.f0, .int .i64 other.f1] 28) := ⟨_, rfl⟩
  have p1 := nb (W := w) rfl (.cells #[.slice A0 s.f0.length c0, .slice A1 s.f1.length c1, .slice A2 s.f2.length c2, .slice A3 s.f3.length c3] 26); rw [← h1] at p1
  have p2 := nb p1.2 (.cells #[.int .i64 mean.f0, .int .i64 mean.f1] 28); rw [← h2] at p2
  have p3 := nb p2.2 (.cells #[.int .i64 other.f0, .int .i64 other.f1] 28); rw [← h3] at p3
  have HQ0 := Aside0.mk (show W3.heap[w.heap.size]? = some (.cells #[.slice A0 s.f0.length c0, .slice A1 s.f1.length c1, .slice A2 s.f2.length c2, .slice A3 s.f3.length c3] 26 (0, 0)) by rw [h3, h2]; exact blk_alloc (blk_alloc (p1.1) _) _)
  have HQ1 := Aside0.mk (show W3.heap[w.heap.size + 1]? = some (.cells #[.int .i64 mean.f0, .int .i64 mean.f1] 28 (0, 0)) by rw [h3]; exact blk_alloc (p2.1) _)
  have HQ2 := Aside0.mk (show W3.heap[w.heap.size + 1 + 1]? = some (.cells #[.int .i64 other.f0, .int .i64 other.f1] 28 (0, 0)) by exact p3.1)
  have HB0 := Aside0.mk (show Below w.heap.size w W3 by rw [h3, h2, h1]; exact ((((Below.refl _ w).alloc (Nat.le_refl _) _).alloc (by simp) _).alloc (by simp; omega) _))
  clear p1 p2 p3
  go_enter Tryz.func5, Tryz.ntmps5
  go_wp2_with fail
  (try rw [← h1])
  (try rw [← h2])
  (try rw [← h3])
  clear h1 h2 h3 W1 W2
  refine (sane_calls _).mono ?_
  rintro e z1 ⟨rfl, hb⟩
  have HB := Aside0.mk hb
  clear hb
  have hq := blk_low HB.out HQ0.out
  have q0_0 := (blk_cell hq 0).trans rfl; have q0_1 := (blk_cell hq 1).trans rfl; have q0_2 := (blk_cell hq 2).trans rfl; have q0_3 := (blk_cell hq 3).trans rfl
  clear hq
  go_wp2_with fail
  have hfew := few_calls s.f0.length s.f1.length s.f2.length s.f3.length A0 c0 A1 c1 A2 c2 A3 c3 hl z1
  cases hf : decide (s.f0.length + s.f1.length + s.f2.length + s.f3.length ≤ 40) with
  | false =>
    rw [hf] at hfew
    refine hfew.mono ?_
    rintro e z2 ⟨rfl, hb⟩
    have HB := Aside0.mk (below_tr HB.out hb); clear hb q0_0 q0_1 q0_2 q0_3 hfew
    go_wp2
    go_ret
    exact ⟨rfl, below_tr HB0.out HB.out⟩
  | true =>
    rw [hf] at hfew
    refine (hfew).mono ?_
    rintro e z2 ⟨rfl, hb⟩
    clear q0_0 q0_1 q0_2 q0_3
    have HB := Aside0.mk (below_tr HB.out hb)
    clear hb
    clear hfew
    have hq := blk_low HB.out HQ1.out
    have q1_0 := (blk_cell hq 0).trans rfl; have q1_1 := (blk_cell hq 1).trans rfl
    clear hq
    have hq := blk_low HB.out HQ2.out
    have q2_0 := (blk_cell hq 0).trans rfl; have q2_1 := (blk_cell hq 1).trans rfl
    clear hq
    go_wp2_with fail
    have hcm := cmp_calls mean other hm ho z2
    by_cases h1 : cmpE mean other = 0
    · by_cases h2 : cmpR mean other ≤ 0
      · by_cases h3 : earned ≤ more
        · rw [h1] at hcm
          have d2 : decide (0 < cmpR mean other) = false := decide_eq_false (by omega)
          have d3 : decide (more < earned) = false := decide_eq_false (by omega)
          have HM := Aside0.mk h2; have HE := Aside0.mk h3; have HZ := Aside0.mk (cmpE_zero.1 h1); clear h1 h2 h3
          refine (hcm).mono ?_
          rintro e z3 ⟨rfl, hb⟩
          clear q1_0 q1_1 q2_0 q2_1
          have HB := Aside0.mk (below_tr HB.out hb)
          clear hb
          clear hcm
          have hq := blk_low HB.out HQ0.out
          have q0_0 := (blk_cell hq 0).trans rfl; have q0_1 := (blk_cell hq 1).trans rfl; have q0_2 := (blk_cell hq 2).trans rfl; have q0_3 := (blk_cell hq 3).trans rfl
          clear hq
          have hq := blk_low HB.out HQ1.out
          have q1_0 := (blk_cell hq 0).trans rfl; have q1_1 := (blk_cell hq 1).trans rfl
          clear hq
          have hq := blk_low HB.out HQ2.out
          have q2_0 := (blk_cell hq 0).trans rfl; have q2_1 := (blk_cell hq 1).trans rfl
          clear hq
          go_wp2_with fail
          clear d2 d3
          refine (class_calls s A0 c0 A1 c1 A2 c2 (.slice A3 s.f3.length c3) earned mean _ (HS.out.below (below_tr HB0.out HB.out)) hm).mono ?_
          rintro e z4 ⟨rfl, hb⟩
          clear q0_0 q0_1 q0_2 q0_3 q1_0 q1_1 q2_0 q2_1
          have HB := Aside0.mk (below_tr HB.out hb)
          clear hb
          have hq := blk_low HB.out HQ0.out
          have q0_0 := (blk_cell hq 0).trans rfl; have q0_1 := (blk_cell hq 1).trans rfl; have q0_2 := (blk_cell hq 2).trans rfl; have q0_3 := (blk_cell hq 3).trans rfl
          clear hq
          have hq := blk_low HB.out HQ1.out
          have q1_0 := (blk_cell hq 0).trans rfl; have q1_1 := (blk_cell hq 1).trans rfl
          clear hq
          have hq := blk_low HB.out HQ2.out
          have q2_0 := (blk_cell hq 0).trans rfl; have q2_1 := (blk_cell hq 1).trans rfl
          clear hq
          go_wp2_with fail
          refine (class_calls s A0 c0 A1 c1 A2 c2 (.slice A3 s.f3.length c3) more other _ (HS.out.below (below_tr HB0.out HB.out)) ho).mono ?_
          rintro e z5 ⟨rfl, hb⟩
          clear q0_0 q0_1 q0_2 q0_3 q1_0 q1_1 q2_0 q2_1
          have HB := Aside0.mk (below_tr HB.out hb)
          clear hb
          have hq := blk_low HB.out HQ0.out
          have q0_0 := (blk_cell hq 0).trans rfl; have q0_1 := (blk_cell hq 1).trans rfl; have q0_2 := (blk_cell hq 2).trans rfl; have q0_3 := (blk_cell hq 3).trans rfl
          clear hq
          have hq := blk_low HB.out HQ1.out
          have q1_0 := (blk_cell hq 0).trans rfl; have q1_1 := (blk_cell hq 1).trans rfl
          clear hq
          have hq := blk_low HB.out HQ2.out
          have q2_0 := (blk_cell hq 0).trans rfl; have q2_1 := (blk_cell hq 1).trans rfl
          clear hq
          go_wp2_with fail
          refine (honour_calls s A0 c0 A1 c1 A2 c2 (.slice A3 s.f3.length c3) earned mean _ (HS.out.below (below_tr HB0.out HB.out)) hm).mono ?_
          rintro e z6 ⟨rfl, hb⟩
          clear q0_0 q0_1 q0_2 q0_3 q1_0 q1_1 q2_0 q2_1
          have HB := Aside0.mk (below_tr HB.out hb)
          clear hb
          have hq := blk_low HB.out HQ0.out
          have q0_0 := (blk_cell hq 0).trans rfl; have q0_1 := (blk_cell hq 1).trans rfl; have q0_2 := (blk_cell hq 2).trans rfl; have q0_3 := (blk_cell hq 3).trans rfl
          clear hq
          have hq := blk_low HB.out HQ1.out
          have q1_0 := (blk_cell hq 0).trans rfl; have q1_1 := (blk_cell hq 1).trans rfl
          clear hq
          have hq := blk_low HB.out HQ2.out
          have q2_0 := (blk_cell hq 0).trans rfl; have q2_1 := (blk_cell hq 1).trans rfl
          clear hq
          go_wp2_with fail
          refine (honour_calls s A0 c0 A1 c1 A2 c2 (.slice A3 s.f3.length c3) more other _ (HS.out.below (below_tr HB0.out HB.out)) ho).mono ?_
          rintro e z7 ⟨rfl, hb⟩
          clear q0_0 q0_1 q0_2 q0_3 q1_0 q1_1 q2_0 q2_1
          have HB := Aside0.mk (below_tr HB.out hb)
          clear hb
          have hq := blk_low HB.out HQ0.out
          have q0_0 := (blk_cell hq 0).trans rfl; have q0_1 := (blk_cell hq 1).trans rfl; have q0_2 := (blk_cell hq 2).trans rfl; have q0_3 := (blk_cell hq 3).trans rfl
          clear hq
          have hq := blk_low HB.out HQ1.out
          have q1_0 := (blk_cell hq 0).trans rfl; have q1_1 := (blk_cell hq 1).trans rfl
          clear hq
          have hq := blk_low HB.out HQ2.out
          have q2_0 := (blk_cell hq 0).trans rfl; have q2_1 := (blk_cell hq 1).trans rfl
          clear hq
          go_wp2_with fail
          refine (fee_calls s A0 c0 A1 c1 A2 c2 (.slice A3 s.f3.length c3) earned _ (HS.out.below (below_tr HB0.out HB.out))).mono ?_
          rintro e z8 ⟨rfl, hb⟩
          clear q0_0 q0_1 q0_2 q0_3 q1_0 q1_1 q2_0 q2_1
          have HB := Aside0.mk (below_tr HB.out hb)
          clear hb
          have hq := blk_low HB.out HQ0.out
          have q0_0 := (blk_cell hq 0).trans rfl; have q0_1 := (blk_cell hq 1).trans rfl; have q0_2 := (blk_cell hq 2).trans rfl; have q0_3 := (blk_cell hq 3).trans rfl
          clear hq
          have hq := blk_low HB.out HQ1.out
          have q1_0 := (blk_cell hq 0).trans rfl; have q1_1 := (blk_cell hq 1).trans rfl
          clear hq
          have hq := blk_low HB.out HQ2.out
          have q2_0 := (blk_cell hq 0).trans rfl; have q2_1 := (blk_cell hq 1).trans rfl
          clear hq
          go_wp2_with fail
          refine (fee_calls s A0 c0 A1 c1 A2 c2 (.slice A3 s.f3.length c3) more _ (HS.out.below (below_tr HB0.out HB.out))).mono ?_
          rintro e z9 ⟨rfl, hb⟩
          clear q0_0 q0_1 q0_2 q0_3 q1_0 q1_1 q2_0 q2_1
          have HB := Aside0.mk (below_tr HB.out hb)
          clear hb
          by_cases e1 : ofE s earned mean = 0
          · by_cases e2 : ofE s more other = 0
            · have f1 := feeE_zero e1; have f2 := feeE_zero e2
              have k1 : decide (ofN s s.f0 earned mean ≤ ofN s s.f0 more other) = true := decide_eq_true (ofN_more (okS_ok (ofE_zero e1).1).1 e1 e2 HM.out HE.out)
              have k2 : decide (ofN s s.f2 earned mean ≤ ofN s s.f2 more other) = true := decide_eq_true (ofN_more (okS_ok (ofE_zero e1).1).2 e1 e2 HM.out HE.out)
              have k3 : decide (feeN s earned ≤ feeN s more) = true := decide_eq_true (feeN_more e1 e2 HE.out)
              rw [e1, e2, f1, f2]
              generalize ofN s s.f0 earned mean = x0 at *
              generalize ofN s s.f0 more other = x1 at *
              generalize ofN s s.f2 earned mean = x2 at *
              generalize ofN s s.f2 more other = x3 at *
              generalize feeN s earned = x4 at *
              generalize feeN s more = x5 at *
              clear e1 e2 f1 f2
              go_wp2
              go_ret
              exact ⟨rfl, below_tr HB0.out HB.out⟩
            · have j1 : (ofE s more other == 0) = false := by simp [e2]
              have j2 : (ofE s more other != 0) = true := by simp [e2]
              rw [e1]
              generalize ofE s more other = x1 at *
              clear e1 e2
              go_wp2
              go_ret
              exact ⟨rfl, below_tr HB0.out HB.out⟩
          · have j1 : (ofE s earned mean == 0) = false := by simp [e1]
            have j2 : (ofE s earned mean != 0) = true := by simp [e1]
            generalize ofE s earned mean = x1 at *
            clear e1
            go_wp2
            go_ret
            exact ⟨rfl, below_tr HB0.out HB.out⟩
        · have d3 : decide (more < earned) = true := decide_eq_true (by omega)
          have d2 : decide (0 < cmpR mean other) = false := decide_eq_false (by omega)
          rw [h1] at hcm
          clear h1 h2 h3
          refine hcm.mono ?_
          rintro e z3 ⟨rfl, hb⟩
          have HB := Aside0.mk (below_tr HB.out hb); clear hb q1_0 q1_1 q2_0 q2_1
          go_wp2
          go_ret
          exact ⟨rfl, below_tr HB0.out HB.out⟩
      · have d2 : decide (0 < cmpR mean other) = true := decide_eq_true (by omega)
        rw [h1] at hcm
        clear h1 h2
        refine hcm.mono ?_
        rintro e z3 ⟨rfl, hb⟩
        have HB := Aside0.mk (below_tr HB.out hb); clear hb q1_0 q1_1 q2_0 q2_1
        go_wp2
        go_ret
        exact ⟨rfl, below_tr HB0.out HB.out⟩
    · have j1 : (cmpE mean other == 0) = false := by simp [h1]
      have j2 : (cmpE mean other != 0) = true := by simp [h1]
      clear h1
      refine hcm.mono ?_
      rintro e z3 ⟨rfl, hb⟩
      have HB := Aside0.mk (below_tr HB.out hb); clear hb q1_0 q1_1 q2_0 q2_1
      go_wp2
      go_ret
      exact ⟨rfl, below_tr HB0.out HB.out⟩
end Go.Proofs.YtdnmoppegncioaaGreatDoor
