/- sizarlaw21.StandingSpec: it is true. (Printed by gen_l1.py.) -/
import Derived.Test.YtdnmoppegncioaaGreatDoorSA
import Derived.Test.YtdnmoppegncioaaGreatDoorG2
import Derived.Test.YtdnmoppegncioaaGreatDoorJZ
import Derived.Test.YtdnmoppegncioaaGreatDoorJ7
namespace Go.Proofs.YtdnmoppegncioaaGreatDoor
open Go.RowKit Go.Proofs.YtdnmoppegncioaaGreatDoorW.PrintWords
set_option linter.unusedVariables false
set_option linter.unusedSimpArgs false
theorem stcheck_calls (s : S26) (A0 : Option Addr) (c0 : Nat) (A1 : Option Addr) (c1 : Nat) (A2 : Option Addr) (c2 : Nat) (v3 : Value) (w : World) (hs : SysAt w s A0 A1 A2) :
    Calls Tryz.prog 15 #[.agg #[.slice A0 s.f0.length c0, .slice A1 s.f1.length c1, .slice A2 s.f2.length c2, v3]] w fun e w' => e = .returned (.int .i64 (if okS s then 0 else 1)) ∧ Below w.heap.size w w' :=
  scheck_calls s A0 c0 A1 c1 A2 c2 v3 w hs.1 hs.2.1 hs.2.2.1 hs.2.2.2.1 hs.2.2.2.2.1 hs.2.2.2.2.2
set_option maxRecDepth 100000 in
set_option maxHeartbeats 32000000 in
theorem law1_calls (s : S26) (A0 : Option Addr) (c0 : Nat) (A1 : Option Addr) (c1 : Nat) (A2 : Option Addr) (c2 : Nat) (A3 : Option Addr) (c3 : Nat) (earned : Int) (mean : S28) (w : World) (hs : SysAt w s A0 A1 A2) (hl : s.f0.length + s.f1.length + s.f2.length + s.f3.length ≤ 9223372036854775807) (hm : I64 mean.f0) :
    Calls Tryz.prog 3 #[.agg #[.slice A0 s.f0.length c0, .slice A1 s.f1.length c1, .slice A2 s.f2.length c2, .slice A3 s.f3.length c3], .int .i64 earned, .agg #[.int .i64 mean.f0, .int .i64 mean.f1]] w fun e w' => e = .returned (.bool true) ∧ Below w.heap.size w w' := by
  have HS := Aside0.mk hs; clear hs
  have R0 := Aside0.mk (rN_ofN s s.f0 (Or.inl rfl) earned mean); have R2 := Aside0.mk (rN_ofN s s.f2 (Or.inr rfl) earned mean)
  obtain ⟨W1, h1⟩ : ∃ W1, W1 = w.alloc (.cells #[.slice A0 s.f0.length c0, .slice A1 s.f1.length c1, .slice A2 s.f2.length c2, .slice A3 s.f3.length c3] 26) := ⟨_, rfl⟩
  obtain ⟨W2, h2⟩ : ∃ W2, W2 = W1.alloc (.cells #[.int .i64 mean.f0, .int .i64 mean.f1] 28) := ⟨_, rfl⟩
  have p1 := nb (W := w) rfl (.cells #[.slice A0 s.f0.length c0, .slice A1 s.f1.length c1, .slice A2 s.f2.length c2, .slice A3 s.f3.length c3] 26); rw [← h1] at p1
  have p2 := nb p1.2 (.cells #[.int .i64 mean.f0, .int .i64 mean.f1] 28); rw [← h2] at p2
  have HQ0 := Aside0.mk (show W2.heap[w.heap.size]? = some (.cells #[.slice A0 s.f0.length c0, .slice A1 s.f1.length c1, .slice A2 s.f2.length c2, .slice A3 s.f3.length c3] 26 (0, 0)) by rw [h2]; exact blk_alloc (p1.1) _)
  have HQ1 := Aside0.mk (show W2.heap[w.heap.size + 1]? = some (.cells #[.int .i64 mean.f0, .int .i64 mean.f1] 28 (0, 0)) by exact p2.1)
  have HB0 := Aside0.mk (show Below w.heap.size w W2 by rw [h2, h1]; exact (((Below.refl _ w).alloc (Nat.le_refl _) _).alloc (by simp) _))
  clear p1 p2
  go_enter Tryz.func3, Tryz.ntmps3
  go_wp2_with fail
  (try rw [← h1])
  (try rw [← h2])
  clear h1 h2 W1
  refine (sane_calls _).mono ?_
  rintro e z1 ⟨rfl, hb⟩
  have HB := Aside0.mk hb
  clear hb
  have hq := blk_low HB.out HQ0.out
  have q0_0 := (blk_cell hq 0).trans rfl; have q0_1 := (blk_cell hq 1).trans rfl; have q0_2 := (blk_cell hq 2).trans rfl; have q0_3 := (blk_cell hq 3).trans rfl
  clear hq
  go_wp2_with fail
  have hfew := few_calls s.f0.length s.f1.length s.f2.length s.f3.length A0 c0 A1 c1 A2 c2 A3 c3 hl z1
  cases hf : decide (s.f0.length + s.f1.length + s.f2.length + s.f3.length ≤ 40) with
  | false =>
    rw [hf] at hfew
    refine hfew.mono ?_
    rintro e z2 ⟨rfl, hb⟩
    have HB := Aside0.mk (below_tr HB.out hb); clear hb q0_0 q0_1 q0_2 q0_3 hfew
    go_wp2
    go_ret
    exact ⟨rfl, below_tr HB0.out HB.out⟩
  | true =>
    rw [hf] at hfew
    refine (hfew).mono ?_
    rintro e z2 ⟨rfl, hb⟩
    clear q0_0 q0_1 q0_2 q0_3
    have HB := Aside0.mk (below_tr HB.out hb)
    clear hb
    clear hfew
    have hq := blk_low HB.out HQ0.out
    have q0_0 := (blk_cell hq 0).trans rfl; have q0_1 := (blk_cell hq 1).trans rfl; have q0_2 := (blk_cell hq 2).trans rfl; have q0_3 := (blk_cell hq 3).trans rfl
    clear hq
    have hq := blk_low HB.out HQ1.out
    have q1_0 := (blk_cell hq 0).trans rfl; have q1_1 := (blk_cell hq 1).trans rfl
    clear hq
    go_wp2_with fail
    refine (class_calls s A0 c0 A1 c1 A2 c2 (.slice A3 s.f3.length c3) earned mean _ (HS.out.below (below_tr HB0.out HB.out)) hm).mono ?_
    rintro e z3 ⟨rfl, hb⟩
    clear q0_0 q0_1 q0_2 q0_3 q1_0 q1_1
    have HB := Aside0.mk (below_tr HB.out hb)
    clear hb
    have hq := blk_low HB.out HQ0.out
    have q0_0 := (blk_cell hq 0).trans rfl; have q0_1 := (blk_cell hq 1).trans rfl; have q0_2 := (blk_cell hq 2).trans rfl; have q0_3 := (blk_cell hq 3).trans rfl
    clear hq
    have hq := blk_low HB.out HQ1.out
    have q1_0 := (blk_cell hq 0).trans rfl; have q1_1 := (blk_cell hq 1).trans rfl
    clear hq
    go_wp2_with fail
    refine (rclass_calls s A0 c0 A1 c1 A2 c2 (.slice A3 s.f3.length c3) earned mean _ (HS.out.below (below_tr HB0.out HB.out)) hm).mono ?_
    rintro e z4 ⟨rfl, hb⟩
    clear q0_0 q0_1 q0_2 q0_3 q1_0 q1_1
    have HB := Aside0.mk (below_tr HB.out hb)
    clear hb
    rw [R0.out]
    have hq := blk_low HB.out HQ0.out
    have q0_0 := (blk_cell hq 0).trans rfl; have q0_1 := (blk_cell hq 1).trans rfl; have q0_2 := (blk_cell hq 2).trans rfl; have q0_3 := (blk_cell hq 3).trans rfl
    clear hq
    have hq := blk_low HB.out HQ1.out
    have q1_0 := (blk_cell hq 0).trans rfl; have q1_1 := (blk_cell hq 1).trans rfl
    clear hq
    go_wp2_with fail
    refine (honour_calls s A0 c0 A1 c1 A2 c2 (.slice A3 s.f3.length c3) earned mean _ (HS.out.below (below_tr HB0.out HB.out)) hm).mono ?_
    rintro e z5 ⟨rfl, hb⟩
    clear q0_0 q0_1 q0_2 q0_3 q1_0 q1_1
    have HB := Aside0.mk (below_tr HB.out hb)
    clear hb
    have hq := blk_low HB.out HQ0.out
    have q0_0 := (blk_cell hq 0).trans rfl; have q0_1 := (blk_cell hq 1).trans rfl; have q0_2 := (blk_cell hq 2).trans rfl; have q0_3 := (blk_cell hq 3).trans rfl
    clear hq
    have hq := blk_low HB.out HQ1.out
    have q1_0 := (blk_cell hq 0).trans rfl; have q1_1 := (blk_cell hq 1).trans rfl
    clear hq
    go_wp2_with fail
    refine (rhonour_calls s A0 c0 A1 c1 A2 c2 (.slice A3 s.f3.length c3) earned mean _ (HS.out.below (below_tr HB0.out HB.out)) hm).mono ?_
    rintro e z6 ⟨rfl, hb⟩
    clear q0_0 q0_1 q0_2 q0_3 q1_0 q1_1
    have HB := Aside0.mk (below_tr HB.out hb)
    clear hb
    rw [R2.out]
    have hq := blk_low HB.out HQ0.out
    have q0_0 := (blk_cell hq 0).trans rfl; have q0_1 := (blk_cell hq 1).trans rfl; have q0_2 := (blk_cell hq 2).trans rfl; have q0_3 := (blk_cell hq 3).trans rfl
    clear hq
    have hq := blk_low HB.out HQ1.out
    have q1_0 := (blk_cell hq 0).trans rfl; have q1_1 := (blk_cell hq 1).trans rfl
    clear hq
    go_wp2_with fail
    refine (fee_calls s A0 c0 A1 c1 A2 c2 (.slice A3 s.f3.length c3) earned _ (HS.out.below (below_tr HB0.out HB.out))).mono ?_
    rintro e z7 ⟨rfl, hb⟩
    clear q0_0 q0_1 q0_2 q0_3 q1_0 q1_1
    have HB := Aside0.mk (below_tr HB.out hb)
    clear hb
    have hq := blk_low HB.out HQ0.out
    have q0_0 := (blk_cell hq 0).trans rfl; have q0_1 := (blk_cell hq 1).trans rfl; have q0_2 := (blk_cell hq 2).trans rfl; have q0_3 := (blk_cell hq 3).trans rfl
    clear hq
    have hq := blk_low HB.out HQ1.out
    have q1_0 := (blk_cell hq 0).trans rfl; have q1_1 := (blk_cell hq 1).trans rfl
    clear hq
    go_wp2_with fail
    refine (rfee_calls s A0 c0 A1 c1 A2 c2 (.slice A3 s.f3.length c3) earned _ (HS.out.below (below_tr HB0.out HB.out))).mono ?_
    rintro e z8 ⟨rfl, hb⟩
    clear q0_0 q0_1 q0_2 q0_3 q1_0 q1_1
    have HB := Aside0.mk (below_tr HB.out hb)
    clear hb
    have hq := blk_low HB.out HQ0.out
    have q0_0 := (blk_cell hq 0).trans rfl; have q0_1 := (blk_cell hq 1).trans rfl; have q0_2 := (blk_cell hq 2).trans rfl; have q0_3 := (blk_cell hq 3).trans rfl
    clear hq
    go_wp2_with fail
    have hq := blk_low HB.out HQ0.out
    generalize ofN s s.f0 earned mean = x0 at *
    generalize ofN s s.f2 earned mean = x1 at *
    generalize ofE s earned mean = x2 at *
    generalize feeN s earned = x3 at *
    generalize feeE s earned = x4 at *
    clear R0 R2
    have HX := Aside0.mk (fun W (h : Below z8.heap.size z8 W) => (⟨cell_low h ((blk_cell hq 0).trans rfl), cell_low h ((blk_cell hq 1).trans rfl), cell_low h ((blk_cell hq 2).trans rfl), cell_low h ((blk_cell hq 3).trans rfl), ⟨h⟩⟩ : W.cell? ⟨w.heap.size, 0, none⟩ = some (.slice A0 s.f0.length c0) ∧ W.cell? ⟨w.heap.size, 1, none⟩ = some (.slice A1 s.f1.length c1) ∧ W.cell? ⟨w.heap.size, 2, none⟩ = some (.slice A2 s.f2.length c2) ∧ W.cell? ⟨w.heap.size, 3, none⟩ = some (.slice A3 s.f3.length c3) ∧ Aside0 (Below z8.heap.size z8 W)))
    clear hq q0_0 q0_1 q0_2 q0_3
    obtain ⟨x5, hx5⟩ : ∃ x, (if okS s = true then (0 : Int) else 1) = x := ⟨_, rfl⟩
    have C1 := Aside0.mk (fun W h => stcheck_calls s A0 c0 A1 c1 A2 c2 (.slice A3 s.f3.length c3) W h); have C2 := Aside0.mk (fun W h => r21check_calls s A0 c0 A1 c1 A2 c2 (.slice A3 s.f3.length c3) W h)
    rw [hx5] at C1 C2
    clear hx5
    refine wp_region_held_drew (S := (fun W => W.cell? ⟨w.heap.size, 0, none⟩ = some (.slice A0 s.f0.length c0) ∧ W.cell? ⟨w.heap.size, 1, none⟩ = some (.slice A1 s.f1.length c1) ∧ W.cell? ⟨w.heap.size, 2, none⟩ = some (.slice A2 s.f2.length c2) ∧ W.cell? ⟨w.heap.size, 3, none⟩ = some (.slice A3 s.f3.length c3) ∧ Aside0 (Below z8.heap.size z8 W))) (by kernel_rfl) (HX.out _ (below_drew (Below.refl _ _))) (fun hHeld => ?_)
    (first | (refine wpAnyH_take (i := 0) rfl (by kernel_rfl) (by kernel_rfl) (by kernel_rfl) (fun _ _ _ h => h) (Or.inr ⟨by rfl, rfl⟩) (by assumption) ?_) | (refine wpAnyH_take (i := 0) (v := ?_) rfl (by kernel_rfl) (by kernel_rfl) (by kernel_rfl) (fun _ _ _ h => h) (Or.inl ⟨by rfl, ?_⟩) (by assumption) ?_; rotate_left 1; (focus (intro w hSw; (try dsimp only at hSw); go_simp; (try with_reducible rfl); done)))) <;> (try simp only [Act.put, List.getElem_toArray, List.getElem_cons_succ, List.getElem_cons_zero, List.setIfInBounds_toArray, List.set_cons_zero, List.set_cons_succ])
    (first | (refine wpAnyH_take (i := 1) rfl (by kernel_rfl) (by kernel_rfl) (by kernel_rfl) (fun _ _ _ h => h) (Or.inr ⟨by rfl, rfl⟩) (by assumption) ?_) | (refine wpAnyH_take (i := 1) (v := ?_) rfl (by kernel_rfl) (by kernel_rfl) (by kernel_rfl) (fun _ _ _ h => h) (Or.inl ⟨by rfl, ?_⟩) (by assumption) ?_; rotate_left 1; (focus (intro w hSw; (try dsimp only at hSw); go_simp; (try with_reducible rfl); done)))) <;> (try simp only [Act.put, List.getElem_toArray, List.getElem_cons_succ, List.getElem_cons_zero, List.setIfInBounds_toArray, List.set_cons_zero, List.set_cons_succ])
    (first | (refine wpAnyH_take (i := 2) rfl (by kernel_rfl) (by kernel_rfl) (by kernel_rfl) (fun _ _ _ h => h) (Or.inr ⟨by rfl, rfl⟩) (by assumption) ?_) | (refine wpAnyH_take (i := 2) (v := ?_) rfl (by kernel_rfl) (by kernel_rfl) (by kernel_rfl) (fun _ _ _ h => h) (Or.inl ⟨by rfl, ?_⟩) (by assumption) ?_; rotate_left 1; (focus (intro w hSw; (try dsimp only at hSw); go_simp; (try with_reducible rfl); done)))) <;> (try simp only [Act.put, List.getElem_toArray, List.getElem_cons_succ, List.getElem_cons_zero, List.setIfInBounds_toArray, List.set_cons_zero, List.set_cons_succ])
    (first | (refine wpAnyH_take (i := 3) rfl (by kernel_rfl) (by kernel_rfl) (by kernel_rfl) (fun _ _ _ h => h) (Or.inr ⟨by rfl, rfl⟩) (by assumption) ?_) | (refine wpAnyH_take (i := 3) (v := ?_) rfl (by kernel_rfl) (by kernel_rfl) (by kernel_rfl) (fun _ _ _ h => h) (Or.inl ⟨by rfl, ?_⟩) (by assumption) ?_; rotate_left 1; (focus (intro w hSw; (try dsimp only at hSw); go_simp; (try with_reducible rfl); done)))) <;> (try simp only [Act.put, List.getElem_toArray, List.getElem_cons_succ, List.getElem_cons_zero, List.setIfInBounds_toArray, List.set_cons_zero, List.set_cons_succ])
    (first | (refine wpAnyH_take (i := 4) rfl (by kernel_rfl) (by kernel_rfl) (by kernel_rfl) (fun _ _ _ h => h) (Or.inr ⟨by rfl, rfl⟩) (by assumption) ?_) | (refine wpAnyH_take (i := 4) (v := ?_) rfl (by kernel_rfl) (by kernel_rfl) (by kernel_rfl) (fun _ _ _ h => h) (Or.inl ⟨by rfl, ?_⟩) (by assumption) ?_; rotate_left 1; (focus (intro w hSw; (try dsimp only at hSw); go_simp; (try with_reducible rfl); done)))) <;> (try simp only [Act.put, List.getElem_toArray, List.getElem_cons_succ, List.getElem_cons_zero, List.setIfInBounds_toArray, List.set_cons_zero, List.set_cons_succ])
    (first | (refine wpAnyH_take (i := 5) rfl (by kernel_rfl) (by kernel_rfl) (by kernel_rfl) (fun _ _ _ h => h) (Or.inr ⟨by rfl, rfl⟩) (by assumption) ?_) | (refine wpAnyH_take (i := 5) (v := ?_) rfl (by kernel_rfl) (by kernel_rfl) (by kernel_rfl) (fun _ _ _ h => h) (Or.inl ⟨by rfl, ?_⟩) (by assumption) ?_; rotate_left 1; (focus (intro w hSw; (try dsimp only at hSw); go_simp; (try with_reducible rfl); done)))) <;> (try simp only [Act.put, List.getElem_toArray, List.getElem_cons_succ, List.getElem_cons_zero, List.setIfInBounds_toArray, List.set_cons_zero, List.set_cons_succ])
    (first | (refine wpAnyH_take (i := 6) rfl (by kernel_rfl) (by kernel_rfl) (by kernel_rfl) (fun _ _ _ h => h) (Or.inr ⟨by rfl, rfl⟩) (by assumption) ?_) | (refine wpAnyH_take (i := 6) (v := ?_) rfl (by kernel_rfl) (by kernel_rfl) (by kernel_rfl) (fun _ _ _ h => h) (Or.inl ⟨by rfl, ?_⟩) (by assumption) ?_; rotate_left 1; (focus (intro w hSw; (try dsimp only at hSw); go_simp; (try with_reducible rfl); done)))) <;> (try simp only [Act.put, List.getElem_toArray, List.getElem_cons_succ, List.getElem_cons_zero, List.setIfInBounds_toArray, List.set_cons_zero, List.set_cons_succ])
    (first | (refine wpAnyH_take (i := 7) rfl (by kernel_rfl) (by kernel_rfl) (by kernel_rfl) (fun _ _ _ h => h) (Or.inr ⟨by rfl, rfl⟩) (by assumption) ?_) | (refine wpAnyH_take (i := 7) (v := ?_) rfl (by kernel_rfl) (by kernel_rfl) (by kernel_rfl) (fun _ _ _ h => h) (Or.inl ⟨by rfl, ?_⟩) (by assumption) ?_; rotate_left 1; (focus (intro w hSw; (try dsimp only at hSw); go_simp; (try with_reducible rfl); done)))) <;> (try simp only [Act.put, List.getElem_toArray, List.getElem_cons_succ, List.getElem_cons_zero, List.setIfInBounds_toArray, List.set_cons_zero, List.set_cons_succ])
    (first | (refine wpAnyH_take (i := 8) rfl (by kernel_rfl) (by kernel_rfl) (by kernel_rfl) (fun _ _ _ h => h) (Or.inr ⟨by rfl, rfl⟩) (by assumption) ?_) | (refine wpAnyH_take (i := 8) (v := ?_) rfl (by kernel_rfl) (by kernel_rfl) (by kernel_rfl) (fun _ _ _ h => h) (Or.inl ⟨by rfl, ?_⟩) (by assumption) ?_; rotate_left 1; (focus (intro w hSw; (try dsimp only at hSw); go_simp; (try with_reducible rfl); done)))) <;> (try simp only [Act.put, List.getElem_toArray, List.getElem_cons_succ, List.getElem_cons_zero, List.setIfInBounds_toArray, List.set_cons_zero, List.set_cons_succ])
    (first | (refine wpAnyH_take (i := 9) rfl (by kernel_rfl) (by kernel_rfl) (by kernel_rfl) (fun _ _ _ h => h) (Or.inr ⟨by rfl, rfl⟩) (by assumption) ?_) | (refine wpAnyH_take (i := 9) (v := ?_) rfl (by kernel_rfl) (by kernel_rfl) (by kernel_rfl) (fun _ _ _ h => h) (Or.inl ⟨by rfl, ?_⟩) (by assumption) ?_; rotate_left 1; (focus (intro w hSw; (try dsimp only at hSw); go_simp; (try with_reducible rfl); done)))) <;> (try simp only [Act.put, List.getElem_toArray, List.getElem_cons_succ, List.getElem_cons_zero, List.setIfInBounds_toArray, List.set_cons_zero, List.set_cons_succ])
    (first | (refine wpAnyH_take (i := 10) rfl (by kernel_rfl) (by kernel_rfl) (by kernel_rfl) (fun _ _ _ h => h) (Or.inr ⟨by rfl, rfl⟩) (by assumption) ?_) | (refine wpAnyH_take (i := 10) (v := ?_) rfl (by kernel_rfl) (by kernel_rfl) (by kernel_rfl) (fun _ _ _ h => h) (Or.inl ⟨by rfl, ?_⟩) (by assumption) ?_; rotate_left 1; (focus (intro w hSw; (try dsimp only at hSw); go_simp; (try with_reducible rfl); done)))) <;> (try simp only [Act.put, List.getElem_toArray, List.getElem_cons_succ, List.getElem_cons_zero, List.setIfInBounds_toArray, List.set_cons_zero, List.set_cons_succ])
    (first | (refine wpAnyH_take (i := 11) rfl (by kernel_rfl) (by kernel_rfl) (by kernel_rfl) (fun _ _ _ h => h) (Or.inr ⟨by rfl, rfl⟩) (by assumption) ?_) | (refine wpAnyH_take (i := 11) (v := ?_) rfl (by kernel_rfl) (by kernel_rfl) (by kernel_rfl) (fun _ _ _ h => h) (Or.inl ⟨by rfl, ?_⟩) (by assumption) ?_; rotate_left 1; (focus (intro w hSw; (try dsimp only at hSw); go_simp; (try with_reducible rfl); done)))) <;> (try simp only [Act.put, List.getElem_toArray, List.getElem_cons_succ, List.getElem_cons_zero, List.setIfInBounds_toArray, List.set_cons_zero, List.set_cons_succ])
    (first | (refine wpAnyH_take (i := 12) rfl (by kernel_rfl) (by kernel_rfl) (by kernel_rfl) (fun _ _ _ h => h) (Or.inr ⟨by rfl, rfl⟩) (by assumption) ?_) | (refine wpAnyH_take (i := 12) (v := ?_) rfl (by kernel_rfl) (by kernel_rfl) (by kernel_rfl) (fun _ _ _ h => h) (Or.inl ⟨by rfl, ?_⟩) (by assumption) ?_; rotate_left 1; (focus (intro w hSw; (try dsimp only at hSw); go_simp; (try with_reducible rfl); done)))) <;> (try simp only [Act.put, List.getElem_toArray, List.getElem_cons_succ, List.getElem_cons_zero, List.setIfInBounds_toArray, List.set_cons_zero, List.set_cons_succ])
    (first | (refine wpAnyH_take (i := 13) rfl (by kernel_rfl) (by kernel_rfl) (by kernel_rfl) (fun _ _ _ h => h) (Or.inr ⟨by rfl, rfl⟩) (by assumption) ?_) | (refine wpAnyH_take (i := 13) (v := ?_) rfl (by kernel_rfl) (by kernel_rfl) (by kernel_rfl) (fun _ _ _ h => h) (Or.inl ⟨by rfl, ?_⟩) (by assumption) ?_; rotate_left 1; (focus (intro w hSw; (try dsimp only at hSw); go_simp; (try with_reducible rfl); done)))) <;> (try simp only [Act.put, List.getElem_toArray, List.getElem_cons_succ, List.getElem_cons_zero, List.setIfInBounds_toArray, List.set_cons_zero, List.set_cons_succ])
    (first | (refine wpAnyH_take (i := 14) rfl (by kernel_rfl) (by kernel_rfl) (by kernel_rfl) (fun _ _ _ h => h) (Or.inr ⟨by rfl, rfl⟩) (by assumption) ?_) | (refine wpAnyH_take (i := 14) (v := ?_) rfl (by kernel_rfl) (by kernel_rfl) (by kernel_rfl) (fun _ _ _ h => h) (Or.inl ⟨by rfl, ?_⟩) (by assumption) ?_; rotate_left 1; (focus (intro w hSw; (try dsimp only at hSw); go_simp; (try with_reducible rfl); done)))) <;> (try simp only [Act.put, List.getElem_toArray, List.getElem_cons_succ, List.getElem_cons_zero, List.setIfInBounds_toArray, List.set_cons_zero, List.set_cons_succ])
    (first | (refine wpAnyH_take (i := 15) rfl (by kernel_rfl) (by kernel_rfl) (by kernel_rfl) (fun _ _ _ h => h) (Or.inr ⟨by rfl, rfl⟩) (by assumption) ?_) | (refine wpAnyH_take (i := 15) (v := ?_) rfl (by kernel_rfl) (by kernel_rfl) (by kernel_rfl) (fun _ _ _ h => h) (Or.inl ⟨by rfl, ?_⟩) (by assumption) ?_; rotate_left 1; (focus (intro w hSw; (try dsimp only at hSw); go_simp; (try with_reducible rfl); done)))) <;> (try simp only [Act.put, List.getElem_toArray, List.getElem_cons_succ, List.getElem_cons_zero, List.setIfInBounds_toArray, List.set_cons_zero, List.set_cons_succ])
    (first | (refine wpAnyH_take (i := 16) rfl (by kernel_rfl) (by kernel_rfl) (by kernel_rfl) (fun _ _ _ h => h) (Or.inr ⟨by rfl, rfl⟩) (by assumption) ?_) | (refine wpAnyH_take (i := 16) (v := ?_) rfl (by kernel_rfl) (by kernel_rfl) (by kernel_rfl) (fun _ _ _ h => h) (Or.inl ⟨by rfl, ?_⟩) (by assumption) ?_; rotate_left 1; (focus (intro w hSw; (try dsimp only at hSw); go_simp; (try with_reducible rfl); done)))) <;> (try simp only [Act.put, List.getElem_toArray, List.getElem_cons_succ, List.getElem_cons_zero, List.setIfInBounds_toArray, List.set_cons_zero, List.set_cons_succ])
    (first | (refine wpAnyH_take (i := 17) rfl (by kernel_rfl) (by kernel_rfl) (by kernel_rfl) (fun _ _ _ h => h) (Or.inr ⟨by rfl, rfl⟩) (by assumption) ?_) | (refine wpAnyH_take (i := 17) (v := ?_) rfl (by kernel_rfl) (by kernel_rfl) (by kernel_rfl) (fun _ _ _ h => h) (Or.inl ⟨by rfl, ?_⟩) (by assumption) ?_; rotate_left 1; (focus (intro w hSw; (try dsimp only at hSw); go_simp; (try with_reducible rfl); done)))) <;> (try simp only [Act.put, List.getElem_toArray, List.getElem_cons_succ, List.getElem_cons_zero, List.setIfInBounds_toArray, List.set_cons_zero, List.set_cons_succ])
    (first | (refine wpAnyH_take (i := 18) rfl (by kernel_rfl) (by kernel_rfl) (by kernel_rfl) (fun _ _ _ h => h) (Or.inr ⟨by rfl, rfl⟩) (by assumption) ?_) | (refine wpAnyH_take (i := 18) (v := ?_) rfl (by kernel_rfl) (by kernel_rfl) (by kernel_rfl) (fun _ _ _ h => h) (Or.inl ⟨by rfl, ?_⟩) (by assumption) ?_; rotate_left 1; (focus (intro w hSw; (try dsimp only at hSw); go_simp; (try with_reducible rfl); done)))) <;> (try simp only [Act.put, List.getElem_toArray, List.getElem_cons_succ, List.getElem_cons_zero, List.setIfInBounds_toArray, List.set_cons_zero, List.set_cons_succ])
    (first | (refine wpAnyH_take (i := 19) rfl (by kernel_rfl) (by kernel_rfl) (by kernel_rfl) (fun _ _ _ h => h) (Or.inr ⟨by rfl, rfl⟩) (by assumption) ?_) | (refine wpAnyH_take (i := 19) (v := ?_) rfl (by kernel_rfl) (by kernel_rfl) (by kernel_rfl) (fun _ _ _ h => h) (Or.inl ⟨by rfl, ?_⟩) (by assumption) ?_; rotate_left 1; (focus (intro w hSw; (try dsimp only at hSw); go_simp; (try with_reducible rfl); done)))) <;> (try simp only [Act.put, List.getElem_toArray, List.getElem_cons_succ, List.getElem_cons_zero, List.setIfInBounds_toArray, List.set_cons_zero, List.set_cons_succ])
    (first | (refine wpAnyH_take (i := 20) rfl (by kernel_rfl) (by kernel_rfl) (by kernel_rfl) (fun _ _ _ h => h) (Or.inr ⟨by rfl, rfl⟩) (by assumption) ?_) | (refine wpAnyH_take (i := 20) (v := ?_) rfl (by kernel_rfl) (by kernel_rfl) (by kernel_rfl) (fun _ _ _ h => h) (Or.inl ⟨by rfl, ?_⟩) (by assumption) ?_; rotate_left 1; (focus (intro w hSw; (try dsimp only at hSw); go_simp; (try with_reducible rfl); done)))) <;> (try simp only [Act.put, List.getElem_toArray, List.getElem_cons_succ, List.getElem_cons_zero, List.setIfInBounds_toArray, List.set_cons_zero, List.set_cons_succ])
    (first | (refine wpAnyH_take (i := 21) rfl (by kernel_rfl) (by kernel_rfl) (by kernel_rfl) (fun _ _ _ h => h) (Or.inr ⟨by rfl, rfl⟩) (by assumption) ?_) | (refine wpAnyH_take (i := 21) (v := ?_) rfl (by kernel_rfl) (by kernel_rfl) (by kernel_rfl) (fun _ _ _ h => h) (Or.inl ⟨by rfl, ?_⟩) (by assumption) ?_; rotate_left 1; (focus (intro w hSw; (try dsimp only at hSw); go_simp; (try with_reducible rfl); done)))) <;> (try simp only [Act.put, List.getElem_toArray, List.getElem_cons_succ, List.getElem_cons_zero, List.setIfInBounds_toArray, List.set_cons_zero, List.set_cons_succ])
    (first | (refine wpAnyH_take (i := 22) rfl (by kernel_rfl) (by kernel_rfl) (by kernel_rfl) (fun _ _ _ h => h) (Or.inr ⟨by rfl, rfl⟩) (by assumption) ?_) | (refine wpAnyH_take (i := 22) (v := ?_) rfl (by kernel_rfl) (by kernel_rfl) (by kernel_rfl) (fun _ _ _ h => h) (Or.inl ⟨by rfl, ?_⟩) (by assumption) ?_; rotate_left 1; (focus (intro w hSw; (try dsimp only at hSw); go_simp; (try with_reducible rfl); done)))) <;> (try simp only [Act.put, List.getElem_toArray, List.getElem_cons_succ, List.getElem_cons_zero, List.setIfInBounds_toArray, List.set_cons_zero, List.set_cons_succ])
    (first | (refine wpAnyH_take (i := 23) rfl (by kernel_rfl) (by kernel_rfl) (by kernel_rfl) (fun _ _ _ h => h) (Or.inr ⟨by rfl, rfl⟩) (by assumption) ?_) | (refine wpAnyH_take (i := 23) (v := ?_) rfl (by kernel_rfl) (by kernel_rfl) (by kernel_rfl) (fun _ _ _ h => h) (Or.inl ⟨by rfl, ?_⟩) (by assumption) ?_; rotate_left 1; (focus (intro w hSw; (try dsimp only at hSw); go_simp; (try with_reducible rfl); done)))) <;> (try simp only [Act.put, List.getElem_toArray, List.getElem_cons_succ, List.getElem_cons_zero, List.setIfInBounds_toArray, List.set_cons_zero, List.set_cons_succ])
    (first | (refine wpAnyH_take (i := 24) rfl (by kernel_rfl) (by kernel_rfl) (by kernel_rfl) (fun _ _ _ h => h) (Or.inr ⟨by rfl, rfl⟩) (by assumption) ?_) | (refine wpAnyH_take (i := 24) (v := ?_) rfl (by kernel_rfl) (by kernel_rfl) (by kernel_rfl) (fun _ _ _ h => h) (Or.inl ⟨by rfl, ?_⟩) (by assumption) ?_; rotate_left 1; (focus (intro w hSw; (try dsimp only at hSw); go_simp; (try with_reducible rfl); done)))) <;> (try simp only [Act.put, List.getElem_toArray, List.getElem_cons_succ, List.getElem_cons_zero, List.setIfInBounds_toArray, List.set_cons_zero, List.set_cons_succ])
    (first | (refine wpAnyH_take (i := 25) rfl (by kernel_rfl) (by kernel_rfl) (by kernel_rfl) (fun _ _ _ h => h) (Or.inr ⟨by rfl, rfl⟩) (by assumption) ?_) | (refine wpAnyH_take (i := 25) (v := ?_) rfl (by kernel_rfl) (by kernel_rfl) (by kernel_rfl) (fun _ _ _ h => h) (Or.inl ⟨by rfl, ?_⟩) (by assumption) ?_; rotate_left 1; (focus (intro w hSw; (try dsimp only at hSw); go_simp; (try with_reducible rfl); done)))) <;> (try simp only [Act.put, List.getElem_toArray, List.getElem_cons_succ, List.getElem_cons_zero, List.setIfInBounds_toArray, List.set_cons_zero, List.set_cons_succ])
    (first | (refine wpAnyH_take (i := 26) rfl (by kernel_rfl) (by kernel_rfl) (by kernel_rfl) (fun _ _ _ h => h) (Or.inr ⟨by rfl, rfl⟩) (by assumption) ?_) | (refine wpAnyH_take (i := 26) (v := ?_) rfl (by kernel_rfl) (by kernel_rfl) (by kernel_rfl) (fun _ _ _ h => h) (Or.inl ⟨by rfl, ?_⟩) (by assumption) ?_; rotate_left 1; (focus (intro w hSw; (try dsimp only at hSw); go_simp; (try with_reducible rfl); done)))) <;> (try simp only [Act.put, List.getElem_toArray, List.getElem_cons_succ, List.getElem_cons_zero, List.setIfInBounds_toArray, List.set_cons_zero, List.set_cons_succ])
    (first | (refine wpAnyH_take (i := 27) rfl (by kernel_rfl) (by kernel_rfl) (by kernel_rfl) (fun _ _ _ h => h) (Or.inr ⟨by rfl, rfl⟩) (by assumption) ?_) | (refine wpAnyH_take (i := 27) (v := ?_) rfl (by kernel_rfl) (by kernel_rfl) (by kernel_rfl) (fun _ _ _ h => h) (Or.inl ⟨by rfl, ?_⟩) (by assumption) ?_; rotate_left 1; (focus (intro w hSw; (try dsimp only at hSw); go_simp; (try with_reducible rfl); done)))) <;> (try simp only [Act.put, List.getElem_toArray, List.getElem_cons_succ, List.getElem_cons_zero, List.setIfInBounds_toArray, List.set_cons_zero, List.set_cons_succ])
    (first | (refine wpAnyH_take (i := 28) rfl (by kernel_rfl) (by kernel_rfl) (by kernel_rfl) (fun _ _ _ h => h) (Or.inr ⟨by rfl, rfl⟩) (by assumption) ?_) | (refine wpAnyH_take (i := 28) (v := ?_) rfl (by kernel_rfl) (by kernel_rfl) (by kernel_rfl) (fun _ _ _ h => h) (Or.inl ⟨by rfl, ?_⟩) (by assumption) ?_; rotate_left 1; (focus (intro w hSw; (try dsimp only at hSw); go_simp; (try with_reducible rfl); done)))) <;> (try simp only [Act.put, List.getElem_toArray, List.getElem_cons_succ, List.getElem_cons_zero, List.setIfInBounds_toArray, List.set_cons_zero, List.set_cons_succ])
    (first | (refine wpAnyH_take (i := 29) rfl (by kernel_rfl) (by kernel_rfl) (by kernel_rfl) (fun _ _ _ h => h) (Or.inr ⟨by rfl, rfl⟩) (by assumption) ?_) | (refine wpAnyH_take (i := 29) (v := ?_) rfl (by kernel_rfl) (by kernel_rfl) (by kernel_rfl) (fun _ _ _ h => h) (Or.inl ⟨by rfl, ?_⟩) (by assumption) ?_; rotate_left 1; (focus (intro w hSw; (try dsimp only at hSw); go_simp; (try with_reducible rfl); done)))) <;> (try simp only [Act.put, List.getElem_toArray, List.getElem_cons_succ, List.getElem_cons_zero, List.setIfInBounds_toArray, List.set_cons_zero, List.set_cons_succ])
    (first | (refine wpAnyH_take (i := 31) rfl (by kernel_rfl) (by kernel_rfl) (by kernel_rfl) (fun _ _ _ h => h) (Or.inr ⟨by rfl, rfl⟩) (by assumption) ?_) | (refine wpAnyH_take (i := 31) (v := ?_) rfl (by kernel_rfl) (by kernel_rfl) (by kernel_rfl) (fun _ _ _ h => h) (Or.inl ⟨by rfl, ?_⟩) (by assumption) ?_; rotate_left 1; (focus (intro w hSw; (try dsimp only at hSw); go_simp; (try with_reducible rfl); done)))) <;> (try simp only [Act.put, List.getElem_toArray, List.getElem_cons_succ, List.getElem_cons_zero, List.setIfInBounds_toArray, List.set_cons_zero, List.set_cons_succ])
    have G1 := Aside0.mk (C1.out z8.drew (HS.out.below (below_tr (below_tr HB0.out HB.out) hHeld.2.2.2.2.out)))
    refine wpAnyH_ready (rs := [30]) (by kernel_rfl) (by simp) ?_
    refine AllReadyH.cons rfl (fun K hK => ?_) AllReadyH.nil
    go_simp
    go_at_call 15; refine G1.out.mono ?_; rintro e v1 ⟨rfl, hb1⟩; go_wp2_with fail
    refine hK.out _ _ (HX.out _ (below_tr hHeld.2.2.2.2.out hb1)) (fun hHeld => ?_)
    clear hK K
    try simp only [Act.put, List.getElem_toArray, List.getElem_cons_succ, List.getElem_cons_zero, List.setIfInBounds_toArray, List.set_cons_zero, List.set_cons_succ]
    have G2 := Aside0.mk (C2.out v1 (HS.out.below (below_tr (below_tr HB0.out HB.out) hHeld.2.2.2.2.out)))
    clear hb1 G1
    refine wpAnyH_ready (rs := [32]) (by kernel_rfl) (by simp) ?_
    refine AllReadyH.cons rfl (fun K hK => ?_) AllReadyH.nil
    go_simp
    go_at_call 16; refine G2.out.mono ?_; rintro e v2 ⟨rfl, hb2⟩; go_wp2_with fail
    refine hK.out _ _ (HX.out _ (below_tr hHeld.2.2.2.2.out hb2)) (fun hHeld => ?_)
    clear hK K
    try simp only [Act.put, List.getElem_toArray, List.getElem_cons_succ, List.getElem_cons_zero, List.setIfInBounds_toArray, List.set_cons_zero, List.set_cons_succ]
    clear hb2 G2
    (first | (refine wpAnyH_take (i := 33) rfl (by kernel_rfl) (by kernel_rfl) (by kernel_rfl) (fun _ _ _ h => h) (Or.inr ⟨by rfl, rfl⟩) (by assumption) ?_) | (refine wpAnyH_take (i := 33) (v := ?_) rfl (by kernel_rfl) (by kernel_rfl) (by kernel_rfl) (fun _ _ _ h => h) (Or.inl ⟨by rfl, ?_⟩) (by assumption) ?_; rotate_left 1; (focus (intro w hSw; (try dsimp only at hSw); go_simp; (try with_reducible rfl); done)))) <;> (try simp only [Act.put, List.getElem_toArray, List.getElem_cons_succ, List.getElem_cons_zero, List.setIfInBounds_toArray, List.set_cons_zero, List.set_cons_succ])
    (first | (refine wpAnyH_take (i := 34) rfl (by kernel_rfl) (by kernel_rfl) (by kernel_rfl) (fun _ _ _ h => h) (Or.inr ⟨by rfl, rfl⟩) (by assumption) ?_) | (refine wpAnyH_take (i := 34) (v := ?_) rfl (by kernel_rfl) (by kernel_rfl) (by kernel_rfl) (fun _ _ _ h => h) (Or.inl ⟨by rfl, ?_⟩) (by assumption) ?_; rotate_left 1; (focus (intro w hSw; (try dsimp only at hSw); go_simp; (try with_reducible rfl); done)))) <;> (try simp only [Act.put, List.getElem_toArray, List.getElem_cons_succ, List.getElem_cons_zero, List.setIfInBounds_toArray, List.set_cons_zero, List.set_cons_succ])
    (first | (refine wpAnyH_take (i := 35) rfl (by kernel_rfl) (by kernel_rfl) (by kernel_rfl) (fun _ _ _ h => h) (Or.inr ⟨by rfl, rfl⟩) (by assumption) ?_) | (refine wpAnyH_take (i := 35) (v := ?_) rfl (by kernel_rfl) (by kernel_rfl) (by kernel_rfl) (fun _ _ _ h => h) (Or.inl ⟨by rfl, ?_⟩) (by assumption) ?_; rotate_left 1; (focus (intro w hSw; (try dsimp only at hSw); go_simp; (try with_reducible rfl); done)))) <;> (try simp only [Act.put, List.getElem_toArray, List.getElem_cons_succ, List.getElem_cons_zero, List.setIfInBounds_toArray, List.set_cons_zero, List.set_cons_succ])
    refine wpAnyH_done (by kernel_rfl) ?_ _
    have HBz := Aside0.mk hHeld.2.2.2.2.out
    clear hHeld HX
    go_wp2
    go_ret
    exact ⟨rfl, below_tr HB0.out (below_tr HB.out HBz.out)⟩
end Go.Proofs.YtdnmoppegncioaaGreatDoor
