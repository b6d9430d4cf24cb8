/- (*standing.view).system, over any contract of book.System. (Printed by gen_kw.py.) -/
import Derived.Test.YtdnmoppegncioaaGreatDoorKV
namespace Go.Proofs.YtdnmoppegncioaaGreatDoor
open Go.RowKit Go.Proofs.YtdnmoppegncioaaGreatDoorW.PrintWords
set_option linter.unusedVariables false
set_option linter.unusedSimpArgs false
set_option maxRecDepth 100000 in
set_option maxHeartbeats 8000000 in
theorem vsys_calls (g : Nat) (v d1 d2 d3 d4 : Value) (t kn : Int) (P0 P1 P2 P3 : Option Addr) (m0 m1 m2 m3 q0 q1 q2 q3 : Nat) (xs ys : List S119) (B : Nat) (w0 w : World)
    (hsys : ∀ V, Below w.heap.size w V → Calls Tryz.prog 42 #[.agg #[d1, d2, d3, d4], .int .i64 t, .int .i64 kn] V fun e w' => ∃ rv, e = .returned (.tuple #[.agg #[(.slice P0 m0 q0), (.slice P1 m1 q1), (.slice P2 m2 q2), (.slice P3 m3 q3)], rv]) ∧ k119.R 119 w' V.heap.size (fun _ => True) rv ys ∧ Below V.heap.size V w')
    (hg : w.heap[g]? = some (viewO v d1 d2 d3 d4 (.int .i64 t) (.int .i64 kn))) (hR : k119.R 119 w B (fun _ => True) v xs) (hB : B ≤ w.heap.size) (hgB : B ≤ g) (hl : (xs.length + ys.length) * 40 ≤ 140737488355328) (hb : Below B w0 w) :
    Calls Tryz.prog 34 #[.pointer (some ⟨g, 0, none⟩)] w fun e w' => e = .returned (.agg #[(.slice P0 m0 q0), (.slice P1 m1 q1), (.slice P2 m2 q2), (.slice P3 m3 q3)]) ∧ ∃ v', w'.heap[g]? = some (viewO v' d1 d2 d3 d4 (.int .i64 t) (.int .i64 kn)) ∧ k119.R 119 w' B (fun _ => True) v' (xs ++ ys) ∧ Below B w0 w' := by
  have HSys := Aside0.mk hsys; clear hsys
  have b1 := (Below.refl w.heap.size w).alloc (Nat.le_refl _) (.cells #[.slice none 0 0, .slice none 0 0, .slice none 0 0, .slice none 0 0] 26)
  have nb1 := new_blk w (.cells #[.slice none 0 0, .slice none 0 0, .slice none 0 0, .slice none 0 0] 26)
  generalize hw1 : w.alloc (.cells #[.slice none 0 0, .slice none 0 0, .slice none 0 0, .slice none 0 0] 26) = w1 at b1 nb1
  have hg1 := blk_low b1 hg
  have HG0 := Aside0.mk hg; have HG1 := Aside0.mk hg1; have HB1 := Aside0.mk b1; have HN1 := Aside0.mk nb1; have HR := Aside0.mk hR; have HB := Aside0.mk hb
  have HS := Aside0.mk (fun W (h : Below w1.heap.size w1 W) => (⟨cell_low h ((blk_cell hg1 1).trans rfl), cell_low h ((blk_cell hg1 2).trans rfl), cell_low h ((blk_cell hg1 3).trans rfl), cell_low h ((blk_cell hg1 4).trans rfl), cell_low h ((blk_cell hg1 5).trans rfl), cell_low h ((blk_cell hg1 6).trans rfl), ⟨h⟩⟩ : W.cell? ⟨g, 1, none⟩ = some d1 ∧ W.cell? ⟨g, 2, none⟩ = some d2 ∧ W.cell? ⟨g, 3, none⟩ = some d3 ∧ W.cell? ⟨g, 4, none⟩ = some d4 ∧ W.cell? ⟨g, 5, none⟩ = some (.int .i64 t) ∧ W.cell? ⟨g, 6, none⟩ = some (.int .i64 kn) ∧ Aside0 (Below w1.heap.size w1 W)))
  clear hg hg1 b1 nb1 hR hb
  go_enter Tryz.func34, Tryz.ntmps34
  go_wp2_with fail
  (try rw [hw1]); clear hw1
  refine wp_region_held_drew (S := (fun W => W.cell? ⟨g, 1, none⟩ = some d1 ∧ W.cell? ⟨g, 2, none⟩ = some d2 ∧ W.cell? ⟨g, 3, none⟩ = some d3 ∧ W.cell? ⟨g, 4, none⟩ = some d4 ∧ W.cell? ⟨g, 5, none⟩ = some (.int .i64 t) ∧ W.cell? ⟨g, 6, none⟩ = some (.int .i64 kn) ∧ Aside0 (Below w1.heap.size w1 W))) (by kernel_rfl) (HS.out _ (below_drew (Below.refl _ _))) (fun hHeld => ?_)
  (first | (refine wpAnyH_take (i := 0) rfl (by kernel_rfl) (by kernel_rfl) (by kernel_rfl) (fun _ _ _ h => h) (Or.inr ⟨by rfl, rfl⟩) (by assumption) ?_) | (refine wpAnyH_take (i := 0) (v := ?_) rfl (by kernel_rfl) (by kernel_rfl) (by kernel_rfl) (fun _ _ _ h => h) (Or.inl ⟨by rfl, ?_⟩) (by assumption) ?_; rotate_left 1; (focus (intro w hSw; (try dsimp only at hSw); go_simp; (try with_reducible rfl); done)))) <;> (try simp only [Act.put, List.getElem_toArray, List.getElem_cons_succ, List.getElem_cons_zero, List.setIfInBounds_toArray, List.set_cons_zero, List.set_cons_succ])
  (first | (refine wpAnyH_take (i := 1) rfl (by kernel_rfl) (by kernel_rfl) (by kernel_rfl) (fun _ _ _ h => h) (Or.inr ⟨by rfl, rfl⟩) (by assumption) ?_) | (refine wpAnyH_take (i := 1) (v := ?_) rfl (by kernel_rfl) (by kernel_rfl) (by kernel_rfl) (fun _ _ _ h => h) (Or.inl ⟨by rfl, ?_⟩) (by assumption) ?_; rotate_left 1; (focus (intro w hSw; (try dsimp only at hSw); go_simp; (try with_reducible rfl); done)))) <;> (try simp only [Act.put, List.getElem_toArray, List.getElem_cons_succ, List.getElem_cons_zero, List.setIfInBounds_toArray, List.set_cons_zero, List.set_cons_succ])
  (first | (refine wpAnyH_take (i := 2) rfl (by kernel_rfl) (by kernel_rfl) (by kernel_rfl) (fun _ _ _ h => h) (Or.inr ⟨by rfl, rfl⟩) (by assumption) ?_) | (refine wpAnyH_take (i := 2) (v := ?_) rfl (by kernel_rfl) (by kernel_rfl) (by kernel_rfl) (fun _ _ _ h => h) (Or.inl ⟨by rfl, ?_⟩) (by assumption) ?_; rotate_left 1; (focus (intro w hSw; (try dsimp only at hSw); go_simp; (try with_reducible rfl); done)))) <;> (try simp only [Act.put, List.getElem_toArray, List.getElem_cons_succ, List.getElem_cons_zero, List.setIfInBounds_toArray, List.set_cons_zero, List.set_cons_succ])
  (first | (refine wpAnyH_take (i := 3) rfl (by kernel_rfl) (by kernel_rfl) (by kernel_rfl) (fun _ _ _ h => h) (Or.inr ⟨by rfl, rfl⟩) (by assumption) ?_) | (refine wpAnyH_take (i := 3) (v := ?_) rfl (by kernel_rfl) (by kernel_rfl) (by kernel_rfl) (fun _ _ _ h => h) (Or.inl ⟨by rfl, ?_⟩) (by assumption) ?_; rotate_left 1; (focus (intro w hSw; (try dsimp only at hSw); go_simp; (try with_reducible rfl); done)))) <;> (try simp only [Act.put, List.getElem_toArray, List.getElem_cons_succ, List.getElem_cons_zero, List.setIfInBounds_toArray, List.set_cons_zero, List.set_cons_succ])
  (first | (refine wpAnyH_take (i := 4) rfl (by kernel_rfl) (by kernel_rfl) (by kernel_rfl) (fun _ _ _ h => h) (Or.inr ⟨by rfl, rfl⟩) (by assumption) ?_) | (refine wpAnyH_take (i := 4) (v := ?_) rfl (by kernel_rfl) (by kernel_rfl) (by kernel_rfl) (fun _ _ _ h => h) (Or.inl ⟨by rfl, ?_⟩) (by assumption) ?_; rotate_left 1; (focus (intro w hSw; (try dsimp only at hSw); go_simp; (try with_reducible rfl); done)))) <;> (try simp only [Act.put, List.getElem_toArray, List.getElem_cons_succ, List.getElem_cons_zero, List.setIfInBounds_toArray, List.set_cons_zero, List.set_cons_succ])
  (first | (refine wpAnyH_take (i := 5) rfl (by kernel_rfl) (by kernel_rfl) (by kernel_rfl) (fun _ _ _ h => h) (Or.inr ⟨by rfl, rfl⟩) (by assumption) ?_) | (refine wpAnyH_take (i := 5) (v := ?_) rfl (by kernel_rfl) (by kernel_rfl) (by kernel_rfl) (fun _ _ _ h => h) (Or.inl ⟨by rfl, ?_⟩) (by assumption) ?_; rotate_left 1; (focus (intro w hSw; (try dsimp only at hSw); go_simp; (try with_reducible rfl); done)))) <;> (try simp only [Act.put, List.getElem_toArray, List.getElem_cons_succ, List.getElem_cons_zero, List.setIfInBounds_toArray, List.set_cons_zero, List.set_cons_succ])
  (first | (refine wpAnyH_take (i := 6) rfl (by kernel_rfl) (by kernel_rfl) (by kernel_rfl) (fun _ _ _ h => h) (Or.inr ⟨by rfl, rfl⟩) (by assumption) ?_) | (refine wpAnyH_take (i := 6) (v := ?_) rfl (by kernel_rfl) (by kernel_rfl) (by kernel_rfl) (fun _ _ _ h => h) (Or.inl ⟨by rfl, ?_⟩) (by assumption) ?_; rotate_left 1; (focus (intro w hSw; (try dsimp only at hSw); go_simp; (try with_reducible rfl); done)))) <;> (try simp only [Act.put, List.getElem_toArray, List.getElem_cons_succ, List.getElem_cons_zero, List.setIfInBounds_toArray, List.set_cons_zero, List.set_cons_succ])
  (first | (refine wpAnyH_take (i := 7) rfl (by kernel_rfl) (by kernel_rfl) (by kernel_rfl) (fun _ _ _ h => h) (Or.inr ⟨by rfl, rfl⟩) (by assumption) ?_) | (refine wpAnyH_take (i := 7) (v := ?_) rfl (by kernel_rfl) (by kernel_rfl) (by kernel_rfl) (fun _ _ _ h => h) (Or.inl ⟨by rfl, ?_⟩) (by assumption) ?_; rotate_left 1; (focus (intro w hSw; (try dsimp only at hSw); go_simp; (try with_reducible rfl); done)))) <;> (try simp only [Act.put, List.getElem_toArray, List.getElem_cons_succ, List.getElem_cons_zero, List.setIfInBounds_toArray, List.set_cons_zero, List.set_cons_succ])
  (first | (refine wpAnyH_take (i := 8) rfl (by kernel_rfl) (by kernel_rfl) (by kernel_rfl) (fun _ _ _ h => h) (Or.inr ⟨by rfl, rfl⟩) (by assumption) ?_) | (refine wpAnyH_take (i := 8) (v := ?_) rfl (by kernel_rfl) (by kernel_rfl) (by kernel_rfl) (fun _ _ _ h => h) (Or.inl ⟨by rfl, ?_⟩) (by assumption) ?_; rotate_left 1; (focus (intro w hSw; (try dsimp only at hSw); go_simp; (try with_reducible rfl); done)))) <;> (try simp only [Act.put, List.getElem_toArray, List.getElem_cons_succ, List.getElem_cons_zero, List.setIfInBounds_toArray, List.set_cons_zero, List.set_cons_succ])
  (first | (refine wpAnyH_take (i := 9) rfl (by kernel_rfl) (by kernel_rfl) (by kernel_rfl) (fun _ _ _ h => h) (Or.inr ⟨by rfl, rfl⟩) (by assumption) ?_) | (refine wpAnyH_take (i := 9) (v := ?_) rfl (by kernel_rfl) (by kernel_rfl) (by kernel_rfl) (fun _ _ _ h => h) (Or.inl ⟨by rfl, ?_⟩) (by assumption) ?_; rotate_left 1; (focus (intro w hSw; (try dsimp only at hSw); go_simp; (try with_reducible rfl); done)))) <;> (try simp only [Act.put, List.getElem_toArray, List.getElem_cons_succ, List.getElem_cons_zero, List.setIfInBounds_toArray, List.set_cons_zero, List.set_cons_succ])
  (first | (refine wpAnyH_take (i := 10) rfl (by kernel_rfl) (by kernel_rfl) (by kernel_rfl) (fun _ _ _ h => h) (Or.inr ⟨by rfl, rfl⟩) (by assumption) ?_) | (refine wpAnyH_take (i := 10) (v := ?_) rfl (by kernel_rfl) (by kernel_rfl) (by kernel_rfl) (fun _ _ _ h => h) (Or.inl ⟨by rfl, ?_⟩) (by assumption) ?_; rotate_left 1; (focus (intro w hSw; (try dsimp only at hSw); go_simp; (try with_reducible rfl); done)))) <;> (try simp only [Act.put, List.getElem_toArray, List.getElem_cons_succ, List.getElem_cons_zero, List.setIfInBounds_toArray, List.set_cons_zero, List.set_cons_succ])
  (first | (refine wpAnyH_take (i := 11) rfl (by kernel_rfl) (by kernel_rfl) (by kernel_rfl) (fun _ _ _ h => h) (Or.inr ⟨by rfl, rfl⟩) (by assumption) ?_) | (refine wpAnyH_take (i := 11) (v := ?_) rfl (by kernel_rfl) (by kernel_rfl) (by kernel_rfl) (fun _ _ _ h => h) (Or.inl ⟨by rfl, ?_⟩) (by assumption) ?_; rotate_left 1; (focus (intro w hSw; (try dsimp only at hSw); go_simp; (try with_reducible rfl); done)))) <;> (try simp only [Act.put, List.getElem_toArray, List.getElem_cons_succ, List.getElem_cons_zero, List.setIfInBounds_toArray, List.set_cons_zero, List.set_cons_succ])
  refine wpAnyH_ready (rs := [12, 16]) (by kernel_rfl) (by simp) ?_
  refine AllReadyH.cons rfl (fun K hK => ?_) (AllReadyH.cons rfl (fun K hK => ?_) AllReadyH.nil)
  · have G := Aside0.mk (HSys.out w1.drew (below_tr HB1.out hHeld.2.2.2.2.2.2.out))
    go_simp
    go_at_call 42; refine G.out.mono ?_; rintro e w2 ⟨rv, rfl, hC, hb2⟩; obtain ⟨A, c, rfl⟩ := Kd.R_slice hC; go_wp2_with fail
    have HB2 := Aside0.mk (below_tr hHeld.2.2.2.2.2.2.out hb2); have HC2 := Aside0.mk hC; clear hb2 hC G
    refine hK.out _ _ (HS.out _ HB2.out) (fun hHeld => ?_)
    clear hK K
    try simp only [Act.put, List.getElem_toArray, List.getElem_cons_succ, List.getElem_cons_zero, List.setIfInBounds_toArray, List.set_cons_zero, List.set_cons_succ]
    (first | (refine wpAnyH_take (i := 13) rfl (by kernel_rfl) (by kernel_rfl) (by kernel_rfl) (fun _ _ _ h => h) (Or.inr ⟨by rfl, rfl⟩) (by assumption) ?_) | (refine wpAnyH_take (i := 13) (v := ?_) rfl (by kernel_rfl) (by kernel_rfl) (by kernel_rfl) (fun _ _ _ h => h) (Or.inl ⟨by rfl, ?_⟩) (by assumption) ?_; rotate_left 1; (focus (intro w hSw; (try dsimp only at hSw); go_simp; (try with_reducible rfl); done)))) <;> (try simp only [Act.put, List.getElem_toArray, List.getElem_cons_succ, List.getElem_cons_zero, List.setIfInBounds_toArray, List.set_cons_zero, List.set_cons_succ])
    (first | (refine wpAnyH_take (i := 14) rfl (by kernel_rfl) (by kernel_rfl) (by kernel_rfl) (fun _ _ _ h => h) (Or.inr ⟨by rfl, rfl⟩) (by assumption) ?_) | (refine wpAnyH_take (i := 14) (v := ?_) rfl (by kernel_rfl) (by kernel_rfl) (by kernel_rfl) (fun _ _ _ h => h) (Or.inl ⟨by rfl, ?_⟩) (by assumption) ?_; rotate_left 1; (focus (intro w hSw; (try dsimp only at hSw); go_simp; (try with_reducible rfl); done)))) <;> (try simp only [Act.put, List.getElem_toArray, List.getElem_cons_succ, List.getElem_cons_zero, List.setIfInBounds_toArray, List.set_cons_zero, List.set_cons_succ])
    (first | (refine wpAnyH_take (i := 15) rfl (by kernel_rfl) (by kernel_rfl) (by kernel_rfl) (fun _ _ _ h => h) (Or.inr ⟨by rfl, rfl⟩) (by assumption) ?_) | (refine wpAnyH_take (i := 15) (v := ?_) rfl (by kernel_rfl) (by kernel_rfl) (by kernel_rfl) (fun _ _ _ h => h) (Or.inl ⟨by rfl, ?_⟩) (by assumption) ?_; rotate_left 1; (focus (intro w hSw; (try dsimp only at hSw); go_simp; (try with_reducible rfl); done)))) <;> (try simp only [Act.put, List.getElem_toArray, List.getElem_cons_succ, List.getElem_cons_zero, List.setIfInBounds_toArray, List.set_cons_zero, List.set_cons_succ])
    refine wpAnyH_ready (rs := [16]) (by kernel_rfl) (by simp) ?_
    refine AllReadyH.cons rfl (fun K hK => ?_) AllReadyH.nil
    go_simp
    refine hK.out _ _ (HS.out _ (HB2.out.alloc HB2.out.size _)) (fun hHeld => ?_)
    clear hK K
    try simp only [Act.put, List.getElem_toArray, List.getElem_cons_succ, List.getElem_cons_zero, List.setIfInBounds_toArray, List.set_cons_zero, List.set_cons_succ]
    refine wpAnyH_ready (rs := [17]) (by kernel_rfl) (by simp) ?_
    refine AllReadyH.cons rfl (fun K hK => ?_) AllReadyH.nil
    go_simp
    refine hK.out _ _ (HS.out _ (HB2.out.alloc HB2.out.size _)) (fun hHeld => ?_)
    clear hK K
    try simp only [Act.put, List.getElem_toArray, List.getElem_cons_succ, List.getElem_cons_zero, List.setIfInBounds_toArray, List.set_cons_zero, List.set_cons_succ]
    (first | (refine wpAnyH_take (i := 18) rfl (by kernel_rfl) (by kernel_rfl) (by kernel_rfl) (fun _ _ _ h => h) (Or.inr ⟨by rfl, rfl⟩) (by assumption) ?_) | (refine wpAnyH_take (i := 18) (v := ?_) rfl (by kernel_rfl) (by kernel_rfl) (by kernel_rfl) (fun _ _ _ h => h) (Or.inl ⟨by rfl, ?_⟩) (by assumption) ?_; rotate_left 1; (focus (intro w hSw; (try dsimp only at hSw); go_simp; (try with_reducible rfl); done)))) <;> (try simp only [Act.put, List.getElem_toArray, List.getElem_cons_succ, List.getElem_cons_zero, List.setIfInBounds_toArray, List.set_cons_zero, List.set_cons_succ])
    refine wpAnyH_done (by kernel_rfl) ?_ _
    have HBs := Aside0.mk (new_blk w2 (.cells #[(.slice P0 m0 q0), (.slice P1 m1 q1), (.slice P2 m2 q2), (.slice P3 m3 q3)] 26))
    have HBw := Aside0.mk (HB2.out.alloc HB2.out.size (.cells #[(.slice P0 m0 q0), (.slice P1 m1 q1), (.slice P2 m2 q2), (.slice P3 m3 q3)] 26))
    have HCw := Aside0.mk (Kd.R_below HC2.out ((Below.refl w2.heap.size w2).alloc (Nat.le_refl _) (.cells #[(.slice P0 m0 q0), (.slice P1 m1 q1), (.slice P2 m2 q2), (.slice P3 m3 q3)] 26)))
    clear hHeld HS HC2
    have hlt := blk_lt HN1.out; have hgl := blk_lt HG0.out
    have hbg : w2.heap.size ≠ g := fun h => by have h1 := HB2.out.size; have h2 := HB1.out.size; omega
    have hbw : w2.heap.size ≠ w.heap.size := fun h => by have h1 := HB2.out.size; omega
    have HXg := Aside0.mk (blk_low HBw.out HG1.out); have HXn := Aside0.mk (blk_low HBw.out HN1.out)
    have HRx := Aside0.mk (Kd.R_below HR.out (below_tr HB1.out HBw.out))
    have HBx := Aside0.mk (HB.out.trans ((below_tr HB1.out HBw.out).mono hB))
    have HBsz := Aside0.mk (Nat.le_trans hB (below_tr HB1.out HBw.out).size)
    obtain ⟨A', c', hAc, hlc, hCC⟩ := Kd.R_reads HCw.out
    injection hAc with h1 h2 h3
    subst h1; subst h3
    have HCC := Aside0.mk hCC
    clear hCC h2 HCw HB2 HSys hlc
    (try simp only [Exit.then])
    generalize w2.alloc (.cells #[(.slice P0 m0 q0), (.slice P1 m1 q1), (.slice P2 m2 q2), (.slice P3 m3 q3)] 26) = W4 at *
    go_wp2_with fail
    refine (vadd_calls g v d1 d2 d3 d4 (.int .i64 t) (.int .i64 kn) xs ys A c B w0 W4 HXg.out HRx.out HCC.out HBsz.out hgB hl HBx.out).mono ?_
    rintro e w5 ⟨rfl, v', hx5, hR5, hb5, hsz5, hkeep⟩
    have hs5 := hkeep _ _ hbg HBs.out (Kd.R_ne HRx.out HBs.out (by decide))
    have hn5 := hkeep _ _ (fun h => by omega) HXn.out (Kd.R_ne HRx.out HXn.out (by decide))
    have x0 := (blk_cell hs5 0).trans rfl; have x1 := (blk_cell hs5 1).trans rfl; have x2 := (blk_cell hs5 2).trans rfl; have x3 := (blk_cell hs5 3).trans rfl
    have y0 := (blk_cell hn5 0).trans rfl; have y1 := (blk_cell hn5 1).trans rfl; have y2 := (blk_cell hn5 2).trans rfl; have y3 := (blk_cell hn5 3).trans rfl
    have yf : ∀ i, w5.frozen? ⟨w.heap.size, i, none⟩ = false := fun i => blk_frozen hn5 i
    have HX5 := Aside0.mk hx5; have HR5 := Aside0.mk hR5; have HB5 := Aside0.mk hb5; have HN5 := Aside0.mk hn5
    have hgw : g ≠ w.heap.size := by omega
    clear hx5 hR5 hb5 hn5 hs5 hkeep hsz5 hbg hbw hlt hgl
    go_wp2
    have hf := blk_put4 HN5.out (.slice P0 m0 q0) (.slice P1 m1 q1) (.slice P2 m2 q2) (.slice P3 m3 q3)
    have u0 := (blk_cell hf 0).trans rfl; have u1 := (blk_cell hf 1).trans rfl; have u2 := (blk_cell hf 2).trans rfl; have u3 := (blk_cell hf 3).trans rfl
    exact bodyPost_ret (v := .agg #[(.slice P0 m0 q0), (.slice P1 m1 q1), (.slice P2 m2 q2), (.slice P3 m3 q3)]) (by simp [results, Tryz.f34, go_sem, u0, u1, u2, u3]) rfl ⟨rfl, v', (far_put4 hgw _ _ _ _).trans HX5.out, R_put4 HR5.out HN5.out (by decide) _ _ _ _, below_put4 HB5.out hB _ _ _ _⟩
  · go_simp
    refine hK.out _ _ (HS.out _ (below_tr hHeld.2.2.2.2.2.2.out ((Below.refl _ _).alloc (Nat.le_refl _) _))) (fun hHeld => ?_)
    clear hK K
    try simp only [Act.put, List.getElem_toArray, List.getElem_cons_succ, List.getElem_cons_zero, List.setIfInBounds_toArray, List.set_cons_zero, List.set_cons_succ]
    have G := Aside0.mk (HSys.out _ (below_tr HB1.out hHeld.2.2.2.2.2.2.out))
    have HNb := Aside0.mk (show (w1.alloc (.cells #[.slice none 0 0, .slice none 0 0, .slice none 0 0, .slice none 0 0] 26)).drew.heap[w1.heap.size]? = some (.cells #[.slice none 0 0, .slice none 0 0, .slice none 0 0, .slice none 0 0] 26 (0, 0)) from new_blk w1 _)
    refine wpAnyH_ready (rs := [12]) (by kernel_rfl) (by simp) ?_
    refine AllReadyH.cons rfl (fun K hK => ?_) AllReadyH.nil
    go_simp
    go_at_call 42; refine G.out.mono ?_; rintro e w2 ⟨rv, rfl, hC, hb2⟩; obtain ⟨A, c, rfl⟩ := Kd.R_slice hC; go_wp2_with fail
    have HB2 := Aside0.mk (below_tr hHeld.2.2.2.2.2.2.out hb2); have HC2 := Aside0.mk hC; have HN2 := Aside0.mk (blk_low hb2 HNb.out); clear hb2 hC G HNb
    refine hK.out _ _ (HS.out _ HB2.out) (fun hHeld => ?_)
    clear hK K
    try simp only [Act.put, List.getElem_toArray, List.getElem_cons_succ, List.getElem_cons_zero, List.setIfInBounds_toArray, List.set_cons_zero, List.set_cons_succ]
    (first | (refine wpAnyH_take (i := 13) rfl (by kernel_rfl) (by kernel_rfl) (by kernel_rfl) (fun _ _ _ h => h) (Or.inr ⟨by rfl, rfl⟩) (by assumption) ?_) | (refine wpAnyH_take (i := 13) (v := ?_) rfl (by kernel_rfl) (by kernel_rfl) (by kernel_rfl) (fun _ _ _ h => h) (Or.inl ⟨by rfl, ?_⟩) (by assumption) ?_; rotate_left 1; (focus (intro w hSw; (try dsimp only at hSw); go_simp; (try with_reducible rfl); done)))) <;> (try simp only [Act.put, List.getElem_toArray, List.getElem_cons_succ, List.getElem_cons_zero, List.setIfInBounds_toArray, List.set_cons_zero, List.set_cons_succ])
    (first | (refine wpAnyH_take (i := 14) rfl (by kernel_rfl) (by kernel_rfl) (by kernel_rfl) (fun _ _ _ h => h) (Or.inr ⟨by rfl, rfl⟩) (by assumption) ?_) | (refine wpAnyH_take (i := 14) (v := ?_) rfl (by kernel_rfl) (by kernel_rfl) (by kernel_rfl) (fun _ _ _ h => h) (Or.inl ⟨by rfl, ?_⟩) (by assumption) ?_; rotate_left 1; (focus (intro w hSw; (try dsimp only at hSw); go_simp; (try with_reducible rfl); done)))) <;> (try simp only [Act.put, List.getElem_toArray, List.getElem_cons_succ, List.getElem_cons_zero, List.setIfInBounds_toArray, List.set_cons_zero, List.set_cons_succ])
    (first | (refine wpAnyH_take (i := 15) rfl (by kernel_rfl) (by kernel_rfl) (by kernel_rfl) (fun _ _ _ h => h) (Or.inr ⟨by rfl, rfl⟩) (by assumption) ?_) | (refine wpAnyH_take (i := 15) (v := ?_) rfl (by kernel_rfl) (by kernel_rfl) (by kernel_rfl) (fun _ _ _ h => h) (Or.inl ⟨by rfl, ?_⟩) (by assumption) ?_; rotate_left 1; (focus (intro w hSw; (try dsimp only at hSw); go_simp; (try with_reducible rfl); done)))) <;> (try simp only [Act.put, List.getElem_toArray, List.getElem_cons_succ, List.getElem_cons_zero, List.setIfInBounds_toArray, List.set_cons_zero, List.set_cons_succ])
    have z0 := (blk_cell HN2.out 0).trans rfl; have z1 := (blk_cell HN2.out 1).trans rfl; have z2 := (blk_cell HN2.out 2).trans rfl; have z3 := (blk_cell HN2.out 3).trans rfl
    have bf : ∀ i, w2.frozen? ⟨w1.heap.size, i, none⟩ = false := fun i => blk_frozen HN2.out i
    refine wpAnyH_ready (rs := [17]) (by kernel_rfl) (by simp) ?_
    refine AllReadyH.cons rfl (fun K hK => ?_) AllReadyH.nil
    go_simp
    have HB4 := Aside0.mk (below_put4 HB2.out (Nat.le_refl _) (.slice P0 m0 q0) (.slice P1 m1 q1) (.slice P2 m2 q2) (.slice P3 m3 q3))
    refine hK.out _ _ (HS.out _ HB4.out) (fun hHeld => ?_)
    clear hK K
    try simp only [Act.put, List.getElem_toArray, List.getElem_cons_succ, List.getElem_cons_zero, List.setIfInBounds_toArray, List.set_cons_zero, List.set_cons_succ]
    (first | (refine wpAnyH_take (i := 18) rfl (by kernel_rfl) (by kernel_rfl) (by kernel_rfl) (fun _ _ _ h => h) (Or.inr ⟨by rfl, rfl⟩) (by assumption) ?_) | (refine wpAnyH_take (i := 18) (v := ?_) rfl (by kernel_rfl) (by kernel_rfl) (by kernel_rfl) (fun _ _ _ h => h) (Or.inl ⟨by rfl, ?_⟩) (by assumption) ?_; rotate_left 1; (focus (intro w hSw; (try dsimp only at hSw); go_simp; (try with_reducible rfl); done)))) <;> (try simp only [Act.put, List.getElem_toArray, List.getElem_cons_succ, List.getElem_cons_zero, List.setIfInBounds_toArray, List.set_cons_zero, List.set_cons_succ])
    refine wpAnyH_done (by kernel_rfl) ?_ _
    have HBs := Aside0.mk (blk_put4 HN2.out (.slice P0 m0 q0) (.slice P1 m1 q1) (.slice P2 m2 q2) (.slice P3 m3 q3))
    have HCw := Aside0.mk (R_put4 HC2.out HN2.out (by decide) (.slice P0 m0 q0) (.slice P1 m1 q1) (.slice P2 m2 q2) (.slice P3 m3 q3))
    have HBw := HB4
    clear hHeld HS HC2
    have hlt := blk_lt HN1.out; have hgl := blk_lt HG0.out
    have hbg : w1.heap.size ≠ g := fun h => by have h1 := HB1.out.size; have h2 := HB1.out.size; omega
    have hbw : w1.heap.size ≠ w.heap.size := fun h => by have h1 := HB1.out.size; omega
    have HXg := Aside0.mk (blk_low HBw.out HG1.out); have HXn := Aside0.mk (blk_low HBw.out HN1.out)
    have HRx := Aside0.mk (Kd.R_below HR.out (below_tr HB1.out HBw.out))
    have HBx := Aside0.mk (HB.out.trans ((below_tr HB1.out HBw.out).mono hB))
    have HBsz := Aside0.mk (Nat.le_trans hB (below_tr HB1.out HBw.out).size)
    obtain ⟨A', c', hAc, hlc, hCC⟩ := Kd.R_reads HCw.out
    injection hAc with h1 h2 h3
    subst h1; subst h3
    have HCC := Aside0.mk hCC
    clear hCC h2 HCw HB2 HSys hlc
    (try simp only [Exit.then])
    generalize ((((w2.setCell ⟨w1.heap.size, 0, none⟩ (.slice P0 m0 q0)).setCell ⟨w1.heap.size, 1, none⟩ (.slice P1 m1 q1)).setCell ⟨w1.heap.size, 2, none⟩ (.slice P2 m2 q2)).setCell ⟨w1.heap.size, 3, none⟩ (.slice P3 m3 q3)) = W4 at *
    go_wp2_with fail
    refine (vadd_calls g v d1 d2 d3 d4 (.int .i64 t) (.int .i64 kn) xs ys A c B w0 W4 HXg.out HRx.out HCC.out HBsz.out hgB hl HBx.out).mono ?_
    rintro e w5 ⟨rfl, v', hx5, hR5, hb5, hsz5, hkeep⟩
    have hs5 := hkeep _ _ hbg HBs.out (Kd.R_ne HRx.out HBs.out (by decide))
    have hn5 := hkeep _ _ (fun h => by omega) HXn.out (Kd.R_ne HRx.out HXn.out (by decide))
    have x0 := (blk_cell hs5 0).trans rfl; have x1 := (blk_cell hs5 1).trans rfl; have x2 := (blk_cell hs5 2).trans rfl; have x3 := (blk_cell hs5 3).trans rfl
    have y0 := (blk_cell hn5 0).trans rfl; have y1 := (blk_cell hn5 1).trans rfl; have y2 := (blk_cell hn5 2).trans rfl; have y3 := (blk_cell hn5 3).trans rfl
    have yf : ∀ i, w5.frozen? ⟨w.heap.size, i, none⟩ = false := fun i => blk_frozen hn5 i
    have HX5 := Aside0.mk hx5; have HR5 := Aside0.mk hR5; have HB5 := Aside0.mk hb5; have HN5 := Aside0.mk hn5
    have hgw : g ≠ w.heap.size := by omega
    clear hx5 hR5 hb5 hn5 hs5 hkeep hsz5 hbg hbw hlt hgl
    go_wp2
    have hf := blk_put4 HN5.out (.slice P0 m0 q0) (.slice P1 m1 q1) (.slice P2 m2 q2) (.slice P3 m3 q3)
    have u0 := (blk_cell hf 0).trans rfl; have u1 := (blk_cell hf 1).trans rfl; have u2 := (blk_cell hf 2).trans rfl; have u3 := (blk_cell hf 3).trans rfl
    exact bodyPost_ret (v := .agg #[(.slice P0 m0 q0), (.slice P1 m1 q1), (.slice P2 m2 q2), (.slice P3 m3 q3)]) (by simp [results, Tryz.f34, go_sem, u0, u1, u2, u3]) rfl ⟨rfl, v', (far_put4 hgw _ _ _ _).trans HX5.out, R_put4 HR5.out HN5.out (by decide) _ _ _ _, below_put4 HB5.out hB _ _ _ _⟩
end Go.Proofs.YtdnmoppegncioaaGreatDoor
