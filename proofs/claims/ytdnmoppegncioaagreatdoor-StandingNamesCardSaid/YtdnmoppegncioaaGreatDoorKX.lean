/- (*standing.view).counted, over any contracts of record.Of and record.Counted that succeed. (Printed by gen_kx.py.) -/
import Derived.Test.YtdnmoppegncioaaGreatDoorKV
namespace Go.Proofs.YtdnmoppegncioaaGreatDoor
open Go.RowKit Go.Proofs.YtdnmoppegncioaaGreatDoorW.PrintWords
set_option linter.unusedVariables false
set_option linter.unusedSimpArgs false
/-- min(n, MaxEarn). -/
def capE (n : Int) : Int := if 10000 < n then 10000 else n
theorem capE_hi {n : Int} (h : 10000 < n) : capE n = 10000 := if_pos h
theorem capE_lo {n : Int} (h : ¬ 10000 < n) : capE n = n := if_neg h
theorem R_put2 {α : Type} {d : Kd α} {e : Nat} {w : World} {base : Nat} {ok : Nat → Prop} {v : Value} {xs : List α} (h : d.R e w base ok v xs) {g t : Nat} {a0 a1 : Value} (hb : w.heap[g]? = some (.cells #[a0, a1] t (0, 0))) (ht : ∀ q, q ∈ e :: d.E → q ≠ t) (v0 v1 : Value) : d.R e ((w.setCell ⟨g, 0, none⟩ v0).setCell ⟨g, 1, none⟩ v1) base ok v xs :=
  Kd.R_set (Kd.R_set h hb ht 0 v0) (blk_put (cs' := #[v0, a1]) hb 0 v0 rfl) ht 1 v1
theorem far_put2 {w : World} {g k : Nat} (hne : k ≠ g) (v0 v1 : Value) : ((w.setCell ⟨g, 0, none⟩ v0).setCell ⟨g, 1, none⟩ v1).heap[k]? = w.heap[k]? := by
  rw [Below.heap_setCell _ _ _ _ hne, Below.heap_setCell _ _ _ _ hne]
theorem R_kept {α : Type} {d : Kd α} {e : Nat} {w w' : World} {base B g : Nat} {ok okv : Nat → Prop} {u v a b c d' e' f' h' : Value} {ys : List α} {xs : List S119} (h : d.R e w base ok u ys) (hg : w.heap[g]? = some (viewO a b c d' e' f' h')) (hv : k119.R 119 w B okv v xs) (ht : ∀ q, q ∈ e :: d.E → q ≠ 75) (hr : ∀ q, q ∈ e :: d.E → q ≠ 119) (hkeep : ∀ (k : Nat) (o : Obj), k ≠ g → w.heap[k]? = some o → some k ≠ v.ownBlock → w'.heap[k]? = some o) : d.R e w' base ok u ys :=
  Kd.R_mono (Kd.R_move (Kd.R_bound h) (fun k hk => by
    obtain ⟨_, _, _, q, hq, cells, hc⟩ := hk
    refine (hkeep k _ (fun he => ?_) hc (fun he => ?_)).trans hc.symm
    · subst he; rw [hc] at hg; injection hg with hg; injection hg with _ hg; exact ht q hq hg
    · obtain ⟨cells', hc'⟩ := Kd.R_typed hv k he.symm
      rw [hc] at hc'; injection hc' with hc'; injection hc' with _ hc'; exact hr q hq hc')) (fun k hk => hk.1)
set_option maxRecDepth 100000 in
set_option maxHeartbeats 16000000 in
theorem vcounted_calls (g : Nat) (v d1 d2 d3 d4 : Value) (st t kn : Int) (la lc : List S141) (xs ra rc : List S119) (B : Nat) (w0 w : World)
    (hof : ∀ V, Below B w0 V → Calls Tryz.prog 44 #[.agg #[d1, d2, d3, d4], .int .i64 st, .int .i64 t, .int .i64 kn] V fun e w' => ∃ av rv, e = .returned (.tuple #[.agg #[.int .i64 st, av], rv, .int .i64 0]) ∧ k141.R 141 w' V.heap.size (fun _ => True) av la ∧ k119.R 119 w' V.heap.size (fun _ => True) rv ra ∧ Below V.heap.size V w')
    (hct : ∀ V A c, Below B w0 V → k141.C V A la.length la → Calls Tryz.prog 45 #[.agg #[d1, d2, d3, d4], .agg #[.int .i64 st, .slice A la.length c], .int .i64 t, .int .i64 kn] V fun e w' => ∃ lv rv, e = .returned (.tuple #[lv, rv, .int .i64 0]) ∧ k141.R 141 w' V.heap.size (fun _ => True) lv lc ∧ k119.R 119 w' V.heap.size (fun _ => True) rv rc ∧ Below V.heap.size V w')
    (hac : aCheck lc = 0) (hme : meanE lc = 0) (hlc : lc.length ≤ 10000000000000000)
    (hg : w.heap[g]? = some (viewO v d1 d2 d3 d4 (.int .i64 t) (.int .i64 kn))) (hR : k119.R 119 w B (fun _ => True) v xs) (hB : B ≤ w.heap.size) (hgB : B ≤ g) (hl : (xs.length + ra.length + rc.length) * 40 ≤ 140737488355328) (hb : Below B w0 w) :
    Calls Tryz.prog 35 #[.pointer (some ⟨g, 0, none⟩), .int .i64 st] w fun e w' => e = .returned (.tuple #[.int .i64 (capE (earnS lc)), .agg #[.int .i64 (meanA lc), .int .i64 (meanB lc)], .int .i64 0]) ∧ ∃ v', w'.heap[g]? = some (viewO v' d1 d2 d3 d4 (.int .i64 t) (.int .i64 kn)) ∧ k119.R 119 w' B (fun _ => True) v' (xs ++ (ra ++ rc)) ∧ Below B w0 w' ∧ KeepT w w' := by
  have HOf := Aside0.mk hof; have HCt := Aside0.mk hct; clear hof hct
  have b1 := (Below.refl w.heap.size w).alloc (Nat.le_refl _) (.cells #[.int .i64 0, .int .i64 0] 28)
  have nb1 := new_blk w (.cells #[.int .i64 0, .int .i64 0] 28)
  generalize hw1 : w.alloc (.cells #[.int .i64 0, .int .i64 0] 28) = w1 at b1 nb1
  have hg1 := blk_low b1 hg
  have HG0 := Aside0.mk hg; have HG1 := Aside0.mk hg1; have HB1 := Aside0.mk b1; have HN1 := Aside0.mk nb1; have HR := Aside0.mk hR; have HB := Aside0.mk hb
  have HS := Aside0.mk (fun W (h : Below w1.heap.size w1 W) => (⟨cell_low h ((blk_cell hg1 1).trans rfl), cell_low h ((blk_cell hg1 2).trans rfl), cell_low h ((blk_cell hg1 3).trans rfl), cell_low h ((blk_cell hg1 4).trans rfl), cell_low h ((blk_cell hg1 5).trans rfl), cell_low h ((blk_cell hg1 6).trans rfl), ⟨h⟩⟩ : W.cell? ⟨g, 1, none⟩ = some d1 ∧ W.cell? ⟨g, 2, none⟩ = some d2 ∧ W.cell? ⟨g, 3, none⟩ = some d3 ∧ W.cell? ⟨g, 4, none⟩ = some d4 ∧ W.cell? ⟨g, 5, none⟩ = some (.int .i64 t) ∧ W.cell? ⟨g, 6, none⟩ = some (.int .i64 kn) ∧ Aside0 (Below w1.heap.size w1 W)))
  clear hg hg1 b1 nb1 hR hb
  go_enter Tryz.func35, Tryz.ntmps35
  go_wp2_with fail
  (try rw [hw1]); clear hw1
  refine wp_region_held_drew (S := (fun W => W.cell? ⟨g, 1, none⟩ = some d1 ∧ W.cell? ⟨g, 2, none⟩ = some d2 ∧ W.cell? ⟨g, 3, none⟩ = some d3 ∧ W.cell? ⟨g, 4, none⟩ = some d4 ∧ W.cell? ⟨g, 5, none⟩ = some (.int .i64 t) ∧ W.cell? ⟨g, 6, none⟩ = some (.int .i64 kn) ∧ Aside0 (Below w1.heap.size w1 W))) (by kernel_rfl) (HS.out _ (below_drew (Below.refl _ _))) (fun hHeld => ?_)
  (first | (refine wpAnyH_take (i := 0) rfl (by kernel_rfl) (by kernel_rfl) (by kernel_rfl) (fun _ _ _ h => h) (Or.inr ⟨by rfl, rfl⟩) (by assumption) ?_) | (refine wpAnyH_take (i := 0) (v := ?_) rfl (by kernel_rfl) (by kernel_rfl) (by kernel_rfl) (fun _ _ _ h => h) (Or.inl ⟨by rfl, ?_⟩) (by assumption) ?_; rotate_left 1; (focus (intro w hSw; (try dsimp only at hSw); go_simp; (try with_reducible rfl); done)))) <;> (try simp only [Act.put, List.getElem_toArray, List.getElem_cons_succ, List.getElem_cons_zero, List.setIfInBounds_toArray, List.set_cons_zero, List.set_cons_succ])
  (first | (refine wpAnyH_take (i := 1) rfl (by kernel_rfl) (by kernel_rfl) (by kernel_rfl) (fun _ _ _ h => h) (Or.inr ⟨by rfl, rfl⟩) (by assumption) ?_) | (refine wpAnyH_take (i := 1) (v := ?_) rfl (by kernel_rfl) (by kernel_rfl) (by kernel_rfl) (fun _ _ _ h => h) (Or.inl ⟨by rfl, ?_⟩) (by assumption) ?_; rotate_left 1; (focus (intro w hSw; (try dsimp only at hSw); go_simp; (try with_reducible rfl); done)))) <;> (try simp only [Act.put, List.getElem_toArray, List.getElem_cons_succ, List.getElem_cons_zero, List.setIfInBounds_toArray, List.set_cons_zero, List.set_cons_succ])
  (first | (refine wpAnyH_take (i := 2) rfl (by kernel_rfl) (by kernel_rfl) (by kernel_rfl) (fun _ _ _ h => h) (Or.inr ⟨by rfl, rfl⟩) (by assumption) ?_) | (refine wpAnyH_take (i := 2) (v := ?_) rfl (by kernel_rfl) (by kernel_rfl) (by kernel_rfl) (fun _ _ _ h => h) (Or.inl ⟨by rfl, ?_⟩) (by assumption) ?_; rotate_left 1; (focus (intro w hSw; (try dsimp only at hSw); go_simp; (try with_reducible rfl); done)))) <;> (try simp only [Act.put, List.getElem_toArray, List.getElem_cons_succ, List.getElem_cons_zero, List.setIfInBounds_toArray, List.set_cons_zero, List.set_cons_succ])
  (first | (refine wpAnyH_take (i := 3) rfl (by kernel_rfl) (by kernel_rfl) (by kernel_rfl) (fun _ _ _ h => h) (Or.inr ⟨by rfl, rfl⟩) (by assumption) ?_) | (refine wpAnyH_take (i := 3) (v := ?_) rfl (by kernel_rfl) (by kernel_rfl) (by kernel_rfl) (fun _ _ _ h => h) (Or.inl ⟨by rfl, ?_⟩) (by assumption) ?_; rotate_left 1; (focus (intro w hSw; (try dsimp only at hSw); go_simp; (try with_reducible rfl); done)))) <;> (try simp only [Act.put, List.getElem_toArray, List.getElem_cons_succ, List.getElem_cons_zero, List.setIfInBounds_toArray, List.set_cons_zero, List.set_cons_succ])
  (first | (refine wpAnyH_take (i := 4) rfl (by kernel_rfl) (by kernel_rfl) (by kernel_rfl) (fun _ _ _ h => h) (Or.inr ⟨by rfl, rfl⟩) (by assumption) ?_) | (refine wpAnyH_take (i := 4) (v := ?_) rfl (by kernel_rfl) (by kernel_rfl) (by kernel_rfl) (fun _ _ _ h => h) (Or.inl ⟨by rfl, ?_⟩) (by assumption) ?_; rotate_left 1; (focus (intro w hSw; (try dsimp only at hSw); go_simp; (try with_reducible rfl); done)))) <;> (try simp only [Act.put, List.getElem_toArray, List.getElem_cons_succ, List.getElem_cons_zero, List.setIfInBounds_toArray, List.set_cons_zero, List.set_cons_succ])
  (first | (refine wpAnyH_take (i := 5) rfl (by kernel_rfl) (by kernel_rfl) (by kernel_rfl) (fun _ _ _ h => h) (Or.inr ⟨by rfl, rfl⟩) (by assumption) ?_) | (refine wpAnyH_take (i := 5) (v := ?_) rfl (by kernel_rfl) (by kernel_rfl) (by kernel_rfl) (fun _ _ _ h => h) (Or.inl ⟨by rfl, ?_⟩) (by assumption) ?_; rotate_left 1; (focus (intro w hSw; (try dsimp only at hSw); go_simp; (try with_reducible rfl); done)))) <;> (try simp only [Act.put, List.getElem_toArray, List.getElem_cons_succ, List.getElem_cons_zero, List.setIfInBounds_toArray, List.set_cons_zero, List.set_cons_succ])
  (first | (refine wpAnyH_take (i := 6) rfl (by kernel_rfl) (by kernel_rfl) (by kernel_rfl) (fun _ _ _ h => h) (Or.inr ⟨by rfl, rfl⟩) (by assumption) ?_) | (refine wpAnyH_take (i := 6) (v := ?_) rfl (by kernel_rfl) (by kernel_rfl) (by kernel_rfl) (fun _ _ _ h => h) (Or.inl ⟨by rfl, ?_⟩) (by assumption) ?_; rotate_left 1; (focus (intro w hSw; (try dsimp only at hSw); go_simp; (try with_reducible rfl); done)))) <;> (try simp only [Act.put, List.getElem_toArray, List.getElem_cons_succ, List.getElem_cons_zero, List.setIfInBounds_toArray, List.set_cons_zero, List.set_cons_succ])
  (first | (refine wpAnyH_take (i := 7) rfl (by kernel_rfl) (by kernel_rfl) (by kernel_rfl) (fun _ _ _ h => h) (Or.inr ⟨by rfl, rfl⟩) (by assumption) ?_) | (refine wpAnyH_take (i := 7) (v := ?_) rfl (by kernel_rfl) (by kernel_rfl) (by kernel_rfl) (fun _ _ _ h => h) (Or.inl ⟨by rfl, ?_⟩) (by assumption) ?_; rotate_left 1; (focus (intro w hSw; (try dsimp only at hSw); go_simp; (try with_reducible rfl); done)))) <;> (try simp only [Act.put, List.getElem_toArray, List.getElem_cons_succ, List.getElem_cons_zero, List.setIfInBounds_toArray, List.set_cons_zero, List.set_cons_succ])
  (first | (refine wpAnyH_take (i := 8) rfl (by kernel_rfl) (by kernel_rfl) (by kernel_rfl) (fun _ _ _ h => h) (Or.inr ⟨by rfl, rfl⟩) (by assumption) ?_) | (refine wpAnyH_take (i := 8) (v := ?_) rfl (by kernel_rfl) (by kernel_rfl) (by kernel_rfl) (fun _ _ _ h => h) (Or.inl ⟨by rfl, ?_⟩) (by assumption) ?_; rotate_left 1; (focus (intro w hSw; (try dsimp only at hSw); go_simp; (try with_reducible rfl); done)))) <;> (try simp only [Act.put, List.getElem_toArray, List.getElem_cons_succ, List.getElem_cons_zero, List.setIfInBounds_toArray, List.set_cons_zero, List.set_cons_succ])
  (first | (refine wpAnyH_take (i := 9) rfl (by kernel_rfl) (by kernel_rfl) (by kernel_rfl) (fun _ _ _ h => h) (Or.inr ⟨by rfl, rfl⟩) (by assumption) ?_) | (refine wpAnyH_take (i := 9) (v := ?_) rfl (by kernel_rfl) (by kernel_rfl) (by kernel_rfl) (fun _ _ _ h => h) (Or.inl ⟨by rfl, ?_⟩) (by assumption) ?_; rotate_left 1; (focus (intro w hSw; (try dsimp only at hSw); go_simp; (try with_reducible rfl); done)))) <;> (try simp only [Act.put, List.getElem_toArray, List.getElem_cons_succ, List.getElem_cons_zero, List.setIfInBounds_toArray, List.set_cons_zero, List.set_cons_succ])
  (first | (refine wpAnyH_take (i := 10) rfl (by kernel_rfl) (by kernel_rfl) (by kernel_rfl) (fun _ _ _ h => h) (Or.inr ⟨by rfl, rfl⟩) (by assumption) ?_) | (refine wpAnyH_take (i := 10) (v := ?_) rfl (by kernel_rfl) (by kernel_rfl) (by kernel_rfl) (fun _ _ _ h => h) (Or.inl ⟨by rfl, ?_⟩) (by assumption) ?_; rotate_left 1; (focus (intro w hSw; (try dsimp only at hSw); go_simp; (try with_reducible rfl); done)))) <;> (try simp only [Act.put, List.getElem_toArray, List.getElem_cons_succ, List.getElem_cons_zero, List.setIfInBounds_toArray, List.set_cons_zero, List.set_cons_succ])
  (first | (refine wpAnyH_take (i := 11) rfl (by kernel_rfl) (by kernel_rfl) (by kernel_rfl) (fun _ _ _ h => h) (Or.inr ⟨by rfl, rfl⟩) (by assumption) ?_) | (refine wpAnyH_take (i := 11) (v := ?_) rfl (by kernel_rfl) (by kernel_rfl) (by kernel_rfl) (fun _ _ _ h => h) (Or.inl ⟨by rfl, ?_⟩) (by assumption) ?_; rotate_left 1; (focus (intro w hSw; (try dsimp only at hSw); go_simp; (try with_reducible rfl); done)))) <;> (try simp only [Act.put, List.getElem_toArray, List.getElem_cons_succ, List.getElem_cons_zero, List.setIfInBounds_toArray, List.set_cons_zero, List.set_cons_succ])
  (first | (refine wpAnyH_take (i := 12) rfl (by kernel_rfl) (by kernel_rfl) (by kernel_rfl) (fun _ _ _ h => h) (Or.inr ⟨by rfl, rfl⟩) (by assumption) ?_) | (refine wpAnyH_take (i := 12) (v := ?_) rfl (by kernel_rfl) (by kernel_rfl) (by kernel_rfl) (fun _ _ _ h => h) (Or.inl ⟨by rfl, ?_⟩) (by assumption) ?_; rotate_left 1; (focus (intro w hSw; (try dsimp only at hSw); go_simp; (try with_reducible rfl); done)))) <;> (try simp only [Act.put, List.getElem_toArray, List.getElem_cons_succ, List.getElem_cons_zero, List.setIfInBounds_toArray, List.set_cons_zero, List.set_cons_succ])
  refine wpAnyH_ready (rs := [13, 18]) (by kernel_rfl) (by simp) ?_
  refine AllReadyH.cons rfl (fun K hK => ?_) (AllReadyH.cons rfl (fun K hK => ?_) AllReadyH.nil)
  · have G := Aside0.mk (HOf.out w1.drew (HB.out.trans ((below_tr HB1.out hHeld.2.2.2.2.2.2.out).mono hB)))
    go_simp
    go_at_call 44; refine G.out.mono ?_; rintro e w2 ⟨av, rv, rfl, hA2, hR2, hb2⟩; obtain ⟨A, c, rfl⟩ := Kd.R_slice hA2; obtain ⟨A', c', rfl⟩ := Kd.R_slice hR2; go_wp2_with fail
    have HB2 := Aside0.mk (below_tr hHeld.2.2.2.2.2.2.out hb2); have HA2 := Aside0.mk hA2; have HR2 := Aside0.mk hR2
    clear hb2 hA2 hR2 G
    refine hK.out _ _ (HS.out _ HB2.out) (fun hHeld => ?_)
    clear hK K
    try simp only [Act.put, List.getElem_toArray, List.getElem_cons_succ, List.getElem_cons_zero, List.setIfInBounds_toArray, List.set_cons_zero, List.set_cons_succ]
    (first | (refine wpAnyH_take (i := 14) rfl (by kernel_rfl) (by kernel_rfl) (by kernel_rfl) (fun _ _ _ h => h) (Or.inr ⟨by rfl, rfl⟩) (by assumption) ?_) | (refine wpAnyH_take (i := 14) (v := ?_) rfl (by kernel_rfl) (by kernel_rfl) (by kernel_rfl) (fun _ _ _ h => h) (Or.inl ⟨by rfl, ?_⟩) (by assumption) ?_; rotate_left 1; (focus (intro w hSw; (try dsimp only at hSw); go_simp; (try with_reducible rfl); done)))) <;> (try simp only [Act.put, List.getElem_toArray, List.getElem_cons_succ, List.getElem_cons_zero, List.setIfInBounds_toArray, List.set_cons_zero, List.set_cons_succ])
    (first | (refine wpAnyH_take (i := 15) rfl (by kernel_rfl) (by kernel_rfl) (by kernel_rfl) (fun _ _ _ h => h) (Or.inr ⟨by rfl, rfl⟩) (by assumption) ?_) | (refine wpAnyH_take (i := 15) (v := ?_) rfl (by kernel_rfl) (by kernel_rfl) (by kernel_rfl) (fun _ _ _ h => h) (Or.inl ⟨by rfl, ?_⟩) (by assumption) ?_; rotate_left 1; (focus (intro w hSw; (try dsimp only at hSw); go_simp; (try with_reducible rfl); done)))) <;> (try simp only [Act.put, List.getElem_toArray, List.getElem_cons_succ, List.getElem_cons_zero, List.setIfInBounds_toArray, List.set_cons_zero, List.set_cons_succ])
    (first | (refine wpAnyH_take (i := 16) rfl (by kernel_rfl) (by kernel_rfl) (by kernel_rfl) (fun _ _ _ h => h) (Or.inr ⟨by rfl, rfl⟩) (by assumption) ?_) | (refine wpAnyH_take (i := 16) (v := ?_) rfl (by kernel_rfl) (by kernel_rfl) (by kernel_rfl) (fun _ _ _ h => h) (Or.inl ⟨by rfl, ?_⟩) (by assumption) ?_; rotate_left 1; (focus (intro w hSw; (try dsimp only at hSw); go_simp; (try with_reducible rfl); done)))) <;> (try simp only [Act.put, List.getElem_toArray, List.getElem_cons_succ, List.getElem_cons_zero, List.setIfInBounds_toArray, List.set_cons_zero, List.set_cons_succ])
    (first | (refine wpAnyH_take (i := 17) rfl (by kernel_rfl) (by kernel_rfl) (by kernel_rfl) (fun _ _ _ h => h) (Or.inr ⟨by rfl, rfl⟩) (by assumption) ?_) | (refine wpAnyH_take (i := 17) (v := ?_) rfl (by kernel_rfl) (by kernel_rfl) (by kernel_rfl) (fun _ _ _ h => h) (Or.inl ⟨by rfl, ?_⟩) (by assumption) ?_; rotate_left 1; (focus (intro w hSw; (try dsimp only at hSw); go_simp; (try with_reducible rfl); done)))) <;> (try simp only [Act.put, List.getElem_toArray, List.getElem_cons_succ, List.getElem_cons_zero, List.setIfInBounds_toArray, List.set_cons_zero, List.set_cons_succ])
    refine wpAnyH_ready (rs := [18]) (by kernel_rfl) (by simp) ?_
    refine AllReadyH.cons rfl (fun K hK => ?_) AllReadyH.nil
    go_simp
    refine hK.out _ _ (HS.out _ (HB2.out.alloc HB2.out.size _)) (fun hHeld => ?_)
    clear hK K
    try simp only [Act.put, List.getElem_toArray, List.getElem_cons_succ, List.getElem_cons_zero, List.setIfInBounds_toArray, List.set_cons_zero, List.set_cons_succ]
    refine wpAnyH_ready (rs := [19]) (by kernel_rfl) (by simp) ?_
    refine AllReadyH.cons rfl (fun K hK => ?_) AllReadyH.nil
    go_simp
    refine hK.out _ _ (HS.out _ (HB2.out.alloc HB2.out.size _)) (fun hHeld => ?_)
    clear hK K
    try simp only [Act.put, List.getElem_toArray, List.getElem_cons_succ, List.getElem_cons_zero, List.setIfInBounds_toArray, List.set_cons_zero, List.set_cons_succ]
    (first | (refine wpAnyH_take (i := 20) rfl (by kernel_rfl) (by kernel_rfl) (by kernel_rfl) (fun _ _ _ h => h) (Or.inr ⟨by rfl, rfl⟩) (by assumption) ?_) | (refine wpAnyH_take (i := 20) (v := ?_) rfl (by kernel_rfl) (by kernel_rfl) (by kernel_rfl) (fun _ _ _ h => h) (Or.inl ⟨by rfl, ?_⟩) (by assumption) ?_; rotate_left 1; (focus (intro w hSw; (try dsimp only at hSw); go_simp; (try with_reducible rfl); done)))) <;> (try simp only [Act.put, List.getElem_toArray, List.getElem_cons_succ, List.getElem_cons_zero, List.setIfInBounds_toArray, List.set_cons_zero, List.set_cons_succ])
    (first | (refine wpAnyH_take (i := 21) rfl (by kernel_rfl) (by kernel_rfl) (by kernel_rfl) (fun _ _ _ h => h) (Or.inr ⟨by rfl, rfl⟩) (by assumption) ?_) | (refine wpAnyH_take (i := 21) (v := ?_) rfl (by kernel_rfl) (by kernel_rfl) (by kernel_rfl) (fun _ _ _ h => h) (Or.inl ⟨by rfl, ?_⟩) (by assumption) ?_; rotate_left 1; (focus (intro w hSw; (try dsimp only at hSw); go_simp; (try with_reducible rfl); done)))) <;> (try simp only [Act.put, List.getElem_toArray, List.getElem_cons_succ, List.getElem_cons_zero, List.setIfInBounds_toArray, List.set_cons_zero, List.set_cons_succ])
    refine wpAnyH_done (by kernel_rfl) ?_ _
    have HBs := Aside0.mk (new_blk w2 (.cells #[.int .i64 st, .slice A la.length c] 88))
    have HBw := Aside0.mk (HB2.out.alloc HB2.out.size (.cells #[.int .i64 st, .slice A la.length c] 88))
    have HAw := Aside0.mk (Kd.R_below HA2.out ((Below.refl w2.heap.size w2).alloc (Nat.le_refl _) (.cells #[.int .i64 st, .slice A la.length c] 88))); have HCw := Aside0.mk (Kd.R_below HR2.out ((Below.refl w2.heap.size w2).alloc (Nat.le_refl _) (.cells #[.int .i64 st, .slice A la.length c] 88)))
    clear hHeld HS HA2 HR2
    have hlt := blk_lt HN1.out; have hgl := blk_lt HG0.out
    have hbg : w2.heap.size ≠ g := fun h => by have h1 := HB2.out.size; have h2 := HB1.out.size; omega
    have hbw : w2.heap.size ≠ w.heap.size := fun h => by have h1 := HB2.out.size; omega
    have HXg := Aside0.mk (blk_low HBw.out HG1.out); have HXn := Aside0.mk (blk_low HBw.out HN1.out)
    have HRx := Aside0.mk (Kd.R_below HR.out (below_tr HB1.out HBw.out))
    have HBx := Aside0.mk (HB.out.trans ((below_tr HB1.out HBw.out).mono hB))
    have HBsz := Aside0.mk (Nat.le_trans hB (below_tr HB1.out HBw.out).size)
    have HK0 := Aside0.mk (KeepT.of_below (below_tr HB1.out HBw.out))
    obtain ⟨A1, c1, hAc, hlc1, hCC⟩ := Kd.R_reads HCw.out
    injection hAc with h1 h2 h3
    subst h1; subst h3
    have HCC := Aside0.mk hCC
    clear hCC h2 HCw HOf hlc1
    (try simp only [Exit.then])
    generalize w2.alloc (.cells #[.int .i64 st, .slice A la.length c] 88) = W4 at *
    clear HB2
    generalize w2.heap.size = bb at *
    go_wp2_with fail
    refine (vadd_calls g v d1 d2 d3 d4 (.int .i64 t) (.int .i64 kn) xs ra A' c' B w0 W4 HXg.out HRx.out HCC.out HBsz.out hgB (by omega) HBx.out).mono ?_
    rintro e w5 ⟨rfl, v5, hx5, hR5, hb5, hsz5, hkeep⟩
    have HS5 := Aside0.mk (hkeep _ _ hbg HBs.out (Kd.R_ne HRx.out HBs.out (by decide)))
    have HN5 := Aside0.mk (hkeep _ _ (fun h => by omega) HXn.out (Kd.R_ne HRx.out HXn.out (by decide)))
    have HA5 := Aside0.mk (R_kept HAw.out HXg.out HRx.out (by decide) (by decide) hkeep)
    have HX5 := Aside0.mk hx5; have HR5 := Aside0.mk hR5; have HB5 := Aside0.mk hb5
    have HKa := Aside0.mk (KeepT.trans HK0.out (keepT_of HXg.out HRx.out hkeep))
    have HZ5 := Aside0.mk (Nat.le_trans HBsz.out hsz5)
    clear hx5 hR5 hb5 hsz5 hkeep HXg HXn HRx HBx HBsz HCC HBs HAw HBw hlt
    go_wp2_with fail
    have HS := Aside0.mk (fun W (h : Below w5.heap.size w5 W) => (⟨cell_low h ((blk_cell HX5.out 1).trans rfl), cell_low h ((blk_cell HX5.out 2).trans rfl), cell_low h ((blk_cell HX5.out 3).trans rfl), cell_low h ((blk_cell HX5.out 4).trans rfl), cell_low h ((blk_cell HX5.out 5).trans rfl), cell_low h ((blk_cell HX5.out 6).trans rfl), cell_low h ((blk_cell HS5.out 0).trans rfl), cell_low h ((blk_cell HS5.out 1).trans rfl), ⟨h⟩⟩ : W.cell? ⟨g, 1, none⟩ = some d1 ∧ W.cell? ⟨g, 2, none⟩ = some d2 ∧ W.cell? ⟨g, 3, none⟩ = some d3 ∧ W.cell? ⟨g, 4, none⟩ = some d4 ∧ W.cell? ⟨g, 5, none⟩ = some (.int .i64 t) ∧ W.cell? ⟨g, 6, none⟩ = some (.int .i64 kn) ∧ W.cell? ⟨bb, 0, none⟩ = some (.int .i64 st) ∧ W.cell? ⟨bb, 1, none⟩ = some (.slice A la.length c) ∧ Aside0 (Below w5.heap.size w5 W)))
    obtain ⟨A2, c2, hAc, hlc2, hCA⟩ := Kd.R_reads HA5.out
    injection hAc with h1 h2 h3
    subst h1; subst h3
    have HCA := Aside0.mk hCA
    clear hCA h2 hlc2 HA5
    refine wp_region_held_drew (S := (fun W => W.cell? ⟨g, 1, none⟩ = some d1 ∧ W.cell? ⟨g, 2, none⟩ = some d2 ∧ W.cell? ⟨g, 3, none⟩ = some d3 ∧ W.cell? ⟨g, 4, none⟩ = some d4 ∧ W.cell? ⟨g, 5, none⟩ = some (.int .i64 t) ∧ W.cell? ⟨g, 6, none⟩ = some (.int .i64 kn) ∧ W.cell? ⟨bb, 0, none⟩ = some (.int .i64 st) ∧ W.cell? ⟨bb, 1, none⟩ = some (.slice A la.length c) ∧ Aside0 (Below w5.heap.size w5 W))) (by kernel_rfl) (HS.out _ (below_drew (Below.refl _ _))) (fun hHeld => ?_)
    (first | (refine wpAnyH_take (i := 0) rfl (by kernel_rfl) (by kernel_rfl) (by kernel_rfl) (fun _ _ _ h => h) (Or.inr ⟨by rfl, rfl⟩) (by assumption) ?_) | (refine wpAnyH_take (i := 0) (v := ?_) rfl (by kernel_rfl) (by kernel_rfl) (by kernel_rfl) (fun _ _ _ h => h) (Or.inl ⟨by rfl, ?_⟩) (by assumption) ?_; rotate_left 1; (focus (intro w hSw; (try dsimp only at hSw); go_simp; (try with_reducible rfl); done)))) <;> (try simp only [Act.put, List.getElem_toArray, List.getElem_cons_succ, List.getElem_cons_zero, List.setIfInBounds_toArray, List.set_cons_zero, List.set_cons_succ])
    (first | (refine wpAnyH_take (i := 1) rfl (by kernel_rfl) (by kernel_rfl) (by kernel_rfl) (fun _ _ _ h => h) (Or.inr ⟨by rfl, rfl⟩) (by assumption) ?_) | (refine wpAnyH_take (i := 1) (v := ?_) rfl (by kernel_rfl) (by kernel_rfl) (by kernel_rfl) (fun _ _ _ h => h) (Or.inl ⟨by rfl, ?_⟩) (by assumption) ?_; rotate_left 1; (focus (intro w hSw; (try dsimp only at hSw); go_simp; (try with_reducible rfl); done)))) <;> (try simp only [Act.put, List.getElem_toArray, List.getElem_cons_succ, List.getElem_cons_zero, List.setIfInBounds_toArray, List.set_cons_zero, List.set_cons_succ])
    (first | (refine wpAnyH_take (i := 2) rfl (by kernel_rfl) (by kernel_rfl) (by kernel_rfl) (fun _ _ _ h => h) (Or.inr ⟨by rfl, rfl⟩) (by assumption) ?_) | (refine wpAnyH_take (i := 2) (v := ?_) rfl (by kernel_rfl) (by kernel_rfl) (by kernel_rfl) (fun _ _ _ h => h) (Or.inl ⟨by rfl, ?_⟩) (by assumption) ?_; rotate_left 1; (focus (intro w hSw; (try dsimp only at hSw); go_simp; (try with_reducible rfl); done)))) <;> (try simp only [Act.put, List.getElem_toArray, List.getElem_cons_succ, List.getElem_cons_zero, List.setIfInBounds_toArray, List.set_cons_zero, List.set_cons_succ])
    (first | (refine wpAnyH_take (i := 3) rfl (by kernel_rfl) (by kernel_rfl) (by kernel_rfl) (fun _ _ _ h => h) (Or.inr ⟨by rfl, rfl⟩) (by assumption) ?_) | (refine wpAnyH_take (i := 3) (v := ?_) rfl (by kernel_rfl) (by kernel_rfl) (by kernel_rfl) (fun _ _ _ h => h) (Or.inl ⟨by rfl, ?_⟩) (by assumption) ?_; rotate_left 1; (focus (intro w hSw; (try dsimp only at hSw); go_simp; (try with_reducible rfl); done)))) <;> (try simp only [Act.put, List.getElem_toArray, List.getElem_cons_succ, List.getElem_cons_zero, List.setIfInBounds_toArray, List.set_cons_zero, List.set_cons_succ])
    (first | (refine wpAnyH_take (i := 4) rfl (by kernel_rfl) (by kernel_rfl) (by kernel_rfl) (fun _ _ _ h => h) (Or.inr ⟨by rfl, rfl⟩) (by assumption) ?_) | (refine wpAnyH_take (i := 4) (v := ?_) rfl (by kernel_rfl) (by kernel_rfl) (by kernel_rfl) (fun _ _ _ h => h) (Or.inl ⟨by rfl, ?_⟩) (by assumption) ?_; rotate_left 1; (focus (intro w hSw; (try dsimp only at hSw); go_simp; (try with_reducible rfl); done)))) <;> (try simp only [Act.put, List.getElem_toArray, List.getElem_cons_succ, List.getElem_cons_zero, List.setIfInBounds_toArray, List.set_cons_zero, List.set_cons_succ])
    (first | (refine wpAnyH_take (i := 5) rfl (by kernel_rfl) (by kernel_rfl) (by kernel_rfl) (fun _ _ _ h => h) (Or.inr ⟨by rfl, rfl⟩) (by assumption) ?_) | (refine wpAnyH_take (i := 5) (v := ?_) rfl (by kernel_rfl) (by kernel_rfl) (by kernel_rfl) (fun _ _ _ h => h) (Or.inl ⟨by rfl, ?_⟩) (by assumption) ?_; rotate_left 1; (focus (intro w hSw; (try dsimp only at hSw); go_simp; (try with_reducible rfl); done)))) <;> (try simp only [Act.put, List.getElem_toArray, List.getElem_cons_succ, List.getElem_cons_zero, List.setIfInBounds_toArray, List.set_cons_zero, List.set_cons_succ])
    (first | (refine wpAnyH_take (i := 6) rfl (by kernel_rfl) (by kernel_rfl) (by kernel_rfl) (fun _ _ _ h => h) (Or.inr ⟨by rfl, rfl⟩) (by assumption) ?_) | (refine wpAnyH_take (i := 6) (v := ?_) rfl (by kernel_rfl) (by kernel_rfl) (by kernel_rfl) (fun _ _ _ h => h) (Or.inl ⟨by rfl, ?_⟩) (by assumption) ?_; rotate_left 1; (focus (intro w hSw; (try dsimp only at hSw); go_simp; (try with_reducible rfl); done)))) <;> (try simp only [Act.put, List.getElem_toArray, List.getElem_cons_succ, List.getElem_cons_zero, List.setIfInBounds_toArray, List.set_cons_zero, List.set_cons_succ])
    (first | (refine wpAnyH_take (i := 7) rfl (by kernel_rfl) (by kernel_rfl) (by kernel_rfl) (fun _ _ _ h => h) (Or.inr ⟨by rfl, rfl⟩) (by assumption) ?_) | (refine wpAnyH_take (i := 7) (v := ?_) rfl (by kernel_rfl) (by kernel_rfl) (by kernel_rfl) (fun _ _ _ h => h) (Or.inl ⟨by rfl, ?_⟩) (by assumption) ?_; rotate_left 1; (focus (intro w hSw; (try dsimp only at hSw); go_simp; (try with_reducible rfl); done)))) <;> (try simp only [Act.put, List.getElem_toArray, List.getElem_cons_succ, List.getElem_cons_zero, List.setIfInBounds_toArray, List.set_cons_zero, List.set_cons_succ])
    (first | (refine wpAnyH_take (i := 8) rfl (by kernel_rfl) (by kernel_rfl) (by kernel_rfl) (fun _ _ _ h => h) (Or.inr ⟨by rfl, rfl⟩) (by assumption) ?_) | (refine wpAnyH_take (i := 8) (v := ?_) rfl (by kernel_rfl) (by kernel_rfl) (by kernel_rfl) (fun _ _ _ h => h) (Or.inl ⟨by rfl, ?_⟩) (by assumption) ?_; rotate_left 1; (focus (intro w hSw; (try dsimp only at hSw); go_simp; (try with_reducible rfl); done)))) <;> (try simp only [Act.put, List.getElem_toArray, List.getElem_cons_succ, List.getElem_cons_zero, List.setIfInBounds_toArray, List.set_cons_zero, List.set_cons_succ])
    (first | (refine wpAnyH_take (i := 9) rfl (by kernel_rfl) (by kernel_rfl) (by kernel_rfl) (fun _ _ _ h => h) (Or.inr ⟨by rfl, rfl⟩) (by assumption) ?_) | (refine wpAnyH_take (i := 9) (v := ?_) rfl (by kernel_rfl) (by kernel_rfl) (by kernel_rfl) (fun _ _ _ h => h) (Or.inl ⟨by rfl, ?_⟩) (by assumption) ?_; rotate_left 1; (focus (intro w hSw; (try dsimp only at hSw); go_simp; (try with_reducible rfl); done)))) <;> (try simp only [Act.put, List.getElem_toArray, List.getElem_cons_succ, List.getElem_cons_zero, List.setIfInBounds_toArray, List.set_cons_zero, List.set_cons_succ])
    (first | (refine wpAnyH_take (i := 10) rfl (by kernel_rfl) (by kernel_rfl) (by kernel_rfl) (fun _ _ _ h => h) (Or.inr ⟨by rfl, rfl⟩) (by assumption) ?_) | (refine wpAnyH_take (i := 10) (v := ?_) rfl (by kernel_rfl) (by kernel_rfl) (by kernel_rfl) (fun _ _ _ h => h) (Or.inl ⟨by rfl, ?_⟩) (by assumption) ?_; rotate_left 1; (focus (intro w hSw; (try dsimp only at hSw); go_simp; (try with_reducible rfl); done)))) <;> (try simp only [Act.put, List.getElem_toArray, List.getElem_cons_succ, List.getElem_cons_zero, List.setIfInBounds_toArray, List.set_cons_zero, List.set_cons_succ])
    (first | (refine wpAnyH_take (i := 11) rfl (by kernel_rfl) (by kernel_rfl) (by kernel_rfl) (fun _ _ _ h => h) (Or.inr ⟨by rfl, rfl⟩) (by assumption) ?_) | (refine wpAnyH_take (i := 11) (v := ?_) rfl (by kernel_rfl) (by kernel_rfl) (by kernel_rfl) (fun _ _ _ h => h) (Or.inl ⟨by rfl, ?_⟩) (by assumption) ?_; rotate_left 1; (focus (intro w hSw; (try dsimp only at hSw); go_simp; (try with_reducible rfl); done)))) <;> (try simp only [Act.put, List.getElem_toArray, List.getElem_cons_succ, List.getElem_cons_zero, List.setIfInBounds_toArray, List.set_cons_zero, List.set_cons_succ])
    (first | (refine wpAnyH_take (i := 12) rfl (by kernel_rfl) (by kernel_rfl) (by kernel_rfl) (fun _ _ _ h => h) (Or.inr ⟨by rfl, rfl⟩) (by assumption) ?_) | (refine wpAnyH_take (i := 12) (v := ?_) rfl (by kernel_rfl) (by kernel_rfl) (by kernel_rfl) (fun _ _ _ h => h) (Or.inl ⟨by rfl, ?_⟩) (by assumption) ?_; rotate_left 1; (focus (intro w hSw; (try dsimp only at hSw); go_simp; (try with_reducible rfl); done)))) <;> (try simp only [Act.put, List.getElem_toArray, List.getElem_cons_succ, List.getElem_cons_zero, List.setIfInBounds_toArray, List.set_cons_zero, List.set_cons_succ])
    have G := Aside0.mk (HCt.out w5.drew A c (HB5.out.trans (hHeld.2.2.2.2.2.2.2.2.out.mono HZ5.out)) (Kd.C_below HCA.out hHeld.2.2.2.2.2.2.2.2.out))
    refine wpAnyH_ready (rs := [13]) (by kernel_rfl) (by simp) ?_
    refine AllReadyH.cons rfl (fun K hK => ?_) AllReadyH.nil
    go_simp
    go_at_call 45; refine G.out.mono ?_; rintro e w6 ⟨lv, rv, rfl, hL6, hR6, hb6⟩; obtain ⟨L6, c6, rfl⟩ := Kd.R_slice hL6; obtain ⟨A6, e6, rfl⟩ := Kd.R_slice hR6; go_wp2_with fail
    have HB6 := Aside0.mk (below_tr hHeld.2.2.2.2.2.2.2.2.out hb6); have HL6 := Aside0.mk hL6; have HR6 := Aside0.mk hR6
    clear hb6 hL6 hR6 G
    refine hK.out _ _ (HS.out _ HB6.out) (fun hHeld => ?_)
    clear hK K
    try simp only [Act.put, List.getElem_toArray, List.getElem_cons_succ, List.getElem_cons_zero, List.setIfInBounds_toArray, List.set_cons_zero, List.set_cons_succ]
    (first | (refine wpAnyH_take (i := 14) rfl (by kernel_rfl) (by kernel_rfl) (by kernel_rfl) (fun _ _ _ h => h) (Or.inr ⟨by rfl, rfl⟩) (by assumption) ?_) | (refine wpAnyH_take (i := 14) (v := ?_) rfl (by kernel_rfl) (by kernel_rfl) (by kernel_rfl) (fun _ _ _ h => h) (Or.inl ⟨by rfl, ?_⟩) (by assumption) ?_; rotate_left 1; (focus (intro w hSw; (try dsimp only at hSw); go_simp; (try with_reducible rfl); done)))) <;> (try simp only [Act.put, List.getElem_toArray, List.getElem_cons_succ, List.getElem_cons_zero, List.setIfInBounds_toArray, List.set_cons_zero, List.set_cons_succ])
    (first | (refine wpAnyH_take (i := 15) rfl (by kernel_rfl) (by kernel_rfl) (by kernel_rfl) (fun _ _ _ h => h) (Or.inr ⟨by rfl, rfl⟩) (by assumption) ?_) | (refine wpAnyH_take (i := 15) (v := ?_) rfl (by kernel_rfl) (by kernel_rfl) (by kernel_rfl) (fun _ _ _ h => h) (Or.inl ⟨by rfl, ?_⟩) (by assumption) ?_; rotate_left 1; (focus (intro w hSw; (try dsimp only at hSw); go_simp; (try with_reducible rfl); done)))) <;> (try simp only [Act.put, List.getElem_toArray, List.getElem_cons_succ, List.getElem_cons_zero, List.setIfInBounds_toArray, List.set_cons_zero, List.set_cons_succ])
    (first | (refine wpAnyH_take (i := 16) rfl (by kernel_rfl) (by kernel_rfl) (by kernel_rfl) (fun _ _ _ h => h) (Or.inr ⟨by rfl, rfl⟩) (by assumption) ?_) | (refine wpAnyH_take (i := 16) (v := ?_) rfl (by kernel_rfl) (by kernel_rfl) (by kernel_rfl) (fun _ _ _ h => h) (Or.inl ⟨by rfl, ?_⟩) (by assumption) ?_; rotate_left 1; (focus (intro w hSw; (try dsimp only at hSw); go_simp; (try with_reducible rfl); done)))) <;> (try simp only [Act.put, List.getElem_toArray, List.getElem_cons_succ, List.getElem_cons_zero, List.setIfInBounds_toArray, List.set_cons_zero, List.set_cons_succ])
    (first | (refine wpAnyH_take (i := 17) rfl (by kernel_rfl) (by kernel_rfl) (by kernel_rfl) (fun _ _ _ h => h) (Or.inr ⟨by rfl, rfl⟩) (by assumption) ?_) | (refine wpAnyH_take (i := 17) (v := ?_) rfl (by kernel_rfl) (by kernel_rfl) (by kernel_rfl) (fun _ _ _ h => h) (Or.inl ⟨by rfl, ?_⟩) (by assumption) ?_; rotate_left 1; (focus (intro w hSw; (try dsimp only at hSw); go_simp; (try with_reducible rfl); done)))) <;> (try simp only [Act.put, List.getElem_toArray, List.getElem_cons_succ, List.getElem_cons_zero, List.setIfInBounds_toArray, List.set_cons_zero, List.set_cons_succ])
    (first | (refine wpAnyH_take (i := 18) rfl (by kernel_rfl) (by kernel_rfl) (by kernel_rfl) (fun _ _ _ h => h) (Or.inr ⟨by rfl, rfl⟩) (by assumption) ?_) | (refine wpAnyH_take (i := 18) (v := ?_) rfl (by kernel_rfl) (by kernel_rfl) (by kernel_rfl) (fun _ _ _ h => h) (Or.inl ⟨by rfl, ?_⟩) (by assumption) ?_; rotate_left 1; (focus (intro w hSw; (try dsimp only at hSw); go_simp; (try with_reducible rfl); done)))) <;> (try simp only [Act.put, List.getElem_toArray, List.getElem_cons_succ, List.getElem_cons_zero, List.setIfInBounds_toArray, List.set_cons_zero, List.set_cons_succ])
    (first | (refine wpAnyH_take (i := 19) rfl (by kernel_rfl) (by kernel_rfl) (by kernel_rfl) (fun _ _ _ h => h) (Or.inr ⟨by rfl, rfl⟩) (by assumption) ?_) | (refine wpAnyH_take (i := 19) (v := ?_) rfl (by kernel_rfl) (by kernel_rfl) (by kernel_rfl) (fun _ _ _ h => h) (Or.inl ⟨by rfl, ?_⟩) (by assumption) ?_; rotate_left 1; (focus (intro w hSw; (try dsimp only at hSw); go_simp; (try with_reducible rfl); done)))) <;> (try simp only [Act.put, List.getElem_toArray, List.getElem_cons_succ, List.getElem_cons_zero, List.setIfInBounds_toArray, List.set_cons_zero, List.set_cons_succ])
    (first | (refine wpAnyH_take (i := 20) rfl (by kernel_rfl) (by kernel_rfl) (by kernel_rfl) (fun _ _ _ h => h) (Or.inr ⟨by rfl, rfl⟩) (by assumption) ?_) | (refine wpAnyH_take (i := 20) (v := ?_) rfl (by kernel_rfl) (by kernel_rfl) (by kernel_rfl) (fun _ _ _ h => h) (Or.inl ⟨by rfl, ?_⟩) (by assumption) ?_; rotate_left 1; (focus (intro w hSw; (try dsimp only at hSw); go_simp; (try with_reducible rfl); done)))) <;> (try simp only [Act.put, List.getElem_toArray, List.getElem_cons_succ, List.getElem_cons_zero, List.setIfInBounds_toArray, List.set_cons_zero, List.set_cons_succ])
    refine wpAnyH_done (by kernel_rfl) ?_ _
    clear hHeld HS HCt HCA
    (try simp only [Exit.then])
    obtain ⟨A7, c7, hAc, hlc7, hCC⟩ := Kd.R_reads HR6.out
    injection hAc with h1 h2 h3
    subst h1; subst h3
    have HCC := Aside0.mk hCC
    have HX6 := Aside0.mk (blk_low HB6.out HX5.out); have HN6 := Aside0.mk (blk_low HB6.out HN5.out); have HQ6 := Aside0.mk (Kd.R_below HR5.out HB6.out)
    have HZ6 := Aside0.mk (Nat.le_trans HZ5.out HB6.out.size); have HW6 := Aside0.mk (HB5.out.trans (HB6.out.mono HZ5.out))
    have HBk := HB6
    clear hCC h2 hlc7 HX5 HN5 HR5 HB5 HR6 HB6 HS5
    go_wp2_with fail
    refine (vadd_calls g v5 d1 d2 d3 d4 (.int .i64 t) (.int .i64 kn) (xs ++ ra) rc A6 e6 B w0 w6 HX6.out HQ6.out HCC.out HZ6.out hgB (by rw [List.length_append]; omega) HW6.out).mono ?_
    rintro e w7 ⟨rfl, v7, hx7, hR7, hb7, hsz7, hkeep⟩
    have HKb := Aside0.mk (HKa.out.trans ((KeepT.of_below HBk.out).trans (keepT_of HX6.out HQ6.out hkeep)))
    have HN7 := Aside0.mk (hkeep _ _ (fun h => by omega) HN6.out (Kd.R_ne HQ6.out HN6.out (by decide)))
    have HL7 := R_kept HL6.out HX6.out HQ6.out (by decide) (by decide) hkeep
    obtain ⟨A8, c8, hAc, hlc8, hCL⟩ := Kd.R_reads HL7
    injection hAc with h1 h2 h3
    subst h1; subst h3
    have HCL := Aside0.mk hCL; have HX7 := Aside0.mk hx7; have HR7 := Aside0.mk hR7; have HB7 := Aside0.mk hb7; have HZ7 := Aside0.mk (Nat.le_trans HZ6.out hsz7)
    clear hCL h2 hlc8 HL7 hx7 hR7 hb7 hsz7 hkeep HX6 HN6 HQ6 HZ6 HW6 HCC HL6
    go_wp2_with fail
    refine (earned_calls L6 c6 lc w7 HCL.out hlc).mono ?_
    rintro e w8 ⟨rfl, hb8⟩
    have HEN := Aside0.mk (show earnN lc = earnS lc by unfold earnN; rw [if_pos hac])
    rw [HEN.out, hac]
    have HB8 := Aside0.mk hb8; clear hb8
    go_wp2_with fail
    refine (mean_calls L6 c6 lc w8 (Kd.C_below HCL.out HB8.out) hlc).mono ?_
    rintro e w9 ⟨rfl, hb9⟩
    have HB9 := Aside0.mk (below_tr HB8.out hb9); clear hb9 HB8
    rw [hme]
    have hn9 := blk_low HB9.out HN7.out
    have z0 := (blk_cell hn9 0).trans rfl; have z1 := (blk_cell hn9 1).trans rfl
    have zf : ∀ i, w9.frozen? ⟨w.heap.size, i, none⟩ = false := fun i => blk_frozen hn9 i
    have HN9 := Aside0.mk hn9; clear hn9 HEN
    go_wp2
    have hn10 := blk_put2 HN9.out (.int .i64 (meanA lc)) (.int .i64 (meanB lc))
    have HX10 := Aside0.mk ((far_put2 (show g ≠ w.heap.size by omega) (.int .i64 (meanA lc)) (.int .i64 (meanB lc))).trans (blk_low HB9.out HX7.out))
    have HR10 := Aside0.mk (R_put2 (Kd.R_below HR7.out HB9.out) HN9.out (by decide) (.int .i64 (meanA lc)) (.int .i64 (meanB lc)))
    have HB10 := Aside0.mk (below_put2 (HB7.out.trans (HB9.out.mono HZ7.out)) hB (.int .i64 (meanA lc)) (.int .i64 (meanB lc)))
    have HKc := Aside0.mk (show KeepT w (((((w9.setCell ⟨w.heap.size, 0, none⟩ (.int .i64 (meanA lc))).setCell ⟨w.heap.size, 1, none⟩ (.int .i64 (meanB lc))).setCell ⟨w.heap.size, 0, none⟩ (.int .i64 (meanA lc))).setCell ⟨w.heap.size, 1, none⟩ (.int .i64 (meanB lc))).drew) from fun k cs t f h1 h2 hk => (far_put2 (show k ≠ w.heap.size by have := blk_lt hk; omega) _ _).trans ((far_put2 (show k ≠ w.heap.size by have := blk_lt hk; omega) _ _).trans (blk_low HB9.out (HKb.out k cs t f h1 h2 hk))))
    clear HN9 HB9 HX7 HR7 HB7 HZ7 z0 z1 zf HKa HKb HBk
    generalize ((w9.setCell ⟨w.heap.size, 0, none⟩ (.int .i64 (meanA lc))).setCell ⟨w.heap.size, 1, none⟩ (.int .i64 (meanB lc))) = w10 at *
    have z0 := (blk_cell hn10 0).trans rfl; have z1 := (blk_cell hn10 1).trans rfl
    have zf : ∀ i, w10.frozen? ⟨w.heap.size, i, none⟩ = false := fun i => blk_frozen hn10 i
    have HN10 := Aside0.mk hn10; clear hn10
    go_region
    go_wp2
    all_goals
      have hf := blk_put2 HN10.out (.int .i64 (meanA lc)) (.int .i64 (meanB lc))
      have u0 := (blk_cell hf 0).trans rfl; have u1 := (blk_cell hf 1).trans rfl
      have v0 : ((w10.setCell ⟨w.heap.size, 0, none⟩ (.int .i64 (meanA lc))).setCell ⟨w.heap.size, 1, none⟩ (.int .i64 (meanB lc))).drew.cell? ⟨w.heap.size, 0, none⟩ = some (.int .i64 (meanA lc)) := u0
      have v1 : ((w10.setCell ⟨w.heap.size, 0, none⟩ (.int .i64 (meanA lc))).setCell ⟨w.heap.size, 1, none⟩ (.int .i64 (meanB lc))).drew.cell? ⟨w.heap.size, 1, none⟩ = some (.int .i64 (meanB lc)) := u1
      first
      | exact bodyPost_ret (v := .tuple #[.int .i64 10000, .agg #[.int .i64 (meanA lc), .int .i64 (meanB lc)], .int .i64 0]) (by simp [results, Tryz.f35, go_sem, u0, u1, v0, v1]) rfl ⟨by rw [capE_hi (by omega)], v7, (far_put2 (show g ≠ w.heap.size by omega) _ _).trans HX10.out, by rw [← List.append_assoc]; exact Kd.R_drew (R_put2 HR10.out HN10.out (by decide) _ _), below_drew (below_put2 HB10.out hB _ _), HKc.out⟩
      | exact bodyPost_ret (v := .tuple #[.int .i64 (earnS lc), .agg #[.int .i64 (meanA lc), .int .i64 (meanB lc)], .int .i64 0]) (by simp [results, Tryz.f35, go_sem, u0, u1, v0, v1]) rfl ⟨by rw [capE_lo (by omega)], v7, (far_put2 (show g ≠ w.heap.size by omega) _ _).trans HX10.out, by rw [← List.append_assoc]; exact Kd.R_drew (R_put2 HR10.out HN10.out (by decide) _ _), below_drew (below_put2 HB10.out hB _ _), HKc.out⟩
  · go_simp
    refine hK.out _ _ (HS.out _ (below_tr hHeld.2.2.2.2.2.2.out ((Below.refl _ _).alloc (Nat.le_refl _) _))) (fun hHeld => ?_)
    clear hK K
    try simp only [Act.put, List.getElem_toArray, List.getElem_cons_succ, List.getElem_cons_zero, List.setIfInBounds_toArray, List.set_cons_zero, List.set_cons_succ]
    have G := Aside0.mk (HOf.out _ (HB.out.trans ((below_tr HB1.out hHeld.2.2.2.2.2.2.out).mono hB)))
    have HNb := Aside0.mk (show (w1.alloc (.cells #[.int .i64 0, .slice none 0 0] 88)).drew.heap[w1.heap.size]? = some (.cells #[.int .i64 0, .slice none 0 0] 88 (0, 0)) from new_blk w1 _)
    refine wpAnyH_ready (rs := [13]) (by kernel_rfl) (by simp) ?_
    refine AllReadyH.cons rfl (fun K hK => ?_) AllReadyH.nil
    go_simp
    go_at_call 44; refine G.out.mono ?_; rintro e w2 ⟨av, rv, rfl, hA2, hR2, hb2⟩; obtain ⟨A, c, rfl⟩ := Kd.R_slice hA2; obtain ⟨A', c', rfl⟩ := Kd.R_slice hR2; go_wp2_with fail
    have HB2 := Aside0.mk (below_tr hHeld.2.2.2.2.2.2.out hb2); have HA2 := Aside0.mk hA2; have HR2 := Aside0.mk hR2
    have HN2 := Aside0.mk (blk_low hb2 HNb.out)
    clear hb2 hA2 hR2 G HNb
    refine hK.out _ _ (HS.out _ HB2.out) (fun hHeld => ?_)
    clear hK K
    try simp only [Act.put, List.getElem_toArray, List.getElem_cons_succ, List.getElem_cons_zero, List.setIfInBounds_toArray, List.set_cons_zero, List.set_cons_succ]
    (first | (refine wpAnyH_take (i := 14) rfl (by kernel_rfl) (by kernel_rfl) (by kernel_rfl) (fun _ _ _ h => h) (Or.inr ⟨by rfl, rfl⟩) (by assumption) ?_) | (refine wpAnyH_take (i := 14) (v := ?_) rfl (by kernel_rfl) (by kernel_rfl) (by kernel_rfl) (fun _ _ _ h => h) (Or.inl ⟨by rfl, ?_⟩) (by assumption) ?_; rotate_left 1; (focus (intro w hSw; (try dsimp only at hSw); go_simp; (try with_reducible rfl); done)))) <;> (try simp only [Act.put, List.getElem_toArray, List.getElem_cons_succ, List.getElem_cons_zero, List.setIfInBounds_toArray, List.set_cons_zero, List.set_cons_succ])
    (first | (refine wpAnyH_take (i := 15) rfl (by kernel_rfl) (by kernel_rfl) (by kernel_rfl) (fun _ _ _ h => h) (Or.inr ⟨by rfl, rfl⟩) (by assumption) ?_) | (refine wpAnyH_take (i := 15) (v := ?_) rfl (by kernel_rfl) (by kernel_rfl) (by kernel_rfl) (fun _ _ _ h => h) (Or.inl ⟨by rfl, ?_⟩) (by assumption) ?_; rotate_left 1; (focus (intro w hSw; (try dsimp only at hSw); go_simp; (try with_reducible rfl); done)))) <;> (try simp only [Act.put, List.getElem_toArray, List.getElem_cons_succ, List.getElem_cons_zero, List.setIfInBounds_toArray, List.set_cons_zero, List.set_cons_succ])
    (first | (refine wpAnyH_take (i := 16) rfl (by kernel_rfl) (by kernel_rfl) (by kernel_rfl) (fun _ _ _ h => h) (Or.inr ⟨by rfl, rfl⟩) (by assumption) ?_) | (refine wpAnyH_take (i := 16) (v := ?_) rfl (by kernel_rfl) (by kernel_rfl) (by kernel_rfl) (fun _ _ _ h => h) (Or.inl ⟨by rfl, ?_⟩) (by assumption) ?_; rotate_left 1; (focus (intro w hSw; (try dsimp only at hSw); go_simp; (try with_reducible rfl); done)))) <;> (try simp only [Act.put, List.getElem_toArray, List.getElem_cons_succ, List.getElem_cons_zero, List.setIfInBounds_toArray, List.set_cons_zero, List.set_cons_succ])
    (first | (refine wpAnyH_take (i := 17) rfl (by kernel_rfl) (by kernel_rfl) (by kernel_rfl) (fun _ _ _ h => h) (Or.inr ⟨by rfl, rfl⟩) (by assumption) ?_) | (refine wpAnyH_take (i := 17) (v := ?_) rfl (by kernel_rfl) (by kernel_rfl) (by kernel_rfl) (fun _ _ _ h => h) (Or.inl ⟨by rfl, ?_⟩) (by assumption) ?_; rotate_left 1; (focus (intro w hSw; (try dsimp only at hSw); go_simp; (try with_reducible rfl); done)))) <;> (try simp only [Act.put, List.getElem_toArray, List.getElem_cons_succ, List.getElem_cons_zero, List.setIfInBounds_toArray, List.set_cons_zero, List.set_cons_succ])
    have z0 := (blk_cell HN2.out 0).trans rfl; have z1 := (blk_cell HN2.out 1).trans rfl
    have bf : ∀ i, w2.frozen? ⟨w1.heap.size, i, none⟩ = false := fun i => blk_frozen HN2.out i
    refine wpAnyH_ready (rs := [19]) (by kernel_rfl) (by simp) ?_
    refine AllReadyH.cons rfl (fun K hK => ?_) AllReadyH.nil
    go_simp
    have HB4 := Aside0.mk (below_put2 HB2.out (Nat.le_refl _) (.int .i64 st) (.slice A la.length c))
    refine hK.out _ _ (HS.out _ HB4.out) (fun hHeld => ?_)
    clear hK K
    try simp only [Act.put, List.getElem_toArray, List.getElem_cons_succ, List.getElem_cons_zero, List.setIfInBounds_toArray, List.set_cons_zero, List.set_cons_succ]
    (first | (refine wpAnyH_take (i := 20) rfl (by kernel_rfl) (by kernel_rfl) (by kernel_rfl) (fun _ _ _ h => h) (Or.inr ⟨by rfl, rfl⟩) (by assumption) ?_) | (refine wpAnyH_take (i := 20) (v := ?_) rfl (by kernel_rfl) (by kernel_rfl) (by kernel_rfl) (fun _ _ _ h => h) (Or.inl ⟨by rfl, ?_⟩) (by assumption) ?_; rotate_left 1; (focus (intro w hSw; (try dsimp only at hSw); go_simp; (try with_reducible rfl); done)))) <;> (try simp only [Act.put, List.getElem_toArray, List.getElem_cons_succ, List.getElem_cons_zero, List.setIfInBounds_toArray, List.set_cons_zero, List.set_cons_succ])
    (first | (refine wpAnyH_take (i := 21) rfl (by kernel_rfl) (by kernel_rfl) (by kernel_rfl) (fun _ _ _ h => h) (Or.inr ⟨by rfl, rfl⟩) (by assumption) ?_) | (refine wpAnyH_take (i := 21) (v := ?_) rfl (by kernel_rfl) (by kernel_rfl) (by kernel_rfl) (fun _ _ _ h => h) (Or.inl ⟨by rfl, ?_⟩) (by assumption) ?_; rotate_left 1; (focus (intro w hSw; (try dsimp only at hSw); go_simp; (try with_reducible rfl); done)))) <;> (try simp only [Act.put, List.getElem_toArray, List.getElem_cons_succ, List.getElem_cons_zero, List.setIfInBounds_toArray, List.set_cons_zero, List.set_cons_succ])
    refine wpAnyH_done (by kernel_rfl) ?_ _
    have HBs := Aside0.mk (blk_put2 HN2.out (.int .i64 st) (.slice A la.length c))
    have HAw := Aside0.mk (R_put2 HA2.out HN2.out (by decide) (.int .i64 st) (.slice A la.length c)); have HCw := Aside0.mk (R_put2 HR2.out HN2.out (by decide) (.int .i64 st) (.slice A la.length c))
    have HBw := HB4
    clear hHeld HS HA2 HR2
    have hlt := blk_lt HN1.out; have hgl := blk_lt HG0.out
    have hbg : w1.heap.size ≠ g := fun h => by have h1 := HB2.out.size; have h2 := HB1.out.size; omega
    have hbw : w1.heap.size ≠ w.heap.size := fun h => by have h1 := HB2.out.size; omega
    have HXg := Aside0.mk (blk_low HBw.out HG1.out); have HXn := Aside0.mk (blk_low HBw.out HN1.out)
    have HRx := Aside0.mk (Kd.R_below HR.out (below_tr HB1.out HBw.out))
    have HBx := Aside0.mk (HB.out.trans ((below_tr HB1.out HBw.out).mono hB))
    have HBsz := Aside0.mk (Nat.le_trans hB (below_tr HB1.out HBw.out).size)
    have HK0 := Aside0.mk (KeepT.of_below (below_tr HB1.out HBw.out))
    obtain ⟨A1, c1, hAc, hlc1, hCC⟩ := Kd.R_reads HCw.out
    injection hAc with h1 h2 h3
    subst h1; subst h3
    have HCC := Aside0.mk hCC
    clear hCC h2 HCw HOf hlc1
    (try simp only [Exit.then])
    generalize ((w2.setCell ⟨w1.heap.size, 0, none⟩ (.int .i64 st)).setCell ⟨w1.heap.size, 1, none⟩ (.slice A la.length c)) = W4 at *
    clear HB2
    generalize w1.heap.size = bb at *
    go_wp2_with fail
    refine (vadd_calls g v d1 d2 d3 d4 (.int .i64 t) (.int .i64 kn) xs ra A' c' B w0 W4 HXg.out HRx.out HCC.out HBsz.out hgB (by omega) HBx.out).mono ?_
    rintro e w5 ⟨rfl, v5, hx5, hR5, hb5, hsz5, hkeep⟩
    have HS5 := Aside0.mk (hkeep _ _ hbg HBs.out (Kd.R_ne HRx.out HBs.out (by decide)))
    have HN5 := Aside0.mk (hkeep _ _ (fun h => by omega) HXn.out (Kd.R_ne HRx.out HXn.out (by decide)))
    have HA5 := Aside0.mk (R_kept HAw.out HXg.out HRx.out (by decide) (by decide) hkeep)
    have HX5 := Aside0.mk hx5; have HR5 := Aside0.mk hR5; have HB5 := Aside0.mk hb5
    have HKa := Aside0.mk (KeepT.trans HK0.out (keepT_of HXg.out HRx.out hkeep))
    have HZ5 := Aside0.mk (Nat.le_trans HBsz.out hsz5)
    clear hx5 hR5 hb5 hsz5 hkeep HXg HXn HRx HBx HBsz HCC HBs HAw HBw hlt
    go_wp2_with fail
    have HS := Aside0.mk (fun W (h : Below w5.heap.size w5 W) => (⟨cell_low h ((blk_cell HX5.out 1).trans rfl), cell_low h ((blk_cell HX5.out 2).trans rfl), cell_low h ((blk_cell HX5.out 3).trans rfl), cell_low h ((blk_cell HX5.out 4).trans rfl), cell_low h ((blk_cell HX5.out 5).trans rfl), cell_low h ((blk_cell HX5.out 6).trans rfl), cell_low h ((blk_cell HS5.out 0).trans rfl), cell_low h ((blk_cell HS5.out 1).trans rfl), ⟨h⟩⟩ : W.cell? ⟨g, 1, none⟩ = some d1 ∧ W.cell? ⟨g, 2, none⟩ = some d2 ∧ W.cell? ⟨g, 3, none⟩ = some d3 ∧ W.cell? ⟨g, 4, none⟩ = some d4 ∧ W.cell? ⟨g, 5, none⟩ = some (.int .i64 t) ∧ W.cell? ⟨g, 6, none⟩ = some (.int .i64 kn) ∧ W.cell? ⟨bb, 0, none⟩ = some (.int .i64 st) ∧ W.cell? ⟨bb, 1, none⟩ = some (.slice A la.length c) ∧ Aside0 (Below w5.heap.size w5 W)))
    obtain ⟨A2, c2, hAc, hlc2, hCA⟩ := Kd.R_reads HA5.out
    injection hAc with h1 h2 h3
    subst h1; subst h3
    have HCA := Aside0.mk hCA
    clear hCA h2 hlc2 HA5
    refine wp_region_held_drew (S := (fun W => W.cell? ⟨g, 1, none⟩ = some d1 ∧ W.cell? ⟨g, 2, none⟩ = some d2 ∧ W.cell? ⟨g, 3, none⟩ = some d3 ∧ W.cell? ⟨g, 4, none⟩ = some d4 ∧ W.cell? ⟨g, 5, none⟩ = some (.int .i64 t) ∧ W.cell? ⟨g, 6, none⟩ = some (.int .i64 kn) ∧ W.cell? ⟨bb, 0, none⟩ = some (.int .i64 st) ∧ W.cell? ⟨bb, 1, none⟩ = some (.slice A la.length c) ∧ Aside0 (Below w5.heap.size w5 W))) (by kernel_rfl) (HS.out _ (below_drew (Below.refl _ _))) (fun hHeld => ?_)
    (first | (refine wpAnyH_take (i := 0) rfl (by kernel_rfl) (by kernel_rfl) (by kernel_rfl) (fun _ _ _ h => h) (Or.inr ⟨by rfl, rfl⟩) (by assumption) ?_) | (refine wpAnyH_take (i := 0) (v := ?_) rfl (by kernel_rfl) (by kernel_rfl) (by kernel_rfl) (fun _ _ _ h => h) (Or.inl ⟨by rfl, ?_⟩) (by assumption) ?_; rotate_left 1; (focus (intro w hSw; (try dsimp only at hSw); go_simp; (try with_reducible rfl); done)))) <;> (try simp only [Act.put, List.getElem_toArray, List.getElem_cons_succ, List.getElem_cons_zero, List.setIfInBounds_toArray, List.set_cons_zero, List.set_cons_succ])
    (first | (refine wpAnyH_take (i := 1) rfl (by kernel_rfl) (by kernel_rfl) (by kernel_rfl) (fun _ _ _ h => h) (Or.inr ⟨by rfl, rfl⟩) (by assumption) ?_) | (refine wpAnyH_take (i := 1) (v := ?_) rfl (by kernel_rfl) (by kernel_rfl) (by kernel_rfl) (fun _ _ _ h => h) (Or.inl ⟨by rfl, ?_⟩) (by assumption) ?_; rotate_left 1; (focus (intro w hSw; (try dsimp only at hSw); go_simp; (try with_reducible rfl); done)))) <;> (try simp only [Act.put, List.getElem_toArray, List.getElem_cons_succ, List.getElem_cons_zero, List.setIfInBounds_toArray, List.set_cons_zero, List.set_cons_succ])
    (first | (refine wpAnyH_take (i := 2) rfl (by kernel_rfl) (by kernel_rfl) (by kernel_rfl) (fun _ _ _ h => h) (Or.inr ⟨by rfl, rfl⟩) (by assumption) ?_) | (refine wpAnyH_take (i := 2) (v := ?_) rfl (by kernel_rfl) (by kernel_rfl) (by kernel_rfl) (fun _ _ _ h => h) (Or.inl ⟨by rfl, ?_⟩) (by assumption) ?_; rotate_left 1; (focus (intro w hSw; (try dsimp only at hSw); go_simp; (try with_reducible rfl); done)))) <;> (try simp only [Act.put, List.getElem_toArray, List.getElem_cons_succ, List.getElem_cons_zero, List.setIfInBounds_toArray, List.set_cons_zero, List.set_cons_succ])
    (first | (refine wpAnyH_take (i := 3) rfl (by kernel_rfl) (by kernel_rfl) (by kernel_rfl) (fun _ _ _ h => h) (Or.inr ⟨by rfl, rfl⟩) (by assumption) ?_) | (refine wpAnyH_take (i := 3) (v := ?_) rfl (by kernel_rfl) (by kernel_rfl) (by kernel_rfl) (fun _ _ _ h => h) (Or.inl ⟨by rfl, ?_⟩) (by assumption) ?_; rotate_left 1; (focus (intro w hSw; (try dsimp only at hSw); go_simp; (try with_reducible rfl); done)))) <;> (try simp only [Act.put, List.getElem_toArray, List.getElem_cons_succ, List.getElem_cons_zero, List.setIfInBounds_toArray, List.set_cons_zero, List.set_cons_succ])
    (first | (refine wpAnyH_take (i := 4) rfl (by kernel_rfl) (by kernel_rfl) (by kernel_rfl) (fun _ _ _ h => h) (Or.inr ⟨by rfl, rfl⟩) (by assumption) ?_) | (refine wpAnyH_take (i := 4) (v := ?_) rfl (by kernel_rfl) (by kernel_rfl) (by kernel_rfl) (fun _ _ _ h => h) (Or.inl ⟨by rfl, ?_⟩) (by assumption) ?_; rotate_left 1; (focus (intro w hSw; (try dsimp only at hSw); go_simp; (try with_reducible rfl); done)))) <;> (try simp only [Act.put, List.getElem_toArray, List.getElem_cons_succ, List.getElem_cons_zero, List.setIfInBounds_toArray, List.set_cons_zero, List.set_cons_succ])
    (first | (refine wpAnyH_take (i := 5) rfl (by kernel_rfl) (by kernel_rfl) (by kernel_rfl) (fun _ _ _ h => h) (Or.inr ⟨by rfl, rfl⟩) (by assumption) ?_) | (refine wpAnyH_take (i := 5) (v := ?_) rfl (by kernel_rfl) (by kernel_rfl) (by kernel_rfl) (fun _ _ _ h => h) (Or.inl ⟨by rfl, ?_⟩) (by assumption) ?_; rotate_left 1; (focus (intro w hSw; (try dsimp only at hSw); go_simp; (try with_reducible rfl); done)))) <;> (try simp only [Act.put, List.getElem_toArray, List.getElem_cons_succ, List.getElem_cons_zero, List.setIfInBounds_toArray, List.set_cons_zero, List.set_cons_succ])
    (first | (refine wpAnyH_take (i := 6) rfl (by kernel_rfl) (by kernel_rfl) (by kernel_rfl) (fun _ _ _ h => h) (Or.inr ⟨by rfl, rfl⟩) (by assumption) ?_) | (refine wpAnyH_take (i := 6) (v := ?_) rfl (by kernel_rfl) (by kernel_rfl) (by kernel_rfl) (fun _ _ _ h => h) (Or.inl ⟨by rfl, ?_⟩) (by assumption) ?_; rotate_left 1; (focus (intro w hSw; (try dsimp only at hSw); go_simp; (try with_reducible rfl); done)))) <;> (try simp only [Act.put, List.getElem_toArray, List.getElem_cons_succ, List.getElem_cons_zero, List.setIfInBounds_toArray, List.set_cons_zero, List.set_cons_succ])
    (first | (refine wpAnyH_take (i := 7) rfl (by kernel_rfl) (by kernel_rfl) (by kernel_rfl) (fun _ _ _ h => h) (Or.inr ⟨by rfl, rfl⟩) (by assumption) ?_) | (refine wpAnyH_take (i := 7) (v := ?_) rfl (by kernel_rfl) (by kernel_rfl) (by kernel_rfl) (fun _ _ _ h => h) (Or.inl ⟨by rfl, ?_⟩) (by assumption) ?_; rotate_left 1; (focus (intro w hSw; (try dsimp only at hSw); go_simp; (try with_reducible rfl); done)))) <;> (try simp only [Act.put, List.getElem_toArray, List.getElem_cons_succ, List.getElem_cons_zero, List.setIfInBounds_toArray, List.set_cons_zero, List.set_cons_succ])
    (first | (refine wpAnyH_take (i := 8) rfl (by kernel_rfl) (by kernel_rfl) (by kernel_rfl) (fun _ _ _ h => h) (Or.inr ⟨by rfl, rfl⟩) (by assumption) ?_) | (refine wpAnyH_take (i := 8) (v := ?_) rfl (by kernel_rfl) (by kernel_rfl) (by kernel_rfl) (fun _ _ _ h => h) (Or.inl ⟨by rfl, ?_⟩) (by assumption) ?_; rotate_left 1; (focus (intro w hSw; (try dsimp only at hSw); go_simp; (try with_reducible rfl); done)))) <;> (try simp only [Act.put, List.getElem_toArray, List.getElem_cons_succ, List.getElem_cons_zero, List.setIfInBounds_toArray, List.set_cons_zero, List.set_cons_succ])
    (first | (refine wpAnyH_take (i := 9) rfl (by kernel_rfl) (by kernel_rfl) (by kernel_rfl) (fun _ _ _ h => h) (Or.inr ⟨by rfl, rfl⟩) (by assumption) ?_) | (refine wpAnyH_take (i := 9) (v := ?_) rfl (by kernel_rfl) (by kernel_rfl) (by kernel_rfl) (fun _ _ _ h => h) (Or.inl ⟨by rfl, ?_⟩) (by assumption) ?_; rotate_left 1; (focus (intro w hSw; (try dsimp only at hSw); go_simp; (try with_reducible rfl); done)))) <;> (try simp only [Act.put, List.getElem_toArray, List.getElem_cons_succ, List.getElem_cons_zero, List.setIfInBounds_toArray, List.set_cons_zero, List.set_cons_succ])
    (first | (refine wpAnyH_take (i := 10) rfl (by kernel_rfl) (by kernel_rfl) (by kernel_rfl) (fun _ _ _ h => h) (Or.inr ⟨by rfl, rfl⟩) (by assumption) ?_) | (refine wpAnyH_take (i := 10) (v := ?_) rfl (by kernel_rfl) (by kernel_rfl) (by kernel_rfl) (fun _ _ _ h => h) (Or.inl ⟨by rfl, ?_⟩) (by assumption) ?_; rotate_left 1; (focus (intro w hSw; (try dsimp only at hSw); go_simp; (try with_reducible rfl); done)))) <;> (try simp only [Act.put, List.getElem_toArray, List.getElem_cons_succ, List.getElem_cons_zero, List.setIfInBounds_toArray, List.set_cons_zero, List.set_cons_succ])
    (first | (refine wpAnyH_take (i := 11) rfl (by kernel_rfl) (by kernel_rfl) (by kernel_rfl) (fun _ _ _ h => h) (Or.inr ⟨by rfl, rfl⟩) (by assumption) ?_) | (refine wpAnyH_take (i := 11) (v := ?_) rfl (by kernel_rfl) (by kernel_rfl) (by kernel_rfl) (fun _ _ _ h => h) (Or.inl ⟨by rfl, ?_⟩) (by assumption) ?_; rotate_left 1; (focus (intro w hSw; (try dsimp only at hSw); go_simp; (try with_reducible rfl); done)))) <;> (try simp only [Act.put, List.getElem_toArray, List.getElem_cons_succ, List.getElem_cons_zero, List.setIfInBounds_toArray, List.set_cons_zero, List.set_cons_succ])
    (first | (refine wpAnyH_take (i := 12) rfl (by kernel_rfl) (by kernel_rfl) (by kernel_rfl) (fun _ _ _ h => h) (Or.inr ⟨by rfl, rfl⟩) (by assumption) ?_) | (refine wpAnyH_take (i := 12) (v := ?_) rfl (by kernel_rfl) (by kernel_rfl) (by kernel_rfl) (fun _ _ _ h => h) (Or.inl ⟨by rfl, ?_⟩) (by assumption) ?_; rotate_left 1; (focus (intro w hSw; (try dsimp only at hSw); go_simp; (try with_reducible rfl); done)))) <;> (try simp only [Act.put, List.getElem_toArray, List.getElem_cons_succ, List.getElem_cons_zero, List.setIfInBounds_toArray, List.set_cons_zero, List.set_cons_succ])
    have G := Aside0.mk (HCt.out w5.drew A c (HB5.out.trans (hHeld.2.2.2.2.2.2.2.2.out.mono HZ5.out)) (Kd.C_below HCA.out hHeld.2.2.2.2.2.2.2.2.out))
    refine wpAnyH_ready (rs := [13]) (by kernel_rfl) (by simp) ?_
    refine AllReadyH.cons rfl (fun K hK => ?_) AllReadyH.nil
    go_simp
    go_at_call 45; refine G.out.mono ?_; rintro e w6 ⟨lv, rv, rfl, hL6, hR6, hb6⟩; obtain ⟨L6, c6, rfl⟩ := Kd.R_slice hL6; obtain ⟨A6, e6, rfl⟩ := Kd.R_slice hR6; go_wp2_with fail
    have HB6 := Aside0.mk (below_tr hHeld.2.2.2.2.2.2.2.2.out hb6); have HL6 := Aside0.mk hL6; have HR6 := Aside0.mk hR6
    clear hb6 hL6 hR6 G
    refine hK.out _ _ (HS.out _ HB6.out) (fun hHeld => ?_)
    clear hK K
    try simp only [Act.put, List.getElem_toArray, List.getElem_cons_succ, List.getElem_cons_zero, List.setIfInBounds_toArray, List.set_cons_zero, List.set_cons_succ]
    (first | (refine wpAnyH_take (i := 14) rfl (by kernel_rfl) (by kernel_rfl) (by kernel_rfl) (fun _ _ _ h => h) (Or.inr ⟨by rfl, rfl⟩) (by assumption) ?_) | (refine wpAnyH_take (i := 14) (v := ?_) rfl (by kernel_rfl) (by kernel_rfl) (by kernel_rfl) (fun _ _ _ h => h) (Or.inl ⟨by rfl, ?_⟩) (by assumption) ?_; rotate_left 1; (focus (intro w hSw; (try dsimp only at hSw); go_simp; (try with_reducible rfl); done)))) <;> (try simp only [Act.put, List.getElem_toArray, List.getElem_cons_succ, List.getElem_cons_zero, List.setIfInBounds_toArray, List.set_cons_zero, List.set_cons_succ])
    (first | (refine wpAnyH_take (i := 15) rfl (by kernel_rfl) (by kernel_rfl) (by kernel_rfl) (fun _ _ _ h => h) (Or.inr ⟨by rfl, rfl⟩) (by assumption) ?_) | (refine wpAnyH_take (i := 15) (v := ?_) rfl (by kernel_rfl) (by kernel_rfl) (by kernel_rfl) (fun _ _ _ h => h) (Or.inl ⟨by rfl, ?_⟩) (by assumption) ?_; rotate_left 1; (focus (intro w hSw; (try dsimp only at hSw); go_simp; (try with_reducible rfl); done)))) <;> (try simp only [Act.put, List.getElem_toArray, List.getElem_cons_succ, List.getElem_cons_zero, List.setIfInBounds_toArray, List.set_cons_zero, List.set_cons_succ])
    (first | (refine wpAnyH_take (i := 16) rfl (by kernel_rfl) (by kernel_rfl) (by kernel_rfl) (fun _ _ _ h => h) (Or.inr ⟨by rfl, rfl⟩) (by assumption) ?_) | (refine wpAnyH_take (i := 16) (v := ?_) rfl (by kernel_rfl) (by kernel_rfl) (by kernel_rfl) (fun _ _ _ h => h) (Or.inl ⟨by rfl, ?_⟩) (by assumption) ?_; rotate_left 1; (focus (intro w hSw; (try dsimp only at hSw); go_simp; (try with_reducible rfl); done)))) <;> (try simp only [Act.put, List.getElem_toArray, List.getElem_cons_succ, List.getElem_cons_zero, List.setIfInBounds_toArray, List.set_cons_zero, List.set_cons_succ])
    (first | (refine wpAnyH_take (i := 17) rfl (by kernel_rfl) (by kernel_rfl) (by kernel_rfl) (fun _ _ _ h => h) (Or.inr ⟨by rfl, rfl⟩) (by assumption) ?_) | (refine wpAnyH_take (i := 17) (v := ?_) rfl (by kernel_rfl) (by kernel_rfl) (by kernel_rfl) (fun _ _ _ h => h) (Or.inl ⟨by rfl, ?_⟩) (by assumption) ?_; rotate_left 1; (focus (intro w hSw; (try dsimp only at hSw); go_simp; (try with_reducible rfl); done)))) <;> (try simp only [Act.put, List.getElem_toArray, List.getElem_cons_succ, List.getElem_cons_zero, List.setIfInBounds_toArray, List.set_cons_zero, List.set_cons_succ])
    (first | (refine wpAnyH_take (i := 18) rfl (by kernel_rfl) (by kernel_rfl) (by kernel_rfl) (fun _ _ _ h => h) (Or.inr ⟨by rfl, rfl⟩) (by assumption) ?_) | (refine wpAnyH_take (i := 18) (v := ?_) rfl (by kernel_rfl) (by kernel_rfl) (by kernel_rfl) (fun _ _ _ h => h) (Or.inl ⟨by rfl, ?_⟩) (by assumption) ?_; rotate_left 1; (focus (intro w hSw; (try dsimp only at hSw); go_simp; (try with_reducible rfl); done)))) <;> (try simp only [Act.put, List.getElem_toArray, List.getElem_cons_succ, List.getElem_cons_zero, List.setIfInBounds_toArray, List.set_cons_zero, List.set_cons_succ])
    (first | (refine wpAnyH_take (i := 19) rfl (by kernel_rfl) (by kernel_rfl) (by kernel_rfl) (fun _ _ _ h => h) (Or.inr ⟨by rfl, rfl⟩) (by assumption) ?_) | (refine wpAnyH_take (i := 19) (v := ?_) rfl (by kernel_rfl) (by kernel_rfl) (by kernel_rfl) (fun _ _ _ h => h) (Or.inl ⟨by rfl, ?_⟩) (by assumption) ?_; rotate_left 1; (focus (intro w hSw; (try dsimp only at hSw); go_simp; (try with_reducible rfl); done)))) <;> (try simp only [Act.put, List.getElem_toArray, List.getElem_cons_succ, List.getElem_cons_zero, List.setIfInBounds_toArray, List.set_cons_zero, List.set_cons_succ])
    (first | (refine wpAnyH_take (i := 20) rfl (by kernel_rfl) (by kernel_rfl) (by kernel_rfl) (fun _ _ _ h => h) (Or.inr ⟨by rfl, rfl⟩) (by assumption) ?_) | (refine wpAnyH_take (i := 20) (v := ?_) rfl (by kernel_rfl) (by kernel_rfl) (by kernel_rfl) (fun _ _ _ h => h) (Or.inl ⟨by rfl, ?_⟩) (by assumption) ?_; rotate_left 1; (focus (intro w hSw; (try dsimp only at hSw); go_simp; (try with_reducible rfl); done)))) <;> (try simp only [Act.put, List.getElem_toArray, List.getElem_cons_succ, List.getElem_cons_zero, List.setIfInBounds_toArray, List.set_cons_zero, List.set_cons_succ])
    refine wpAnyH_done (by kernel_rfl) ?_ _
    clear hHeld HS HCt HCA
    (try simp only [Exit.then])
    obtain ⟨A7, c7, hAc, hlc7, hCC⟩ := Kd.R_reads HR6.out
    injection hAc with h1 h2 h3
    subst h1; subst h3
    have HCC := Aside0.mk hCC
    have HX6 := Aside0.mk (blk_low HB6.out HX5.out); have HN6 := Aside0.mk (blk_low HB6.out HN5.out); have HQ6 := Aside0.mk (Kd.R_below HR5.out HB6.out)
    have HZ6 := Aside0.mk (Nat.le_trans HZ5.out HB6.out.size); have HW6 := Aside0.mk (HB5.out.trans (HB6.out.mono HZ5.out))
    have HBk := HB6
    clear hCC h2 hlc7 HX5 HN5 HR5 HB5 HR6 HB6 HS5
    go_wp2_with fail
    refine (vadd_calls g v5 d1 d2 d3 d4 (.int .i64 t) (.int .i64 kn) (xs ++ ra) rc A6 e6 B w0 w6 HX6.out HQ6.out HCC.out HZ6.out hgB (by rw [List.length_append]; omega) HW6.out).mono ?_
    rintro e w7 ⟨rfl, v7, hx7, hR7, hb7, hsz7, hkeep⟩
    have HKb := Aside0.mk (HKa.out.trans ((KeepT.of_below HBk.out).trans (keepT_of HX6.out HQ6.out hkeep)))
    have HN7 := Aside0.mk (hkeep _ _ (fun h => by omega) HN6.out (Kd.R_ne HQ6.out HN6.out (by decide)))
    have HL7 := R_kept HL6.out HX6.out HQ6.out (by decide) (by decide) hkeep
    obtain ⟨A8, c8, hAc, hlc8, hCL⟩ := Kd.R_reads HL7
    injection hAc with h1 h2 h3
    subst h1; subst h3
    have HCL := Aside0.mk hCL; have HX7 := Aside0.mk hx7; have HR7 := Aside0.mk hR7; have HB7 := Aside0.mk hb7; have HZ7 := Aside0.mk (Nat.le_trans HZ6.out hsz7)
    clear hCL h2 hlc8 HL7 hx7 hR7 hb7 hsz7 hkeep HX6 HN6 HQ6 HZ6 HW6 HCC HL6
    go_wp2_with fail
    refine (earned_calls L6 c6 lc w7 HCL.out hlc).mono ?_
    rintro e w8 ⟨rfl, hb8⟩
    have HEN := Aside0.mk (show earnN lc = earnS lc by unfold earnN; rw [if_pos hac])
    rw [HEN.out, hac]
    have HB8 := Aside0.mk hb8; clear hb8
    go_wp2_with fail
    refine (mean_calls L6 c6 lc w8 (Kd.C_below HCL.out HB8.out) hlc).mono ?_
    rintro e w9 ⟨rfl, hb9⟩
    have HB9 := Aside0.mk (below_tr HB8.out hb9); clear hb9 HB8
    rw [hme]
    have hn9 := blk_low HB9.out HN7.out
    have z0 := (blk_cell hn9 0).trans rfl; have z1 := (blk_cell hn9 1).trans rfl
    have zf : ∀ i, w9.frozen? ⟨w.heap.size, i, none⟩ = false := fun i => blk_frozen hn9 i
    have HN9 := Aside0.mk hn9; clear hn9 HEN
    go_wp2
    have hn10 := blk_put2 HN9.out (.int .i64 (meanA lc)) (.int .i64 (meanB lc))
    have HX10 := Aside0.mk ((far_put2 (show g ≠ w.heap.size by omega) (.int .i64 (meanA lc)) (.int .i64 (meanB lc))).trans (blk_low HB9.out HX7.out))
    have HR10 := Aside0.mk (R_put2 (Kd.R_below HR7.out HB9.out) HN9.out (by decide) (.int .i64 (meanA lc)) (.int .i64 (meanB lc)))
    have HB10 := Aside0.mk (below_put2 (HB7.out.trans (HB9.out.mono HZ7.out)) hB (.int .i64 (meanA lc)) (.int .i64 (meanB lc)))
    have HKc := Aside0.mk (show KeepT w (((((w9.setCell ⟨w.heap.size, 0, none⟩ (.int .i64 (meanA lc))).setCell ⟨w.heap.size, 1, none⟩ (.int .i64 (meanB lc))).setCell ⟨w.heap.size, 0, none⟩ (.int .i64 (meanA lc))).setCell ⟨w.heap.size, 1, none⟩ (.int .i64 (meanB lc))).drew) from fun k cs t f h1 h2 hk => (far_put2 (show k ≠ w.heap.size by have := blk_lt hk; omega) _ _).trans ((far_put2 (show k ≠ w.heap.size by have := blk_lt hk; omega) _ _).trans (blk_low HB9.out (HKb.out k cs t f h1 h2 hk))))
    clear HN9 HB9 HX7 HR7 HB7 HZ7 z0 z1 zf HKa HKb HBk
    generalize ((w9.setCell ⟨w.heap.size, 0, none⟩ (.int .i64 (meanA lc))).setCell ⟨w.heap.size, 1, none⟩ (.int .i64 (meanB lc))) = w10 at *
    have z0 := (blk_cell hn10 0).trans rfl; have z1 := (blk_cell hn10 1).trans rfl
    have zf : ∀ i, w10.frozen? ⟨w.heap.size, i, none⟩ = false := fun i => blk_frozen hn10 i
    have HN10 := Aside0.mk hn10; clear hn10
    go_region
    go_wp2
    all_goals
      have hf := blk_put2 HN10.out (.int .i64 (meanA lc)) (.int .i64 (meanB lc))
      have u0 := (blk_cell hf 0).trans rfl; have u1 := (blk_cell hf 1).trans rfl
      have v0 : ((w10.setCell ⟨w.heap.size, 0, none⟩ (.int .i64 (meanA lc))).setCell ⟨w.heap.size, 1, none⟩ (.int .i64 (meanB lc))).drew.cell? ⟨w.heap.size, 0, none⟩ = some (.int .i64 (meanA lc)) := u0
      have v1 : ((w10.setCell ⟨w.heap.size, 0, none⟩ (.int .i64 (meanA lc))).setCell ⟨w.heap.size, 1, none⟩ (.int .i64 (meanB lc))).drew.cell? ⟨w.heap.size, 1, none⟩ = some (.int .i64 (meanB lc)) := u1
      first
      | exact bodyPost_ret (v := .tuple #[.int .i64 10000, .agg #[.int .i64 (meanA lc), .int .i64 (meanB lc)], .int .i64 0]) (by simp [results, Tryz.f35, go_sem, u0, u1, v0, v1]) rfl ⟨by rw [capE_hi (by omega)], v7, (far_put2 (show g ≠ w.heap.size by omega) _ _).trans HX10.out, by rw [← List.append_assoc]; exact Kd.R_drew (R_put2 HR10.out HN10.out (by decide) _ _), below_drew (below_put2 HB10.out hB _ _), HKc.out⟩
      | exact bodyPost_ret (v := .tuple #[.int .i64 (earnS lc), .agg #[.int .i64 (meanA lc), .int .i64 (meanB lc)], .int .i64 0]) (by simp [results, Tryz.f35, go_sem, u0, u1, v0, v1]) rfl ⟨by rw [capE_lo (by omega)], v7, (far_put2 (show g ≠ w.heap.size by omega) _ _).trans HX10.out, by rw [← List.append_assoc]; exact Kd.R_drew (R_put2 HR10.out HN10.out (by decide) _ _), below_drew (below_put2 HB10.out hB _ _), HKc.out⟩
end Go.Proofs.YtdnmoppegncioaaGreatDoor
