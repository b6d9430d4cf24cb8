/- sizarref23.Find: what it computes. -/
import Derived.Test.YtbpgoddohhiohaaDoorF
import Derived.Test.YtbpgoddohhiohaaDoorSC
import Derived.Test.YtbpgoddohhiohaaDoorR2
namespace Go.Proofs.YtbpgoddohhiohaaDoor
open Go.RowKit Go.Proofs.YtbpgoddohhiohaaDoorW.PrintWords
set_option linter.unusedVariables false
set_option linter.unusedSimpArgs false
theorem sFind_hit {l : List S34} {id : Int} (k : Nat) (hk : k < l.length) (h0 : ∀ j, j < k → ((rd_T34 l j).f0 == id) = false) (h1 : ((rd_T34 l k).f0 == id) = true) : sFind l id = (rd_T34 l k, true) := by
  have hi := fIdx_hit (fun s : S34 => s.f0 == id) l z34 k hk (fun j hj => by have := h0 j hj; simpa [rd_T34] using this) (by simpa [rd_T34] using h1)
  have hany : l.any (fun s => s.f0 == id) = true := by
    rw [List.any_eq_true]
    exact ⟨l[k], List.getElem_mem hk, by have := h1; rwa [show rd_T34 l k = l[k] from by simp [rd_T34, List.getElem?_eq_getElem hk]] at this⟩
  unfold sFind
  rw [if_pos hany, hi]
theorem sFind_miss {l : List S34} {id : Int} (h0 : ∀ j, j < l.length → ((rd_T34 l j).f0 == id) = false) : sFind l id = (z34, false) := by
  unfold sFind
  rw [if_neg]
  rw [List.any_eq_true]
  rintro ⟨x, hx, hp⟩
  obtain ⟨j, hj, rfl⟩ := List.mem_iff_getElem.1 hx
  have := h0 j hj
  rw [show rd_T34 l j = l[j] from by simp [rd_T34, List.getElem?_eq_getElem hj], hp] at this
  cases this
set_option maxRecDepth 100000 in
set_option maxHeartbeats 4000000 in
theorem rfind_calls (A : Option Addr) (c : Nat) (l : List S34) (id : Int) (w : World) (hr : k34.C w A l.length l) :
    Calls Tryd.prog 28 #[.slice A l.length c, .int .i64 id] w fun e w' => ∃ cs, e = .returned (.tuple #[.agg cs.toArray, .bool (sFind l id).2]) ∧ k34.K w' (sFind l id).1 cs ∧ Below w.heap.size w w' := by
  have hmax := Kd.C_max hr
  have HR := Aside0.mk hr; clear hr
  go_enter Tryd.func28, Tryd.ntmps28
  go_wp2
  go_loopw [6] (fun i wr => ∃ k : Nat, k ≤ l.length ∧ i = .int .i64 k ∧ Aside0 (∀ j, j < k → ((rd_T34 l j).f0 == id) = false) ∧ Aside0 (Below w.heap.size w wr) ∧ Aside0 (wr.heap[w.heap.size]? = some (.cells #[.int .i64 0, .int .i64 0, .int .i64 0, .int .i64 0, .int .i64 0, .slice none 0 0, .slice none 0 0, .slice none 0 0, .bool false] 34 (0, 0)))) (fun i _ => l.length - (intOf i).toNat)
  case atStart => exact ⟨0, Nat.zero_le _, rfl, ⟨fun j hj => absurd hj (Nat.not_lt_zero _)⟩, ⟨(Below.refl _ _).alloc (Nat.le_refl _) _⟩, ⟨new_blk _ _⟩⟩
  case round =>
    obtain ⟨k, hk, rfl, hV, hB, hbk⟩ := hrel
    have hcz : ∀ i, i < 9 → wr.frozen? ⟨w.heap.size, i, none⟩ = false := fun i _ => blk_frozen hbk.out i
    by_cases hlt : k < l.length
    · have hd : (k : Int) < l.length := by omega
      have hp0 : (0 : Int) ≤ k := by omega
      obtain ⟨ad, A5, c5, A6, c6, A7, c7, rfl, hx0, hx1, hx2, hx3, hx4, hx5, hx6, hx7, hx8, l5, g5, l6, g6, l7, g7⟩ := at_T34 HR.out k (by omega) (by omega)
      have G5 := Aside0.mk g5; have G6 := Aside0.mk g6; have G7 := Aside0.mk g7; clear g5 g6 g7
      simp only [Int.toNat_natCast] at hx0 hx1 hx2 hx3 hx4 hx5 hx6 hx7 hx8
      replace hx0 := cell_low hB.out hx0
      replace hx1 := cell_low hB.out hx1
      replace hx2 := cell_low hB.out hx2
      replace hx3 := cell_low hB.out hx3
      replace hx4 := cell_low hB.out hx4
      replace hx5 := cell_low hB.out hx5
      replace hx6 := cell_low hB.out hx6
      replace hx7 := cell_low hB.out hx7
      replace hx8 := cell_low hB.out hx8
      cases hv : ((rd_T34 l k).f0 == id) with
      | true =>
        have HS := Aside0.mk (sFind_hit k hlt hV.out hv)
        have f0 := blk_frozen hbk.out 0; have f1 := blk_frozen hbk.out 1; have f2 := blk_frozen hbk.out 2; have f3 := blk_frozen hbk.out 3; have f4 := blk_frozen hbk.out 4; have f5 := blk_frozen hbk.out 5; have f6 := blk_frozen hbk.out 6; have f7 := blk_frozen hbk.out 7; have f8 := blk_frozen hbk.out 8
        have y0 := (blk_cell hbk.out 0).trans rfl; have y1 := (blk_cell hbk.out 1).trans rfl; have y2 := (blk_cell hbk.out 2).trans rfl; have y3 := (blk_cell hbk.out 3).trans rfl; have y4 := (blk_cell hbk.out 4).trans rfl; have y5 := (blk_cell hbk.out 5).trans rfl; have y6 := (blk_cell hbk.out 6).trans rfl; have y7 := (blk_cell hbk.out 7).trans rfl; have y8 := (blk_cell hbk.out 8).trans rfl
        clear hcz
        go_wp2
        have hfin := blk_put9 hbk.out (.int .i64 (rd_T34 l k).f0) (.int .i64 (rd_T34 l k).f1) (.int .i64 (rd_T34 l k).f2) (.int .i64 (rd_T34 l k).f3) (.int .i64 (rd_T34 l k).f4) (.slice A5 (rd_T34 l k).f5.length c5) (.slice A6 (rd_T34 l k).f6.length c6) (.slice A7 (rd_T34 l k).f7.length c7) (.bool (rd_T34 l k).f8)
        have hbf := below_put9 (g := w.heap.size) hB.out (Nat.le_refl _) (.int .i64 (rd_T34 l k).f0) (.int .i64 (rd_T34 l k).f1) (.int .i64 (rd_T34 l k).f2) (.int .i64 (rd_T34 l k).f3) (.int .i64 (rd_T34 l k).f4) (.slice A5 (rd_T34 l k).f5.length c5) (.slice A6 (rd_T34 l k).f6.length c6) (.slice A7 (rd_T34 l k).f7.length c7) (.bool (rd_T34 l k).f8)
        refine bodyPost_ret (results_ct rfl _ _ w.heap.size 34 _ (0, 0) _ rfl hfin Tryd.underlying34 rfl (by kernel_rfl)) rfl ?_
        rw [HS.out]
        exact ⟨_, rfl, k34_mk _ _ l5 (Kd.C_below G5.out hbf) l6 (Kd.C_below G6.out hbf) l7 (Kd.C_below G7.out hbf), hbf⟩
      | false =>
        clear hcz
        go_wp2
        exact ⟨⟨k + 1, by omega, by go_num, ⟨fun j hj => by
          rcases Nat.lt_or_ge j k with h | h
          · exact hV.out j h
          · obtain rfl : j = k := by omega
            exact hv⟩, hB, hbk⟩, by simp [intOf]; omega⟩
    · have hd : ¬ (k : Int) < l.length := by omega
      obtain rfl : k = l.length := by omega
      have HS := Aside0.mk (sFind_miss hV.out)
      have f0 := blk_frozen hbk.out 0; have f1 := blk_frozen hbk.out 1; have f2 := blk_frozen hbk.out 2; have f3 := blk_frozen hbk.out 3; have f4 := blk_frozen hbk.out 4; have f5 := blk_frozen hbk.out 5; have f6 := blk_frozen hbk.out 6; have f7 := blk_frozen hbk.out 7; have f8 := blk_frozen hbk.out 8
      have y0 := (blk_cell hbk.out 0).trans rfl; have y1 := (blk_cell hbk.out 1).trans rfl; have y2 := (blk_cell hbk.out 2).trans rfl; have y3 := (blk_cell hbk.out 3).trans rfl; have y4 := (blk_cell hbk.out 4).trans rfl; have y5 := (blk_cell hbk.out 5).trans rfl; have y6 := (blk_cell hbk.out 6).trans rfl; have y7 := (blk_cell hbk.out 7).trans rfl; have y8 := (blk_cell hbk.out 8).trans rfl
      clear hcz
      go_wp2
      have hfin := blk_put9 hbk.out (.int .i64 0) (.int .i64 0) (.int .i64 0) (.int .i64 0) (.int .i64 0) (.slice none 0 0) (.slice none 0 0) (.slice none 0 0) (.bool false)
      have hbf := below_put9 (g := w.heap.size) hB.out (Nat.le_refl _) (.int .i64 0) (.int .i64 0) (.int .i64 0) (.int .i64 0) (.int .i64 0) (.slice none 0 0) (.slice none 0 0) (.slice none 0 0) (.bool false)
      refine bodyPost_ret (results_ct rfl _ _ w.heap.size 34 _ (0, 0) _ rfl hfin Tryd.underlying34 rfl (by kernel_rfl)) rfl ?_
      rw [HS.out]
      exact ⟨_, rfl, k34_mk _ z34 (Nat.le_refl _) (Kd.C_nil _ _) (Nat.le_refl _) (Kd.C_nil _ _) (Nat.le_refl _) (Kd.C_nil _ _), hbf⟩
end Go.Proofs.YtbpgoddohhiohaaDoor
