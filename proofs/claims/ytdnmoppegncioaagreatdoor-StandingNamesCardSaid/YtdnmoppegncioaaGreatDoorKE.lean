/- average.Sums: the credits, and the grades times credits. -/
import Derived.Test.YtdnmoppegncioaaGreatDoorKD
namespace Go.Proofs.YtdnmoppegncioaaGreatDoor
open Go.RowKit Go.Shelf Go.Proofs.YtdnmoppegncioaaGreatDoorW.PrintWords
set_option linter.unusedVariables false
set_option linter.unusedSimpArgs false
attribute [local go_sem] Oper.semAt_some yld_undef
/-- average.Sums' answers. -/
def credN (l : List S141) : Int := if aCheck l = 0 then credS l else 0
def pntN (l : List S141) : Int := if aCheck l = 0 then pntS l else 0
set_option maxRecDepth 100000 in
set_option maxHeartbeats 8000000 in
theorem sums_calls (A : Option Addr) (c : Nat) (l : List S141) (w : World) (hr : k141.C w A l.length l) (hl : l.length ≤ 10000000000000000) :
    Calls Tryz.prog 59 #[.slice A l.length c] w fun e w' => e = .returned (.tuple #[.int .i64 (credN l), .int .i64 (pntN l), .int .i64 (aCheck l)]) ∧ Below w.heap.size w w' := by
  obtain ⟨W1, h1⟩ : ∃ W1, W1 = w.alloc (.cells #[.int .i64 0] 3) := ⟨_, rfl⟩
  obtain ⟨W2, h2⟩ : ∃ W2, W2 = W1.alloc (.cells #[.int .i64 0] 3) := ⟨_, rfl⟩
  have p1 := nb (W := w) rfl (.cells #[.int .i64 0] 3); rw [← h1] at p1
  have p2 := nb p1.2 (.cells #[.int .i64 0] 3); rw [← h2] at p2
  have hB1 : Below w.heap.size w W2 := by rw [h2, h1]; exact ((Below.refl _ w).alloc (Nat.le_refl _) _).alloc (by simp) _
  have hcall := (callsIn_wide (n := 9 - 1)).2 (acheck_calls A c l W2 (Kd.C_below hr hB1))
  have HR := Aside0.mk hr; have HX1 := Aside0.mk (show W2.heap[w.heap.size]? = some (.cells #[.int .i64 0] 3 (0, 0)) by rw [h2]; exact blk_alloc p1.1 _); have HY1 := Aside0.mk p2.1; have HB1 := Aside0.mk hB1; clear hr p1 p2 hB1
  refine (callsIn_wide (n := 9)).1 (callsIn_of_wp_marks Tryz.func59 rfl trivial ?_ rfl)
  simp only [Tryz.ntmps59, List.size_toArray, List.length_cons, List.length_nil, Nat.reduceAdd, Nat.reduceSub, Array.replicate_succ, Array.replicate_zero, List.push_toArray, List.append_toArray, List.nil_append, List.cons_append]
  gi_wp2_with fail
  rw [← h1, ← h2]
  refine ⟨trivial, ?_⟩
  refine hcall.mono ?_
  rintro e w2 ⟨rfl, hb2⟩
  have HX2 := Aside0.mk (blk_low hb2 HX1.out); have HY2 := Aside0.mk (blk_low hb2 HY1.out); have HB2 := Aside0.mk (below_tr HB1.out hb2)
  clear hb2 hcall h1 h2
  rcases aCheck_or l with hc | hc
  · have HALL := Aside0.mk (aCheck_zero hc)
    have HN := Aside0.mk (show credN l = credS l by unfold credN; rw [if_pos hc]); have HM := Aside0.mk (show pntN l = pntS l by unfold pntN; rw [if_pos hc])
    have HC := Aside0.mk hc
    rw [hc]
    clear hc
    gi_wp2_with fail
    refine ⟨trivial, ?_⟩
    refine ((callsIn_wide (n := 9 - 1)).2 (weights_calls A l.length c _)).mono ?_
    rintro e w3 ⟨rfl, rfl⟩
    gi_wp2_with fail
    obtain ⟨W0, h0⟩ : ∃ W0, W0 = w2.alloc (.cells #[.slice A l.length c] 86) := ⟨_, rfl⟩
    have hB0 : Below w.heap.size w W0 := by rw [h0]; exact HB2.out.alloc HB2.out.size _
    have hX0 : W0.heap[w.heap.size]? = some (.cells #[.int .i64 0] 3 (0, 0)) := by rw [h0]; exact blk_alloc HX2.out _
    have hY0 : W0.heap[w.heap.size + 1]? = some (.cells #[.int .i64 0] 3 (0, 0)) := by rw [h0]; exact blk_alloc HY2.out _
    have hL0 : W0.heap[w2.heap.size]? = some (.cells #[.slice A l.length c] 86 (0, 0)) := by rw [h0]; exact new_blk _ _
    rw [← h0]
    clear h0
    refine wpIn_rangeFunc_ownH (F := Fence.wide) rfl (by omega) (gf := 80) (lb := #[.pointer (some ⟨w2.heap.size, 0, none⟩)]) rfl trivial (enters_of Tryz.func80 (by kernel_rfl) rfl)
      (weights_stops (9 - 1) (by omega) w2.heap.size A c l HALL.out w W0 hB0 hL0 HR.out) belowK_t (belowK_b hB0.size) (Below.refl _ _) (fun _ => rfl)
      (fun pre W => W.heap[w.heap.size]? = some (.cells #[.int .i64 (credS (vals pre))] 3 (0, 0)) ∧ W.heap[w.heap.size + 1]? = some (.cells #[.int .i64 (pntS (vals pre))] 3 (0, 0)) ∧ Below w.heap.size w W)
      (fun cd pre W => False)
      (OwnFrom.and (ownFrom_blk _) (OwnFrom.and (ownFrom_blk _) (ownFrom_below (Nat.le_refl _) hB0.size)))
      (fun cd => ownFrom_pure _ _)
      ⟨hX0, hY0, hB0⟩
      (fun x a' W => a' = { tmps := #[.slice A l.length c, undef, .pointer (some ⟨w.heap.size, 0, none⟩), .pointer (some ⟨w.heap.size + 1, 0, none⟩), .int .i64 0, .int .i64 x.1.f2, .int .i64 x.1.f4, .slice A l.length c, .int .i64 0, .int .i64 0, .bool false, undef, .slice A l.length c, .func (.func 80) #[] #[.pointer (some ⟨w2.heap.size, 0, none⟩)], .int .i64 x.1.f2, .int .i64 x.1.f4, undef, undef, undef, undef, undef, undef, undef, undef, undef, undef], defers := [] })
      (fun x a' => ownFrom_pure _ _) ?assign ?body ?done ?stop
    case assign =>
      rintro lp pre x W K ⟨h1, h2, hb⟩ hK2
      gi_wp2
      exact hK2 _ _ (keepsFrom_below (Below.refl _ _)) (Below.refl _ _) ⟨h1, h2, hb⟩ rfl
    case body =>
      rintro lp pre x a' W hlp ⟨r, hr2⟩ ⟨h1, h2, hb⟩ rfl hlen
      have HS := Aside0.mk (credS_snoc (vals pre) x.1); have HT := Aside0.mk (pntS_snoc (vals pre) x.1)
      have hbd := (sums_bd _ (attOk_all pre)).2
      have hfx := fitsA_iff x.2
      have hmb := mul_bd hfx.2.2.1.1 hfx.2.2.1.2 hfx.2.2.2.2.1 hfx.2.2.2.2.2
      have HM := Aside0.mk (vals_snoc pre x)
      rw [vals_len] at hbd
      generalize credS (vals pre) = s at h1 HS hbd
      generalize pntS (vals pre) = u at h2 HT hbd
      obtain ⟨⟨x0, x1, x2, x3, x4⟩, hx⟩ := x
      dsimp only at *
      have hq : IntKind.i64.wrap (x2 * x4) = x2 * x4 := wrap_i64 _ (by omega) (by omega)
      have hw : IntKind.i64.wrap (s + x4) = s + x4 := wrap_i64 _ (by omega) (by omega)
      have hv : IntKind.i64.wrap (u + x2 * x4) = u + x2 * x4 := wrap_i64 _ (by omega) (by omega)
      have c0 := (blk_cell h1 0).trans rfl
      have f0 := blk_frozen h1 0
      have d0 := (blk_cell h2 0).trans rfl
      have g0 := blk_frozen h2 0
      have H1 := Aside0.mk h1; have H2 := Aside0.mk h2; have HB := Aside0.mk hb
      clear h1 h2 hb hbd hfx
      gi_wp2
      exact ⟨keepsFrom_set (keepsFrom_set (keepsFrom_below (Below.refl _ _)) _ _) _ _, ((Below.refl w.heap.size W).setCell (p := ⟨w.heap.size, 0, none⟩) (Nat.le_refl _) _).setCell (p := ⟨w.heap.size + 1, 0, none⟩) (Nat.le_succ _) _,
        by rw [HM.out, HS.out]; exact (Below.heap_setCell _ _ _ _ (by simp)).trans (blk_put H1.out 0 _ rfl), by rw [HM.out, HT.out]; exact blk_put (cs' := #[.int .i64 (u + x2 * x4)]) ((Below.heap_setCell _ _ _ _ (by simp)).trans H2.out) 0 _ rfl, (HB.out.setCell (p := ⟨w.heap.size, 0, none⟩) (Nat.le_refl _) _).setCell (p := ⟨w.heap.size + 1, 0, none⟩) (Nat.le_succ _) _⟩
    case done =>
      rintro D ys W hD hys ⟨h1, h2, hb⟩ hK
      rw [hys] at h1 h2
      have hn := HN.out; have hm := HM.out
      generalize credS l = s at h1 hn
      generalize pntS l = u at h2 hm
      have HN := Aside0.mk hn; have HM := Aside0.mk hm; clear hn hm
      have c0 := (blk_cell h1 0).trans rfl
      have f0 := blk_frozen h1 0
      have d0 := (blk_cell h2 0).trans rfl
      have g0 := blk_frozen h2 0
      have H1 := Aside0.mk h1; have H2 := Aside0.mk h2; have HB := Aside0.mk hb; have HK := Aside0.mk hK
      clear h1 h2 hb hK hys hX0 hY0 hL0
      gi_wp2
      gi_region
      gi_wp2
      have hK1 := (KeepsOthers.setCell W ⟨w.heap.size, 0, none⟩ (.int .i64 s)).same D _ HK.out rfl
      have hK2 := (KeepsOthers.setCell (W.setCell ⟨w.heap.size, 0, none⟩ (.int .i64 s)) ⟨w.heap.size + 1, 0, none⟩ (.int .i64 u)).same D _ hK1 rfl
      have hK' : ((W.setCell ⟨w.heap.size, 0, none⟩ (.int .i64 s)).setCell ⟨w.heap.size + 1, 0, none⟩ (.int .i64 u)).drew.heap[D]? = some (.deferred (some [])) := hK2
      refine ⟨by simp, .inl ⟨_, _, rfl, run_takeDeferred hK', ?_⟩⟩
      have hb2 := blk_put H1.out 0 (.int .i64 s) rfl
      have hd1 : ((W.setCell ⟨w.heap.size, 0, none⟩ (.int .i64 s)).setCell ⟨w.heap.size + 1, 0, none⟩ (.int .i64 u)).drew.cell? ⟨w.heap.size, 0, none⟩ = some (.int .i64 s) := (blk_cell ((Below.heap_setCell _ _ _ _ (by simp)).trans hb2) 0).trans rfl
      have hd2 : ((W.setCell ⟨w.heap.size, 0, none⟩ (.int .i64 s)).setCell ⟨w.heap.size + 1, 0, none⟩ (.int .i64 u)).drew.cell? ⟨w.heap.size + 1, 0, none⟩ = some (.int .i64 u) := (blk_cell (blk_put (cs' := #[.int .i64 u]) ((Below.heap_setCell _ _ _ _ (by simp)).trans H2.out) 0 (.int .i64 u) rfl) 0).trans rfl
      have hc5 := cell_kept hd1 (grownBy_putObj' _ D (.deferred none)) (fun r e => by cases e; exact ⟨_, hK', rfl⟩)
      have hc6 := cell_kept hd2 (grownBy_putObj' _ D (.deferred none)) (fun r e => by cases e; exact ⟨_, hK', rfl⟩)
      exact ⟨.tuple #[.int .i64 s, .int .i64 u, .int .i64 0], by simp [results, Tryz.f59, go_sem, hc5, hc6], by rw [HN.out, HM.out, HC.out], (below_drew ((HB.out.setCell (p := ⟨w.heap.size, 0, none⟩) (Nat.le_refl _) _).setCell (p := ⟨w.heap.size + 1, 0, none⟩) (Nat.le_succ _) _)).trans (belowK_b (w := w) (Nat.le_refl _) _ D _ _ (Nat.le_trans hB0.size hD) hK' rfl rfl)⟩
    case stop => rintro D cd pre W hD hpre h hK; exact h.elim
  · have HN := Aside0.mk (show credN l = 0 by unfold credN; rw [if_neg (by rw [hc]; decide)]); have HM := Aside0.mk (show pntN l = 0 by unfold pntN; rw [if_neg (by rw [hc]; decide)])
    have HC := Aside0.mk hc
    rw [hc]
    clear hc
    have c0 := (blk_cell HX2.out 0).trans rfl
    have f0 := blk_frozen HX2.out 0
    have d0 := (blk_cell HY2.out 0).trans rfl
    have g0 := blk_frozen HY2.out 0
    gi_wp2
    have hb2 := blk_put HX2.out 0 (.int .i64 0) rfl
    have hc5 : ((w2.setCell ⟨w.heap.size, 0, none⟩ (.int .i64 0)).setCell ⟨w.heap.size + 1, 0, none⟩ (.int .i64 0)).cell? ⟨w.heap.size, 0, none⟩ = some (.int .i64 0) := (blk_cell ((Below.heap_setCell _ _ _ _ (by simp)).trans hb2) 0).trans rfl
    have hc6 : ((w2.setCell ⟨w.heap.size, 0, none⟩ (.int .i64 0)).setCell ⟨w.heap.size + 1, 0, none⟩ (.int .i64 0)).cell? ⟨w.heap.size + 1, 0, none⟩ = some (.int .i64 0) := (blk_cell (blk_put (cs' := #[.int .i64 0]) ((Below.heap_setCell _ _ _ _ (by simp)).trans HY2.out) 0 (.int .i64 0) rfl) 0).trans rfl
    exact ⟨.tuple #[.int .i64 0, .int .i64 0, .int .i64 150], by simp [results, Tryz.f59, go_sem, hc5, hc6], by rw [HN.out, HM.out, HC.out], (HB2.out.setCell (p := ⟨w.heap.size, 0, none⟩) (Nat.le_refl _) _).setCell (p := ⟨w.heap.size + 1, 0, none⟩) (Nat.le_succ _) _⟩
end Go.Proofs.YtdnmoppegncioaaGreatDoor
