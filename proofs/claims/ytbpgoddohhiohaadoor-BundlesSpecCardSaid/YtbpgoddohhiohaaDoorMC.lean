/- meeting.Check and meeting.Clash: what they compute. No condition but how the slices lie in memory. -/
import Derived.Test.YtbpgoddohhiohaaDoorP
namespace Go.Proofs.YtbpgoddohhiohaaDoor
open Go.RowKit Go.Shelf Go.Proofs.YtbpgoddohhiohaaDoorW.PrintWords
set_option linter.unusedVariables false
set_option linter.unusedSimpArgs false
attribute [local go_sem] Oper.semAt_some

theorem ownFrom_blk {β : Type} {B g : Nat} {cs : Array Value} {t : TypeId} (f : Nat × Nat) : OwnFrom B (fun (_ : β) (W : World) => W.heap[g]? = some (Obj.cells cs t f)) := fun s W W' row hs hg hr => by
  refine (hg.block g (Array.getElem?_eq_some_iff.1 hs).1 (fun e => ?_)).trans hs
  obtain ⟨_, o, ho, hc⟩ := hr g e.symm
  rw [hs] at ho
  injection ho with ho
  subst ho
  simp [Obj.isCells] at hc
theorem ownFrom_ex {β γ : Type} {B : Nat} {I : γ → β → World → Prop} (h : ∀ x, OwnFrom B (I x)) : OwnFrom B (fun s W => ∃ x, I x s W) := fun s W W' row ⟨x, hs⟩ hg hr => ⟨x, h x s W W' row hs hg hr⟩
theorem keepsFrom_below {B : Nat} {W W' : World} (h : Below W.heap.size W W') : KeepsFrom B W W' := ⟨h.size, fun k o _ hk _ => (h.block k (Array.getElem?_eq_some_iff.1 hk).1).trans hk⟩
def mCheck (l : List S65) : Int := if 16 < l.length then 220 else if l.all mValid = false then 220 else if (prsUp l l.length).any (fun p => mOver p.1 p.2) = true then 220 else 0

theorem pairs_calls (A : Option Addr) (n c : Nat) (w : World) :
    Calls Tryd.prog 63 #[.slice A n c] w fun e w' => e = .returned (.func (.func 81) #[] #[.pointer (some ⟨w.heap.size, 0, none⟩)]) ∧ w' = w.alloc (.cells #[.slice A n c] 30) := by
  go_enter Tryd.func63, Tryd.ntmps63
  go_wp2
  go_ret
  exact ⟨rfl, rfl⟩

set_option maxRecDepth 100000 in
set_option maxHeartbeats 2000000 in
theorem mcheck_calls (A : Option Addr) (c : Nat) (l : List S65) (w : World) (hr : k65.C w A l.length l) (hc : l.length ≤ c) :
    Calls Tryd.prog 47 #[.slice A l.length c] w fun e w' => e = .returned (.int .i64 (mCheck l)) ∧ Below w.heap.size w w' := by
  have hmax := Kd.C_max hr
  refine (callsIn_wide (n := 9)).1 (callsIn_of_wp_marks Tryd.func47 rfl trivial ?_ rfl)
  simp only [Tryd.ntmps47, List.size_toArray, List.length_cons, List.length_nil, Nat.reduceAdd, Nat.reduceSub, Array.replicate_succ, Array.replicate_zero, List.push_toArray, List.append_toArray, List.nil_append, List.cons_append]
  by_cases h16 : 16 < l.length
  · have h16' : (16 : Int) < l.length := by omega
    have hs : mCheck l = 220 := by unfold mCheck; rw [if_pos h16]
    gi_wp2
    exact ⟨.int .i64 220, by simp [results, Tryd.f47, go_sem], by rw [hs], (Below.refl _ _).alloc (Nat.le_refl _) _⟩
  · have h16' : ¬ (16 : Int) < l.length := by omega
    gi_wp2
    gi_loopw [12] (fun i wr => ∃ k : Nat, k ≤ l.length ∧ i = .int .i64 k ∧ Aside0 (∀ j, j < k → mValid (rd_T65 l j) = true) ∧ Below w.heap.size w wr ∧ wr.heap[w.heap.size]? = some (.cells #[.int .i64 0] 35 (0, 0))) (fun i _ => l.length - (intOf i).toNat)
    case atStart => exact ⟨0, Nat.zero_le _, rfl, ⟨fun j hj => absurd hj (Nat.not_lt_zero _)⟩, (Below.refl _ _).alloc (Nat.le_refl _) _, World.alloc_heap_new _ _⟩
    case round =>
      obtain ⟨k, hk, rfl, hV, hB, hbox⟩ := hrel
      have hcz := (blk_cell hbox 0).trans rfl
      have hfz := blk_frozen hbox 0
      by_cases hlt : k < l.length
      · have hC := Kd.C_below hr hB
        obtain ⟨ad, rfl, hx0, hx1, hx2, hx3, hx4⟩ := at_T65 hC k (by omega) (by omega)
        simp only [Int.toNat_natCast] at hx0 hx1 hx2 hx3 hx4
        have hd : (k : Int) < l.length := by omega
        have hcall := fun W => (callsIn_wide (n := 9 - 1)).2 (valid_calls (rd_T65 l k) W)
        cases hv : mValid (rd_T65 l k) with
        | true =>
          rw [hv] at hcall
          gi_wp2_with (refine ⟨trivial, ?_⟩; gi_at_call 62; refine (hcall _).mono ?_; rintro e w1 ⟨rfl, hb1⟩)
          go_roundw
          case rel => exact ⟨k + 1, by omega, by go_num, ⟨fun j hj => by
            rcases Nat.lt_or_ge j k with h | h
            · exact hV.out j h
            · obtain rfl : j = k := by omega
              exact hv⟩, below_tr (hB.alloc hB.size _) hb1, (hb1.block _ (by simp; have := blk_lt hbox; omega)).trans (blk_alloc hbox _)⟩
          case measure => simp [intOf]; omega
        | false =>
          rw [hv] at hcall
          have hs : mCheck l = 220 := by
            unfold mCheck
            rw [if_neg h16, if_pos]
            rw [Bool.eq_false_iff]
            intro hall
            have h2 := List.all_eq_true.1 hall _ (List.getElem_mem hlt)
            rw [show l[k] = rd_T65 l k from by simp [rd_T65, List.getElem?_eq_getElem hlt]] at h2
            rw [h2] at hv
            cases hv
          have HS := Aside0.mk hs; clear hs
          have hle := Nat.le_of_lt (blk_lt hbox)
          gi_wp2_with (refine ⟨trivial, ?_⟩; gi_at_call 62; refine (hcall _).mono ?_; rintro e w1 ⟨rfl, hb1⟩; have hbox1 := (hb1.block _ (by simp; have := blk_lt hbox; omega)).trans (blk_alloc hbox _); have hcz1 := (blk_cell hbox1 0).trans rfl; have hfz1 := blk_frozen hbox1 0; have HB1 := Aside0.mk (below_tr (hB.alloc hB.size _) hb1); have hbx1 := Aside0.mk hbox1; clear hb1 hbox1)
          refine ⟨.int .i64 220, ?_, by rw [HS.out], HB1.out.setCell (by simp) _⟩
          have hbb := blk_put hbx1.out 0 (.int .i64 220) rfl
          have hcc := (blk_cell hbb 0).trans rfl
          simp [results, Tryd.f47, go_sem, hcc]
      · obtain rfl : k = l.length := by omega
        gi_wp2_with (refine ⟨trivial, ?_⟩; gi_at_call 63; refine ((callsIn_wide (n := 9 - 1)).2 (pairs_calls _ _ _ _)).mono ?_; rintro e w1 ⟨rfl, rfl⟩)
        have hall : l.all mValid = true := by
          rw [List.all_eq_true]
          intro x hx
          obtain ⟨j, hj, rfl⟩ := List.mem_iff_getElem.1 hx
          have := hV.out j hj
          rwa [show rd_T65 l j = l[j] from by simp [rd_T65, List.getElem?_eq_getElem hj]] at this
        obtain ⟨W0, hW0⟩ : ∃ W0, wr.alloc (.cells #[.slice A l.length c] 30) = W0 := ⟨_, rfl⟩
        have hB0 : Below w.heap.size w W0 := by rw [← hW0]; exact hB.alloc hB.size _
        have hbox0 : W0.heap[w.heap.size]? = some (.cells #[.int .i64 0] 35 (0, 0)) := by rw [← hW0]; exact blk_alloc hbox _
        have hslot : W0.cell? ⟨wr.heap.size, 0, none⟩ = some (.slice A l.length c) := by rw [← hW0]; exact (blk_cell (World.alloc_heap_new _ _) 0).trans rfl
        have hC0 : k65.C W0 A l.length l := Kd.C_below hr hB0
        have hlt0 := blk_lt hbox0
        rw [hW0]
        clear hW0 hcz hfz hbox
        refine wpIn_rangeFunc_ownH (F := Fence.wide) rfl (by omega) (gf := 81) (lb := #[.pointer (some ⟨wr.heap.size, 0, none⟩)]) rfl trivial (enters_of Tryd.func81 (by kernel_rfl) rfl)
          (pairs_stops (9 - 1) (by omega) wr.heap.size A c l W0 hslot hC0 hc) KpC.trans (kpC_b (Nat.le_refl _)) (Below.refl _ _) (fun _ => rfl)
          (fun pre W => ((∀ p ∈ pre, mOver p.1 p.2 = false) ∧ W.heap[w.heap.size]? = some (.cells #[.int .i64 0] 35 (0, 0))) ∧ Below W0.heap.size W0 W)
          (fun cd pre W => ((cd = .ret ∧ ∃ p ∈ pre, mOver p.1 p.2 = true) ∧ W.heap[w.heap.size]? = some (.cells #[.int .i64 220] 35 (0, 0))) ∧ Below w.heap.size w W)
          (OwnFrom.and (OwnFrom.and (ownFrom_pure _ _) (ownFrom_blk _)) (ownFrom_below (Nat.le_refl _) (Nat.le_refl _)))
          (fun cd => OwnFrom.and (OwnFrom.and (ownFrom_pure _ _) (ownFrom_blk _)) (ownFrom_below (Nat.le_refl _) hB0.size))
          ⟨⟨(fun p hp => (by cases hp)), hbox0⟩, Below.refl _ _⟩
          (fun x a' W => ∃ g5 g6 : Nat, (W.heap[g5]? = some (.cells #[.int .i64 x.1.f0, .int .i64 x.1.f1, .int .i64 x.1.f2, .int .i64 x.1.f3, .int .i64 x.1.f4] 65 (0, 0)) ∧ W.heap[g6]? = some (.cells #[.int .i64 x.2.f0, .int .i64 x.2.f1, .int .i64 x.2.f2, .int .i64 x.2.f3, .int .i64 x.2.f4] 65 (0, 0))) ∧ a' = { tmps := #[.slice A l.length c, undef, .pointer (some ⟨w.heap.size, 0, none⟩), undef, u4, .pointer (some ⟨g5, 0, none⟩), .pointer (some ⟨g6, 0, none⟩), .slice A l.length c, .int .i64 l.length, .bool false, .slice A l.length c, .int .i64 l.length, .int .i64 l.length, .bool false, u14, u15, u16, u17, u18, u19, .slice A l.length c, .func (.func 81) #[] #[.pointer (some ⟨wr.heap.size, 0, none⟩)], encM x.1, encM x.2, undef, undef, undef], defers := [] })
          (fun x a' => ownFrom_ex fun g5 => ownFrom_ex fun g6 => OwnFrom.and (OwnFrom.and (ownFrom_blk _) (ownFrom_blk _)) (ownFrom_pure _ _)) ?assign ?body ?done ?stop
        case assign =>
          rintro lp pre x W K ⟨⟨hp, hbx⟩, hb⟩ hK
          gi_wp2
          refine hK _ _ ((keepsFrom_below ((Below.refl _ W).alloc (Nat.le_refl _) _)).trans (keepsFrom_below ((Below.refl _ _).alloc (Nat.le_refl _) _))) (KpC.of_below (((Below.refl _ W).alloc (Nat.le_refl _) _).alloc (by simp) _) hb.size) ⟨⟨hp, blk_alloc (blk_alloc hbx _) _⟩, (hb.alloc hb.size _).alloc (by simp; have := hb.size; omega) _⟩ ⟨W.heap.size, W.heap.size + 1, ⟨blk_alloc (World.alloc_heap_new _ _) _, ?_⟩, rfl⟩
          have hn := World.alloc_heap_new (W.alloc (.cells #[.int .i64 x.1.f0, .int .i64 x.1.f1, .int .i64 x.1.f2, .int .i64 x.1.f3, .int .i64 x.1.f4] 65)) (.cells #[.int .i64 x.2.f0, .int .i64 x.2.f1, .int .i64 x.2.f2, .int .i64 x.2.f3, .int .i64 x.2.f4] 65)
          rwa [World.size_alloc] at hn
        case body =>
          rintro lp pre x a' W hlp ⟨r, hr2⟩ ⟨⟨hp, hbx⟩, hb⟩ ⟨g5, g6, ⟨h5, h6⟩, rfl⟩ hlen
          have hcz := (blk_cell hbx 0).trans rfl
          have hfz := blk_frozen hbx 0
          have y0 := (blk_cell h5 0).trans rfl; have y1 := (blk_cell h5 1).trans rfl; have y2 := (blk_cell h5 2).trans rfl; have y3 := (blk_cell h5 3).trans rfl; have y4 := (blk_cell h5 4).trans rfl
          have z0 := (blk_cell h6 0).trans rfl; have z1 := (blk_cell h6 1).trans rfl; have z2 := (blk_cell h6 2).trans rfl; have z3 := (blk_cell h6 3).trans rfl; have z4 := (blk_cell h6 4).trans rfl
          have hcall := fun W => (callsIn_wide (n := 9 - 1 - 1 - 1)).2 (over_calls x.1 x.2 W)
          cases hv : mOver x.1 x.2 with
          | false =>
            rw [hv] at hcall
            gi_wp2_with (refine ⟨trivial, ?_⟩; gi_at_call 49; refine (CallsIn.inRound lp (hcall _)).mono ?_; rintro e w1 ⟨rfl, hb1⟩)
            refine ⟨keepsFrom_below hb1, KpC.of_below hb1 hb.size, ⟨⟨?_, (hb1.block _ (blk_lt hbx)).trans hbx⟩, below_tr hb hb1⟩⟩
            · intro p hp'
              rcases List.mem_append.1 hp' with h | h
              · exact hp p h
              · rw [List.mem_singleton.1 h]; exact hv
          | true =>
            rw [hv] at hcall
            gi_wp2_with (refine ⟨trivial, ?_⟩; gi_at_call 49; refine (CallsIn.inRound lp (hcall _)).mono ?_; rintro e w1 ⟨rfl, hb1⟩; have hbox1 := (hb1.block _ (blk_lt hbx)).trans hbx; have hcz1 := (blk_cell hbox1 0).trans rfl; have hfz1 := blk_frozen hbox1 0; have HB1 := Aside0.mk hb1; have hbx1 := Aside0.mk hbox1; clear hb1 hbox1)
            refine ⟨(keepsFrom_below HB1.out).trans ((KeepsOthers.setCell _ _ _).from _), ⟨⟨rfl, x, by simp, hv⟩, blk_put hbx1.out 0 _ rfl⟩, (below_tr hB0 (below_tr hb HB1.out)).setCell (Nat.le_refl _) _⟩
        case done =>
          rintro D ys W hD rfl ⟨⟨hp, hbx⟩, hb⟩ hK
          have hcz := (blk_cell hbx 0).trans rfl
          have hfz := blk_frozen hbx 0
          have hs : mCheck l = 0 := by
            unfold mCheck
            rw [if_neg h16, if_neg, if_neg]
            · intro h
              obtain ⟨q, hq, hq2⟩ := List.any_eq_true.1 h
              rw [hp q hq] at hq2
              cases hq2
            · rw [hall]; simp
          have HS := Aside0.mk hs; clear hs
          gi_wp2
          have hK' := (KeepsOthers.setCell W ⟨w.heap.size, 0, none⟩ (.int .i64 0)).same D _ hK rfl
          refine ⟨by simp, .inl ⟨_, _, rfl, run_takeDeferred hK', ?_⟩⟩
          have hb2 := blk_put hbx 0 (.int .i64 0) rfl
          have hc5 := cell_kept ((blk_cell hb2 0).trans rfl) (grownBy_putObj' _ D (.deferred none)) (fun r e => by cases e; exact ⟨_, hK', rfl⟩)
          refine ⟨.int .i64 0, by simp [results, Tryd.f47, go_sem, hc5], by rw [HS.out], ((below_tr hB0 hb).setCell (Nat.le_refl _) _).trans (belowK_b (w := w) (Nat.le_refl _) _ D _ _ (Nat.le_trans hB0.size hD) hK' rfl rfl)⟩
        case stop =>
          rintro D cd pre W hD hpre ⟨⟨⟨rfl, hp⟩, hbx⟩, hb⟩ hK
          have hs : mCheck l = 220 := by
            obtain ⟨q, hq, hq2⟩ := hp
            unfold mCheck
            rw [if_neg h16, if_neg (by rw [hall]; simp), if_pos]
            exact List.any_eq_true.2 ⟨q, hpre.subset hq, hq2⟩
          have HS := Aside0.mk hs; clear hs
          gi_wp2
          refine ⟨by simp, .inl ⟨_, _, rfl, run_takeDeferred hK, ?_⟩⟩
          have hc5 := cell_kept ((blk_cell hbx 0).trans rfl) (grownBy_putObj' _ D (.deferred none)) (fun r e => by cases e; exact ⟨_, hK, rfl⟩)
          exact ⟨.int .i64 220, by simp [results, Tryd.f47, go_sem, hc5], by rw [HS.out], hb.trans (belowK_b (w := w) (Nat.le_refl _) W D _ _ (Nat.le_trans hB0.size hD) hK rfl rfl)⟩
end Go.Proofs.YtbpgoddohhiohaaDoor
