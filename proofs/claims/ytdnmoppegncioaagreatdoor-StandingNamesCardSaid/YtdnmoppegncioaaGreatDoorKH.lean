/- facts.At: the value of a key in a term, as it is known at a time. -/
import Derived.Test.YtdnmoppegncioaaGreatDoorKG
namespace Go.Proofs.YtdnmoppegncioaaGreatDoor
open Go.RowKit Go.Shelf Go.Proofs.YtdnmoppegncioaaGreatDoorW.PrintWords
set_option linter.unusedVariables false
set_option linter.unusedSimpArgs false
attribute [local go_sem] Oper.semAt_some yld_undef
def atStep (t : Int) (s : Option S151) (f : S151) : Option S151 :=
  if f.f2.f0 ≤ t ∧ t < f.f2.f1 then (match s with | none => some f | some g => if 0 ≤ fCmp f g then some f else some g) else s
def atBest (t : Int) (l : List S151) : Option S151 := l.foldl (atStep t) none
theorem atBest_snoc (t : Int) (l : List S151) (x : S151) : atBest t (l ++ [x]) = atStep t (atBest t l) x := by unfold atBest; rw [List.foldl_append]; rfl
def fAtN (l : List S151) (k0 k1 k2 t kn : Int) : Int := match atBest t (fOf l k0 k1 k2 kn) with | none => 0 | some f => if f.f1 < 0 then 0 else f.f1
def fAtB (l : List S151) (k0 k1 k2 t kn : Int) : Bool := match atBest t (fOf l k0 k1 k2 kn) with | none => false | some f => !decide (f.f1 < 0)
set_option maxRecDepth 100000 in
set_option maxHeartbeats 8000000 in
theorem fat_calls (A : Option Addr) (c : Nat) (l : List S151) (k0 k1 k2 t kn : Int) (w : World) (hr : k151.C w A l.length l) :
    Calls Tryz.prog 63 #[.slice A l.length c, .agg #[.int .i64 k0, .int .i64 k1, .int .i64 k2], .int .i64 t, .int .i64 kn] w fun e w' => e = .returned (.tuple #[.int .i64 (fAtN l k0 k1 k2 t kn), .bool (fAtB l k0 k1 k2 t kn)]) ∧ Below w.heap.size w w' := by
  have HR := Aside0.mk hr; clear hr
  refine (callsIn_wide (n := 9)).1 (callsIn_of_wp_marks Tryz.func63 rfl trivial ?_ rfl)
  simp only [Tryz.ntmps63, List.size_toArray, List.length_cons, List.length_nil, Nat.reduceAdd, Nat.reduceSub, Array.replicate_succ, Array.replicate_zero, List.push_toArray, List.append_toArray, List.nil_append, List.cons_append]
  gi_wp2_with fail
  refine ⟨trivial, ?_⟩
  refine ((callsIn_wide (n := 9 - 1)).2 (fof_calls A l.length c k0 k1 k2 kn _)).mono ?_
  rintro e w2 ⟨rfl, rfl⟩
  gi_wp2_with fail
  obtain ⟨W1, h1⟩ : ∃ W1, W1 = w.alloc (.cells #[.int .i64 k0, .int .i64 k1, .int .i64 k2] 99) := ⟨_, rfl⟩
  obtain ⟨W2, h2⟩ : ∃ W2, W2 = W1.alloc (.cells #[.int .i64 t] 3) := ⟨_, rfl⟩
  obtain ⟨W3, h3⟩ : ∃ W3, W3 = W2.alloc (.cells #[.int .i64 0, .int .i64 0, .int .i64 0, .int .i64 0, .int .i64 0, .int .i64 0, .int .i64 0, .int .i64 0] 151) := ⟨_, rfl⟩
  obtain ⟨W4, h4⟩ : ∃ W4, W4 = W3.alloc (.cells #[.bool false] 4) := ⟨_, rfl⟩
  obtain ⟨W5, h5⟩ : ∃ W5, W5 = W4.alloc (.cells #[.slice A l.length c] 56) := ⟨_, rfl⟩
  obtain ⟨W6, h6⟩ : ∃ W6, W6 = W5.alloc (.cells #[.int .i64 k0, .int .i64 k1, .int .i64 k2] 99) := ⟨_, rfl⟩
  obtain ⟨W0, h7⟩ : ∃ W0, W0 = W6.alloc (.cells #[.int .i64 kn] 3) := ⟨_, rfl⟩
  rw [← h1, ← h2, ← h3, ← h4, ← h5, ← h6, ← h7]
  have p1 := nb (W := w) rfl (.cells #[.int .i64 k0, .int .i64 k1, .int .i64 k2] 99); rw [← h1] at p1
  have p2 := nb p1.2 (.cells #[.int .i64 t] 3); rw [← h2] at p2
  have p3 := nb p2.2 (.cells #[.int .i64 0, .int .i64 0, .int .i64 0, .int .i64 0, .int .i64 0, .int .i64 0, .int .i64 0, .int .i64 0] 151); rw [← h3] at p3
  have p4 := nb p3.2 (.cells #[.bool false] 4); rw [← h4] at p4
  have p5 := nb p4.2 (.cells #[.slice A l.length c] 56); rw [← h5] at p5
  have p6 := nb p5.2 (.cells #[.int .i64 k0, .int .i64 k1, .int .i64 k2] 99); rw [← h6] at p6
  have p7 := nb p6.2 (.cells #[.int .i64 kn] 3); rw [← h7] at p7
  have up7 : ∀ {g : Nat} {o : Obj}, W6.heap[g]? = some o → W0.heap[g]? = some o := fun h => by rw [h7]; exact blk_alloc h _
  have up6 : ∀ {g : Nat} {o : Obj}, W5.heap[g]? = some o → W0.heap[g]? = some o := fun h => up7 (by rw [h6]; exact blk_alloc h _)
  have up5 : ∀ {g : Nat} {o : Obj}, W4.heap[g]? = some o → W0.heap[g]? = some o := fun h => up6 (by rw [h5]; exact blk_alloc h _)
  have up4 : ∀ {g : Nat} {o : Obj}, W3.heap[g]? = some o → W0.heap[g]? = some o := fun h => up5 (by rw [h4]; exact blk_alloc h _)
  have up3 : ∀ {g : Nat} {o : Obj}, W2.heap[g]? = some o → W0.heap[g]? = some o := fun h => up4 (by rw [h3]; exact blk_alloc h _)
  have hT := up3 p2.1; have hbest := up4 p3.1; have hsome := up5 p4.1; have hBl := up6 p5.1; have hBk := up7 p6.1; have hBn := p7.1
  have hB0 : Below w.heap.size w W0 := by
    rw [h7, h6, h5, h4, h3, h2, h1]
    exact (((((((Below.refl _ w).alloc (Nat.le_refl _) _).alloc (by simp) _).alloc (by simp; omega) _).alloc (by simp; omega) _).alloc (by simp; omega) _).alloc (by simp; omega) _).alloc (by simp; omega) _
  have hsz := p7.2
  clear up7 up6 up5 up4 up3 p1 p2 p3 p4 p5 p6 p7 h1 h2 h3 h4 h5 h6 h7 W1 W2 W3 W4 W5 W6
  refine wpIn_rangeFunc_ownH (F := Fence.wide) rfl (by omega) (gf := 99) (lb := #[.pointer (some ⟨w.heap.size + 1 + 1 + 1 + 1, 0, none⟩), .pointer (some ⟨w.heap.size + 1 + 1 + 1 + 1 + 1, 0, none⟩), .pointer (some ⟨w.heap.size + 1 + 1 + 1 + 1 + 1 + 1, 0, none⟩)]) rfl trivial (enters_of Tryz.func99 (by kernel_rfl) rfl)
    (fof_stops (9 - 1) (by omega) (w.heap.size + 1 + 1 + 1 + 1) (w.heap.size + 1 + 1 + 1 + 1 + 1) (w.heap.size + 1 + 1 + 1 + 1 + 1 + 1) A c l k0 k1 k2 kn w W0 hB0 hBl hBk hBn HR.out) KpL.trans (kpL_b hB0.size) (Below.refl _ _) (fun _ => rfl)
    (fun pre W => (W.heap[w.heap.size + 1]? = some (.cells #[.int .i64 t] 3 (0, 0)) ∧ W.heap[w.heap.size + 1 + 1]? = some (.cells (factV ((atBest t pre).getD z151)) 151 (0, 0))) ∧ W.heap[w.heap.size + 1 + 1 + 1]? = some (.cells #[.bool (atBest t pre).isSome] 4 (0, 0)) ∧ Below w.heap.size w W)
    (fun cd pre W => False)
    (OwnFrom.and (OwnFrom.and (ownFrom_blk _) (ownFrom_blk _)) (OwnFrom.and (ownFrom_blk _) (ownFrom_below (Nat.le_refl _) hB0.size)))
    (fun cd => ownFrom_pure _ _)
    ⟨⟨hT, hbest⟩, hsome, hB0⟩
    (fun x a' W => ∃ g : Nat, W.heap[g]? = some (.cells (factV x) 151 (0, 0)) ∧ a' = { tmps := #[.slice A l.length c, .agg #[.int .i64 k0, .int .i64 k1, .int .i64 k2], .int .i64 t, .int .i64 kn, undef, .pointer (some ⟨w.heap.size, 0, none⟩), .pointer (some ⟨w.heap.size + 1, 0, none⟩), undef, .int .i64 0, .bool false, .pointer (some ⟨w.heap.size + 1 + 1, 0, none⟩), .pointer (some ⟨w.heap.size + 1 + 1 + 1, 0, none⟩), .pointer (some ⟨g, 0, none⟩), .slice A l.length c, .agg #[.int .i64 k0, .int .i64 k1, .int .i64 k2], .int .i64 kn, .func (.func 99) #[] #[.pointer (some ⟨w.heap.size + 1 + 1 + 1 + 1, 0, none⟩), .pointer (some ⟨w.heap.size + 1 + 1 + 1 + 1 + 1, 0, none⟩), .pointer (some ⟨w.heap.size + 1 + 1 + 1 + 1 + 1 + 1, 0, none⟩)], .agg (factV x), undef, undef, undef, undef, undef, undef, undef, undef, undef, undef, undef, undef, undef, undef, undef, undef, undef, undef, undef, undef, undef, undef, undef, undef, undef, undef, undef, undef, undef, undef, undef, undef], defers := [] })
    (fun x a' => ownFrom_ex fun g => OwnFrom.and (ownFrom_blk _) (ownFrom_pure _ _)) ?assign ?body ?done ?stop
  case assign =>
    rintro lp pre x W K ⟨⟨h1, h2⟩, h3, hb⟩ hK2
    gi_wp2
    exact hK2 _ _ (keepsFrom_below ((Below.refl _ W).alloc (Nat.le_refl _) _)) (KpL.of_below ((Below.refl _ W).alloc (Nat.le_refl _) _) hb.size) ⟨⟨blk_alloc h1 _, blk_alloc h2 _⟩, blk_alloc h3 _, hb.alloc hb.size _⟩ ⟨W.heap.size, new_blk _ _, rfl⟩
  case body =>
    rintro lp pre x a' W hlp ⟨r, hr2⟩ ⟨⟨h1, h2⟩, h3, hb⟩ ⟨g, hg, rfl⟩ hlen
    have HA := Aside0.mk (atBest_snoc t pre x)
    generalize atBest t pre = best at h2 h3 HA
    have y0 := (blk_cell h1 0).trans rfl
    have x0 := (blk_cell hg 0).trans rfl; have x1 := (blk_cell hg 1).trans rfl; have x2 := (blk_cell hg 2).trans rfl; have x3 := (blk_cell hg 3).trans rfl; have x4 := (blk_cell hg 4).trans rfl; have x5 := (blk_cell hg 5).trans rfl; have x6 := (blk_cell hg 6).trans rfl; have x7 := (blk_cell hg 7).trans rfl
    have b0 := (blk_cell h2 0).trans rfl; have b1 := (blk_cell h2 1).trans rfl; have b2 := (blk_cell h2 2).trans rfl; have b3 := (blk_cell h2 3).trans rfl; have b4 := (blk_cell h2 4).trans rfl; have b5 := (blk_cell h2 5).trans rfl; have b6 := (blk_cell h2 6).trans rfl; have b7 := (blk_cell h2 7).trans rfl
    have s0 := (blk_cell h3 0).trans rfl
    have bf : ∀ i, W.frozen? ⟨w.heap.size + 1 + 1, i, none⟩ = false := fun i => blk_frozen h2 i
    have sf := blk_frozen h3 0
    have H1 := Aside0.mk h1; have H2 := Aside0.mk h2; have H3 := Aside0.mk h3; have HB := Aside0.mk hb; have HG := Aside0.mk hg
    clear h1 h2 h3 hb hg hT hbest hsome hBl hBk hBn
    have HC := Aside0.mk (fun g V => CallsIn.inRound lp ((callsIn_wide (n := 9 - 1 - 1 - 1)).2 (fcmp_calls x g V)))
    clear bf sf
    cases q1 : decide (x.f2.f0 ≤ t) with
    | false =>
      have HE := Aside0.mk (show atBest t (pre ++ [x]) = best by rw [HA.out]; unfold atStep; rw [if_neg]; intro h; rw [decide_eq_true h.1] at q1; cases q1)
      gi_wp2
      refine ⟨trivial, ?_⟩
      gi_wp2
      exact ⟨keepsFrom_below (Below.refl _ _), KpL.of_below (Below.refl _ _) HB.out.size, ⟨H1.out, by rw [HE.out]; exact H2.out⟩, by rw [HE.out]; exact H3.out, HB.out⟩
    | true =>
      cases q2 : decide (t < x.f2.f1) with
      | false =>
        have HE := Aside0.mk (show atBest t (pre ++ [x]) = best by rw [HA.out]; unfold atStep; rw [if_neg]; intro h; rw [decide_eq_true h.2] at q2; cases q2)
        gi_wp2
        refine ⟨trivial, ?_⟩
        gi_wp2
        exact ⟨keepsFrom_below (Below.refl _ _), KpL.of_below (Below.refl _ _) HB.out.size, ⟨H1.out, by rw [HE.out]; exact H2.out⟩, by rw [HE.out]; exact H3.out, HB.out⟩
      | true =>
        have q3 : x.f2.f0 ≤ t ∧ t < x.f2.f1 := ⟨of_decide_eq_true q1, of_decide_eq_true q2⟩
        cases best with
        | none =>
          have HE := Aside0.mk (show atBest t (pre ++ [x]) = some x by rw [HA.out]; unfold atStep; rw [if_pos q3])
          clear HA q3
          simp only [Option.isSome_none] at s0
          have bf : ∀ i, W.frozen? ⟨w.heap.size + 1 + 1, i, none⟩ = false := fun i => blk_frozen H2.out i
          have sf := blk_frozen H3.out 0
          gi_wp2
          refine ⟨trivial, ?_⟩
          gi_wp2
          refine ⟨keepsFrom_set (keepsFrom_put8 (keepsFrom_below (Below.refl _ _)) _ _ _ _ _ _ _ _ _) _ _, ⟨(below_put8 (Below.refl _ _) (by omega) _ _ _ _ _ _ _ _).setCell (by simp; omega) _, fun b hbm cs e f hi => ?_⟩, ⟨(Below.heap_setCell _ _ _ _ (by simp)).trans ((far_put8 (by omega) _ _ _ _ _ _ _ _).trans H1.out), ?_⟩, ?_, (below_put8 (below_tr HB.out (Below.refl _ _)) (by omega) _ _ _ _ _ _ _ _).setCell (by simp; omega) _⟩
          · simp only [List.mem_cons, List.not_mem_nil, or_false] at hbm
            exact (Below.heap_setCell _ _ _ _ (by simp; omega)).trans ((far_put8 (by omega) _ _ _ _ _ _ _ _).trans (blk_low (Below.refl _ _) hi))
          · rw [HE.out]; exact (Below.heap_setCell _ _ _ _ (by simp)).trans (blk_put8 H2.out _ _ _ _ _ _ _ _)
          · rw [HE.out]; exact blk_put (cs' := #[.bool true]) ((far_put8 (by omega) _ _ _ _ _ _ _ _).trans H3.out) 0 _ rfl
        | some y =>
          simp only [Option.isSome_some, Option.getD_some] at s0 b0 b1 b2 b3 b4 b5 b6 b7
          have HC2 := Aside0.mk (HC.out y W)
          cases q4 : decide (0 ≤ fCmp x y) with
          | false =>
            have HE := Aside0.mk (show atBest t (pre ++ [x]) = some y by rw [HA.out]; unfold atStep; rw [if_pos q3]; simp only []; rw [if_neg (of_decide_eq_false q4)])
            clear HA q3
            generalize fCmp x y = d at HC2 q4
            gi_wp2_with fail
            refine ⟨trivial, ?_⟩
            refine HC2.out.mono ?_
            rintro e w5 ⟨rfl, hb5⟩
            gi_wp2
            exact ⟨keepsFrom_below hb5, KpL.of_below hb5 HB.out.size, ⟨blk_low hb5 H1.out, by rw [HE.out]; exact blk_low hb5 H2.out⟩, by rw [HE.out]; exact blk_low hb5 H3.out, below_tr HB.out hb5⟩
          | true =>
            have HE := Aside0.mk (show atBest t (pre ++ [x]) = some x by rw [HA.out]; unfold atStep; rw [if_pos q3]; simp only []; rw [if_pos (of_decide_eq_true q4)])
            clear HA q3
            generalize fCmp x y = d at HC2 q4
            gi_wp2_with fail
            refine ⟨trivial, ?_⟩
            refine HC2.out.mono ?_
            rintro e w5 ⟨rfl, hb5⟩
            have H25 := Aside0.mk (blk_low hb5 H2.out); have H35 := Aside0.mk (blk_low hb5 H3.out); have H15 := Aside0.mk (blk_low hb5 H1.out); have HG5 := blk_low hb5 HG.out
            have x0 := (blk_cell HG5 0).trans rfl; have x1 := (blk_cell HG5 1).trans rfl; have x2 := (blk_cell HG5 2).trans rfl; have x3 := (blk_cell HG5 3).trans rfl; have x4 := (blk_cell HG5 4).trans rfl; have x5 := (blk_cell HG5 5).trans rfl; have x6 := (blk_cell HG5 6).trans rfl; have x7 := (blk_cell HG5 7).trans rfl
            have b0 := (blk_cell H25.out 0).trans rfl; have b1 := (blk_cell H25.out 1).trans rfl; have b2 := (blk_cell H25.out 2).trans rfl; have b3 := (blk_cell H25.out 3).trans rfl; have b4 := (blk_cell H25.out 4).trans rfl; have b5 := (blk_cell H25.out 5).trans rfl; have b6 := (blk_cell H25.out 6).trans rfl; have b7 := (blk_cell H25.out 7).trans rfl
            have s0 := (blk_cell H35.out 0).trans rfl
            have bf : ∀ i, w5.frozen? ⟨w.heap.size + 1 + 1, i, none⟩ = false := fun i => blk_frozen H25.out i
            have sf := blk_frozen H35.out 0
            have HB5 := Aside0.mk hb5; clear hb5
            gi_wp2
            refine ⟨keepsFrom_set (keepsFrom_put8 (keepsFrom_below HB5.out) _ _ _ _ _ _ _ _ _) _ _, ⟨(below_put8 (HB5.out.mono HB.out.size) (by omega) _ _ _ _ _ _ _ _).setCell (by simp; omega) _, fun b hbm cs e f hi => ?_⟩, ⟨(Below.heap_setCell _ _ _ _ (by simp)).trans ((far_put8 (by omega) _ _ _ _ _ _ _ _).trans H15.out), ?_⟩, ?_, (below_put8 (below_tr HB.out HB5.out) (by omega) _ _ _ _ _ _ _ _).setCell (by simp; omega) _⟩
            · simp only [List.mem_cons, List.not_mem_nil, or_false] at hbm
              exact (Below.heap_setCell _ _ _ _ (by simp; omega)).trans ((far_put8 (by omega) _ _ _ _ _ _ _ _).trans (blk_low HB5.out hi))
            · rw [HE.out]; exact (Below.heap_setCell _ _ _ _ (by simp)).trans (blk_put8 H25.out _ _ _ _ _ _ _ _)
            · rw [HE.out]; exact blk_put (cs' := #[.bool true]) ((far_put8 (by omega) _ _ _ _ _ _ _ _).trans H35.out) 0 _ rfl
  case done =>
    rintro D ys W hD rfl ⟨⟨h1, h2⟩, h3, hb⟩ hK
    have hn : fAtN l k0 k1 k2 t kn = match atBest t (fOf l k0 k1 k2 kn) with | none => 0 | some f => if f.f1 < 0 then 0 else f.f1 := rfl
    have hm : fAtB l k0 k1 k2 t kn = match atBest t (fOf l k0 k1 k2 kn) with | none => false | some f => !decide (f.f1 < 0) := rfl
    have HK := Aside0.mk hK; have HB := Aside0.mk hb
    clear h1 hb hK hT hbest hsome hBl hBk hBn
    generalize atBest t (fOf l k0 k1 k2 kn) = best at h2 h3 hn hm
    have s0 := (blk_cell h3 0).trans rfl
    have b3 := (blk_cell h2 3).trans rfl
    clear h2 h3
    cases best with
    | none =>
      have HN := Aside0.mk hn; have HM := Aside0.mk hm
      clear hn hm
      simp only [Option.isSome_none] at s0
      gi_wp2
      refine ⟨by simp, .inl ⟨_, _, rfl, run_takeDeferred HK.out, ?_⟩⟩
      exact ⟨.tuple #[.int .i64 0, .bool false], by simp [results, Tryz.f63, go_sem], by rw [HN.out, HM.out], HB.out.trans (belowK_b (w := w) (Nat.le_refl _) _ D _ _ (Nat.le_trans hB0.size hD) HK.out rfl rfl)⟩
    | some y =>
      simp only [Option.isSome_some, Option.getD_some] at s0 b3
      cases q : decide (y.f1 < 0) with
      | true =>
        have HN := Aside0.mk (hn.trans (if_pos (of_decide_eq_true q))); have HM := Aside0.mk (hm.trans (show (!decide (y.f1 < 0)) = false by rw [q]; rfl))
        clear hn hm
        gi_wp2
        refine ⟨by simp, .inl ⟨_, _, rfl, run_takeDeferred HK.out, ?_⟩⟩
        exact ⟨.tuple #[.int .i64 0, .bool false], by simp [results, Tryz.f63, go_sem], by rw [HN.out, HM.out], HB.out.trans (belowK_b (w := w) (Nat.le_refl _) _ D _ _ (Nat.le_trans hB0.size hD) HK.out rfl rfl)⟩
      | false =>
        have HN := Aside0.mk (hn.trans (if_neg (of_decide_eq_false q))); have HM := Aside0.mk (hm.trans (show (!decide (y.f1 < 0)) = true by rw [q]; rfl))
        clear hn hm
        gi_wp2
        refine ⟨by simp, .inl ⟨_, _, rfl, run_takeDeferred HK.out, ?_⟩⟩
        exact ⟨.tuple #[.int .i64 y.f1, .bool true], by simp [results, Tryz.f63, go_sem], by rw [HN.out, HM.out], HB.out.trans (belowK_b (w := w) (Nat.le_refl _) _ D _ _ (Nat.le_trans hB0.size hD) HK.out rfl rfl)⟩
  case stop => rintro D cd pre W hD hpre h hK; exact h.elim
end Go.Proofs.YtdnmoppegncioaaGreatDoor
