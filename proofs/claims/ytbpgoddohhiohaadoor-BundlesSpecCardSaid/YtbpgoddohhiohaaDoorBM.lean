/- bundles.Meetings: what it computes. -/
import Derived.Test.YtbpgoddohhiohaaDoorBC
import Derived.Test.YtbpgoddohhiohaaDoorPT
import Derived.Test.YtbpgoddohhiohaaDoorAP
import Derived.Test.YtbpgoddohhiohaaDoorMC
namespace Go.Proofs.YtbpgoddohhiohaaDoor
open Go.RowKit Go.Shelf Go.Proofs.YtbpgoddohhiohaaDoorW.PrintWords
set_option linter.unusedVariables false
set_option linter.unusedSimpArgs false
attribute [local go_sem] Oper.semAt_some

def bMeet (l : List S34) (b0 b1 : Int) : List S65 × Int := if bCheck l b0 b1 ≠ 0 then ([], bCheck l b0 b1) else ((bParts l b0 b1).flatMap (·.f5), 0)
theorem keepsFrom_row {B : Nat} {W W' : World} {row : Option Nat} (hg : W.grownBy W' row) (hrow : ∀ k, row = some k → ∃ cells e, W.heap[k]? = some (.cells cells e (0, 0))) : KeepsFrom B W W' :=
  ⟨hg.size, fun k o hB hk ho => (hg.block k (Array.getElem?_eq_some_iff.1 hk).1 (fun e => by
    obtain ⟨cells, t, hc⟩ := hrow k e.symm
    rw [hk] at hc; injection hc with hc; subst hc; simp [Obj.isCells] at ho)).trans hk⟩
theorem ownFrom_R {α β : Type} {d : Kd α} {B e base : Nat} (v : Value) (f : β → List α) : OwnFrom B (fun (s : β) (W : World) => d.R e W base (fun _ => True) v (f s)) := fun s W W' row hs hg hr =>
  Kd.R_mono (Kd.R_step (Kd.R_bound hs) (fun k hk hlt => hg.block k hlt (fun e => by
    obtain ⟨_, o, ho, hc⟩ := hr k e.symm
    obtain ⟨_, _, _, q, hq, cells, hcc⟩ := hk
    rw [hcc] at ho; injection ho with ho; subst ho; simp [Obj.isCells] at hc))) (fun _ _ => trivial)

set_option maxRecDepth 100000 in
set_option maxHeartbeats 8000000 in
theorem bmeet_calls (A : Option Addr) (c : Nat) (l : List S34) (b0 b1 : Int) (w : World) (hE : ErrT w) (hr : k34.C w A l.length l) (hc : l.length ≤ c) (hL : ∀ id, (sFind l id).1.f5.length ≤ 100000) :
    Calls Tryd.prog 15 #[.slice A l.length c, .agg #[.int .i64 b0, .int .i64 b1]] w fun e w' => ∃ v, e = .returned (.tuple #[v, .int .i64 (bMeet l b0 b1).2]) ∧ k65.R 65 w' w.heap.size (fun _ => True) v (bMeet l b0 b1).1 ∧ Below w.heap.size w w' := by
  have hwa := ((Below.refl w.heap.size w).alloc (Nat.le_refl _) (.cells #[.int .i64 b0, .int .i64 b1] 24)).alloc (by simp) (.cells #[.slice none 0 0] 30)
  have hbx := new_blk (w.alloc (.cells #[.int .i64 b0, .int .i64 b1] 24)) (.cells #[.slice none 0 0] 30)
  rw [World.size_alloc] at hbx
  have HBN := Aside0.mk (blk_alloc (new_blk w (.cells #[.int .i64 b0, .int .i64 b1] 24)) (.cells #[.slice none 0 0] 30))
  have hcall := (callsIn_wide (n := 9 - 1)).2 (bcheck_calls A c l b0 b1 _ (hE.below hwa) (Kd.C_below hr hwa) hc)
  have HR := Aside0.mk hr; have HWA := Aside0.mk hwa; have HBX := Aside0.mk hbx
  clear hwa hbx hE hr
  refine (callsIn_wide (n := 9)).1 (callsIn_of_wp_marks Tryd.func15 rfl trivial ?_ rfl)
  simp only [Tryd.ntmps15, List.size_toArray, List.length_cons, List.length_nil, Nat.reduceAdd, Nat.reduceSub, Array.replicate_succ, Array.replicate_zero, List.push_toArray, List.append_toArray, List.nil_append, List.cons_append]
  gi_wp2_with fail
  refine ⟨trivial, ?_⟩
  refine hcall.mono ?_
  rintro e w1 ⟨rfl, hb1⟩
  have HB1 := Aside0.mk (below_tr HWA.out hb1)
  have hbx1 := blk_low hb1 HBX.out
  have HBX1 := Aside0.mk hbx1; have HBN1 := Aside0.mk (blk_low hb1 HBN.out)
  clear hb1
  by_cases h0 : bCheck l b0 b1 = 0
  · have HS := Aside0.mk (show bMeet l b0 b1 = ((bParts l b0 b1).flatMap (·.f5), 0) by unfold bMeet; rw [if_neg (by simp [h0])])
    rw [h0]
    have y0 := (blk_cell HBN1.out 0).trans rfl; have y1 := (blk_cell HBN1.out 1).trans rfl
    gi_wp2_with fail
    refine ⟨trivial, ?_⟩
    refine ((callsIn_wide (n := 9 - 1)).2 (parts_calls A l.length c b0 b1 w1)).mono ?_
    rintro e w2 ⟨rfl, rfl⟩
    clear y0 y1
    gi_wp2_with fail
    obtain ⟨W0, hW0⟩ : ∃ W0, (w1.alloc (.cells #[.slice A l.length c] 22)).alloc (.cells #[.int .i64 b0, .int .i64 b1] 24) = W0 := ⟨_, rfl⟩
    have hB0 : Below w.heap.size w W0 := by rw [← hW0]; exact (HB1.out.alloc HB1.out.size _).alloc (Nat.le_trans HB1.out.size (by simp)) _
    have hbox0 : W0.heap[w.heap.size + 1]? = some (.cells #[.slice none 0 0] 30 (0, 0)) := by rw [← hW0]; exact blk_alloc (blk_alloc HBX1.out _) _
    have hsl0 : W0.heap[w1.heap.size]? = some (.cells #[.slice A l.length c] 22 (0, 0)) := by rw [← hW0]; exact blk_alloc (new_blk _ _) _
    have hbd0 : W0.heap[w1.heap.size + 1]? = some (.cells #[.int .i64 b0, .int .i64 b1] 24 (0, 0)) := by
      rw [← hW0]; have := new_blk (w1.alloc (.cells #[.slice A l.length c] 22)) (.cells #[.int .i64 b0, .int .i64 b1] 24); rwa [World.size_alloc] at this
    rw [hW0]
    clear hW0 HBX1 HBN1 HBX HBN hbx1 h0
    refine wpIn_rangeFunc_ownH (F := Fence.wide) rfl (by omega) (gf := 52) (lb := #[.pointer (some ⟨w1.heap.size + 1, 0, none⟩), .pointer (some ⟨w1.heap.size, 0, none⟩)]) rfl trivial (enters_of Tryd.func52 (by kernel_rfl) rfl)
      (parts_stops (9 - 1) (by omega) w1.heap.size (w1.heap.size + 1) A c l b0 b1 w W0 hB0 hsl0 ((blk_cell hbd0 0).trans rfl) ((blk_cell hbd0 1).trans rfl) HR.out hc) KpS.trans (kpS_b hB0.size) (Below.refl _ _) (fun _ => rfl)
      (fun pre W => (∃ v, W.heap[w.heap.size + 1]? = some (.cells #[v] 30 (0, 0)) ∧ k65.R 65 W w.heap.size (fun _ => True) v (pre.flatMap (·.1.1.f5))) ∧ W.heap[w1.heap.size]? = some (.cells #[.slice A l.length c] 22 (0, 0)) ∧ Below w.heap.size w W)
      (fun cd pre W => False)
      (OwnFrom.and (ownFrom_ex fun v => OwnFrom.and (ownFrom_blk _) (ownFrom_R v _)) (OwnFrom.and (ownFrom_blk _) (ownFrom_below (Nat.le_refl _) hB0.size)))
      (fun cd => ownFrom_pure _ _)
      ⟨⟨_, hbox0, Kd.R_nil _ _ _ _ _⟩, hsl0, hB0⟩
      (fun x a' W => ∃ g6 : Nat, W.heap[g6]? = some (.cells x.1.2.toArray 34 (0, 0)) ∧ a' = { tmps := #[.slice A l.length c, .agg #[.int .i64 b0, .int .i64 b1], undef, .pointer (some ⟨w.heap.size, 0, none⟩), .pointer (some ⟨w.heap.size + 1, 0, none⟩), .int .i64 0, .pointer (some ⟨g6, 0, none⟩), .slice A l.length c, .agg #[.int .i64 b0, .int .i64 b1], .int .i64 0, .int .i64 0, .bool false, undef, .slice A l.length c, .agg #[.int .i64 b0, .int .i64 b1], .func (.func 52) #[] #[.pointer (some ⟨w1.heap.size + 1, 0, none⟩), .pointer (some ⟨w1.heap.size, 0, none⟩)], .agg x.1.2.toArray, undef, undef, undef, undef, undef], defers := [] })
      (fun x a' => ownFrom_ex fun g6 => OwnFrom.and (ownFrom_blk _) (ownFrom_pure _ _)) ?assign ?body ?done ?stop
    case assign =>
      rintro lp pre ⟨⟨s, cs⟩, hK, hid⟩ W K ⟨⟨v, hbx, hv⟩, hsl, hb⟩ hK2
      dsimp only at hK hid
      obtain ⟨A5, c5, A6, c6, A7, c7, rfl, -⟩ := k34_open hK
      dsimp only
      gi_wp2
      refine hK2 _ _ (keepsFrom_below ((Below.refl _ W).alloc (Nat.le_refl _) _)) (KpS.of_below ((Below.refl _ W).alloc (Nat.le_refl _) _) hb.size) ⟨⟨v, blk_alloc hbx _, Kd.R_below hv ((Below.refl _ W).alloc (Nat.le_refl _) _)⟩, blk_alloc hsl _, hb.alloc hb.size _⟩ ⟨W.heap.size, new_blk _ _, rfl⟩
    case body =>
      rintro lp pre ⟨⟨s, cs⟩, hK, hid⟩ a' W hlp ⟨r, hr2⟩ ⟨⟨v, hbx, hv⟩, hsl, hb⟩ ⟨g6, h6, rfl⟩ hlen
      have hbl := bParts_len l b0 b1
      have hfx : s.f5.length ≤ 100000 := by obtain ⟨id, hid⟩ := hid; dsimp only at hid; rw [hid]; exact hL id
      dsimp only at hK h6
      obtain ⟨A5, c5, A6, c6, A7, c7, rfl, l5, g5, -⟩ := k34_open hK
      have hcz := (blk_cell hbx 0).trans rfl
      have hfz := blk_frozen hbx 0
      have z5 := (blk_cell h6 5).trans rfl
      have hpp : (pre ++ [(⟨(s, _), hK, hid⟩ : SecAt w l)]).flatMap (·.1.1.f5) = pre.flatMap (·.1.1.f5) ++ s.f5 := by simp [List.flatMap_append]
      obtain ⟨P, hP⟩ : ∃ P, P = pre.flatMap (·.1.1.f5) := ⟨_, rfl⟩
      have hfl : P.length ≤ pre.length * 100000 := by rw [hP]; exact parts_meet w l hL pre
      rw [← hP] at hv hpp
      clear hP
      obtain ⟨Q, hQ⟩ : ∃ Q, P ++ s.f5 = Q := ⟨_, rfl⟩
      rw [hQ] at hpp
      have HP := Aside0.mk hpp; have HQ := Aside0.mk hQ; clear hpp hQ
      obtain ⟨A9, c9, rfl⟩ := Kd.R_slice hv
      have HG5 := Aside0.mk (Kd.C_below g5 hb)
      have HV := Aside0.mk hv
      have HBb := Aside0.mk hb; have HBX := Aside0.mk hbx; have HSL := Aside0.mk hsl
      have HNE := Aside0.mk (Kd.R_ne hv hbx (by decide))
      have HFL := Aside0.mk (show (P.length + s.f5.length) * 40 ≤ 140737488355328 by omega)
      clear hv g5 hb hbx hsl hfl hbl hfx hlen
      gi_wp2_with (gi_at_builtin; go_must (refine R_append_rowsIn k65 w.heap.size rfl (.tmp 17) (.tmp 19) 30 65 (.agg #[.int .i64 0, .int .i64 0, .int .i64 0, .int .i64 0, .int .i64 0]) 40 rfl Tryd.underlying30 info65 rfl (by decide) (by omega) (.slice A9 P.length c9) P s.f5 A5 s.f5.length c5 (fun _ => True) (fun _ => False) rfl rfl HV.out HG5.out (fun _ _ h => h) (fun _ h => h.elim) (fun _ _ => trivial) HBb.out.size HFL.out ?_; rintro v1 w5 hR5 hg5 hat5 hty; rw [HQ.out] at hR5; obtain ⟨A8, c8, rfl⟩ := Kd.R_slice hR5; have hbx5 := blk_grown HBX.out hg5 HNE.out; have hcz5 := (blk_cell hbx5 0).trans rfl; have hfz5 := blk_frozen hbx5 0; have HBX5 := Aside0.mk hbx5; have HR5 := Aside0.mk hR5; have HG := Aside0.mk hg5; have HT := Aside0.mk hty; clear hbx5 hR5 hg5 hty hat5))
      have hsl5 := blk_grown HSL.out HG.out (fun e => by obtain ⟨_, cells, hc5⟩ := HT.out _ e.symm; rw [HSL.out] at hc5; injection hc5 with hc5; injection hc5 with _ hc5; revert hc5; decide)
      have hb5 : Below w.heap.size w w5 := HBb.out.grown HG.out HBb.out.size (fun k hk => (HT.out k hk).1)
      have hkw : Below w.heap.size W w5 := (Below.refl W.heap.size W |>.mono HBb.out.size).grown HG.out HBb.out.size (fun k hk => (HT.out k hk).1)
      have hne : w1.heap.size ≠ w.heap.size + 1 := fun e => by have h1 := HSL.out; rw [e, HBX.out] at h1; injection h1 with h1; injection h1 with _ h1; revert h1; decide
      refine ⟨(keepsFrom_row HG.out (fun k hk => ⟨_, _, (HT.out k hk).2.choose_spec⟩)).trans ((KeepsOthers.setCell _ _ _).from _), ⟨hkw.setCell (by simp) _, fun c' e' f' hi => ?_⟩, ⟨_, blk_put HBX5.out 0 (.slice A8 Q.length c8) rfl, ?_⟩, blk_far hsl5 hne _, hb5.setCell (by simp) _⟩
      · rw [HSL.out] at hi
        injection hi with hi
        rw [← hi]
        exact blk_far hsl5 hne _
      · rw [HP.out]
        exact Kd.R_set HR5.out HBX5.out (by decide) 0 _
    case done =>
      rintro D ys W hD hys ⟨⟨v, hbx, hv⟩, hsl, hb⟩ hK
      have hcz := (blk_cell hbx 0).trans rfl
      have hfz := blk_frozen hbx 0
      have hs : bMeet l b0 b1 = (ys.flatMap (·.1.1.f5), 0) := by rw [HS.out, ← hys, List.flatMap_map]
      have HS2 := Aside0.mk hs; clear hs
      generalize ys.flatMap (·.1.1.f5) = Y at hv HS2
      obtain ⟨A9, c9, rfl⟩ := Kd.R_slice hv
      have HV := Aside0.mk hv; have HBb := Aside0.mk hb; have HBX := Aside0.mk hbx
      clear hv hb hbx hsl hys
      gi_wp2
      have hK' := (KeepsOthers.setCell W ⟨w.heap.size + 1, 0, none⟩ (.slice A9 Y.length c9)).same D _ hK rfl
      refine ⟨by simp, .inl ⟨_, _, rfl, run_takeDeferred hK', ?_⟩⟩
      have hb2 := blk_put HBX.out 0 (.slice A9 Y.length c9) rfl
      have hc5 := cell_kept ((blk_cell hb2 0).trans rfl) (grownBy_putObj' _ D (.deferred none)) (fun r e => by cases e; exact ⟨_, hK', rfl⟩)
      have hR2 := Kd.R_set HV.out HBX.out (by decide) 0 (.slice A9 Y.length c9)
      refine ⟨.tuple #[.slice A9 Y.length c9, .int .i64 0], by simp [results, Tryd.f15, go_sem, hc5], _, by rw [HS2.out], ?_, (HBb.out.setCell (by simp) _).trans (belowK_b (w := w) (Nat.le_refl _) _ D _ _ (Nat.le_trans hB0.size hD) hK' rfl rfl)⟩
      rw [HS2.out]
      exact (ownFrom_R (B := 0) _ (fun _ : Unit => Y)).putObj (s := ()) (.deferred none) hR2 (Nat.zero_le _) hK' rfl
    case stop => rintro D cd pre W hD hpre h hK; exact h.elim
  · have HS := Aside0.mk (show bMeet l b0 b1 = ([], bCheck l b0 b1) by unfold bMeet; rw [if_pos h0])
    have h01 : (bCheck l b0 b1 != 0) = true := by simp [h0]
    have h02 : (bCheck l b0 b1 == 0) = false := by simp [h0]
    have hfz := blk_frozen hbx1 0
    have hcz := (blk_cell hbx1 0).trans rfl
    clear h0
    gi_wp2
    have hbb := blk_put HBX1.out 0 (.slice none 0 0) rfl
    have hcc := (blk_cell hbb 0).trans rfl
    exact ⟨.tuple #[.slice none 0 0, .int .i64 (bCheck l b0 b1)], by simp [results, Tryd.f15, go_sem, hcc], _, by rw [HS.out], by rw [HS.out]; exact Kd.R_nil _ _ _ _ _, HB1.out.setCell (by simp) _⟩
end Go.Proofs.YtbpgoddohhiohaaDoor
