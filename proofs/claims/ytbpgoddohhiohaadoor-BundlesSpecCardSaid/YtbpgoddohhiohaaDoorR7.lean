/- sizarref24.Clash: what it computes. -/
import Derived.Test.YtbpgoddohhiohaaDoorR6
import Derived.Test.YtbpgoddohhiohaaDoorPB
namespace Go.Proofs.YtbpgoddohhiohaaDoor
open Go.RowKit Go.Proofs.YtbpgoddohhiohaaDoorW.PrintWords
set_option linter.unusedVariables false
set_option linter.unusedSimpArgs false
theorem addr_zero (a : Addr) : a.add 0 = a := by
  obtain ⟨b, o, m⟩ := a
  unfold Addr.add
  split <;> simp_all
theorem rSecs_valid {l : List S34} {b0 b1 : Int} (h : BOk l b0 b1) : rSecs l b0 b1 = bParts l b0 b1 := by
  unfold rSecs bParts
  have e0 : pQ l b0 = [(sFind l b0).1] := by unfold pQ; rw [if_pos ⟨h.ok, find_id h.all h.ok⟩]
  rw [e0]
  rcases h.lab with ⟨h1, -⟩ | ⟨h1, -⟩
  · rw [if_pos h1]
    have : pQ l b1 = [] := by unfold pQ; rw [if_neg (fun hq => hq.2 h1)]
    rw [this]; rfl
  · have hn := find_id h.all h1
    rw [if_neg hn]
    have : pQ l b1 = [(sFind l b1).1] := by unfold pQ; rw [if_pos ⟨h1, hn⟩]
    rw [this]; rfl
theorem bClash_secs {l : List S34} {a0 a1 b0 b1 : Int} (ha : bCheck l a0 a1 = 0) (hb : bCheck l b0 b1 = 0) : bClash l a0 a1 b0 b1 = (mHit ((rSecs l a0 a1).flatMap (·.f5)) ((rSecs l b0 b1).flatMap (·.f5)) && ((sFind l a0).1.f2 == (sFind l b0).1.f2), 0) := by
  rw [rSecs_valid (bOk_of ha), rSecs_valid (bOk_of hb)]
  have pa := (bOk_of ha).parts; have pb := (bOk_of hb).parts
  unfold bClash
  rw [if_neg (by simp [ha]), if_neg (by simp [hb]), clash_parts pa.1 pb.1 pa.2 pb.2]
theorem mHit_flat (P Q : List S34) : mHit (P.flatMap (·.f5)) (Q.flatMap (·.f5)) = P.any fun x => Q.any fun y => mHit x.f5 y.f5 := by
  rw [Bool.eq_iff_iff]
  simp only [mHit, List.any_eq_true, List.mem_flatMap]
  constructor
  · rintro ⟨m, ⟨x, hx, hm⟩, n, ⟨y, hy, hn⟩, h⟩; exact ⟨x, hx, y, hy, m, hm, n, hn, h⟩
  · rintro ⟨x, hx, y, hy, m, hm, n, hn, h⟩; exact ⟨m, ⟨x, hx, hm⟩, n, ⟨y, hy, hn⟩, h⟩
theorem rSecs_len (l : List S34) (b0 b1 : Int) : 0 < (rSecs l b0 b1).length ∧ (rSecs l b0 b1).length ≤ 2 ∧ rd_T34 (rSecs l b0 b1) 0 = (sFind l b0).1 := by
  unfold rSecs
  split
  · exact ⟨by simp, by simp, rfl⟩
  · exact ⟨by simp, by simp, rfl⟩
set_option maxRecDepth 100000 in
set_option maxHeartbeats 8000000 in
theorem rclash24_calls (A : Option Addr) (c : Nat) (l : List S34) (a0 a1 b0 b1 : Int) (w : World) (hr : k34.C w A l.length l) :
    Calls Tryd.prog 21 #[.slice A l.length c, .agg #[.int .i64 a0, .int .i64 a1], .agg #[.int .i64 b0, .int .i64 b1]] w fun e w' => e = .returned (.tuple #[.bool (bClash l a0 a1 b0 b1).1, .int .i64 (bClash l a0 a1 b0 b1).2]) ∧ Below w.heap.size w w' := by
  have hb0 := ((Below.refl w.heap.size w).alloc (Nat.le_refl _) (.cells #[.int .i64 a0, .int .i64 a1] 24)).alloc (by simp) (.cells #[.int .i64 b0, .int .i64 b1] 24)
  have HX0 := Aside0.mk (blk_alloc (new_blk w (.cells #[.int .i64 a0, .int .i64 a1] 24)) (.cells #[.int .i64 b0, .int .i64 b1] 24))
  have hy0 := new_blk (w.alloc (.cells #[.int .i64 a0, .int .i64 a1] 24)) (.cells #[.int .i64 b0, .int .i64 b1] 24)
  rw [World.size_alloc] at hy0
  have HY0 := Aside0.mk hy0
  have HR := Aside0.mk hr; have HB0 := Aside0.mk hb0
  have C1 := Aside0.mk (rcheck24_calls A c l a0 a1 _ (Kd.C_below hr hb0))
  have C2 := Aside0.mk (fun W h => rcheck24_calls A c l b0 b1 W h)
  clear hr hb0 hy0
  have x0 := (blk_cell HX0.out 0).trans rfl; have x1 := (blk_cell HX0.out 1).trans rfl
  by_cases ha : bCheck l a0 a1 = 0
  · rw [ha] at C1
    by_cases hb : bCheck l b0 b1 = 0
    · rw [hb] at C2
      have hv := bClash_secs ha hb
      rw [mHit_flat] at hv
      have pa := (bOk_of ha).parts.2; have pb := (bOk_of hb).parts.2
      rw [← rSecs_valid (bOk_of ha)] at pa; rw [← rSecs_valid (bOk_of hb)] at pb
      obtain ⟨pl1, pl2, ph⟩ := rSecs_len l a0 a1
      obtain ⟨ql1, ql2, qh⟩ := rSecs_len l b0 b1
      have HV := Aside0.mk hv; have HPA := Aside0.mk pa; have HPB := Aside0.mk pb
      clear ha hb hv pa pb
      go_enter Tryd.func21, Tryd.ntmps21
      go_wp2_with fail
      refine C1.out.mono ?_
      rintro e w2 ⟨rfl, hb2⟩
      have HB2 := Aside0.mk (below_tr HB0.out hb2); have HX2 := Aside0.mk (blk_low hb2 HX0.out); have HY2 := Aside0.mk (blk_low hb2 HY0.out)
      clear x0 x1 hb2 HX0 HY0 C1
      have y0 := (blk_cell HY2.out 0).trans rfl; have y1 := (blk_cell HY2.out 1).trans rfl
      go_wp2_with fail
      refine (C2.out _ (Kd.C_below HR.out HB2.out)).mono ?_
      rintro e w3 ⟨rfl, hb3⟩
      have HB3 := Aside0.mk (below_tr HB2.out hb3); have hx3 := blk_low hb3 HX2.out; have hy3 := blk_low hb3 HY2.out
      clear y0 y1 hb3 HX2 HY2 C2
      have x0 := (blk_cell hx3 0).trans rfl; have x1 := (blk_cell hx3 1).trans rfl; have y0 := (blk_cell hy3 0).trans rfl; have y1 := (blk_cell hy3 1).trans rfl
      clear hx3 hy3
      go_wp2_with fail
      have HS6 := Aside0.mk (fun W (h : Below w3.heap.size w3 W) => (⟨cell_low h x0, cell_low h x1, cell_low h y0, cell_low h y1, ⟨h⟩⟩ : W.cell? ⟨w.heap.size, 0, none⟩ = some (.int .i64 a0) ∧ W.cell? ⟨w.heap.size, 1, none⟩ = some (.int .i64 a1) ∧ W.cell? ⟨w.heap.size + 1, 0, none⟩ = some (.int .i64 b0) ∧ W.cell? ⟨w.heap.size + 1, 1, none⟩ = some (.int .i64 b1) ∧ Aside0 (Below w3.heap.size w3 W)))
      clear x0 x1 y0 y1
      refine wp_region_held_drew (S := (fun W => W.cell? ⟨w.heap.size, 0, none⟩ = some (.int .i64 a0) ∧ W.cell? ⟨w.heap.size, 1, none⟩ = some (.int .i64 a1) ∧ W.cell? ⟨w.heap.size + 1, 0, none⟩ = some (.int .i64 b0) ∧ W.cell? ⟨w.heap.size + 1, 1, none⟩ = some (.int .i64 b1) ∧ Aside0 (Below w3.heap.size w3 W))) (by kernel_rfl) (HS6.out _ (below_drew (Below.refl _ _))) (fun hHeld => ?_)
      (first | (refine wpAnyH_take (i := 0) rfl (by kernel_rfl) (by kernel_rfl) (by kernel_rfl) (fun _ _ _ h => h) (Or.inr ⟨by rfl, rfl⟩) (by assumption) ?_) | (refine wpAnyH_take (i := 0) (v := ?_) rfl (by kernel_rfl) (by kernel_rfl) (by kernel_rfl) (fun _ _ _ h => h) (Or.inl ⟨by rfl, ?_⟩) (by assumption) ?_; rotate_left 1; (focus (intro w hSw; (try dsimp only at hSw); go_simp; (try with_reducible rfl); done)))) <;> (try simp only [Act.put, List.getElem_toArray, List.getElem_cons_succ, List.getElem_cons_zero, List.setIfInBounds_toArray, List.set_cons_zero, List.set_cons_succ])
      (first | (refine wpAnyH_take (i := 1) rfl (by kernel_rfl) (by kernel_rfl) (by kernel_rfl) (fun _ _ _ h => h) (Or.inr ⟨by rfl, rfl⟩) (by assumption) ?_) | (refine wpAnyH_take (i := 1) (v := ?_) rfl (by kernel_rfl) (by kernel_rfl) (by kernel_rfl) (fun _ _ _ h => h) (Or.inl ⟨by rfl, ?_⟩) (by assumption) ?_; rotate_left 1; (focus (intro w hSw; (try dsimp only at hSw); go_simp; (try with_reducible rfl); done)))) <;> (try simp only [Act.put, List.getElem_toArray, List.getElem_cons_succ, List.getElem_cons_zero, List.setIfInBounds_toArray, List.set_cons_zero, List.set_cons_succ])
      (first | (refine wpAnyH_take (i := 3) rfl (by kernel_rfl) (by kernel_rfl) (by kernel_rfl) (fun _ _ _ h => h) (Or.inr ⟨by rfl, rfl⟩) (by assumption) ?_) | (refine wpAnyH_take (i := 3) (v := ?_) rfl (by kernel_rfl) (by kernel_rfl) (by kernel_rfl) (fun _ _ _ h => h) (Or.inl ⟨by rfl, ?_⟩) (by assumption) ?_; rotate_left 1; (focus (intro w hSw; (try dsimp only at hSw); go_simp; (try with_reducible rfl); done)))) <;> (try simp only [Act.put, List.getElem_toArray, List.getElem_cons_succ, List.getElem_cons_zero, List.setIfInBounds_toArray, List.set_cons_zero, List.set_cons_succ])
      (first | (refine wpAnyH_take (i := 4) rfl (by kernel_rfl) (by kernel_rfl) (by kernel_rfl) (fun _ _ _ h => h) (Or.inr ⟨by rfl, rfl⟩) (by assumption) ?_) | (refine wpAnyH_take (i := 4) (v := ?_) rfl (by kernel_rfl) (by kernel_rfl) (by kernel_rfl) (fun _ _ _ h => h) (Or.inl ⟨by rfl, ?_⟩) (by assumption) ?_; rotate_left 1; (focus (intro w hSw; (try dsimp only at hSw); go_simp; (try with_reducible rfl); done)))) <;> (try simp only [Act.put, List.getElem_toArray, List.getElem_cons_succ, List.getElem_cons_zero, List.setIfInBounds_toArray, List.set_cons_zero, List.set_cons_succ])
      have G1 := Aside0.mk (rsecs_calls A c l a0 a1 w3.drew (Kd.C_below HR.out (below_tr HB3.out hHeld.2.2.2.2.out)))
      refine wpAnyH_ready (rs := [2]) (by kernel_rfl) (by simp) ?_
      refine AllReadyH.cons rfl (fun K hK => ?_) AllReadyH.nil
      go_simp
      go_at_call 31; refine G1.out.mono ?_; rintro e w4 ⟨Bp, cp, rfl, hpc, hCp, hb4⟩; go_wp2_with fail
      refine hK.out _ _ (HS6.out _ (below_tr hHeld.2.2.2.2.out hb4)) (fun hHeld => ?_)
      clear hK K
      try simp only [Act.put, List.getElem_toArray, List.getElem_cons_succ, List.getElem_cons_zero, List.setIfInBounds_toArray, List.set_cons_zero, List.set_cons_succ]
      have HCp := Aside0.mk hCp
      have G2 := Aside0.mk (rsecs_calls A c l b0 b1 w4 (Kd.C_below HR.out (below_tr HB3.out hHeld.2.2.2.2.out)))
      clear hCp hb4 G1
      refine wpAnyH_ready (rs := [5]) (by kernel_rfl) (by simp) ?_
      refine AllReadyH.cons rfl (fun K hK => ?_) AllReadyH.nil
      go_simp
      go_at_call 31; refine G2.out.mono ?_; rintro e w5 ⟨Bq, cq, rfl, hqc, hCq, hb5⟩; go_wp2_with fail
      refine hK.out _ _ (HS6.out _ (below_tr hHeld.2.2.2.2.out hb5)) (fun hHeld => ?_)
      clear hK K
      try simp only [Act.put, List.getElem_toArray, List.getElem_cons_succ, List.getElem_cons_zero, List.setIfInBounds_toArray, List.set_cons_zero, List.set_cons_succ]
      have HCp5 := Aside0.mk (Kd.C_below HCp.out hb5)
      have HCq5 := Aside0.mk hCq
      clear hCq hb5 G2 HCp
      (first | (refine wpAnyH_take (i := 6) rfl (by kernel_rfl) (by kernel_rfl) (by kernel_rfl) (fun _ _ _ h => h) (Or.inr ⟨by rfl, rfl⟩) (by assumption) ?_) | (refine wpAnyH_take (i := 6) (v := ?_) rfl (by kernel_rfl) (by kernel_rfl) (by kernel_rfl) (fun _ _ _ h => h) (Or.inl ⟨by rfl, ?_⟩) (by assumption) ?_; rotate_left 1; (focus (intro w hSw; (try dsimp only at hSw); go_simp; (try with_reducible rfl); done)))) <;> (try simp only [Act.put, List.getElem_toArray, List.getElem_cons_succ, List.getElem_cons_zero, List.setIfInBounds_toArray, List.set_cons_zero, List.set_cons_succ])
      (first | (refine wpAnyH_take (i := 7) rfl (by kernel_rfl) (by kernel_rfl) (by kernel_rfl) (fun _ _ _ h => h) (Or.inr ⟨by rfl, rfl⟩) (by assumption) ?_) | (refine wpAnyH_take (i := 7) (v := ?_) rfl (by kernel_rfl) (by kernel_rfl) (by kernel_rfl) (fun _ _ _ h => h) (Or.inl ⟨by rfl, ?_⟩) (by assumption) ?_; rotate_left 1; (focus (intro w hSw; (try dsimp only at hSw); go_simp; (try with_reducible rfl); done)))) <;> (try simp only [Act.put, List.getElem_toArray, List.getElem_cons_succ, List.getElem_cons_zero, List.setIfInBounds_toArray, List.set_cons_zero, List.set_cons_succ])
      refine wpAnyH_done (by kernel_rfl) ?_ _
      have HB5 := Aside0.mk (below_tr HB3.out hHeld.2.2.2.2.out)
      clear hHeld HS6
      rw [← ph, ← qh] at HV
      generalize rSecs l a0 a1 = P at HV HPA pl1 pl2 HCp5 hpc ph ⊢
      generalize rSecs l b0 b1 = Q at HV HPB ql1 ql2 HCq5 hqc qh ⊢
      clear ph qh
      obtain ⟨pd, P5', p5', P6', p6', P7', p7', rfl, -, -, hx2, -⟩ := at_T34 HCp5.out 0 (by omega) (by omega)
      obtain ⟨qd, Q5', q5', Q6', q6', Q7', q7', rfl, -, -, hy2, -⟩ := at_T34 HCq5.out 0 (by omega) (by omega)
      simp only [Int.toNat_zero, Nat.zero_mul, addr_zero] at hx2 hy2
      have hp0 : (0 : Int) < P.length := by omega
      have hq0 : (0 : Int) < Q.length := by omega
      by_cases ht : (rd_T34 P 0).f2 = (rd_T34 Q 0).f2
      · have ht1 : ((rd_T34 P 0).f2 == (rd_T34 Q 0).f2) = true := by simp [ht]
        have ht2 : ((rd_T34 P 0).f2 != (rd_T34 Q 0).f2) = false := by simp [ht]
        have HV2 := Aside0.mk (show bClash l a0 a1 b0 b1 = (P.any fun x => Q.any fun y => mHit x.f5 y.f5, 0) by rw [HV.out, ht1, Bool.and_true])
        clear ht HV
        go_wp2_with fail
        go_quiet (fail)
        clear ht1 ht2 hx2 hy2
        generalize hw7 : w5.drewN _ = w7
        have HB7 := Aside0.mk (show Below w.heap.size w w7 by rw [← hw7]; exact pw_below_drewN HB5.out _)
        have HCp7 := Aside0.mk (show k34.C w7 (some pd) P.length P by rw [← hw7]; exact HCp5.out)
        have HCq7 := Aside0.mk (show k34.C w7 (some qd) Q.length Q by rw [← hw7]; exact HCq5.out)
        clear hw7 HCp5 HCq5 HB5
        have hmP := Kd.C_max HCp7.out; have hmQ := Kd.C_max HCq7.out
        go_wp2
        go_loopw [11] (fun iv wr => ∃ i : Nat, i ≤ P.length ∧ iv = .int .i64 i ∧ Aside0 ((P.take i).any (fun x => Q.any fun y => mHit x.f5 y.f5) = false) ∧ Aside0 (Below w7.heap.size w7 wr)) (fun iv _ => P.length - (intOf iv).toNat)
        case atStart => exact ⟨0, Nat.zero_le _, rfl, ⟨by simp⟩, ⟨Below.refl _ _⟩⟩
        case round =>
          obtain ⟨i, hi, rfl, HI, HU⟩ := hrel
          by_cases hlt : i < P.length
          · have hd : (i : Int) < P.length := by omega
            have hi0 : (0 : Int) ≤ i := by omega
            go_wp2
            go_loopw [12] (fun kv wr => ∃ k : Nat, k ≤ Q.length ∧ kv = .int .i64 k ∧ Aside0 ((Q.take k).any (fun y => mHit (rd_T34 P i).f5 y.f5) = false) ∧ Aside0 (Below w7.heap.size w7 wr)) (fun kv _ => Q.length - (intOf kv).toNat)
            case atStart => exact ⟨0, Nat.zero_le _, rfl, ⟨by simp⟩, HU⟩
            case round =>
              obtain ⟨k, hk, rfl, HK, HV⟩ := hrel
              by_cases hkl : k < Q.length
              · have hd2 : (k : Int) < Q.length := by omega
                have hk0 : (0 : Int) ≤ k := by omega
                obtain ⟨pd', P5, p5, P6, p6, P7, p7, had, -, -, -, -, -, hx5, -, -, -, pl5, pg5, -⟩ := at_T34 (Kd.C_below HCp7.out HV.out) i (by omega) (by omega)
                injection had with had
                subst had
                obtain ⟨qd', Q5, q5, Q6, q6, Q7, q7, had, -, -, -, -, -, hy5, -, -, -, ql5, qg5, -⟩ := at_T34 (Kd.C_below HCq7.out HV.out) k (by omega) (by omega)
                injection had with had
                subst had
                simp only [Int.toNat_natCast] at hx5 hy5
                have hpm : rd_T34 P i ∈ P := by rw [show rd_T34 P i = P[i] from by simp [rd_T34, List.getElem?_eq_getElem hlt]]; exact List.getElem_mem hlt
                have hqm : rd_T34 Q k ∈ Q := by rw [show rd_T34 Q k = Q[k] from by simp [rd_T34, List.getElem?_eq_getElem hkl]]; exact List.getElem_mem hkl
                have hmc := mClash_valid (HPA.out _ hpm).2 (HPB.out _ hqm).2
                have hsn := take_snoc' Q z34 k hkl
                rw [show Q.getD k z34 = rd_T34 Q k from by simp [rd_T34]] at hsn
                have HHIT := Aside0.mk (show mHit (rd_T34 P i).f5 (rd_T34 Q k).f5 = true → bClash l a0 a1 b0 b1 = (true, 0) from fun h => by
                  rw [HV2.out, List.any_eq_true.2 ⟨_, hpm, List.any_eq_true.2 ⟨_, hqm, h⟩⟩])
                have HMISS := Aside0.mk (show mHit (rd_T34 P i).f5 (rd_T34 Q k).f5 = false → (Q.take (k + 1)).any (fun y => mHit (rd_T34 P i).f5 y.f5) = false from fun h => by
                  rw [hsn, List.any_append, HK.out]; simp [h])
                have HMC := Aside0.mk hmc
                have GP := Aside0.mk (fun W (h : Below wr.heap.size wr W) => Kd.C_below pg5 h); have GQ := Aside0.mk (fun W (h : Below wr.heap.size wr W) => Kd.C_below qg5 h)
                clear hpm hqm hmc hsn pl5 pg5 ql5 qg5 HK
                generalize rd_T34 P i = p at hx5 HHIT HMISS HMC GP ⊢
                generalize rd_T34 Q k = q at hy5 HHIT HMISS HMC GQ
                go_wp2_with fail
                have HS15 := Aside0.mk (fun W (h : Below wr.heap.size wr W) => (⟨cell_low h hx5, cell_low h hy5, ⟨h⟩⟩ : W.cell? ⟨(pd.add (i * 9)).block, (pd.add (i * 9)).off + 5, none⟩ = some (.slice P5 p.f5.length p5) ∧ W.cell? ⟨(qd.add (k * 9)).block, (qd.add (k * 9)).off + 5, none⟩ = some (.slice Q5 q.f5.length q5) ∧ Aside0 (Below wr.heap.size wr W)))
                clear hx5 hy5
                refine wp_region_held_drew (S := (fun W => W.cell? ⟨(pd.add (i * 9)).block, (pd.add (i * 9)).off + 5, none⟩ = some (.slice P5 p.f5.length p5) ∧ W.cell? ⟨(qd.add (k * 9)).block, (qd.add (k * 9)).off + 5, none⟩ = some (.slice Q5 q.f5.length q5) ∧ Aside0 (Below wr.heap.size wr W))) (by kernel_rfl) (HS15.out _ (below_drew (Below.refl _ _))) (fun hHeld => ?_)
                (first | (refine wpAnyH_take (i := 0) rfl (by kernel_rfl) (by kernel_rfl) (by kernel_rfl) (fun _ _ _ h => h) (Or.inr ⟨by rfl, rfl⟩) (by assumption) ?_) | (refine wpAnyH_take (i := 0) (v := ?_) rfl (by kernel_rfl) (by kernel_rfl) (by kernel_rfl) (fun _ _ _ h => h) (Or.inl ⟨by rfl, ?_⟩) (by assumption) ?_; rotate_left 1; (focus (intro w hSw; (try dsimp only at hSw); go_simp; (try with_reducible rfl); done)))) <;> (try simp only [Act.put, List.getElem_toArray, List.getElem_cons_succ, List.getElem_cons_zero, List.setIfInBounds_toArray, List.set_cons_zero, List.set_cons_succ])
                (first | (refine wpAnyH_take (i := 1) rfl (by kernel_rfl) (by kernel_rfl) (by kernel_rfl) (fun _ _ _ h => h) (Or.inr ⟨by rfl, rfl⟩) (by assumption) ?_) | (refine wpAnyH_take (i := 1) (v := ?_) rfl (by kernel_rfl) (by kernel_rfl) (by kernel_rfl) (fun _ _ _ h => h) (Or.inl ⟨by rfl, ?_⟩) (by assumption) ?_; rotate_left 1; (focus (intro w hSw; (try dsimp only at hSw); go_simp; (try with_reducible rfl); done)))) <;> (try simp only [Act.put, List.getElem_toArray, List.getElem_cons_succ, List.getElem_cons_zero, List.setIfInBounds_toArray, List.set_cons_zero, List.set_cons_succ])
                (first | (refine wpAnyH_take (i := 2) rfl (by kernel_rfl) (by kernel_rfl) (by kernel_rfl) (fun _ _ _ h => h) (Or.inr ⟨by rfl, rfl⟩) (by assumption) ?_) | (refine wpAnyH_take (i := 2) (v := ?_) rfl (by kernel_rfl) (by kernel_rfl) (by kernel_rfl) (fun _ _ _ h => h) (Or.inl ⟨by rfl, ?_⟩) (by assumption) ?_; rotate_left 1; (focus (intro w hSw; (try dsimp only at hSw); go_simp; (try with_reducible rfl); done)))) <;> (try simp only [Act.put, List.getElem_toArray, List.getElem_cons_succ, List.getElem_cons_zero, List.setIfInBounds_toArray, List.set_cons_zero, List.set_cons_succ])
                (first | (refine wpAnyH_take (i := 3) rfl (by kernel_rfl) (by kernel_rfl) (by kernel_rfl) (fun _ _ _ h => h) (Or.inr ⟨by rfl, rfl⟩) (by assumption) ?_) | (refine wpAnyH_take (i := 3) (v := ?_) rfl (by kernel_rfl) (by kernel_rfl) (by kernel_rfl) (fun _ _ _ h => h) (Or.inl ⟨by rfl, ?_⟩) (by assumption) ?_; rotate_left 1; (focus (intro w hSw; (try dsimp only at hSw); go_simp; (try with_reducible rfl); done)))) <;> (try simp only [Act.put, List.getElem_toArray, List.getElem_cons_succ, List.getElem_cons_zero, List.setIfInBounds_toArray, List.set_cons_zero, List.set_cons_succ])
                (first | (refine wpAnyH_take (i := 4) rfl (by kernel_rfl) (by kernel_rfl) (by kernel_rfl) (fun _ _ _ h => h) (Or.inr ⟨by rfl, rfl⟩) (by assumption) ?_) | (refine wpAnyH_take (i := 4) (v := ?_) rfl (by kernel_rfl) (by kernel_rfl) (by kernel_rfl) (fun _ _ _ h => h) (Or.inl ⟨by rfl, ?_⟩) (by assumption) ?_; rotate_left 1; (focus (intro w hSw; (try dsimp only at hSw); go_simp; (try with_reducible rfl); done)))) <;> (try simp only [Act.put, List.getElem_toArray, List.getElem_cons_succ, List.getElem_cons_zero, List.setIfInBounds_toArray, List.set_cons_zero, List.set_cons_succ])
                (first | (refine wpAnyH_take (i := 5) rfl (by kernel_rfl) (by kernel_rfl) (by kernel_rfl) (fun _ _ _ h => h) (Or.inr ⟨by rfl, rfl⟩) (by assumption) ?_) | (refine wpAnyH_take (i := 5) (v := ?_) rfl (by kernel_rfl) (by kernel_rfl) (by kernel_rfl) (fun _ _ _ h => h) (Or.inl ⟨by rfl, ?_⟩) (by assumption) ?_; rotate_left 1; (focus (intro w hSw; (try dsimp only at hSw); go_simp; (try with_reducible rfl); done)))) <;> (try simp only [Act.put, List.getElem_toArray, List.getElem_cons_succ, List.getElem_cons_zero, List.setIfInBounds_toArray, List.set_cons_zero, List.set_cons_succ])
                (first | (refine wpAnyH_take (i := 6) rfl (by kernel_rfl) (by kernel_rfl) (by kernel_rfl) (fun _ _ _ h => h) (Or.inr ⟨by rfl, rfl⟩) (by assumption) ?_) | (refine wpAnyH_take (i := 6) (v := ?_) rfl (by kernel_rfl) (by kernel_rfl) (by kernel_rfl) (fun _ _ _ h => h) (Or.inl ⟨by rfl, ?_⟩) (by assumption) ?_; rotate_left 1; (focus (intro w hSw; (try dsimp only at hSw); go_simp; (try with_reducible rfl); done)))) <;> (try simp only [Act.put, List.getElem_toArray, List.getElem_cons_succ, List.getElem_cons_zero, List.setIfInBounds_toArray, List.set_cons_zero, List.set_cons_succ])
                (first | (refine wpAnyH_take (i := 7) rfl (by kernel_rfl) (by kernel_rfl) (by kernel_rfl) (fun _ _ _ h => h) (Or.inr ⟨by rfl, rfl⟩) (by assumption) ?_) | (refine wpAnyH_take (i := 7) (v := ?_) rfl (by kernel_rfl) (by kernel_rfl) (by kernel_rfl) (fun _ _ _ h => h) (Or.inl ⟨by rfl, ?_⟩) (by assumption) ?_; rotate_left 1; (focus (intro w hSw; (try dsimp only at hSw); go_simp; (try with_reducible rfl); done)))) <;> (try simp only [Act.put, List.getElem_toArray, List.getElem_cons_succ, List.getElem_cons_zero, List.setIfInBounds_toArray, List.set_cons_zero, List.set_cons_succ])
                (first | (refine wpAnyH_take (i := 8) rfl (by kernel_rfl) (by kernel_rfl) (by kernel_rfl) (fun _ _ _ h => h) (Or.inr ⟨by rfl, rfl⟩) (by assumption) ?_) | (refine wpAnyH_take (i := 8) (v := ?_) rfl (by kernel_rfl) (by kernel_rfl) (by kernel_rfl) (fun _ _ _ h => h) (Or.inl ⟨by rfl, ?_⟩) (by assumption) ?_; rotate_left 1; (focus (intro w hSw; (try dsimp only at hSw); go_simp; (try with_reducible rfl); done)))) <;> (try simp only [Act.put, List.getElem_toArray, List.getElem_cons_succ, List.getElem_cons_zero, List.setIfInBounds_toArray, List.set_cons_zero, List.set_cons_succ])
                (first | (refine wpAnyH_take (i := 9) rfl (by kernel_rfl) (by kernel_rfl) (by kernel_rfl) (fun _ _ _ h => h) (Or.inr ⟨by rfl, rfl⟩) (by assumption) ?_) | (refine wpAnyH_take (i := 9) (v := ?_) rfl (by kernel_rfl) (by kernel_rfl) (by kernel_rfl) (fun _ _ _ h => h) (Or.inl ⟨by rfl, ?_⟩) (by assumption) ?_; rotate_left 1; (focus (intro w hSw; (try dsimp only at hSw); go_simp; (try with_reducible rfl); done)))) <;> (try simp only [Act.put, List.getElem_toArray, List.getElem_cons_succ, List.getElem_cons_zero, List.setIfInBounds_toArray, List.set_cons_zero, List.set_cons_succ])
                have G36 := Aside0.mk (rclash22_calls P5 p5 p.f5 Q5 q5 q.f5 wr.drew (GP.out _ hHeld.2.2.out) (GQ.out _ hHeld.2.2.out))
                rw [HMC.out] at G36
                refine wpAnyH_ready (rs := [10]) (by kernel_rfl) (by simp) ?_
                refine AllReadyH.cons rfl (fun K hK => ?_) AllReadyH.nil
                go_simp
                go_at_call 36; refine G36.out.mono ?_; rintro e w6 ⟨rfl, hb6⟩; go_wp2_with fail
                refine hK.out _ _ (HS15.out _ (below_tr hHeld.2.2.out hb6)) (fun hHeld => ?_)
                clear hK K
                try simp only [Act.put, List.getElem_toArray, List.getElem_cons_succ, List.getElem_cons_zero, List.setIfInBounds_toArray, List.set_cons_zero, List.set_cons_succ]
                clear hb6 G36
                (first | (refine wpAnyH_take (i := 11) rfl (by kernel_rfl) (by kernel_rfl) (by kernel_rfl) (fun _ _ _ h => h) (Or.inr ⟨by rfl, rfl⟩) (by assumption) ?_) | (refine wpAnyH_take (i := 11) (v := ?_) rfl (by kernel_rfl) (by kernel_rfl) (by kernel_rfl) (fun _ _ _ h => h) (Or.inl ⟨by rfl, ?_⟩) (by assumption) ?_; rotate_left 1; (focus (intro w hSw; (try dsimp only at hSw); go_simp; (try with_reducible rfl); done)))) <;> (try simp only [Act.put, List.getElem_toArray, List.getElem_cons_succ, List.getElem_cons_zero, List.setIfInBounds_toArray, List.set_cons_zero, List.set_cons_succ])
                (first | (refine wpAnyH_take (i := 12) rfl (by kernel_rfl) (by kernel_rfl) (by kernel_rfl) (fun _ _ _ h => h) (Or.inr ⟨by rfl, rfl⟩) (by assumption) ?_) | (refine wpAnyH_take (i := 12) (v := ?_) rfl (by kernel_rfl) (by kernel_rfl) (by kernel_rfl) (fun _ _ _ h => h) (Or.inl ⟨by rfl, ?_⟩) (by assumption) ?_; rotate_left 1; (focus (intro w hSw; (try dsimp only at hSw); go_simp; (try with_reducible rfl); done)))) <;> (try simp only [Act.put, List.getElem_toArray, List.getElem_cons_succ, List.getElem_cons_zero, List.setIfInBounds_toArray, List.set_cons_zero, List.set_cons_succ])
                (first | (refine wpAnyH_take (i := 13) rfl (by kernel_rfl) (by kernel_rfl) (by kernel_rfl) (fun _ _ _ h => h) (Or.inr ⟨by rfl, rfl⟩) (by assumption) ?_) | (refine wpAnyH_take (i := 13) (v := ?_) rfl (by kernel_rfl) (by kernel_rfl) (by kernel_rfl) (fun _ _ _ h => h) (Or.inl ⟨by rfl, ?_⟩) (by assumption) ?_; rotate_left 1; (focus (intro w hSw; (try dsimp only at hSw); go_simp; (try with_reducible rfl); done)))) <;> (try simp only [Act.put, List.getElem_toArray, List.getElem_cons_succ, List.getElem_cons_zero, List.setIfInBounds_toArray, List.set_cons_zero, List.set_cons_succ])
                (first | (refine wpAnyH_take (i := 14) rfl (by kernel_rfl) (by kernel_rfl) (by kernel_rfl) (fun _ _ _ h => h) (Or.inr ⟨by rfl, rfl⟩) (by assumption) ?_) | (refine wpAnyH_take (i := 14) (v := ?_) rfl (by kernel_rfl) (by kernel_rfl) (by kernel_rfl) (fun _ _ _ h => h) (Or.inl ⟨by rfl, ?_⟩) (by assumption) ?_; rotate_left 1; (focus (intro w hSw; (try dsimp only at hSw); go_simp; (try with_reducible rfl); done)))) <;> (try simp only [Act.put, List.getElem_toArray, List.getElem_cons_succ, List.getElem_cons_zero, List.setIfInBounds_toArray, List.set_cons_zero, List.set_cons_succ])
                (first | (refine wpAnyH_take (i := 15) rfl (by kernel_rfl) (by kernel_rfl) (by kernel_rfl) (fun _ _ _ h => h) (Or.inr ⟨by rfl, rfl⟩) (by assumption) ?_) | (refine wpAnyH_take (i := 15) (v := ?_) rfl (by kernel_rfl) (by kernel_rfl) (by kernel_rfl) (fun _ _ _ h => h) (Or.inl ⟨by rfl, ?_⟩) (by assumption) ?_; rotate_left 1; (focus (intro w hSw; (try dsimp only at hSw); go_simp; (try with_reducible rfl); done)))) <;> (try simp only [Act.put, List.getElem_toArray, List.getElem_cons_succ, List.getElem_cons_zero, List.setIfInBounds_toArray, List.set_cons_zero, List.set_cons_succ])
                refine wpAnyH_done (by kernel_rfl) ?_ _
                have HB6 := Aside0.mk (below_tr HV.out hHeld.2.2.out)
                clear hHeld HS15
                cases hh : mHit p.f5 q.f5 with
                | true =>
                  have HS := Aside0.mk (HHIT.out hh)
                  go_wp2
                  go_ret2
                  exact ⟨by rw [HS.out]; rfl, below_tr HB7.out HB6.out⟩
                | false =>
                  have HN := Aside0.mk (HMISS.out hh)
                  go_wp2
                  exact ⟨⟨k + 1, by omega, by go_num, HN, HB6⟩, by simp [intOf]; omega⟩
              · have hd2 : ¬ (k : Int) < Q.length := by omega
                have hqq := HK.out
                rw [List.take_of_length_le (by omega)] at hqq
                have HN := Aside0.mk (show (P.take (i + 1)).any (fun x => Q.any fun y => mHit x.f5 y.f5) = false by
                  rw [take_snoc' P z34 i hlt, List.any_append, HI.out, show P.getD i z34 = rd_T34 P i from by simp [rd_T34]]
                  simpa using hqq)
                clear hqq
                go_wp2
                exact ⟨⟨i + 1, by omega, by go_num, HN, HV⟩, by simp [intOf]; omega⟩
          · have hd : ¬ (i : Int) < P.length := by omega
            have hqq := HI.out
            rw [List.take_of_length_le (by omega)] at hqq
            have HS := Aside0.mk (show bClash l a0 a1 b0 b1 = (false, 0) by rw [HV2.out, hqq])
            clear hqq
            go_wp2
            go_ret2
            exact ⟨by rw [HS.out]; rfl, below_tr HB7.out HU.out⟩
      · have ht1 : ((rd_T34 P 0).f2 == (rd_T34 Q 0).f2) = false := by simp [ht]
        have ht2 : ((rd_T34 P 0).f2 != (rd_T34 Q 0).f2) = true := by simp [ht]
        have HS := Aside0.mk (show bClash l a0 a1 b0 b1 = (false, 0) by rw [HV.out, ht1, Bool.and_false])
        clear ht HV
        go_wp2_with fail
        go_quiet (fail)
        go_wp2
        go_ret2
        exact ⟨by rw [HS.out]; rfl, pw_below_drewN HB5.out _⟩
    · have HS := Aside0.mk (show bClash l a0 a1 b0 b1 = (false, bCheck l b0 b1) by unfold bClash; rw [if_neg (by simp [ha]), if_pos hb])
      obtain ⟨q, hq⟩ : ∃ q, bCheck l b0 b1 = q := ⟨_, rfl⟩
      rw [hq] at C2 HS hb
      have e1 : (q != 0) = true := by simp [hb]
      have e2 : (q == 0) = false := by simp [hb]
      clear ha hb hq
      go_enter Tryd.func21, Tryd.ntmps21
      go_wp2_with fail
      refine C1.out.mono ?_
      rintro e w2 ⟨rfl, hb2⟩
      have HB2 := Aside0.mk (below_tr HB0.out hb2); have HY2 := Aside0.mk (blk_low hb2 HY0.out)
      clear x0 x1 hb2
      have y0 := (blk_cell HY2.out 0).trans rfl; have y1 := (blk_cell HY2.out 1).trans rfl
      go_wp2_with fail
      refine (C2.out _ (Kd.C_below HR.out HB2.out)).mono ?_
      rintro e w3 ⟨rfl, hb3⟩
      have HB3 := Aside0.mk (below_tr HB2.out hb3)
      clear y0 y1 hb3
      go_wp2
      go_ret2
      exact ⟨by rw [HS.out]; rfl, HB3.out⟩
  · have HS := Aside0.mk (show bClash l a0 a1 b0 b1 = (false, bCheck l a0 a1) by unfold bClash; rw [if_pos ha])
    obtain ⟨q, hq⟩ : ∃ q, bCheck l a0 a1 = q := ⟨_, rfl⟩
    rw [hq] at C1 HS ha
    have e1 : (q != 0) = true := by simp [ha]
    have e2 : (q == 0) = false := by simp [ha]
    clear ha hq
    go_enter Tryd.func21, Tryd.ntmps21
    go_wp2_with fail
    refine C1.out.mono ?_
    rintro e w2 ⟨rfl, hb2⟩
    have HB2 := Aside0.mk (below_tr HB0.out hb2)
    clear x0 x1 hb2
    go_wp2
    go_ret2
    exact ⟨by rw [HS.out]; rfl, HB2.out⟩
end Go.Proofs.YtbpgoddohhiohaaDoor
