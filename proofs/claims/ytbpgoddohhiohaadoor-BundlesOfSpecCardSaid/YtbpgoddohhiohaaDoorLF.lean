/- sizarlaw24.BundlesOfSpec: it is true. -/
import Derived.Test.YtbpgoddohhiohaaDoorRP
import Derived.Test.YtbpgoddohhiohaaDoorLK
namespace Go.Proofs.YtbpgoddohhiohaaDoor
open Go.RowKit Go.Proofs.YtbpgoddohhiohaaDoorW.PrintWords
set_option linter.unusedVariables false
set_option linter.unusedSimpArgs false

set_option maxRecDepth 100000 in
set_option maxHeartbeats 8000000 in
theorem lawOf_calls (A : Option Addr) (c : Nat) (l : List S34) (B : Option Addr) (d : Nat) (taken : List S47) (st term : Int) (w : World) (hE : ErrT w) (hr : k34.C w A l.length l) (hrt : k47.C w B taken.length taken) :
    Calls Tryd.prog 5 #[.slice A l.length c, .slice B taken.length d, .int .i64 st, .int .i64 term] w fun e w' => e = .returned (.bool true) ∧ Below w.heap.size w w' := by
  have HR := Aside0.mk hr; have HE := Aside0.mk hE; have HT := Aside0.mk hrt
  have hmaxt := Kd.C_max hrt; have hmaxl := Kd.C_max hr
  have h10 := Aside0.mk (sane_calls w hE)
  clear hr hE hrt
  go_enter Tryd.func5, Tryd.ntmps5
  go_wp2_with fail
  refine h10.out.mono ?_
  rintro e w1 ⟨rfl, hb1⟩
  have HB1 := Aside0.mk hb1
  clear hb1 h10
  have h11 := few_calls A c l B taken.length d w1 (Kd.C_below HR.out HB1.out)
  cases hf : sFew l taken.length with
  | false =>
    rw [hf] at h11
    go_wp2_with fail
    refine h11.mono ?_
    rintro e w2 ⟨rfl, rfl⟩
    go_wp2
    go_ret
    exact ⟨rfl, HB1.out⟩
  | true =>
    rw [hf] at h11
    have HL12 := Aside0.mk (Nat.le_trans (few_len hf) (by omega) : l.length ≤ 12)
    clear hf
    go_wp2_with fail
    refine h11.mono ?_
    rintro e w2 ⟨rfl, rfl⟩
    clear h11
    go_wp2_with fail
    go_loopw [9] (fun iv wr => ∃ k : Nat, k ≤ taken.length ∧ k ≤ 4 ∧ iv = .int .i64 k ∧ Aside0 (Below w.heap.size w wr)) (fun iv _ => taken.length - (intOf iv).toNat)
    case atStart => exact ⟨0, Nat.zero_le _, by omega, rfl, HB1⟩
    case round =>
      obtain ⟨k, hk, hk4, rfl, HBw⟩ := hrel
      by_cases hgo : k < taken.length ∧ 0 < l.length ∧ k < 4
      · obtain ⟨hlt, hl0, hlt4⟩ := hgo
        have hd : (k : Int) < taken.length := by omega
        have hd4 : (k : Int) < 4 := by omega
        have hp0 : (0 : Int) ≤ k := by omega
        have hl0' : (0 : Int) < l.length := by omega
        obtain ⟨ad, rfl, hx0, -, -⟩ := at_T47 (Kd.C_below HT.out HBw.out) k (by omega) (by omega)
        simp only [Int.toNat_natCast] at hx0
        obtain ⟨bd, A5', c5', A6', c6', A7', c7', rfl, -, -, hy2, -⟩ := at_T34 HR.out 0 (by omega) (by omega)
        replace hy2 := cell_low HBw.out hy2
        obtain ⟨T, hT⟩ : ∃ T, (rd_T34 l 0).f2 = T := ⟨_, rfl⟩
        obtain ⟨t, ht⟩ : ∃ t, rd_T47 taken k = t := ⟨_, rfl⟩
        rw [hT] at hy2; rw [ht] at hx0
        simp only [Int.toNat_zero, Nat.zero_mul, addr_zero] at hy2
        clear hT ht
        go_wp2_with fail
        have HS : Aside0 (∀ W, Below wr.heap.size wr W → (W.cell? (ad.add (k * 3)) = some (.int .i64 t.f0) ∧ W.cell? ⟨bd.block, bd.off + 2, none⟩ = some (.int .i64 T) ∧ Aside0 (Below wr.heap.size wr W))) := ⟨fun W h => ⟨cell_low h hx0, cell_low h hy2, ⟨h⟩⟩⟩
        refine wp_region_held_drew (S := (fun W => W.cell? (ad.add (k * 3)) = some (.int .i64 t.f0) ∧ W.cell? ⟨bd.block, bd.off + 2, none⟩ = some (.int .i64 T) ∧ Aside0 (Below wr.heap.size wr W))) (by kernel_rfl) (HS.out _ (below_drew (Below.refl _ _))) (fun hHeld => ?_)
        (first | (refine wpAnyH_take (i := 0) rfl (by kernel_rfl) (by kernel_rfl) (by kernel_rfl) (fun _ _ _ h => h) (Or.inr ⟨by rfl, rfl⟩) (by assumption) ?_) | (refine wpAnyH_take (i := 0) (v := ?_) rfl (by kernel_rfl) (by kernel_rfl) (by kernel_rfl) (fun _ _ _ h => h) (Or.inl ⟨by rfl, ?_⟩) (by assumption) ?_; rotate_left 1; (focus (intro w hSw; (try dsimp only at hSw); go_simp; (try with_reducible rfl); done)))) <;> (try simp only [Act.put, List.getElem_toArray, List.getElem_cons_succ, List.getElem_cons_zero, List.setIfInBounds_toArray, List.set_cons_zero, List.set_cons_succ])
        (first | (refine wpAnyH_take (i := 1) rfl (by kernel_rfl) (by kernel_rfl) (by kernel_rfl) (fun _ _ _ h => h) (Or.inr ⟨by rfl, rfl⟩) (by assumption) ?_) | (refine wpAnyH_take (i := 1) (v := ?_) rfl (by kernel_rfl) (by kernel_rfl) (by kernel_rfl) (fun _ _ _ h => h) (Or.inl ⟨by rfl, ?_⟩) (by assumption) ?_; rotate_left 1; (focus (intro w hSw; (try dsimp only at hSw); go_simp; (try with_reducible rfl); done)))) <;> (try simp only [Act.put, List.getElem_toArray, List.getElem_cons_succ, List.getElem_cons_zero, List.setIfInBounds_toArray, List.set_cons_zero, List.set_cons_succ])
        (first | (refine wpAnyH_take (i := 2) rfl (by kernel_rfl) (by kernel_rfl) (by kernel_rfl) (fun _ _ _ h => h) (Or.inr ⟨by rfl, rfl⟩) (by assumption) ?_) | (refine wpAnyH_take (i := 2) (v := ?_) rfl (by kernel_rfl) (by kernel_rfl) (by kernel_rfl) (fun _ _ _ h => h) (Or.inl ⟨by rfl, ?_⟩) (by assumption) ?_; rotate_left 1; (focus (intro w hSw; (try dsimp only at hSw); go_simp; (try with_reducible rfl); done)))) <;> (try simp only [Act.put, List.getElem_toArray, List.getElem_cons_succ, List.getElem_cons_zero, List.setIfInBounds_toArray, List.set_cons_zero, List.set_cons_succ])
        (first | (refine wpAnyH_take (i := 3) rfl (by kernel_rfl) (by kernel_rfl) (by kernel_rfl) (fun _ _ _ h => h) (Or.inr ⟨by rfl, rfl⟩) (by assumption) ?_) | (refine wpAnyH_take (i := 3) (v := ?_) rfl (by kernel_rfl) (by kernel_rfl) (by kernel_rfl) (fun _ _ _ h => h) (Or.inl ⟨by rfl, ?_⟩) (by assumption) ?_; rotate_left 1; (focus (intro w hSw; (try dsimp only at hSw); go_simp; (try with_reducible rfl); done)))) <;> (try simp only [Act.put, List.getElem_toArray, List.getElem_cons_succ, List.getElem_cons_zero, List.setIfInBounds_toArray, List.set_cons_zero, List.set_cons_succ])
        (first | (refine wpAnyH_take (i := 4) rfl (by kernel_rfl) (by kernel_rfl) (by kernel_rfl) (fun _ _ _ h => h) (Or.inr ⟨by rfl, rfl⟩) (by assumption) ?_) | (refine wpAnyH_take (i := 4) (v := ?_) rfl (by kernel_rfl) (by kernel_rfl) (by kernel_rfl) (fun _ _ _ h => h) (Or.inl ⟨by rfl, ?_⟩) (by assumption) ?_; rotate_left 1; (focus (intro w hSw; (try dsimp only at hSw); go_simp; (try with_reducible rfl); done)))) <;> (try simp only [Act.put, List.getElem_toArray, List.getElem_cons_succ, List.getElem_cons_zero, List.setIfInBounds_toArray, List.set_cons_zero, List.set_cons_succ])
        (first | (refine wpAnyH_take (i := 5) rfl (by kernel_rfl) (by kernel_rfl) (by kernel_rfl) (fun _ _ _ h => h) (Or.inr ⟨by rfl, rfl⟩) (by assumption) ?_) | (refine wpAnyH_take (i := 5) (v := ?_) rfl (by kernel_rfl) (by kernel_rfl) (by kernel_rfl) (fun _ _ _ h => h) (Or.inl ⟨by rfl, ?_⟩) (by assumption) ?_; rotate_left 1; (focus (intro w hSw; (try dsimp only at hSw); go_simp; (try with_reducible rfl); done)))) <;> (try simp only [Act.put, List.getElem_toArray, List.getElem_cons_succ, List.getElem_cons_zero, List.setIfInBounds_toArray, List.set_cons_zero, List.set_cons_succ])
        (first | (refine wpAnyH_take (i := 6) rfl (by kernel_rfl) (by kernel_rfl) (by kernel_rfl) (fun _ _ _ h => h) (Or.inr ⟨by rfl, rfl⟩) (by assumption) ?_) | (refine wpAnyH_take (i := 6) (v := ?_) rfl (by kernel_rfl) (by kernel_rfl) (by kernel_rfl) (fun _ _ _ h => h) (Or.inl ⟨by rfl, ?_⟩) (by assumption) ?_; rotate_left 1; (focus (intro w hSw; (try dsimp only at hSw); go_simp; (try with_reducible rfl); done)))) <;> (try simp only [Act.put, List.getElem_toArray, List.getElem_cons_succ, List.getElem_cons_zero, List.setIfInBounds_toArray, List.set_cons_zero, List.set_cons_succ])
        (first | (refine wpAnyH_take (i := 7) rfl (by kernel_rfl) (by kernel_rfl) (by kernel_rfl) (fun _ _ _ h => h) (Or.inr ⟨by rfl, rfl⟩) (by assumption) ?_) | (refine wpAnyH_take (i := 7) (v := ?_) rfl (by kernel_rfl) (by kernel_rfl) (by kernel_rfl) (fun _ _ _ h => h) (Or.inl ⟨by rfl, ?_⟩) (by assumption) ?_; rotate_left 1; (focus (intro w hSw; (try dsimp only at hSw); go_simp; (try with_reducible rfl); done)))) <;> (try simp only [Act.put, List.getElem_toArray, List.getElem_cons_succ, List.getElem_cons_zero, List.setIfInBounds_toArray, List.set_cons_zero, List.set_cons_succ])
        (first | (refine wpAnyH_take (i := 8) rfl (by kernel_rfl) (by kernel_rfl) (by kernel_rfl) (fun _ _ _ h => h) (Or.inr ⟨by rfl, rfl⟩) (by assumption) ?_) | (refine wpAnyH_take (i := 8) (v := ?_) rfl (by kernel_rfl) (by kernel_rfl) (by kernel_rfl) (fun _ _ _ h => h) (Or.inl ⟨by rfl, ?_⟩) (by assumption) ?_; rotate_left 1; (focus (intro w hSw; (try dsimp only at hSw); go_simp; (try with_reducible rfl); done)))) <;> (try simp only [Act.put, List.getElem_toArray, List.getElem_cons_succ, List.getElem_cons_zero, List.setIfInBounds_toArray, List.set_cons_zero, List.set_cons_succ])
        (first | (refine wpAnyH_take (i := 9) rfl (by kernel_rfl) (by kernel_rfl) (by kernel_rfl) (fun _ _ _ h => h) (Or.inr ⟨by rfl, rfl⟩) (by assumption) ?_) | (refine wpAnyH_take (i := 9) (v := ?_) rfl (by kernel_rfl) (by kernel_rfl) (by kernel_rfl) (fun _ _ _ h => h) (Or.inl ⟨by rfl, ?_⟩) (by assumption) ?_; rotate_left 1; (focus (intro w hSw; (try dsimp only at hSw); go_simp; (try with_reducible rfl); done)))) <;> (try simp only [Act.put, List.getElem_toArray, List.getElem_cons_succ, List.getElem_cons_zero, List.setIfInBounds_toArray, List.set_cons_zero, List.set_cons_succ])
        (first | (refine wpAnyH_take (i := 10) rfl (by kernel_rfl) (by kernel_rfl) (by kernel_rfl) (fun _ _ _ h => h) (Or.inr ⟨by rfl, rfl⟩) (by assumption) ?_) | (refine wpAnyH_take (i := 10) (v := ?_) rfl (by kernel_rfl) (by kernel_rfl) (by kernel_rfl) (fun _ _ _ h => h) (Or.inl ⟨by rfl, ?_⟩) (by assumption) ?_; rotate_left 1; (focus (intro w hSw; (try dsimp only at hSw); go_simp; (try with_reducible rfl); done)))) <;> (try simp only [Act.put, List.getElem_toArray, List.getElem_cons_succ, List.getElem_cons_zero, List.setIfInBounds_toArray, List.set_cons_zero, List.set_cons_succ])
        (first | (refine wpAnyH_take (i := 12) rfl (by kernel_rfl) (by kernel_rfl) (by kernel_rfl) (fun _ _ _ h => h) (Or.inr ⟨by rfl, rfl⟩) (by assumption) ?_) | (refine wpAnyH_take (i := 12) (v := ?_) rfl (by kernel_rfl) (by kernel_rfl) (by kernel_rfl) (fun _ _ _ h => h) (Or.inl ⟨by rfl, ?_⟩) (by assumption) ?_; rotate_left 1; (focus (intro w hSw; (try dsimp only at hSw); go_simp; (try with_reducible rfl); done)))) <;> (try simp only [Act.put, List.getElem_toArray, List.getElem_cons_succ, List.getElem_cons_zero, List.setIfInBounds_toArray, List.set_cons_zero, List.set_cons_succ])
        (first | (refine wpAnyH_take (i := 13) rfl (by kernel_rfl) (by kernel_rfl) (by kernel_rfl) (fun _ _ _ h => h) (Or.inr ⟨by rfl, rfl⟩) (by assumption) ?_) | (refine wpAnyH_take (i := 13) (v := ?_) rfl (by kernel_rfl) (by kernel_rfl) (by kernel_rfl) (fun _ _ _ h => h) (Or.inl ⟨by rfl, ?_⟩) (by assumption) ?_; rotate_left 1; (focus (intro w hSw; (try dsimp only at hSw); go_simp; (try with_reducible rfl); done)))) <;> (try simp only [Act.put, List.getElem_toArray, List.getElem_cons_succ, List.getElem_cons_zero, List.setIfInBounds_toArray, List.set_cons_zero, List.set_cons_succ])
        (first | (refine wpAnyH_take (i := 14) rfl (by kernel_rfl) (by kernel_rfl) (by kernel_rfl) (fun _ _ _ h => h) (Or.inr ⟨by rfl, rfl⟩) (by assumption) ?_) | (refine wpAnyH_take (i := 14) (v := ?_) rfl (by kernel_rfl) (by kernel_rfl) (by kernel_rfl) (fun _ _ _ h => h) (Or.inl ⟨by rfl, ?_⟩) (by assumption) ?_; rotate_left 1; (focus (intro w hSw; (try dsimp only at hSw); go_simp; (try with_reducible rfl); done)))) <;> (try simp only [Act.put, List.getElem_toArray, List.getElem_cons_succ, List.getElem_cons_zero, List.setIfInBounds_toArray, List.set_cons_zero, List.set_cons_succ])
        (first | (refine wpAnyH_take (i := 15) rfl (by kernel_rfl) (by kernel_rfl) (by kernel_rfl) (fun _ _ _ h => h) (Or.inr ⟨by rfl, rfl⟩) (by assumption) ?_) | (refine wpAnyH_take (i := 15) (v := ?_) rfl (by kernel_rfl) (by kernel_rfl) (by kernel_rfl) (fun _ _ _ h => h) (Or.inl ⟨by rfl, ?_⟩) (by assumption) ?_; rotate_left 1; (focus (intro w hSw; (try dsimp only at hSw); go_simp; (try with_reducible rfl); done)))) <;> (try simp only [Act.put, List.getElem_toArray, List.getElem_cons_succ, List.getElem_cons_zero, List.setIfInBounds_toArray, List.set_cons_zero, List.set_cons_succ])
        (first | (refine wpAnyH_take (i := 16) rfl (by kernel_rfl) (by kernel_rfl) (by kernel_rfl) (fun _ _ _ h => h) (Or.inr ⟨by rfl, rfl⟩) (by assumption) ?_) | (refine wpAnyH_take (i := 16) (v := ?_) rfl (by kernel_rfl) (by kernel_rfl) (by kernel_rfl) (fun _ _ _ h => h) (Or.inl ⟨by rfl, ?_⟩) (by assumption) ?_; rotate_left 1; (focus (intro w hSw; (try dsimp only at hSw); go_simp; (try with_reducible rfl); done)))) <;> (try simp only [Act.put, List.getElem_toArray, List.getElem_cons_succ, List.getElem_cons_zero, List.setIfInBounds_toArray, List.set_cons_zero, List.set_cons_succ])
        (first | (refine wpAnyH_take (i := 17) rfl (by kernel_rfl) (by kernel_rfl) (by kernel_rfl) (fun _ _ _ h => h) (Or.inr ⟨by rfl, rfl⟩) (by assumption) ?_) | (refine wpAnyH_take (i := 17) (v := ?_) rfl (by kernel_rfl) (by kernel_rfl) (by kernel_rfl) (fun _ _ _ h => h) (Or.inl ⟨by rfl, ?_⟩) (by assumption) ?_; rotate_left 1; (focus (intro w hSw; (try dsimp only at hSw); go_simp; (try with_reducible rfl); done)))) <;> (try simp only [Act.put, List.getElem_toArray, List.getElem_cons_succ, List.getElem_cons_zero, List.setIfInBounds_toArray, List.set_cons_zero, List.set_cons_succ])
        (first | (refine wpAnyH_take (i := 18) rfl (by kernel_rfl) (by kernel_rfl) (by kernel_rfl) (fun _ _ _ h => h) (Or.inr ⟨by rfl, rfl⟩) (by assumption) ?_) | (refine wpAnyH_take (i := 18) (v := ?_) rfl (by kernel_rfl) (by kernel_rfl) (by kernel_rfl) (fun _ _ _ h => h) (Or.inl ⟨by rfl, ?_⟩) (by assumption) ?_; rotate_left 1; (focus (intro w hSw; (try dsimp only at hSw); go_simp; (try with_reducible rfl); done)))) <;> (try simp only [Act.put, List.getElem_toArray, List.getElem_cons_succ, List.getElem_cons_zero, List.setIfInBounds_toArray, List.set_cons_zero, List.set_cons_succ])
        (first | (refine wpAnyH_take (i := 19) rfl (by kernel_rfl) (by kernel_rfl) (by kernel_rfl) (fun _ _ _ h => h) (Or.inr ⟨by rfl, rfl⟩) (by assumption) ?_) | (refine wpAnyH_take (i := 19) (v := ?_) rfl (by kernel_rfl) (by kernel_rfl) (by kernel_rfl) (fun _ _ _ h => h) (Or.inl ⟨by rfl, ?_⟩) (by assumption) ?_; rotate_left 1; (focus (intro w hSw; (try dsimp only at hSw); go_simp; (try with_reducible rfl); done)))) <;> (try simp only [Act.put, List.getElem_toArray, List.getElem_cons_succ, List.getElem_cons_zero, List.setIfInBounds_toArray, List.set_cons_zero, List.set_cons_succ])
        (first | (refine wpAnyH_take (i := 20) rfl (by kernel_rfl) (by kernel_rfl) (by kernel_rfl) (fun _ _ _ h => h) (Or.inr ⟨by rfl, rfl⟩) (by assumption) ?_) | (refine wpAnyH_take (i := 20) (v := ?_) rfl (by kernel_rfl) (by kernel_rfl) (by kernel_rfl) (fun _ _ _ h => h) (Or.inl ⟨by rfl, ?_⟩) (by assumption) ?_; rotate_left 1; (focus (intro w hSw; (try dsimp only at hSw); go_simp; (try with_reducible rfl); done)))) <;> (try simp only [Act.put, List.getElem_toArray, List.getElem_cons_succ, List.getElem_cons_zero, List.setIfInBounds_toArray, List.set_cons_zero, List.set_cons_succ])
        (first | (refine wpAnyH_take (i := 21) rfl (by kernel_rfl) (by kernel_rfl) (by kernel_rfl) (fun _ _ _ h => h) (Or.inr ⟨by rfl, rfl⟩) (by assumption) ?_) | (refine wpAnyH_take (i := 21) (v := ?_) rfl (by kernel_rfl) (by kernel_rfl) (by kernel_rfl) (fun _ _ _ h => h) (Or.inl ⟨by rfl, ?_⟩) (by assumption) ?_; rotate_left 1; (focus (intro w hSw; (try dsimp only at hSw); go_simp; (try with_reducible rfl); done)))) <;> (try simp only [Act.put, List.getElem_toArray, List.getElem_cons_succ, List.getElem_cons_zero, List.setIfInBounds_toArray, List.set_cons_zero, List.set_cons_succ])
        (first | (refine wpAnyH_take (i := 22) rfl (by kernel_rfl) (by kernel_rfl) (by kernel_rfl) (fun _ _ _ h => h) (Or.inr ⟨by rfl, rfl⟩) (by assumption) ?_) | (refine wpAnyH_take (i := 22) (v := ?_) rfl (by kernel_rfl) (by kernel_rfl) (by kernel_rfl) (fun _ _ _ h => h) (Or.inl ⟨by rfl, ?_⟩) (by assumption) ?_; rotate_left 1; (focus (intro w hSw; (try dsimp only at hSw); go_simp; (try with_reducible rfl); done)))) <;> (try simp only [Act.put, List.getElem_toArray, List.getElem_cons_succ, List.getElem_cons_zero, List.setIfInBounds_toArray, List.set_cons_zero, List.set_cons_succ])
        have hbd := hHeld.2.2.out
        have hbw := below_tr HBw.out hbd
        have G22 := bof_calls (some bd) c l (some ad) d taken t.f0 T wr.drew (Kd.C_below HR.out hbw) (Kd.C_below HT.out hbw) HL12.out
        have G22 := Aside0.mk G22
        clear hbd hbw
        refine wpAnyH_ready (rs := [11]) (by kernel_rfl) (by simp) ?_
        refine AllReadyH.cons rfl (fun K hK => ?_) AllReadyH.nil
        go_simp
        go_at_call 22; refine G22.out.mono ?_; rintro e w4 ⟨v4, rfl, hR4, hb4⟩; obtain ⟨A4, c4, rfl, -, hC4⟩ := Kd.R_reads hR4; go_wp2_with fail
        refine hK.out _ _ (HS.out _ (below_tr hHeld.2.2.out hb4)) (fun hHeld => ?_)
        clear hK K
        try simp only [Act.put, List.getElem_toArray, List.getElem_cons_succ, List.getElem_cons_zero, List.setIfInBounds_toArray, List.set_cons_zero, List.set_cons_succ]
        have hbw := below_tr HBw.out hHeld.2.2.out
        have HC4 := Aside0.mk hC4
        have G23 := rof_calls (some bd) c l (some ad) d taken t.f0 T w4 (Kd.C_below HR.out hbw) (Kd.C_below HT.out hbw) HL12.out
        have G23 := Aside0.mk G23
        clear hbw hR4 hb4 hC4 G22
        refine wpAnyH_ready (rs := [23]) (by kernel_rfl) (by simp) ?_
        refine AllReadyH.cons rfl (fun K hK => ?_) AllReadyH.nil
        go_simp
        go_at_call 23; refine G23.out.mono ?_; rintro e w5 ⟨v5, rfl, hR5, hb5⟩; obtain ⟨A5, c5, rfl, -, hC5⟩ := Kd.R_reads hR5; go_wp2_with fail
        refine hK.out _ _ (HS.out _ (below_tr hHeld.2.2.out hb5)) (fun hHeld => ?_)
        clear hK K
        try simp only [Act.put, List.getElem_toArray, List.getElem_cons_succ, List.getElem_cons_zero, List.setIfInBounds_toArray, List.set_cons_zero, List.set_cons_succ]
        have G12 := Aside0.mk (same_any A4 c4 A5 c5 _ _ w5 (Kd.C_below HC4.out hb5) hC5)
        clear hR5 hb5 hC5 G23 HC4
        refine wpAnyH_ready (rs := [24]) (by kernel_rfl) (by simp) ?_
        refine AllReadyH.cons rfl (fun K hK => ?_) AllReadyH.nil
        go_simp
        go_at_call 12; refine G12.out.mono ?_; rintro e w6 ⟨rfl, ⟨hb6⟩⟩; go_wp2_with fail
        refine hK.out _ _ (HS.out _ (below_tr hHeld.2.2.out hb6)) (fun hHeld => ?_)
        clear hK K
        try simp only [Act.put, List.getElem_toArray, List.getElem_cons_succ, List.getElem_cons_zero, List.setIfInBounds_toArray, List.set_cons_zero, List.set_cons_succ]
        clear hb6 G12
        (first | (refine wpAnyH_take (i := 25) rfl (by kernel_rfl) (by kernel_rfl) (by kernel_rfl) (fun _ _ _ h => h) (Or.inr ⟨by rfl, rfl⟩) (by assumption) ?_) | (refine wpAnyH_take (i := 25) (v := ?_) rfl (by kernel_rfl) (by kernel_rfl) (by kernel_rfl) (fun _ _ _ h => h) (Or.inl ⟨by rfl, ?_⟩) (by assumption) ?_; rotate_left 1; (focus (intro w hSw; (try dsimp only at hSw); go_simp; (try with_reducible rfl); done)))) <;> (try simp only [Act.put, List.getElem_toArray, List.getElem_cons_succ, List.getElem_cons_zero, List.setIfInBounds_toArray, List.set_cons_zero, List.set_cons_succ])
        refine wpAnyH_done (by kernel_rfl) ?_ _
        have HBz := Aside0.mk (below_tr HBw.out hHeld.2.2.out)
        clear hHeld hx0 hy2 HS
        go_wp2
        exact ⟨⟨k + 1, by omega, by omega, by go_num, HBz⟩, by simp [intOf]; omega⟩
      · have hout : (k : Int) < taken.length → (0 : Int) < l.length → ¬ (k : Int) < 4 := fun h1 h2 h3 => hgo ⟨by omega, by omega, by omega⟩
        have G22 := Aside0.mk (bof_calls A c l B d taken st term wr (Kd.C_below HR.out HBw.out) (Kd.C_below HT.out HBw.out) HL12.out)
        have G23 := Aside0.mk (fun W h1 h2 => rof_calls A c l B d taken st term W h1 h2 HL12.out)
        have HOUT := Aside0.mk hout
        clear hgo hout
        by_cases t1 : (k : Int) < taken.length
        · by_cases t2 : (0 : Int) < l.length
          · have t3 := HOUT.out t1 t2
            go_wp2_with fail
            refine G22.out.mono ?_
            rintro e w4 ⟨v4, rfl, hR4, hb4⟩
            obtain ⟨A4, c4, rfl, -, hC4⟩ := Kd.R_reads hR4
            have HC4 := Aside0.mk hC4; have HB4 := Aside0.mk (below_tr HBw.out hb4)
            clear hR4 hC4 hb4 G22
            go_wp2_with fail
            refine (G23.out w4 (Kd.C_below HR.out HB4.out) (Kd.C_below HT.out HB4.out)).mono ?_
            rintro e w5 ⟨v5, rfl, hR5, hb5⟩
            obtain ⟨A5, c5, rfl, -, hC5⟩ := Kd.R_reads hR5
            have HC5 := Aside0.mk hC5; have HB5 := Aside0.mk (below_tr HB4.out hb5); have HC45 := Aside0.mk (Kd.C_below HC4.out hb5)
            clear hR5 hC5 hb5 G23
            go_wp2_with fail
            refine (same_any A4 c4 A5 c5 _ _ w5 HC45.out HC5.out).mono ?_
            rintro e w6 ⟨rfl, ⟨hb6⟩⟩
            have HB6 := Aside0.mk (below_tr HB5.out hb6)
            clear hb6
            go_wp2
            go_ret
            exact ⟨rfl, HB6.out⟩
          · have t3 := t2
            go_wp2_with fail
            refine G22.out.mono ?_
            rintro e w4 ⟨v4, rfl, hR4, hb4⟩
            obtain ⟨A4, c4, rfl, -, hC4⟩ := Kd.R_reads hR4
            have HC4 := Aside0.mk hC4; have HB4 := Aside0.mk (below_tr HBw.out hb4)
            clear hR4 hC4 hb4 G22
            go_wp2_with fail
            refine (G23.out w4 (Kd.C_below HR.out HB4.out) (Kd.C_below HT.out HB4.out)).mono ?_
            rintro e w5 ⟨v5, rfl, hR5, hb5⟩
            obtain ⟨A5, c5, rfl, -, hC5⟩ := Kd.R_reads hR5
            have HC5 := Aside0.mk hC5; have HB5 := Aside0.mk (below_tr HB4.out hb5); have HC45 := Aside0.mk (Kd.C_below HC4.out hb5)
            clear hR5 hC5 hb5 G23
            go_wp2_with fail
            refine (same_any A4 c4 A5 c5 _ _ w5 HC45.out HC5.out).mono ?_
            rintro e w6 ⟨rfl, ⟨hb6⟩⟩
            have HB6 := Aside0.mk (below_tr HB5.out hb6)
            clear hb6
            go_wp2
            go_ret
            exact ⟨rfl, HB6.out⟩
        · have t3 := t1
          go_wp2_with fail
          refine G22.out.mono ?_
          rintro e w4 ⟨v4, rfl, hR4, hb4⟩
          obtain ⟨A4, c4, rfl, -, hC4⟩ := Kd.R_reads hR4
          have HC4 := Aside0.mk hC4; have HB4 := Aside0.mk (below_tr HBw.out hb4)
          clear hR4 hC4 hb4 G22
          go_wp2_with fail
          refine (G23.out w4 (Kd.C_below HR.out HB4.out) (Kd.C_below HT.out HB4.out)).mono ?_
          rintro e w5 ⟨v5, rfl, hR5, hb5⟩
          obtain ⟨A5, c5, rfl, -, hC5⟩ := Kd.R_reads hR5
          have HC5 := Aside0.mk hC5; have HB5 := Aside0.mk (below_tr HB4.out hb5); have HC45 := Aside0.mk (Kd.C_below HC4.out hb5)
          clear hR5 hC5 hb5 G23
          go_wp2_with fail
          refine (same_any A4 c4 A5 c5 _ _ w5 HC45.out HC5.out).mono ?_
          rintro e w6 ⟨rfl, ⟨hb6⟩⟩
          have HB6 := Aside0.mk (below_tr HB5.out hb6)
          clear hb6
          go_wp2
          go_ret
          exact ⟨rfl, HB6.out⟩
end Go.Proofs.YtbpgoddohhiohaaDoor
