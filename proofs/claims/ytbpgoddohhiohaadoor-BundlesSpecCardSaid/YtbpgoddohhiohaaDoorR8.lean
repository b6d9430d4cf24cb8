/- sizarref22.Same (of equal lists), sizarref24: hasBundle, All, Meetings: what they compute. -/
import Derived.Test.YtbpgoddohhiohaaDoorR7
import Derived.Test.YtbpgoddohhiohaaDoorBA
import Derived.Test.YtbpgoddohhiohaaDoorBM
namespace Go.Proofs.YtbpgoddohhiohaaDoor
open Go.RowKit Go.Proofs.YtbpgoddohhiohaaDoorW.PrintWords
set_option linter.unusedVariables false
set_option linter.unusedSimpArgs false
theorem eqS65 (d : Nat) (w : World) (x0 x1 x2 x3 x4 : Int) : (Op.equalIn (d + 2) 65 (.agg #[.int .i64 x0, .int .i64 x1, .int .i64 x2, .int .i64 x3, .int .i64 x4]) (.agg #[.int .i64 x0, .int .i64 x1, .int .i64 x2, .int .i64 x3, .int .i64 x4])).run Tryd.prog w = .ok true w := by
  have h : (Op.equalIn (d + 2) 65 (.agg #[.int .i64 x0, .int .i64 x1, .int .i64 x2, .int .i64 x3, .int .i64 x4]) (.agg #[.int .i64 x0, .int .i64 x1, .int .i64 x2, .int .i64 x3, .int .i64 x4])).run Tryd.prog w = .ok (x0 == x0 && (x1 == x1 && (x2 == x2 && (x3 == x3 && (x4 == x4))))) w := by
    refine eqA_of Tryd.underlying65 (by kernel_rfl) ?_
    refine eqf_cons (by rfl) (by go_simp; rfl) (by go_simp; rfl) (by go_simp) ?_
    refine eqf_cons (by rfl) (by go_simp; rfl) (by go_simp; rfl) (by go_simp) ?_
    refine eqf_cons (by rfl) (by go_simp; rfl) (by go_simp; rfl) (by go_simp) ?_
    refine eqf_cons (by rfl) (by go_simp; rfl) (by go_simp; rfl) (by go_simp) ?_
    exact eqf_last (by rfl) (by go_simp; rfl) (by go_simp; rfl) (by go_simp)
  rw [h]
  simp
attribute [local go_sem high] eqS65
attribute [local go_sem high] eqA24
set_option maxRecDepth 100000 in
set_option maxHeartbeats 4000000 in
theorem rsame22_any (A : Option Addr) (c : Nat) (B : Option Addr) (d n : Nat) (a : List S65) (w : World) (hra : k65.C w A n a) (hrb : k65.C w B n a) :
    Calls Tryd.prog 19 #[.slice A n c, .slice B n d] w fun e w' => e = .returned (.bool true) ∧ Aside0 (Below w.heap.size w w') := by
  obtain rfl : a.length = n := hra.1
  have hmax := Kd.C_max hra
  have HA := Aside0.mk hra; have HB := Aside0.mk hrb; clear hra hrb
  go_enter Tryd.func19, Tryd.ntmps19
  go_wp2
  go_loopw [5] (fun i wr => ∃ k : Nat, k ≤ a.length ∧ i = .int .i64 k ∧ Aside0 (Below w.heap.size w wr)) (fun i _ => a.length - (intOf i).toNat)
  case atStart => exact ⟨0, Nat.zero_le _, rfl, ⟨Below.refl _ _⟩⟩
  case round =>
    obtain ⟨k, hk, rfl, hB⟩ := hrel
    by_cases hlt : k < a.length
    · have hd : (k : Int) < a.length := by omega
      have hp0 : (0 : Int) ≤ k := by omega
      obtain ⟨ad, rfl, hx0, hx1, hx2, hx3, hx4⟩ := at_T65 (Kd.C_below HA.out hB.out) k (by omega) (by omega)
      obtain ⟨bd, rfl, hy0, hy1, hy2, hy3, hy4⟩ := at_T65 (Kd.C_below HB.out hB.out) k (by omega) (by omega)
      simp only [Int.toNat_natCast] at hx0 hx1 hx2 hx3 hx4 hy0 hy1 hy2 hy3 hy4
      go_wp2_with fail
      go_quiet (fail)
      go_wp2
      exact ⟨⟨k + 1, by omega, by go_num, ⟨pw_below_drewN hB.out _⟩⟩, by simp [intOf]; omega⟩
    · have hd : ¬ (k : Int) < a.length := by omega
      go_wp2
      go_ret
      exact ⟨rfl, hB⟩
set_option maxRecDepth 100000 in
set_option maxHeartbeats 4000000 in
theorem rhasb_calls (A : Option Addr) (c : Nat) (l : List S24) (b0 b1 : Int) (w : World) (hr : k24.C w A l.length l) :
    Calls Tryd.prog 29 #[.slice A l.length c, .agg #[.int .i64 b0, .int .i64 b1]] w fun e w' => e = .returned (.bool (l.any (bEq ⟨b0, b1⟩))) ∧ Below w.heap.size w w' := by
  have hmax := Kd.C_max hr
  have HR := Aside0.mk hr
  have HB0 := Aside0.mk ((Below.refl w.heap.size w).alloc (Nat.le_refl _) (.cells #[.int .i64 b0, .int .i64 b1] 24))
  have HX0 := Aside0.mk (new_blk w (.cells #[.int .i64 b0, .int .i64 b1] 24))
  clear hr
  go_enter Tryd.func29, Tryd.ntmps29
  go_wp2_with fail
  obtain ⟨w0, hw0⟩ : ∃ w0, w.alloc (.cells #[.int .i64 b0, .int .i64 b1] 24) = w0 := ⟨_, rfl⟩
  rw [hw0] at HB0 HX0 ⊢
  clear hw0
  go_loopw [5] (fun i wr => ∃ k : Nat, k ≤ l.length ∧ i = .int .i64 k ∧ Aside0 ((l.take k).any (bEq ⟨b0, b1⟩) = false) ∧ Aside0 (Below w0.heap.size w0 wr)) (fun i _ => l.length - (intOf i).toNat)
  case atStart => exact ⟨0, Nat.zero_le _, rfl, ⟨by simp⟩, ⟨Below.refl _ _⟩⟩
  case round =>
    obtain ⟨k, hk, rfl, hV, hB⟩ := hrel
    have HBw := Aside0.mk (below_tr HB0.out hB.out)
    by_cases hlt : k < l.length
    · have hd : (k : Int) < l.length := by omega
      have hp0 : (0 : Int) ≤ k := by omega
      have hxb := blk_low hB.out HX0.out
      have z0 := (blk_cell hxb 0).trans rfl; have z1 := (blk_cell hxb 1).trans rfl
      obtain ⟨ad, rfl, hx0, hx1⟩ := at_T24 (Kd.C_below HR.out HBw.out) k (by omega) (by omega)
      simp only [Int.toNat_natCast] at hx0 hx1
      have hsn := take_snoc' l z24 k hlt
      have hmn : rd_T24 l k ∈ l := by rw [show rd_T24 l k = l[k] from by simp [rd_T24, List.getElem?_eq_getElem hlt]]; exact List.getElem_mem hlt
      rw [show l.getD k z24 = rd_T24 l k from by simp [rd_T24]] at hsn
      have hq : bEq ⟨b0, b1⟩ (rd_T24 l k) = ((rd_T24 l k).f0 == b0 && ((rd_T24 l k).f1 == b1)) := by unfold bEq; rw [ibeq_comm', ibeq_comm' b1]
      have HH := Aside0.mk (show ((rd_T24 l k).f0 == b0 && ((rd_T24 l k).f1 == b1)) = true → l.any (bEq ⟨b0, b1⟩) = true from fun h => List.any_eq_true.2 ⟨_, hmn, by rw [hq]; exact h⟩)
      have HM := Aside0.mk (show ((rd_T24 l k).f0 == b0 && ((rd_T24 l k).f1 == b1)) = false → (l.take (k + 1)).any (bEq ⟨b0, b1⟩) = false from fun h => by
        rw [hsn, List.any_append, hV.out]; simp [hq, h])
      generalize (rd_T24 l k).f0 = y0 at hx0 HH HM
      generalize (rd_T24 l k).f1 = y1 at hx1 HH HM
      clear hsn hmn hq hxb
      cases he : (y0 == b0 && (y1 == b1)) with
      | true =>
        have HS := Aside0.mk (HH.out he)
        go_wp2_with fail
        go_quiet (fail)
        go_wp2
        go_ret
        exact ⟨by rw [HS.out]; rfl, pw_below_drewN HBw.out _⟩
      | false =>
        have HV := Aside0.mk (HM.out he)
        go_wp2_with fail
        go_quiet (fail)
        go_wp2
        exact ⟨⟨k + 1, by omega, by go_num, HV, ⟨pw_below_drewN hB.out _⟩⟩, by simp [intOf]; omega⟩
    · have hd : ¬ (k : Int) < l.length := by omega
      have hs := hV.out
      rw [List.take_of_length_le (by omega)] at hs
      have HS := Aside0.mk hs
      clear hs
      go_wp2
      go_ret
      exact ⟨by rw [HS.out]; rfl, HBw.out⟩
theorem kM65 {W : World} {base : Nat} {ok : Nat → Prop} : ∀ (x : S65) (cs : List Value), k65.K W x cs → k65.M W base ok x cs := fun x cs h => by
  rw [k65_open h]; exact k65_mkM _ _ _ _

set_option maxRecDepth 100000 in
set_option maxHeartbeats 8000000 in
theorem rall24_calls (A : Option Addr) (c : Nat) (l : List S34) (sec : Int) (w : World) (hr : k34.C w A l.length l) (hL : (sFind l sec).1.f7.length ≤ 100000) :
    Calls Tryd.prog 14 #[.slice A l.length c, .int .i64 sec] w fun e w' => ∃ v, e = .returned v ∧ k24.R 24 w' w.heap.size (fun _ => True) v (bAll l sec) ∧ Below w.heap.size w w' := by
  have HR := Aside0.mk hr
  have h1 := Aside0.mk (rfind_calls A c l sec w hr)
  have h2 := Aside0.mk (fun lab W hr => rcheck24_calls A c l sec lab W hr)
  have h3 := Aside0.mk (fun A c l b0 b1 W hr => rhasb_calls A c l b0 b1 W hr)
  clear hr
  have HS := Aside0.mk (show bAll l sec = if (sFind l sec).2 = false then [] else ((-1) :: (sFind l sec).1.f7).foldl (bStep l sec) [] from rfl)
  generalize sFind l sec = s at HS h1 hL
  obtain ⟨s, sok⟩ := s
  dsimp only at HS h1 hL
  go_enter Tryd.func14, Tryd.ntmps14
  go_wp2_with fail
  refine h1.out.mono ?_
  rintro e w1 ⟨cs, rfl, hK, hb1⟩
  obtain ⟨A5, c5, A6, c6, A7, c7, rfl, l5, g5, l6, g6, l7, g7⟩ := k34_open hK
  have hbs := (Below.refl w1.heap.size w1).alloc (Nat.le_refl _) (.cells #[.int .i64 s.f0, .int .i64 s.f1, .int .i64 s.f2, .int .i64 s.f3, .int .i64 s.f4, .slice A5 s.f5.length c5, .slice A6 s.f6.length c6, .slice A7 s.f7.length c7, .bool s.f8] 34)
  have HNs := Aside0.mk (new_blk w1 (.cells #[.int .i64 s.f0, .int .i64 s.f1, .int .i64 s.f2, .int .i64 s.f3, .int .i64 s.f4, .slice A5 s.f5.length c5, .slice A6 s.f6.length c6, .slice A7 s.f7.length c7, .bool s.f8] 34))
  have hm7 := Kd.C_max g7
  have G7 := Aside0.mk (Kd.C_below g7 hbs)
  have HB1 := Aside0.mk (below_tr hb1 hbs)
  clear hK g5 g6 g7 l5 l6 l7 hb1 hbs h1
  cases sok with
  | false =>
    have HS2 := Aside0.mk (show bAll l sec = [] by rw [HS.out]; simp)
    go_wp2
    go_ret
    exact ⟨_, rfl, by rw [HS2.out]; exact Kd.R_nil _ _ _ _ _, HB1.out⟩
  | true =>
    have HS2 := Aside0.mk (show bAll l sec = s.f7.foldl (bStep l sec) (bStep l sec [] (-1)) by rw [HS.out]; simp)
    have HL := Aside0.mk hL
    clear HS hL
    have hc0 := Aside0.mk (h2.out (-1) _ (Kd.C_below HR.out HB1.out))
    go_wp2_with fail
    obtain ⟨W1, hW1⟩ : ∃ W1, w1.alloc (.cells #[.int .i64 s.f0, .int .i64 s.f1, .int .i64 s.f2, .int .i64 s.f3, .int .i64 s.f4, .slice A5 s.f5.length c5, .slice A6 s.f6.length c6, .slice A7 s.f7.length c7, .bool s.f8] 34) = W1 := ⟨_, rfl⟩
    rw [hW1] at HNs G7 HB1 hc0 ⊢
    clear hW1
    refine hc0.out.mono ?_
    rintro e w2 ⟨rfl, hb2⟩
    have HB2 := Aside0.mk (below_tr HB1.out hb2); have HN2 := Aside0.mk (blk_low hb2 HNs.out); have G7b := Aside0.mk (Kd.C_below G7.out hb2)
    clear hb2 hc0 HNs G7 HB1
    by_cases hc : bCheck l sec (-1) = 0
    · have HX0 := Aside0.mk (show bStep l sec [] (-1) = [⟨sec, -1⟩] by unfold bStep; rw [if_pos ⟨hc, rfl⟩]; rfl)
      rw [hc]
      clear hc
      have HBr := Aside0.mk (Below.refl w2.heap.size w2)
      go_wp2_with (at_builtin; go_must (refine Kd.R_append k24 (w0 := w2) w2.heap.size rfl (.tmp 24) (.tmp 27) 28 24 (.agg #[.int .i64 0, .int .i64 0]) 16 rfl Tryd.underlying28 info24 rfl (by decide) (by omega) (.slice none 0 0) [] ⟨sec, -1⟩ [.int .i64 sec, .int .i64 (-1)] (fun _ => True) (fun _ => False) rfl rfl (k24_mkM _ _ _ ⟨sec, -1⟩) (fun _ hk => hk.elim) (fun _ _ => trivial) (Kd.R_nil _ _ _ _ _) HBr.out (Nat.le_refl _) (by simp) ?_; rintro v3 w3 hR3 hB3 hg3 hat3; have HR3 := Aside0.mk hR3; have HB3 := Aside0.mk hB3; clear hR3 hB3 hg3 hat3))
      have HRR : Aside0 (k24.R 24 w3 w2.heap.size (fun _ => True) v3 (bStep l sec [] (-1))) := ⟨by rw [HX0.out]; exact HR3.out⟩
      have HBB : Aside0 (Below w2.heap.size w2 w3) := HB3
      clear HR3 HB3 HBr HX0
      obtain ⟨A0, q0, rfl⟩ := Kd.R_slice HRR.out
      go_loopw [5, 8] (fun xv iv wr => ∃ k : Nat, k ≤ s.f7.length ∧ iv = .int .i64 k ∧ Aside0 (k24.R 24 wr w2.heap.size (fun _ => True) xv ((s.f7.take k).foldl (bStep l sec) (bStep l sec [] (-1)))) ∧ Aside0 (Below w2.heap.size w2 wr)) (fun _ iv _ => s.f7.length - (intOf iv).toNat)
      case atStart => exact ⟨0, Nat.zero_le _, rfl, HRR, HBB⟩
      case round =>
        clear HRR HBB
        obtain ⟨k, hk, rfl, hX, hB⟩ := hrel
        have hns := blk_low hB.out HN2.out
        have s7 := (blk_cell hns 7).trans rfl
        have HBw := Aside0.mk (below_then HB2.out HB2.out.size hB.out)
        clear hns
        by_cases hlt : k < s.f7.length
        · have hd : (k : Int) < s.f7.length := by omega
          have hp0 : (0 : Int) ≤ k := by omega
          obtain ⟨ad, rfl, hx0⟩ := (Kd.reads_of_C (d := (0 : Int)) (Kd.C_below G7b.out hB.out)).at_ k (by omega) (by omega)
          simp only [Int.toNat_natCast] at hx0
          have hf : (s.f7.take (k + 1)).foldl (bStep l sec) (bStep l sec [] (-1)) = bStep l sec ((s.f7.take k).foldl (bStep l sec) (bStep l sec [] (-1))) (rdOf 0 s.f7 k) := by
            rw [foldl_snoc _ _ _ 0 k hlt]; simp [rdOf]
          have hal : ((s.f7.take k).foldl (bStep l sec) (bStep l sec [] (-1))).length ≤ 100001 := by
            have h5 := bFold_len l sec (s.f7.take k) (bStep l sec [] (-1)); have h6 := HL.out; have h7 := bStep_len l sec [] (-1); simp only [List.length_nil, List.length_take] at h5 h7; omega
          generalize (s.f7.take k).foldl (bStep l sec) (bStep l sec [] (-1)) = acc at hX hf hal
          generalize rdOf 0 s.f7 k = lab at hx0 hf
          have HF := Aside0.mk hf; have HAL := Aside0.mk hal; clear hf hal
          obtain ⟨Ax, cx, rfl, hlx, hCx⟩ := Kd.R_reads hX.out
          have HCx := Aside0.mk hCx; clear hCx
          have HBa := Aside0.mk (HBw.out.alloc HBw.out.size (.cells #[.int .i64 sec, .int .i64 lab] 24))
          have HBr := Aside0.mk ((Below.refl wr.heap.size wr).alloc (Nat.le_refl _) (.cells #[.int .i64 sec, .int .i64 lab] 24))
          have HN := Aside0.mk (new_blk wr (.cells #[.int .i64 sec, .int .i64 lab] 24))
          go_wp2_with fail
          refine (h2.out lab _ (Kd.C_below HR.out HBa.out)).mono ?_
          rintro e w4 ⟨rfl, hb4⟩
          have HB4 := Aside0.mk (below_tr HBr.out hb4)
          have HN4 := Aside0.mk (blk_low hb4 HN.out)
          clear hb4 s7 hx0
          by_cases h0 : bCheck l sec lab = 0
          · rw [h0]
            have z0 := (blk_cell HN4.out 0).trans rfl; have z1 := (blk_cell HN4.out 1).trans rfl
            go_wp2_with fail
            refine (h3.out Ax cx acc sec lab _ (Kd.C_below HCx.out HB4.out)).mono ?_
            rintro e w5 ⟨rfl, hb5⟩
            have HB5 := Aside0.mk (below_tr HB4.out hb5)
            have HN5 := Aside0.mk (blk_low hb5 HN4.out)
            clear hb5 z0 z1
            cases ha : acc.any (bEq ⟨sec, lab⟩) with
            | true =>
              have hs : bStep l sec acc lab = acc := by unfold bStep; rw [if_neg (by rw [ha]; simp)]
              rw [hs] at HF; clear hs
              go_wp2
              exact ⟨⟨k + 1, by omega, by go_num, ⟨by rw [HF.out]; exact Kd.R_below hX.out HB5.out⟩, ⟨below_tr hB.out HB5.out⟩⟩, by simp [intOf]; omega⟩
            | false =>
              have hs : bStep l sec acc lab = acc ++ [⟨sec, lab⟩] := by unfold bStep; rw [if_pos ⟨h0, ha⟩]
              rw [hs] at HF; clear hs
              have z0 := (blk_cell HN5.out 0).trans rfl; have z1 := (blk_cell HN5.out 1).trans rfl
              have hb6 := Aside0.mk (below_tr hB.out HB5.out)
              go_wp2_with (at_builtin; go_must (refine Kd.R_append k24 (w0 := w2) w2.heap.size rfl (.tmp 53) (.tmp 55) 28 24 (.agg #[.int .i64 0, .int .i64 0]) 16 rfl Tryd.underlying28 info24 rfl (by decide) (by omega) (.slice Ax acc.length cx) acc ⟨sec, lab⟩ [.int .i64 sec, .int .i64 lab] (fun _ => True) (fun _ => False) rfl rfl (k24_mkM _ _ _ ⟨sec, lab⟩) (fun _ hk => hk.elim) (fun _ _ => trivial) (Kd.R_below hX.out HB5.out) hb6.out hb6.out.size (by have := HAL.out; omega) ?_; rintro v6 w6 hR6 hB6 hg6 hat6; have HR6 := Aside0.mk hR6; have HB6 := Aside0.mk hB6; clear hR6 hB6 hg6 hat6))
              exact ⟨⟨k + 1, by omega, by go_num, ⟨by rw [HF.out]; exact HR6.out⟩, HB6⟩, by simp [intOf]; omega⟩
          · have hs : bStep l sec acc lab = acc := by unfold bStep; rw [if_neg (by simp [h0])]
            rw [hs] at HF
            obtain ⟨q, hq⟩ : ∃ q, bCheck l sec lab = q := ⟨_, rfl⟩
            rw [hq] at h0 ⊢
            have h01 : (q == 0) = false := by simp [h0]
            have h02 : (q != 0) = true := by simp [h0]
            clear hs h0 hq
            go_wp2
            exact ⟨⟨k + 1, by omega, by go_num, ⟨by rw [HF.out]; exact Kd.R_below hX.out HB4.out⟩, ⟨below_tr hB.out HB4.out⟩⟩, by simp [intOf]; omega⟩
        · have hd : ¬ (k : Int) < s.f7.length := by omega
          have HS3 := Aside0.mk (show bAll l sec = (s.f7.take k).foldl (bStep l sec) (bStep l sec [] (-1)) by rw [HS2.out, List.take_of_length_le (by omega)])
          go_wp2
          go_ret
          exact ⟨_, rfl, by rw [HS3.out]; exact Kd.R_lower hX.out HB2.out.size, HBw.out⟩
    · have HX0 := Aside0.mk (show bStep l sec [] (-1) = [] by unfold bStep; rw [if_neg (fun h => hc h.1)])
      obtain ⟨q, hq⟩ : ∃ q, bCheck l sec (-1) = q := ⟨_, rfl⟩
      rw [hq] at hc ⊢
      have e1 : (q == 0) = false := by simp [hc]
      have e2 : (q != 0) = true := by simp [hc]
      clear hc hq
      have HRR : Aside0 (k24.R 24 w2 w2.heap.size (fun _ => True) (.slice none 0 0) (bStep l sec [] (-1))) := ⟨by rw [HX0.out]; exact Kd.R_nil _ _ _ _ _⟩
      have HBB : Aside0 (Below w2.heap.size w2 w2) := ⟨Below.refl _ _⟩
      clear HX0
      go_wp2_with fail
      clear e1 e2
      go_loopw [5, 8] (fun xv iv wr => ∃ k : Nat, k ≤ s.f7.length ∧ iv = .int .i64 k ∧ Aside0 (k24.R 24 wr w2.heap.size (fun _ => True) xv ((s.f7.take k).foldl (bStep l sec) (bStep l sec [] (-1)))) ∧ Aside0 (Below w2.heap.size w2 wr)) (fun _ iv _ => s.f7.length - (intOf iv).toNat)
      case atStart => exact ⟨0, Nat.zero_le _, rfl, HRR, HBB⟩
      case round =>
        clear HRR HBB
        obtain ⟨k, hk, rfl, hX, hB⟩ := hrel
        have hns := blk_low hB.out HN2.out
        have s7 := (blk_cell hns 7).trans rfl
        have HBw := Aside0.mk (below_then HB2.out HB2.out.size hB.out)
        clear hns
        by_cases hlt : k < s.f7.length
        · have hd : (k : Int) < s.f7.length := by omega
          have hp0 : (0 : Int) ≤ k := by omega
          obtain ⟨ad, rfl, hx0⟩ := (Kd.reads_of_C (d := (0 : Int)) (Kd.C_below G7b.out hB.out)).at_ k (by omega) (by omega)
          simp only [Int.toNat_natCast] at hx0
          have hf : (s.f7.take (k + 1)).foldl (bStep l sec) (bStep l sec [] (-1)) = bStep l sec ((s.f7.take k).foldl (bStep l sec) (bStep l sec [] (-1))) (rdOf 0 s.f7 k) := by
            rw [foldl_snoc _ _ _ 0 k hlt]; simp [rdOf]
          have hal : ((s.f7.take k).foldl (bStep l sec) (bStep l sec [] (-1))).length ≤ 100001 := by
            have h5 := bFold_len l sec (s.f7.take k) (bStep l sec [] (-1)); have h6 := HL.out; have h7 := bStep_len l sec [] (-1); simp only [List.length_nil, List.length_take] at h5 h7; omega
          generalize (s.f7.take k).foldl (bStep l sec) (bStep l sec [] (-1)) = acc at hX hf hal
          generalize rdOf 0 s.f7 k = lab at hx0 hf
          have HF := Aside0.mk hf; have HAL := Aside0.mk hal; clear hf hal
          obtain ⟨Ax, cx, rfl, hlx, hCx⟩ := Kd.R_reads hX.out
          have HCx := Aside0.mk hCx; clear hCx
          have HBa := Aside0.mk (HBw.out.alloc HBw.out.size (.cells #[.int .i64 sec, .int .i64 lab] 24))
          have HBr := Aside0.mk ((Below.refl wr.heap.size wr).alloc (Nat.le_refl _) (.cells #[.int .i64 sec, .int .i64 lab] 24))
          have HN := Aside0.mk (new_blk wr (.cells #[.int .i64 sec, .int .i64 lab] 24))
          go_wp2_with fail
          refine (h2.out lab _ (Kd.C_below HR.out HBa.out)).mono ?_
          rintro e w4 ⟨rfl, hb4⟩
          have HB4 := Aside0.mk (below_tr HBr.out hb4)
          have HN4 := Aside0.mk (blk_low hb4 HN.out)
          clear hb4 s7 hx0
          by_cases h0 : bCheck l sec lab = 0
          · rw [h0]
            have z0 := (blk_cell HN4.out 0).trans rfl; have z1 := (blk_cell HN4.out 1).trans rfl
            go_wp2_with fail
            refine (h3.out Ax cx acc sec lab _ (Kd.C_below HCx.out HB4.out)).mono ?_
            rintro e w5 ⟨rfl, hb5⟩
            have HB5 := Aside0.mk (below_tr HB4.out hb5)
            have HN5 := Aside0.mk (blk_low hb5 HN4.out)
            clear hb5 z0 z1
            cases ha : acc.any (bEq ⟨sec, lab⟩) with
            | true =>
              have hs : bStep l sec acc lab = acc := by unfold bStep; rw [if_neg (by rw [ha]; simp)]
              rw [hs] at HF; clear hs
              go_wp2
              exact ⟨⟨k + 1, by omega, by go_num, ⟨by rw [HF.out]; exact Kd.R_below hX.out HB5.out⟩, ⟨below_tr hB.out HB5.out⟩⟩, by simp [intOf]; omega⟩
            | false =>
              have hs : bStep l sec acc lab = acc ++ [⟨sec, lab⟩] := by unfold bStep; rw [if_pos ⟨h0, ha⟩]
              rw [hs] at HF; clear hs
              have z0 := (blk_cell HN5.out 0).trans rfl; have z1 := (blk_cell HN5.out 1).trans rfl
              have hb6 := Aside0.mk (below_tr hB.out HB5.out)
              go_wp2_with (at_builtin; go_must (refine Kd.R_append k24 (w0 := w2) w2.heap.size rfl (.tmp 53) (.tmp 55) 28 24 (.agg #[.int .i64 0, .int .i64 0]) 16 rfl Tryd.underlying28 info24 rfl (by decide) (by omega) (.slice Ax acc.length cx) acc ⟨sec, lab⟩ [.int .i64 sec, .int .i64 lab] (fun _ => True) (fun _ => False) rfl rfl (k24_mkM _ _ _ ⟨sec, lab⟩) (fun _ hk => hk.elim) (fun _ _ => trivial) (Kd.R_below hX.out HB5.out) hb6.out hb6.out.size (by have := HAL.out; omega) ?_; rintro v6 w6 hR6 hB6 hg6 hat6; have HR6 := Aside0.mk hR6; have HB6 := Aside0.mk hB6; clear hR6 hB6 hg6 hat6))
              exact ⟨⟨k + 1, by omega, by go_num, ⟨by rw [HF.out]; exact HR6.out⟩, HB6⟩, by simp [intOf]; omega⟩
          · have hs : bStep l sec acc lab = acc := by unfold bStep; rw [if_neg (by simp [h0])]
            rw [hs] at HF
            obtain ⟨q, hq⟩ : ∃ q, bCheck l sec lab = q := ⟨_, rfl⟩
            rw [hq] at h0 ⊢
            have h01 : (q == 0) = false := by simp [h0]
            have h02 : (q != 0) = true := by simp [h0]
            clear hs h0 hq
            go_wp2
            exact ⟨⟨k + 1, by omega, by go_num, ⟨by rw [HF.out]; exact Kd.R_below hX.out HB4.out⟩, ⟨below_tr hB.out HB4.out⟩⟩, by simp [intOf]; omega⟩
        · have hd : ¬ (k : Int) < s.f7.length := by omega
          have HS3 := Aside0.mk (show bAll l sec = (s.f7.take k).foldl (bStep l sec) (bStep l sec [] (-1)) by rw [HS2.out, List.take_of_length_le (by omega)])
          go_wp2
          go_ret
          exact ⟨_, rfl, by rw [HS3.out]; exact Kd.R_lower hX.out HB2.out.size, HBw.out⟩

set_option maxRecDepth 100000 in
set_option maxHeartbeats 8000000 in
theorem rmeet24_calls (A : Option Addr) (c : Nat) (l : List S34) (b0 b1 : Int) (w : World) (hr : k34.C w A l.length l) (hL : ∀ id, (sFind l id).1.f5.length ≤ 100000) :
    Calls Tryd.prog 16 #[.slice A l.length c, .agg #[.int .i64 b0, .int .i64 b1]] w fun e w' => ∃ v, e = .returned (.tuple #[v, .int .i64 (bMeet l b0 b1).2]) ∧ k65.R 65 w' w.heap.size (fun _ => True) v (bMeet l b0 b1).1 ∧ Below w.heap.size w w' := by
  have hb0 := (Below.refl w.heap.size w).alloc (Nat.le_refl _) (.cells #[.int .i64 b0, .int .i64 b1] 24)
  have HX0 := Aside0.mk (new_blk w (.cells #[.int .i64 b0, .int .i64 b1] 24))
  have HR := Aside0.mk hr; have HB0 := Aside0.mk hb0
  have C1 := Aside0.mk (rcheck24_calls A c l b0 b1 _ (Kd.C_below hr hb0))
  clear hr hb0
  have x0 := (blk_cell HX0.out 0).trans rfl; have x1 := (blk_cell HX0.out 1).trans rfl
  by_cases hb : bCheck l b0 b1 = 0
  · rw [hb] at C1
    have hm : bMeet l b0 b1 = ((rSecs l b0 b1).flatMap (·.f5), 0) := by unfold bMeet; rw [if_neg (by simp [hb]), rSecs_valid (bOk_of hb)]
    have HM := Aside0.mk hm
    have HL2 := Aside0.mk (show ∀ y ∈ rSecs l b0 b1, y.f5.length ≤ 100000 from fun y hy => by
      unfold rSecs at hy
      split at hy
      · rw [List.mem_singleton.1 hy]; exact hL _
      · rcases List.mem_cons.1 hy with rfl | hy
        · exact hL _
        · rw [List.mem_singleton.1 hy]; exact hL _)
    obtain ⟨pl1, pl2, -⟩ := rSecs_len l b0 b1
    clear hb hm hL
    go_enter Tryd.func16, Tryd.ntmps16
    go_wp2_with fail
    refine C1.out.mono ?_
    rintro e w2 ⟨rfl, hb2⟩
    have HB2 := Aside0.mk (below_tr HB0.out hb2); have hx2 := blk_low hb2 HX0.out
    clear x0 x1 hb2 C1
    have x0 := (blk_cell hx2 0).trans rfl; have x1 := (blk_cell hx2 1).trans rfl
    clear hx2 HX0
    have G := Aside0.mk (rsecs_calls A c l b0 b1 w2 (Kd.C_below HR.out HB2.out))
    go_wp2_with fail
    refine G.out.mono ?_
    rintro e w3 ⟨Bp, cp, rfl, hpc, hCp, hb3⟩
    have HCp := Aside0.mk hCp; have HB3 := Aside0.mk (below_tr HB2.out hb3)
    clear hCp hb3 x0 x1 G
    generalize rSecs l b0 b1 = P at HM HL2 pl1 pl2 HCp hpc ⊢
    go_wp2_with fail
    go_loopw [8, 9] (fun xv iv wr => ∃ i : Nat, i ≤ P.length ∧ iv = .int .i64 i ∧ Aside0 (k65.R 65 wr w3.heap.size (fun _ => True) xv ((P.take i).flatMap (·.f5))) ∧ Aside0 (Below w3.heap.size w3 wr)) (fun _ iv _ => P.length - (intOf iv).toNat)
    case atStart => exact ⟨0, Nat.zero_le _, rfl, ⟨Kd.R_nil _ _ _ _ _⟩, ⟨Below.refl _ _⟩⟩
    case round =>
      obtain ⟨i, hi, rfl, HX, HU⟩ := hrel
      by_cases hlt : i < P.length
      · have hd : (i : Int) < P.length := by omega
        have hi0 : (0 : Int) ≤ i := by omega
        obtain ⟨pd, P5, p5, P6, p6, P7, p7, rfl, -, -, -, -, -, hx5, -, -, -, pl5, pg5, -⟩ := at_T34 (Kd.C_below HCp.out HU.out) i (by omega) (by omega)
        simp only [Int.toNat_natCast] at hx5
        have hfl : (P.take (i + 1)).flatMap (·.f5) = (P.take i).flatMap (·.f5) ++ (rd_T34 P i).f5 := by
          rw [take_snoc' P z34 i hlt, show P.getD i z34 = rd_T34 P i from by simp [rd_T34]]; simp
        have hpm : rd_T34 P i ∈ P := by rw [show rd_T34 P i = P[i] from by simp [rd_T34, List.getElem?_eq_getElem hlt]]; exact List.getElem_mem hlt
        have hl5 := HL2.out _ hpm
        have hll : ((P.take i).flatMap (·.f5)).length ≤ 200000 := by
          have h2 : ∀ y ∈ P, y.f5.length ≤ 100000 := HL2.out
          match P, pl2, i, hlt, h2 with
          | [x], _, 0, _, _ => simp
          | [x, y], _, 0, _, _ => simp
          | [x, y], _, 1, _, h2 => have := h2 x (by simp); simp; omega
        generalize (P.take i).flatMap (·.f5) = acc at HX hfl hll
        generalize rd_T34 P i = p at hx5 pl5 pg5 hfl hl5
        have HFL := Aside0.mk hfl; have HLL := Aside0.mk (show (acc.length + p.f5.length) * 40 ≤ 140737488355328 by omega)
        have GP := Aside0.mk pg5
        obtain ⟨Aa, ca, rfl⟩ := Kd.R_slice HX.out
        clear hfl hll hl5 hpm pl5 pg5
        go_wp2_with (at_builtin; go_must (refine Kd.R_append_rows k65 (w0 := w3) w3.heap.size rfl (.tmp 25) (.tmp 30) 30 65 (.agg #[.int .i64 0, .int .i64 0, .int .i64 0, .int .i64 0, .int .i64 0]) 40 rfl Tryd.underlying30 info65 rfl (by decide) (by omega) (.slice Aa acc.length ca) acc p.f5 P5 p.f5.length p5 (fun _ => True) (fun _ => False) rfl rfl HX.out GP.out kM65 (fun _ h => h.elim) (fun _ _ => trivial) HU.out HU.out.size HLL.out ?_; rintro v4 w4 hR4 hB4 hg4 hat4; have HR4 := Aside0.mk hR4; have HB4 := Aside0.mk hB4; clear hR4 hB4 hg4 hat4))
        exact ⟨⟨i + 1, by omega, by go_num, ⟨by rw [HFL.out]; exact HR4.out⟩, HB4⟩, by simp [intOf]; omega⟩
      · have hd : ¬ (i : Int) < P.length := by omega
        have hq := HX.out
        rw [List.take_of_length_le (by omega)] at hq
        have HQ := Aside0.mk hq
        obtain ⟨Aa, ca, rfl⟩ := Kd.R_slice hq
        clear hq
        go_wp2
        refine bodyPost_ret (v := .tuple #[.slice Aa (P.flatMap (·.f5)).length ca, .int .i64 0]) (by simp [results, Tryd.results16, go_sem]) rfl ?_
        refine ⟨_, by rw [HM.out], ?_, below_tr HB3.out HU.out⟩
        rw [HM.out]
        exact Kd.R_lower HQ.out HB3.out.size
  · have HS := Aside0.mk (show bMeet l b0 b1 = ([], bCheck l b0 b1) by unfold bMeet; rw [if_pos hb])
    obtain ⟨q, hq⟩ : ∃ q, bCheck l b0 b1 = q := ⟨_, rfl⟩
    rw [hq] at C1 HS hb
    have e1 : (q != 0) = true := by simp [hb]
    have e2 : (q == 0) = false := by simp [hb]
    clear hb hq
    go_enter Tryd.func16, Tryd.ntmps16
    go_wp2_with fail
    refine C1.out.mono ?_
    rintro e w2 ⟨rfl, hb2⟩
    have HB2 := Aside0.mk (below_tr HB0.out hb2)
    clear x0 x1 hb2
    go_wp2
    refine bodyPost_ret (v := .tuple #[.slice none 0 0, .int .i64 q]) (by simp [results, Tryd.results16, go_sem]) rfl ?_
    refine ⟨_, by rw [HS.out], ?_, HB2.out⟩
    rw [HS.out]
    exact Kd.R_nil _ _ _ _ _
end Go.Proofs.YtbpgoddohhiohaaDoor
