/- sizarref23.Formed: what it computes. -/
import Derived.Test.YtbpgoddohhiohaaDoorS
import Derived.Deep.DeepMust
import Derived.IntWalk
namespace Go.Proofs.YtbpgoddohhiohaaDoor
open Go.RowKit Go.Proofs.YtbpgoddohhiohaaDoorW.PrintWords
set_option linter.unusedVariables false
set_option linter.unusedSimpArgs false
theorem sForm_head {s : S34} (h : sForm s = true) : 0 ≤ s.f0 ∧ s.f0 ≤ 3999 ∧ 0 ≤ s.f1 ∧ s.f1 ≤ 4095 ∧ 0 ≤ s.f2 ∧ s.f2 ≤ 1023 ∧ 0 ≤ s.f3 ∧ s.f3 ≤ 6 ∧ 0 ≤ s.f4 ∧ s.f4 ≤ 4096 ∧ s.f6.length ≤ 8 ∧ (s.f8 = true → s.f7.length = 0) := by
  unfold sForm at h
  cases hg : gLoop s.f6 0 (-1) with
  | none => rw [hg] at h; cases h
  | some all =>
    rw [hg] at h
    simp only [Bool.and_eq_true, wn_iff, decide_eq_true_eq, Bool.not_eq_true', Bool.and_eq_false_iff, decide_eq_false_iff_not] at h
    obtain ⟨-, h0, h1, h2, h3, h4, h5, -, h6⟩ := h
    refine ⟨h0.1, h0.2, h1.1, h1.2, h2.1, h2.2, h3.1, h3.2, h4.1, h4.2, h5, fun h8 => ?_⟩
    rcases h6 with h6 | h6
    · rw [h8] at h6; cases h6
    · omega
theorem gbad (last g0 g1 g2 : Int) (r : Option Int) (h : ¬ (last + 1 ≤ g0 ∧ g0 ≤ 7 ∧ 0 ≤ g1 ∧ g1 ≤ 4096 ∧ 0 ≤ g2 ∧ g2 ≤ 1048576)) : (if wn g0 (last + 1) 7 = true then (if wn g1 0 4096 = true then (if wn g2 0 1048576 = true then r else none) else none) else none) = none := by
  by_cases h0 : wn g0 (last + 1) 7 = true
  · rw [if_pos h0]
    by_cases h1 : wn g1 0 4096 = true
    · rw [if_pos h1, if_neg]
      intro h2
      have := wn_iff.1 h0; have := wn_iff.1 h1; have := wn_iff.1 h2
      exact h (by omega)
    · rw [if_neg h1]
  · rw [if_neg h0]
theorem ggood (last g0 g1 g2 : Int) (r : Option Int) (h : last + 1 ≤ g0 ∧ g0 ≤ 7 ∧ 0 ≤ g1 ∧ g1 ≤ 4096 ∧ 0 ≤ g2 ∧ g2 ≤ 1048576) : (if wn g0 (last + 1) 7 = true then (if wn g1 0 4096 = true then (if wn g2 0 1048576 = true then r else none) else none) else none) = r := by
  rw [if_pos (wn_iff.2 (by omega)), if_pos (wn_iff.2 (by omega)), if_pos (wn_iff.2 (by omega))]
theorem lbad (last g0 : Int) (r : Bool) (h : ¬ (last + 1 ≤ g0 ∧ g0 ≤ 3999)) : (wn g0 (last + 1) 3999 && r) = false := by
  have : wn g0 (last + 1) 3999 = false := by rw [Bool.eq_false_iff]; intro h0; exact h (wn_iff.1 h0)
  rw [this]; rfl
theorem lgood (last g0 : Int) (r : Bool) (h : last + 1 ≤ g0 ∧ g0 ≤ 3999) : (wn g0 (last + 1) 3999 && r) = r := by
  have : wn g0 (last + 1) 3999 = true := wn_iff.2 h
  rw [this]; rfl
theorem sForm_end {s : S34} (h0 : ¬ s.f0 < 0) (h1 : ¬ (4000 : Int) ≤ s.f0) (h2 : ¬ s.f1 < 0) (h3 : ¬ (4096 : Int) ≤ s.f1) (h4 : ¬ s.f2 < 0) (h5 : ¬ (1024 : Int) ≤ s.f2) (h6 : ¬ s.f3 < 0) (h7 : ¬ (7 : Int) ≤ s.f3) (h8 : ¬ s.f4 < 0) (h9 : ¬ (4096 : Int) < s.f4) (h10 : ¬ (8 : Int) < (s.f6.length : Int)) (h11 : ¬ (s.f8 = true ∧ 0 < s.f7.length)) :
    ∀ all, gLoop s.f6 0 (-1) = some all → lLoop s.f7 (-1) = true → sForm s = decide (all ≤ s.f4) := fun all hg hl => by
  unfold sForm
  rw [hg]
  simp only [hl, wn_iff.2 (show (0 : Int) ≤ s.f0 ∧ s.f0 ≤ 3999 by omega), wn_iff.2 (show (0 : Int) ≤ s.f1 ∧ s.f1 ≤ 4095 by omega), wn_iff.2 (show (0 : Int) ≤ s.f2 ∧ s.f2 ≤ 1023 by omega), wn_iff.2 (show (0 : Int) ≤ s.f3 ∧ s.f3 ≤ 6 by omega), wn_iff.2 (show (0 : Int) ≤ s.f4 ∧ s.f4 ≤ 4096 by omega), decide_eq_true (show s.f6.length ≤ 8 by omega), Bool.true_and]
  have : (s.f8 && decide (0 < s.f7.length)) = false := by
    cases h : s.f8 with
    | false => rfl
    | true => simp only [Bool.true_and, decide_eq_false_iff_not]; exact fun h2 => h11 ⟨h, h2⟩
  rw [this]; simp
theorem add_plus (a : Addr) (n : Nat) (h : 0 < n) : a.add n = ⟨a.block, a.off + n, none⟩ := by
  obtain ⟨b, o, m⟩ := a
  unfold Addr.add
  split <;> simp_all
set_option maxRecDepth 100000 in
set_option maxHeartbeats 8000000 in
theorem rformed_calls (s : S34) (cs : List Value) (w : World) (hK : k34.K w s cs) :
    Calls Tryd.prog 69 #[.agg cs.toArray] w fun e w' => e = .returned (.bool (sForm s)) ∧ Below w.heap.size w w' := by
  obtain ⟨A5, c5, A6, c6, A7, c7, rfl, l5, g5, l6, g6, l7, g7⟩ := k34_open hK
  clear hK g5 l5 l6 l7
  have hm6 := Kd.C_max g6
  have hm7 := Kd.C_max g7
  have G6 := Aside0.mk g6; have G7 := Aside0.mk g7; clear g6 g7
  have HAL := Aside0.mk ((Below.refl w.heap.size w).alloc (Nat.le_refl _) (.cells #[.int .i64 s.f0, .int .i64 s.f1, .int .i64 s.f2, .int .i64 s.f3, .int .i64 s.f4, .slice A5 s.f5.length c5, .slice A6 s.f6.length c6, .slice A7 s.f7.length c7, .bool s.f8] 34))
  have HBK := Aside0.mk (new_blk w (.cells #[.int .i64 s.f0, .int .i64 s.f1, .int .i64 s.f2, .int .i64 s.f3, .int .i64 s.f4, .slice A5 s.f5.length c5, .slice A6 s.f6.length c6, .slice A7 s.f7.length c7, .bool s.f8] 34))
  by_cases q0 : s.f0 < 0
  · have HS := Aside0.mk (show sForm s = false by rw [Bool.eq_false_iff]; intro h; have := sForm_head h; omega)
    go_enter Tryd.func69, Tryd.ntmps69
    go_wp2
    go_ret
    exact ⟨by rw [HS.out]; rfl, HAL.out⟩
  · skip
    by_cases q1 : (4000 : Int) ≤ s.f0
    · have HS := Aside0.mk (show sForm s = false by rw [Bool.eq_false_iff]; intro h; have := sForm_head h; omega)
      go_enter Tryd.func69, Tryd.ntmps69
      go_wp2
      go_ret
      exact ⟨by rw [HS.out]; rfl, HAL.out⟩
    · skip
      by_cases q2 : s.f1 < 0
      · have HS := Aside0.mk (show sForm s = false by rw [Bool.eq_false_iff]; intro h; have := sForm_head h; omega)
        go_enter Tryd.func69, Tryd.ntmps69
        go_wp2
        go_ret
        exact ⟨by rw [HS.out]; rfl, HAL.out⟩
      · skip
        by_cases q3 : (4096 : Int) ≤ s.f1
        · have HS := Aside0.mk (show sForm s = false by rw [Bool.eq_false_iff]; intro h; have := sForm_head h; omega)
          go_enter Tryd.func69, Tryd.ntmps69
          go_wp2
          go_ret
          exact ⟨by rw [HS.out]; rfl, HAL.out⟩
        · skip
          by_cases q4 : s.f2 < 0
          · have HS := Aside0.mk (show sForm s = false by rw [Bool.eq_false_iff]; intro h; have := sForm_head h; omega)
            go_enter Tryd.func69, Tryd.ntmps69
            go_wp2
            go_ret
            exact ⟨by rw [HS.out]; rfl, HAL.out⟩
          · skip
            by_cases q5 : (1024 : Int) ≤ s.f2
            · have HS := Aside0.mk (show sForm s = false by rw [Bool.eq_false_iff]; intro h; have := sForm_head h; omega)
              go_enter Tryd.func69, Tryd.ntmps69
              go_wp2
              go_ret
              exact ⟨by rw [HS.out]; rfl, HAL.out⟩
            · skip
              by_cases q6 : s.f3 < 0
              · have HS := Aside0.mk (show sForm s = false by rw [Bool.eq_false_iff]; intro h; have := sForm_head h; omega)
                go_enter Tryd.func69, Tryd.ntmps69
                go_wp2
                go_ret
                exact ⟨by rw [HS.out]; rfl, HAL.out⟩
              · skip
                by_cases q7 : (7 : Int) ≤ s.f3
                · have HS := Aside0.mk (show sForm s = false by rw [Bool.eq_false_iff]; intro h; have := sForm_head h; omega)
                  go_enter Tryd.func69, Tryd.ntmps69
                  go_wp2
                  go_ret
                  exact ⟨by rw [HS.out]; rfl, HAL.out⟩
                · skip
                  by_cases q8 : s.f4 < 0
                  · have HS := Aside0.mk (show sForm s = false by rw [Bool.eq_false_iff]; intro h; have := sForm_head h; omega)
                    go_enter Tryd.func69, Tryd.ntmps69
                    go_wp2
                    go_ret
                    exact ⟨by rw [HS.out]; rfl, HAL.out⟩
                  · skip
                    by_cases q9 : (4096 : Int) < s.f4
                    · have HS := Aside0.mk (show sForm s = false by rw [Bool.eq_false_iff]; intro h; have := sForm_head h; omega)
                      go_enter Tryd.func69, Tryd.ntmps69
                      go_wp2
                      go_ret
                      exact ⟨by rw [HS.out]; rfl, HAL.out⟩
                    · skip
                      by_cases q10 : (8 : Int) < (s.f6.length : Int)
                      · have HS := Aside0.mk (show sForm s = false by rw [Bool.eq_false_iff]; intro h; have := sForm_head h; omega)
                        go_enter Tryd.func69, Tryd.ntmps69
                        go_wp2
                        go_ret
                        exact ⟨by rw [HS.out]; rfl, HAL.out⟩
                      · skip
                        have hbad8 : s.f8 = true → 0 < s.f7.length → sForm s = false := fun h8 h7 => by
                          rw [Bool.eq_false_iff]; intro h; have := (sForm_head h).2.2.2.2.2.2.2.2.2.2.2 h8; omega
                        by_cases q11 : s.f8 = true ∧ 0 < s.f7.length
                        · have HS := Aside0.mk (hbad8 q11.1 q11.2)
                          have c12 : (0 : Int) < (s.f7.length : Int) := by omega
                          have c13 := q11.1
                          clear q11 hbad8
                          rw [c13] at HAL
                          go_enter Tryd.func69, Tryd.ntmps69
                          go_wp2
                          go_ret
                          exact ⟨by rw [HS.out]; rfl, by rw [c13] at *; exact HAL.out⟩
                        · skip
                          have HFIN := Aside0.mk (sForm_end q0 q1 q2 q3 q4 q5 q6 q7 q8 q9 q10 q11)
                          clear hbad8
                          have hcz : ∀ i, i < 1 → True := fun _ _ => trivial
                          obtain ⟨b8, hb8⟩ : ∃ b8, s.f8 = b8 := ⟨_, rfl⟩
                          rw [hb8] at HAL HBK q11
                          have h12 : b8 = true → ¬ 0 < s.f7.length := fun h h7 => q11 ⟨h, h7⟩
                          clear q11 hcz
                          go_enter Tryd.func69, Tryd.ntmps69
                          rw [hb8]
                          obtain ⟨CS, hCS, hc6, hc7, hc4, hc8⟩ : ∃ CS : Array Value, #[.int .i64 s.f0, .int .i64 s.f1, .int .i64 s.f2, .int .i64 s.f3, .int .i64 s.f4, .slice A5 s.f5.length c5, .slice A6 s.f6.length c6, .slice A7 s.f7.length c7, .bool b8] = CS ∧ CS[6]? = some (.slice A6 s.f6.length c6) ∧ CS[7]? = some (.slice A7 s.f7.length c7) ∧ CS[4]? = some (.int .i64 s.f4) ∧ CS[8]? = some (.bool b8) := by refine ⟨_, rfl, ?_, ?_, ?_, ?_⟩ <;> rfl
                          have HCS := Aside0.mk hCS
                          rw [hCS] at HAL HBK
                          clear hCS
                          cases b8
                          all_goals
                            (try have h13 := h12 rfl)
                            clear h12
                            go_wp2
                            try clear h13
                            go_loopw [3, 4] (fun va i wr => ∃ (k : Nat) (all last : Int), k ≤ s.f6.length ∧ va = .int .i64 all ∧ i = .int .i64 k ∧ last = (if k = 0 then -1 else (rd_T130 s.f6 (k - 1 : Nat)).f0) ∧ -1 ≤ last ∧ last ≤ 7 ∧ Aside0 (gLoop (s.f6.drop k) all last = gLoop s.f6 0 (-1)) ∧ Aside0 (Below w.heap.size w wr) ∧ Aside0 (wr.heap[w.heap.size]? = some (.cells CS 34 (0, 0)))) (fun _ i _ => s.f6.length - (intOf i).toNat)
                            case atStart => exact ⟨0, 0, -1, Nat.zero_le _, rfl, rfl, rfl, by omega, by omega, ⟨rfl⟩, by rw [HCS.out]; exact HAL, by rw [HCS.out]; exact HBK⟩
                            case round =>
                              obtain ⟨k, all, last, hk, rfl, rfl, hlast, hl0, hl1, HG, HB, hbk⟩ := hrel
                              have hz6 := (blk_cell hbk.out 6).trans hc6
                              have hz4 := (blk_cell hbk.out 4).trans hc4
                              have hz7 := (blk_cell hbk.out 7).trans hc7
                              by_cases hlt : k < s.f6.length
                              · have hd : (k : Int) < s.f6.length := by omega
                                have hp0 : (0 : Int) ≤ k := by omega
                                obtain ⟨ad, rfl, hx0, hx1, hx2⟩ := at_T130 (Kd.C_below G6.out HB.out) k (by omega) (by omega)
                                simp only [Int.toNat_natCast] at hx0 hx1 hx2
                                have hg := HG.out
                                rw [drop_rd _ z130 k hlt] at hg
                                rw [gLoop_cons, show s.f6.getD k z130 = rd_T130 s.f6 k from by simp [rd_T130]] at hg
                                have HNX := Aside0.mk (show (rd_T130 s.f6 k).f0 = if k + 1 = 0 then -1 else (rd_T130 s.f6 ((k + 1 - 1 : Nat) : Int)).f0 by rw [if_neg (by omega), Nat.add_sub_cancel])
                                have hHAL := fun o => (Below.refl wr.heap.size wr).alloc (Nat.le_refl _) o
                                have hpr : k ≠ 0 → wr.cell? (ad.add ((k - 1) * 3)) = some (.int .i64 last) := fun h0 => by
                                  obtain ⟨ad', had, hy0, -, -⟩ := at_T130 (Kd.C_below G6.out HB.out) ((k - 1 : Nat) : Int) (by omega) (by omega)
                                  injection had with had
                                  subst had
                                  rw [hlast, if_neg h0]
                                  simpa using hy0
                                generalize (rd_T130 s.f6 k).f0 = g0 at hx0 hg HNX
                                generalize (rd_T130 s.f6 k).f1 = g1 at hx1 hg
                                generalize (rd_T130 s.f6 k).f2 = g2 at hx2 hg
                                have HG2 := Aside0.mk hg
                                have hbad : none = gLoop s.f6 0 (-1) → sForm s = false := by
                                  intro hq
                                  unfold sForm
                                  rw [← hq]
                                have HBAD := Aside0.mk hbad
                                have HB2 := Aside0.mk (HB.out.alloc HB.out.size (.cells #[.int .i64 g0, .int .i64 g1, .int .i64 g2] 130))
                                have HK2 := Aside0.mk (blk_alloc hbk.out (.cells #[.int .i64 g0, .int .i64 g1, .int .i64 g2] 130))
                                have za6 : ∀ o : Obj, (wr.alloc o).cell? ⟨w.heap.size, 6, none⟩ = some (.slice (some ad) s.f6.length c6) := fun o => cell_low (hHAL o) hz6
                                have HPR := Aside0.mk (fun (h0 : k ≠ 0) (o : Obj) => cell_low (hHAL o) (hpr h0))
                                clear hg hbad HG hHAL hpr hbk
                                rcases Nat.eq_zero_or_pos k with h0 | h0
                                · have hk0 : decide ((k : Int) > 0) = false := decide_eq_false (by omega)
                                  have hk1 : decide (0 < k) = false := decide_eq_false (by omega)
                                  have hla : last = -1 := by rw [hlast, if_pos h0]
                                  have HLA := Aside0.mk hla
                                  clear HPR hlast h0 hla
                                  go_wp2
                                  refine wp_region_quiet_lit (by kernel_rfl) (by kernel_rfl) ?_
                                  repeat (any_goals (first | go_big_quiet_step (fail) | quiet_step (fail) | (refine wpQuiet_step (fun K hK => ?_); go_simp; split <;> (refine hK _ ?_; clear hK K))))
                                  all_goals (refine wpQuiet_nil ?_; intro _ hw'; obtain ⟨nq, hw''⟩ := hw'; subst hw'')
                                  all_goals go_wp2
                                  all_goals first
                                    | (go_ret; exact ⟨by rw [HBAD.out ((gbad _ _ _ _ _ (by have hl := HLA.out; omega)).symm.trans HG2.out)]; rfl, pw_below_drewN HB2.out _⟩)
                                    | exact ⟨⟨_, _, g0, by omega, rfl, by go_num, HNX.out, by have hl := HLA.out; omega, by omega, ⟨(ggood _ _ _ _ _ (by have hl := HLA.out; omega)).symm.trans HG2.out⟩, ⟨pw_below_drewN HB2.out _⟩, HK2⟩, by simp [intOf]; omega⟩
                                · obtain ⟨kp, rfl⟩ : ∃ kp, k = kp + 1 := ⟨k - 1, by omega⟩
                                  have hk0 : decide (((kp + 1 : Nat) : Int) > 0) = true := decide_eq_true (by omega)
                                  have hpc := HPR.out (by omega)
                                  simp only [Nat.add_sub_cancel] at hpc
                                  have q5 : IntKind.i64.wrap (((kp + 1 : Nat) : Int) - 1) = (kp : Int) := by rw [IntWalk.i64_in _ (by omega)]; omega
                                  have q6 : IntKind.i64.wrap (kp : Int) = (kp : Int) := IntWalk.i64_in _ (by omega)
                                  have q7 : (0 : Int) ≤ (kp : Int) := by omega
                                  have q8 : (kp : Int) < s.f6.length := by omega
                                  have q9 : (kp : Int) + 1 < s.f6.length := by omega
                                  have qa : (0 : Int) ≤ (kp : Int) + 1 := by omega
                                  have HLA := Aside0.mk (And.intro hl0 hl1)
                                  clear HPR hlast
                                  go_wp2
                                  refine wp_region_quiet_lit (by kernel_rfl) (by kernel_rfl) ?_
                                  repeat (any_goals (first | go_big_quiet_step (fail) | quiet_step (fail) | (refine wpQuiet_step (fun K hK => ?_); go_simp; split <;> (refine hK _ ?_; clear hK K))))
                                  all_goals (refine wpQuiet_nil ?_; intro _ hw'; obtain ⟨nq, hw''⟩ := hw'; subst hw'')
                                  all_goals go_wp2
                                  all_goals first
                                    | (go_ret; exact ⟨by rw [HBAD.out ((gbad _ _ _ _ _ (by have hl := HLA.out; omega)).symm.trans HG2.out)]; rfl, pw_below_drewN HB2.out _⟩)
                                    | exact ⟨⟨_, _, g0, by omega, rfl, by go_num, HNX.out, by have hl := HLA.out; omega, by omega, ⟨(ggood _ _ _ _ _ (by have hl := HLA.out; omega)).symm.trans HG2.out⟩, ⟨pw_below_drewN HB2.out _⟩, HK2⟩, by simp [intOf]; omega⟩
                              · have hd : ¬ (k : Int) < s.f6.length := by omega
                                obtain rfl : k = s.f6.length := by omega
                                have HGA := Aside0.mk (show gLoop s.f6 0 (-1) = some all from by rw [← HG.out, List.drop_eq_nil_iff.2 (Nat.le_refl _)]; rfl)
                                clear hlast hl0 hl1 HG hz4
                                go_wp2
                                obtain ⟨wo, rfl⟩ : ∃ wo : World, wo = wr := ⟨_, rfl⟩
                                go_loopw [6] (fun i wr => ∃ (k : Nat) (last : Int), k ≤ s.f7.length ∧ i = .int .i64 k ∧ last = (if k = 0 then -1 else rdOf 0 s.f7 (k - 1 : Nat)) ∧ -1 ≤ last ∧ Aside0 (lLoop (s.f7.drop k) last = lLoop s.f7 (-1)) ∧ Aside0 (Below wo.heap.size wo wr)) (fun i _ => s.f7.length - (intOf i).toNat)
                                case atStart => exact ⟨0, -1, Nat.zero_le _, rfl, rfl, by omega, ⟨rfl⟩, ⟨Below.refl _ _⟩⟩
                                case round =>
                                  clear hz6 hz7 hd
                                  obtain ⟨k, last, hk, rfl, hlast, hl0, HL, HB2⟩ := hrel
                                  have hbk2 := blk_low HB2.out hbk.out
                                  have hz4 := (blk_cell hbk2 4).trans hc4
                                  have hz7 := (blk_cell hbk2 7).trans hc7
                                  have HBw := Aside0.mk (below_tr HB.out HB2.out)
                                  clear hbk2
                                  by_cases hlt : k < s.f7.length
                                  · have hd : (k : Int) < s.f7.length := by omega
                                    have hp0 : (0 : Int) ≤ k := by omega
                                    obtain ⟨ad, rfl, hx0⟩ := (Kd.reads_of_C (d := (0 : Int)) (Kd.C_below G7.out HBw.out)).at_ k (by omega) (by omega)
                                    simp only [Int.toNat_natCast] at hx0
                                    have hg := HL.out
                                    rw [drop_rd _ 0 k hlt] at hg
                                    rw [lLoop_cons, show s.f7.getD k 0 = rdOf 0 s.f7 k from by simp [rdOf]] at hg
                                    have HNX := Aside0.mk (show rdOf 0 s.f7 k = if k + 1 = 0 then -1 else rdOf 0 s.f7 ((k + 1 - 1 : Nat) : Int) by rw [if_neg (by omega), Nat.add_sub_cancel])
                                    have hpr : k ≠ 0 → wr.cell? (ad.add (k - 1)) = some (.int .i64 last) := fun h0 => by
                                      obtain ⟨ad', had, hy0⟩ := (Kd.reads_of_C (d := (0 : Int)) (Kd.C_below G7.out HBw.out)).at_ ((k - 1 : Nat) : Int) (by omega) (by omega)
                                      injection had with had
                                      subst had
                                      rw [hlast, if_neg h0]
                                      simpa using hy0
                                    generalize rdOf 0 s.f7 k = g0 at hx0 hg HNX
                                    have HG2 := Aside0.mk hg
                                    have HBAD := Aside0.mk (show lLoop s.f7 (-1) = false → sForm s = false from fun hq => by unfold sForm; rw [HGA.out, hq]; rfl)
                                    have HPR := Aside0.mk hpr
                                    clear hg HL hpr
                                    rcases Nat.eq_zero_or_pos k with h0 | h0
                                    · have hk0 : decide ((k : Int) > 0) = false := decide_eq_false (by omega)
                                      have hk1 : decide (0 < k) = false := decide_eq_false (by omega)
                                      have hla : last = -1 := by rw [hlast, if_pos h0]
                                      have HLA := Aside0.mk hla
                                      clear HPR hlast h0 hla
                                      go_wp2
                                      refine wp_region_quiet_lit (by kernel_rfl) (by kernel_rfl) ?_
                                      repeat (any_goals (first | go_big_quiet_step (fail) | quiet_step (fail) | (refine wpQuiet_step (fun K hK => ?_); go_simp; split <;> (refine hK _ ?_; clear hK K))))
                                      all_goals (refine wpQuiet_nil ?_; intro _ hw'; obtain ⟨nq, hw''⟩ := hw'; subst hw'')
                                      all_goals go_wp2
                                      all_goals first
                                        | (go_ret; exact ⟨by rw [HBAD.out (HG2.out.symm.trans (lbad _ _ _ (by have hl := HLA.out; omega)))]; rfl, pw_below_drewN HBw.out _⟩)
                                        | exact ⟨⟨_, g0, by omega, by go_num, HNX.out, by have hl := HLA.out; omega, ⟨(lgood _ _ _ (by have hl := HLA.out; omega)).symm.trans HG2.out⟩, ⟨pw_below_drewN HB2.out _⟩⟩, by simp [intOf]; omega⟩
                                    · obtain ⟨kp, rfl⟩ : ∃ kp, k = kp + 1 := ⟨k - 1, by omega⟩
                                      have hk0 : decide (((kp + 1 : Nat) : Int) > 0) = true := decide_eq_true (by omega)
                                      have hpc := HPR.out (by omega)
                                      simp only [Nat.add_sub_cancel] at hpc
                                      have q5 : IntKind.i64.wrap (((kp + 1 : Nat) : Int) - 1) = (kp : Int) := by rw [IntWalk.i64_in _ (by omega)]; omega
                                      have q6 : IntKind.i64.wrap (kp : Int) = (kp : Int) := IntWalk.i64_in _ (by omega)
                                      have q7 : (0 : Int) ≤ (kp : Int) := by omega
                                      have hx9 := hx0
                                      rw [add_plus ad (kp + 1) (by omega)] at hx9
                                      have q8 : (kp : Int) < s.f7.length := by omega
                                      have q9 : (kp : Int) + 1 < s.f7.length := by omega
                                      have qa : (0 : Int) ≤ (kp : Int) + 1 := by omega
                                      have HLA := Aside0.mk hl0
                                      clear HPR hlast
                                      go_wp2
                                      refine wp_region_quiet_lit (by kernel_rfl) (by kernel_rfl) ?_
                                      repeat (any_goals (first | go_big_quiet_step (fail) | quiet_step (fail) | (refine wpQuiet_step (fun K hK => ?_); go_simp; split <;> (refine hK _ ?_; clear hK K))))
                                      all_goals (refine wpQuiet_nil ?_; intro _ hw'; obtain ⟨nq, hw''⟩ := hw'; subst hw'')
                                      all_goals go_wp2
                                      all_goals first
                                        | (go_ret; exact ⟨by rw [HBAD.out (HG2.out.symm.trans (lbad _ _ _ (by have hl := HLA.out; omega)))]; rfl, pw_below_drewN HBw.out _⟩)
                                        | exact ⟨⟨_, g0, by omega, by go_num, HNX.out, by have hl := HLA.out; omega, ⟨(lgood _ _ _ (by have hl := HLA.out; omega)).symm.trans HG2.out⟩, ⟨pw_below_drewN HB2.out _⟩⟩, by simp [intOf]; omega⟩
                                  · have hd : ¬ (k : Int) < s.f7.length := by omega
                                    obtain rfl : k = s.f7.length := by omega
                                    have hl7 : lLoop s.f7 (-1) = true := by rw [← HL.out, List.drop_eq_nil_iff.2 (Nat.le_refl _)]; rfl
                                    have HEND := Aside0.mk (HFIN.out all HGA.out hl7)
                                    clear hl7
                                    go_wp2
                                    go_ret
                                    exact ⟨by rw [HEND.out]; rfl, HBw.out⟩
end Go.Proofs.YtbpgoddohhiohaaDoor
