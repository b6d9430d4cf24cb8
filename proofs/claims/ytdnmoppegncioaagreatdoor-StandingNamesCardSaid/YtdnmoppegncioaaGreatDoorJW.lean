/- sizarref21.Check. -/
import Derived.Test.YtdnmoppegncioaaGreatDoorJV
namespace Go.Proofs.YtdnmoppegncioaaGreatDoor
open Go.RowKit Go.Proofs.YtdnmoppegncioaaGreatDoorW.PrintWords
set_option linter.unusedVariables false
set_option linter.unusedSimpArgs false
theorem anyF_hit (l : List S38) (z : S38) (k : Nat) (hk : k < l.length) (h : badF (l.getD k z) = true) : l.any badF = true := by
  rw [show l.getD k z = l[k] from by simp [List.getElem?_eq_getElem hk]] at h
  exact List.any_eq_true.2 ⟨_, List.getElem_mem hk, h⟩
theorem anyF_miss (l : List S38) (z : S38) (h : ∀ j, j < l.length → badF (l.getD j z) = false) : l.any badF = false := by
  rw [Bool.eq_false_iff]
  intro ha
  obtain ⟨x, hx, hb⟩ := List.any_eq_true.1 ha
  obtain ⟨j, hj, rfl⟩ := List.getElem_of_mem hx
  have := h j hj
  rw [show l.getD j z = l[j] from by simp [List.getElem?_eq_getElem hj], hb] at this
  cases this
set_option maxHeartbeats 8000000 in
theorem r21check_calls (s : S26) (A0 : Option Addr) (c0 : Nat) (A1 : Option Addr) (c1 : Nat) (A2 : Option Addr) (c2 : Nat) (v3 : Value) (w : World) (hs : SysAt w s A0 A1 A2) :
    Calls Tryz.prog 16 #[.agg #[.slice A0 s.f0.length c0, .slice A1 s.f1.length c1, .slice A2 s.f2.length c2, v3]] w fun e w' => e = .returned (.int .i64 (if okS s then 0 else 1)) ∧ Below w.heap.size w w' := by
  have k0 := Aside0.mk (fun V (hb : Below w.heap.size w V) => valid_calls A0 c0 s.f0 V (Kd.C_below hs.1 hb) hs.2.2.2.1)
  have k2 := Aside0.mk (fun V (hb : Below w.heap.size w V) => valid_calls A2 c2 s.f2 V (Kd.C_below hs.2.2.1 hb) hs.2.2.2.2.1)
  have hmax := Kd.C_max hs.2.1
  have hal := (Below.refl w.heap.size w).alloc (Nat.le_refl _) (.cells #[.slice A0 s.f0.length c0, .slice A1 s.f1.length c1, .slice A2 s.f2.length c2, v3] 26)
  have nb := new_blk w (.cells #[.slice A0 s.f0.length c0, .slice A1 s.f1.length c1, .slice A2 s.f2.length c2, v3] 26)
  have HR := Aside0.mk hs.2.1
  clear hs
  generalize hRV : (if okS s = true then (0 : Int) else 1) = RV
  have HRV := Aside0.mk hRV; clear hRV
  go_enter Tryz.func16, Tryz.ntmps16
  go_wp2
  generalize hw1 : w.alloc (.cells #[.slice A0 s.f0.length c0, .slice A1 s.f1.length c1, .slice A2 s.f2.length c2, v3] 26) = w1 at *
  have HN := Aside0.mk nb; clear nb hw1
  go_loopw [3] (fun i wr => ∃ k : Nat, k ≤ s.f1.length ∧ i = .int .i64 k ∧ Aside0 (∀ j, j < k → badF (s.f1.getD j z38) = false) ∧ wr = w1) (fun i _ => s.f1.length - (intOf i).toNat)
  case atStart => exact ⟨0, Nat.zero_le _, rfl, ⟨fun j hj => absurd hj (Nat.not_lt_zero _)⟩, rfl⟩
  case round =>
    obtain ⟨k, hk, rfl, hV, rfl⟩ := hrel
    have y0 := (blk_cell HN.out 0).trans rfl; have y1 := (blk_cell HN.out 1).trans rfl; have y2 := (blk_cell HN.out 2).trans rfl
    have HB := Aside0.mk hal
    by_cases hlt : k < s.f1.length
    · have hd : (k : Int) < s.f1.length := by omega
      have HQ := Aside0.mk (show s.f1.getD k z38 = rd_T38 s.f1 k by simp [rd_T38])
      obtain ⟨ad, rfl, hx0, hx1⟩ := at_T38 (Kd.C_below HR.out hal) k (by omega) (by omega)
      simp only [Int.toNat_natCast] at hx0 hx1
      clear hx0
      generalize rd_T38 s.f1 k = x at *
      by_cases g1 : x.f1 < 0
      · have d1 : decide (x.f1 < 0) = true := decide_eq_true g1
        have HBAD := Aside0.mk (show badF x = true by simp [badF, amt, Int.not_le.2 g1])
        have HS2 := Aside0.mk (anyF_hit s.f1 z38 k hlt (by rw [HQ.out]; exact HBAD.out))
        go_wp2
        go_ret
        exact ⟨ret_i64 (by rw [← HRV.out]; simp [okS, HS2.out]), HB.out⟩
      · have d1 : decide (x.f1 < 0) = false := decide_eq_false g1
        by_cases g2 : 10000 < x.f1
        · have d2 : decide (10000 < x.f1) = true := decide_eq_true g2
          have HBAD := Aside0.mk (show badF x = true by simp [badF, amt, Int.not_le.2 g2])
          have HS2 := Aside0.mk (anyF_hit s.f1 z38 k hlt (by rw [HQ.out]; exact HBAD.out))
          go_wp2
          go_ret
          exact ⟨ret_i64 (by rw [← HRV.out]; simp [okS, HS2.out]), HB.out⟩
        · have d2 : decide (10000 < x.f1) = false := decide_eq_false g2
          have HBAD := Aside0.mk (show badF x = false by simp [badF, amt]; omega)
          go_wp2
          go_roundw
          case rel => exact ⟨k + 1, by omega, by go_num, ⟨fun j hj => by
            rcases Nat.lt_or_ge j k with h | h
            · exact hV.out j h
            · obtain rfl : j = k := by omega
              rw [HQ.out]; exact HBAD.out⟩, by first | rfl | trivial⟩
          case measure => simp [intOf]; omega
    · have hd : ¬ (k : Int) < s.f1.length := by omega
      have hF := anyF_miss s.f1 z38 (fun j hj => hV.out j (by omega))
      have hok : okS s = (!s.f0.any badC && !s.f2.any badC) := by simp [okS, hF]
      have HRV := Aside0.mk (show (if (!s.f0.any badC && !s.f2.any badC) = true then (0 : Int) else 1) = RV by rw [← hok]; exact HRV.out)
      have G0 := Aside0.mk (k0.out _ HB.out)
      generalize s.f0.any badC = P at *
      generalize s.f2.any badC = Q at *
      clear hF hok hV
      cases P with
      | true =>
        go_wp2_with fail
        refine G0.out.mono ?_
        rintro e v1 ⟨rfl, hb1⟩
        have HB1 := Aside0.mk (below_tr HB.out hb1); clear hb1
        go_wp2
        go_ret
        exact ⟨ret_i64 (by rw [← HRV.out]; rfl), HB1.out⟩
      | false =>
        go_wp2_with fail
        refine G0.out.mono ?_
        rintro e v1 ⟨rfl, hb1⟩
        have HB1 := Aside0.mk (below_tr HB.out hb1)
        have G2 := Aside0.mk (k2.out _ HB1.out)
        have x2 := (blk_cell (blk_low hb1 HN.out) 2).trans rfl
        clear hb1 y0 y1 y2
        go_wp2_with fail
        refine G2.out.mono ?_
        rintro e v2 ⟨rfl, hb2⟩
        have HB2 := Aside0.mk (below_tr HB1.out hb2); clear hb2
        cases Q <;> (go_wp2; go_ret; exact ⟨ret_i64 (by rw [← HRV.out]; rfl), HB2.out⟩)
end Go.Proofs.YtdnmoppegncioaaGreatDoor
