/- bundles.Check: what it computes. errors.errorType holds what start-up laid. -/
import Derived.Test.YtbpgoddohhiohaaDoorSC
import Derived.Test.YtbpgoddohhiohaaDoorF
import Derived.Test.YtbpgoddohhiohaaDoorML
import Derived.Test.YtbpgoddohhiohaaDoorX
namespace Go.Proofs.YtbpgoddohhiohaaDoor
open Go.RowKit Go.Proofs.YtbpgoddohhiohaaDoorW.PrintWords
set_option linter.unusedVariables false
set_option linter.unusedSimpArgs false
attribute [local go_sem high] eqA24

def bCheck (l : List S34) (b0 b1 : Int) : Int :=
  if sAll l ≠ 0 then sAll l
  else if (sFind l b0).2 = false ∨ (sFind l b0).1.f8 = true then 240
  else if (sFind l b0).1.f7.length = 0 ∧ (b0 == (sFind l b0).1.f0 && (b1 == -1)) = true then 0
  else if (sFind l b1).2 = false ∨ ((sFind l b0).1.f7.any fun x => b1 == x) = false ∨ (sFind l b1).1.f8 = false ∨ (sFind l b1).1.f2 ≠ (sFind l b0).1.f2 then 240
  else if (mClash (sFind l b0).1.f5 (sFind l b1).1.f5).1 = true then 240 else 0

set_option maxRecDepth 100000 in
set_option maxHeartbeats 8000000 in
theorem bcheck_calls (A : Option Addr) (c : Nat) (l : List S34) (b0 b1 : Int) (w : World) (hE : ErrT w) (hr : k34.C w A l.length l) (hc : l.length ≤ c) :
    Calls Tryd.prog 17 #[.slice A l.length c, .agg #[.int .i64 b0, .int .i64 b1]] w fun e w' => e = .returned (.int .i64 (bCheck l b0 b1)) ∧ Below w.heap.size w w' := by
  have HR := Aside0.mk hr; clear hr
  have h1 := Aside0.mk (fun W hE hr => sAll_calls A c l W hE hr hc)
  have h2 := Aside0.mk (fun id W hr => find_calls A c l id W hr hc)
  have h3 := Aside0.mk (fun A c l x W hr => contains_Int A c l x W hr)
  have h4 := Aside0.mk (fun A c a B d b W h1 h2 h3 h4 => mclash_calls A c a B d b W h1 h2 h3 h4)
  have hb0 := (Below.refl w.heap.size w).alloc (Nat.le_refl _) (.cells #[.int .i64 b0, .int .i64 b1] 24)
  have hn0 := new_blk w (.cells #[.int .i64 b0, .int .i64 b1] 24)
  have HB0 := Aside0.mk hb0; have HE := Aside0.mk (hE.below hb0)
  have HN0 := Aside0.mk hn0
  clear hb0 hn0 hE hc
  by_cases ha : sAll l = 0
  · rw [ha] at h1
    have hs0 : bCheck l b0 b1 = if (sFind l b0).2 = false ∨ (sFind l b0).1.f8 = true then 240 else if (sFind l b0).1.f7.length = 0 ∧ (b0 == (sFind l b0).1.f0 && (b1 == -1)) = true then 0 else if (sFind l b1).2 = false ∨ ((sFind l b0).1.f7.any fun x => b1 == x) = false ∨ (sFind l b1).1.f8 = false ∨ (sFind l b1).1.f2 ≠ (sFind l b0).1.f2 then 240 else if (mClash (sFind l b0).1.f5 (sFind l b1).1.f5).1 = true then 240 else 0 := by
      unfold bCheck; rw [if_neg (by simp [ha])]
    have HS := Aside0.mk hs0; clear hs0 ha
    have f1 := h2.out b0; have f2 := h2.out b1
    have F1 := Aside0.mk f1; have F2 := Aside0.mk f2; clear f1 f2 h2
    generalize sFind l b0 = s at HS F1
    generalize sFind l b1 = x at HS F2
    obtain ⟨s, sok⟩ := s
    obtain ⟨x, xok⟩ := x
    dsimp only at HS F1 F2
    go_enter Tryd.func17, Tryd.ntmps17
    go_wp2_with fail
    refine (h1.out _ HE.out (Kd.C_below HR.out HB0.out)).mono ?_
    rintro e w1 ⟨rfl, hb1⟩
    have HB1 := Aside0.mk (below_tr HB0.out hb1); have HN1 := Aside0.mk (blk_low hb1 HN0.out); clear hb1
    have z10 := (blk_cell HN1.out 0).trans rfl
    go_wp2_with fail
    refine (F1.out _ (Kd.C_below HR.out HB1.out)).mono ?_
    rintro e w2 ⟨cs, rfl, hK, hb2⟩
    have HK := Aside0.mk hK
    obtain ⟨A5, c5, A6, c6, A7, c7, rfl, l5, g5, l6, g6, l7, g7⟩ := k34_open hK
    have G5 := Aside0.mk g5; have G7 := Aside0.mk g7; have L5 := Aside0.mk l5; clear hK g5 g6 g7 l5 l6 l7 z10
    have HB2 := Aside0.mk (below_tr HB1.out hb2); have HN2 := Aside0.mk (blk_low hb2 HN1.out); clear hb2
    cases sok with
    | false =>
      have hs : bCheck l b0 b1 = 240 := by rw [HS.out]; simp
      have HS2 := Aside0.mk hs; clear hs
      go_wp2
      go_ret
      exact ⟨by rw [HS2.out]; rfl, HB2.out.alloc HB2.out.size _⟩
    | true =>
      cases hf8 : s.f8 with
      | true =>
        have hs : bCheck l b0 b1 = 240 := by rw [HS.out]; simp [hf8]
        have HS2 := Aside0.mk hs; clear hs
        go_wp2
        go_ret
        exact ⟨by rw [HS2.out]; rfl, HB2.out.alloc HB2.out.size _⟩
      | false =>
        rw [hf8] at HK
        have hg7 := G7.out
        have hm7 := Kd.C_max hg7
        generalize hn7 : s.f7.length = n7 at HS hm7
        have HN7 := Aside0.mk hn7
        have hal := Aside0.mk (fun o => (Below.refl w2.heap.size w2).alloc (Nat.le_refl _) o)
        have z0 : ∀ o : Obj, (w2.alloc o).cell? ⟨w.heap.size, 0, none⟩ = some (.int .i64 b0) := fun o => cell_low (hal.out o) ((blk_cell HN2.out 0).trans rfl)
        have z1 : ∀ o : Obj, (w2.alloc o).cell? ⟨w.heap.size, 1, none⟩ = some (.int .i64 b1) := fun o => cell_low (hal.out o) ((blk_cell HN2.out 1).trans rfl)
        have HB3 := Aside0.mk (HB2.out.alloc HB2.out.size (.cells #[.int .i64 s.f0, .int .i64 s.f1, .int .i64 s.f2, .int .i64 s.f3, .int .i64 s.f4, .slice A5 s.f5.length c5, .slice A6 s.f6.length c6, .slice A7 n7 c7, .bool false] 34))
        have HNb := Aside0.mk (blk_alloc HN2.out (.cells #[.int .i64 s.f0, .int .i64 s.f1, .int .i64 s.f2, .int .i64 s.f3, .int .i64 s.f4, .slice A5 s.f5.length c5, .slice A6 s.f6.length c6, .slice A7 n7 c7, .bool false] 34))
        have HNs := Aside0.mk (new_blk w2 (.cells #[.int .i64 s.f0, .int .i64 s.f1, .int .i64 s.f2, .int .i64 s.f3, .int .i64 s.f4, .slice A5 s.f5.length c5, .slice A6 s.f6.length c6, .slice A7 n7 c7, .bool false] 34))
        clear hn7 hg7
        by_cases h0 : n7 = 0 ∧ (b0 == s.f0 && (b1 == -1)) = true
        · have hs : bCheck l b0 b1 = 0 := by rw [HS.out, if_neg (by simp [hf8]), if_pos h0]
          have HS2 := Aside0.mk hs; clear hs
          have h00 : ((n7 : Int) == 0) = true := by simp [h0.1]
          have h02 : (n7 == 0) = true := by simp [h0.1]
          have h03 : decide (n7 = 0) = true := by simp [h0.1]
          have h01 : (b0 == s.f0 && (b1 == -1)) = true := h0.2
          clear h0
          go_wp2
          all_goals
            go_ret
            exact ⟨by rw [HS2.out]; rfl, HB2.out.alloc HB2.out.size _⟩
        · have hs : bCheck l b0 b1 = if xok = false ∨ (s.f7.any fun x => b1 == x) = false ∨ x.f8 = false ∨ x.f2 ≠ s.f2 then 240 else if (mClash s.f5 x.f5).1 = true then 240 else 0 := by rw [HS.out, if_neg (by simp [hf8]), if_neg h0]
          have HS2 := Aside0.mk hs; clear hs HS
          have h01 : n7 = 0 → (b0 == s.f0 && (b1 == -1)) = false := fun h => by
            cases hq : (b0 == s.f0 && (b1 == -1)) with
            | false => rfl
            | true => exact absurd ⟨h, hq⟩ h0
          clear h0
          obtain ⟨q, hq0, hq1, hq2, hq3⟩ : ∃ q : Bool, ((n7 : Int) == 0) = q ∧ (n7 == 0) = q ∧ decide (n7 = 0) = q ∧ (q = true → (b0 == s.f0 && (b1 == -1)) = false) := by
            by_cases h : n7 = 0
            · exact ⟨true, by simp [h], by simp [h], by simp [h], fun _ => h01 h⟩
            · exact ⟨false, by simp [h], by simp [h], by simp [h], fun h => by cases h⟩
          clear h01
          cases q
          all_goals
            try have hq4 := hq3 rfl
            clear hq3
            go_wp2_with fail
            refine (F2.out _ (Kd.C_below HR.out HB3.out)).mono ?_
            rintro e w3 ⟨cx, rfl, hKx, hb3⟩
            have HKx := Aside0.mk hKx
            obtain ⟨X5, x5, X6, x6, X7, x7, rfl, xl5, xg5, xl6, xg6, xl7, xg7⟩ := k34_open hKx
            have XG5 := Aside0.mk xg5; have XL5 := Aside0.mk xl5; clear hKx xg5 xg6 xg7 xl5 xl6 xl7 z0 z1
            have HB4 := Aside0.mk (below_tr HB3.out hb3)
            have D3 := Aside0.mk (below_tr (hal.out _) hb3)
            have hnb := blk_low hb3 HNb.out; have hns := blk_low hb3 HNs.out
            clear hb3
            have hz5 : w2.heap.size < w3.heap.size := blk_lt hns
            have hzw : w.heap.size < w3.heap.size := blk_lt hnb
            have hal3 := fun o => (Below.refl w3.heap.size w3).alloc (Nat.le_refl _) o
            have y1 : ∀ o : Obj, (w3.alloc o).cell? ⟨w.heap.size, 1, none⟩ = some (.int .i64 b1) := fun o => cell_low (hal3 o) ((blk_cell hnb 1).trans rfl)
            have y0 : w3.cell? ⟨w.heap.size, 1, none⟩ = some (.int .i64 b1) := (blk_cell hnb 1).trans rfl
            have s2 : ∀ o : Obj, (w3.alloc o).cell? ⟨w2.heap.size, 2, none⟩ = some (.int .i64 s.f2) := fun o => cell_low (hal3 o) ((blk_cell hns 2).trans rfl)
            have s5 : ∀ o : Obj, (w3.alloc o).cell? ⟨w2.heap.size, 5, none⟩ = some (.slice A5 s.f5.length c5) := fun o => cell_low (hal3 o) ((blk_cell hns 5).trans rfl)
            have s7 : ∀ o : Obj, (w3.alloc o).cell? ⟨w2.heap.size, 7, none⟩ = some (.slice A7 n7 c7) := fun o => cell_low (hal3 o) ((blk_cell hns 7).trans rfl)
            have HAL3 := Aside0.mk hal3; have HNS := Aside0.mk hns
            clear hal3 hnb hns
            have HB5 := Aside0.mk (fun o : Obj => HB4.out.alloc HB4.out.size o)
            cases xok with
            | false =>
              have hs : bCheck l b0 b1 = 240 := by rw [HS2.out]; simp
              have HS3 := Aside0.mk hs; clear hs
              go_wp2
              go_ret
              exact ⟨by rw [HS3.out]; rfl, HB5.out _⟩
            | true =>
              have hc33 := fun o => h3.out A7 c7 s.f7 b1 (w3.alloc o) (Kd.C_below G7.out (D3.out.alloc D3.out.size o))
              simp only [HN7.out] at hc33
              have HC33 := Aside0.mk hc33; clear hc33
              have HXb := Aside0.mk (new_blk w3 (.cells #[.int .i64 x.f0, .int .i64 x.f1, .int .i64 x.f2, .int .i64 x.f3, .int .i64 x.f4, .slice X5 x.f5.length x5, .slice X6 x.f6.length x6, .slice X7 x.f7.length x7, .bool x.f8] 34))
              go_wp2_with fail
              refine (HC33.out _).mono ?_
              rintro e w4 ⟨rfl, hb4⟩
              have HB6 := Aside0.mk (below_tr (HB5.out _) hb4)
              have D4 := Aside0.mk (below_tr (D3.out.alloc D3.out.size _) hb4)
              have E4 := Aside0.mk (below_tr (HAL3.out _) hb4)
              have hns4 := blk_low hb4 (blk_alloc HNS.out _)
              have hxb4 := blk_low hb4 HXb.out
              clear hb4 y0 y1 s2 s5 s7
              have v2 := (blk_cell hns4 2).trans rfl; have v5 := (blk_cell hns4 5).trans rfl
              have u2 := (blk_cell hxb4 2).trans rfl; have u5 := (blk_cell hxb4 5).trans rfl; have u8 := (blk_cell hxb4 8).trans rfl
              clear hns4 hxb4
              cases hcn : (s.f7.any fun x => b1 == x) with
              | false =>
                have hs : bCheck l b0 b1 = 240 := by rw [HS2.out, if_pos (by simp [hcn])]
                have HS3 := Aside0.mk hs; clear hs
                go_wp2
                go_ret
                exact ⟨by rw [HS3.out]; rfl, HB6.out⟩
              | true =>
                cases hx8 : x.f8 with
                | false =>
                  rw [hx8] at u8
                  have hs : bCheck l b0 b1 = 240 := by rw [HS2.out, if_pos (by simp [hx8])]
                  have HS3 := Aside0.mk hs; clear hs
                  go_wp2
                  go_ret
                  exact ⟨by rw [HS3.out]; rfl, HB6.out⟩
                | true =>
                  rw [hx8] at u8
                  by_cases hte : x.f2 = s.f2
                  · have hs : bCheck l b0 b1 = if (mClash s.f5 x.f5).1 = true then 240 else 0 := by
                      rw [HS2.out, if_neg]
                      rw [hcn, hx8]
                      simp [hte]
                    have ht1 : (x.f2 == s.f2) = true := by simp [hte]
                    have ht2 : (x.f2 != s.f2) = false := by simp [hte]
                    clear hte
                    have HS3 := Aside0.mk hs; clear hs
                    have HC25 := Aside0.mk (h4.out A5 c5 s.f5 X5 x5 x.f5 w4 (Kd.C_below G5.out D4.out) L5.out (Kd.C_below XG5.out E4.out) XL5.out)
                    go_wp2_with fail
                    refine HC25.out.mono ?_
                    rintro e w5 ⟨rfl, hb5⟩
                    have HB7 := Aside0.mk (below_tr HB6.out hb5)
                    clear hb5
                    cases hcl : (mClash s.f5 x.f5).1 with
                    | true =>
                      have HS4 := Aside0.mk (show bCheck l b0 b1 = 240 by rw [HS3.out, if_pos hcl])
                      go_wp2
                      go_ret
                      exact ⟨by rw [HS4.out]; rfl, HB7.out⟩
                    | false =>
                      have HS4 := Aside0.mk (show bCheck l b0 b1 = 0 by rw [HS3.out, if_neg (by simp [hcl])])
                      go_wp2
                      go_ret
                      exact ⟨by rw [HS4.out]; rfl, HB7.out⟩
                  · have hs : bCheck l b0 b1 = 240 := by rw [HS2.out, if_pos (by simp [hte])]
                    have ht1 : (x.f2 == s.f2) = false := by simp [hte]
                    have ht2 : (x.f2 != s.f2) = true := by simp [hte]
                    clear hte
                    have HS3 := Aside0.mk hs; clear hs
                    go_wp2
                    go_ret
                    exact ⟨by rw [HS3.out]; rfl, HB6.out⟩
  · have hs : bCheck l b0 b1 = sAll l := by unfold bCheck; rw [if_pos ha]
    have HS := Aside0.mk hs
    have ha1 : (sAll l != 0) = true := by simp [ha]
    have ha2 : (sAll l == 0) = false := by simp [ha]
    clear hs ha
    go_enter Tryd.func17, Tryd.ntmps17
    go_wp2_with fail
    refine (h1.out _ HE.out (Kd.C_below HR.out HB0.out)).mono ?_
    rintro e w1 ⟨rfl, hb1⟩
    have HB1 := Aside0.mk (below_tr HB0.out hb1); clear hb1
    go_wp2
    go_ret
    exact ⟨by rw [HS.out]; rfl, HB1.out⟩
end Go.Proofs.YtbpgoddohhiohaaDoor
