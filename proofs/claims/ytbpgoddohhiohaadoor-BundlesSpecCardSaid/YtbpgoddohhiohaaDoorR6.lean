/- sizarref24: Has, Sections, Check: what they compute. -/
import Derived.Test.YtbpgoddohhiohaaDoorR5
import Derived.Test.YtbpgoddohhiohaaDoorSM
import Derived.Test.YtbpgoddohhiohaaDoorBC
import Derived.Deep.RegionHeld3
namespace Go.Proofs.YtbpgoddohhiohaaDoor
open Go.RowKit Go.Proofs.YtbpgoddohhiohaaDoorW.PrintWords
set_option linter.unusedVariables false
set_option linter.unusedSimpArgs false
theorem new_blk' (w : World) (o : Obj) (g : Nat) (h : g = w.heap.size) : (w.alloc o).heap[g]? = some o := by rw [h]; exact new_blk w o
theorem ibeq_comm' (a b : Int) : (a == b) = (b == a) := by rw [Bool.eq_iff_iff]; simp only [beq_iff_eq]; exact eq_comm
set_option maxRecDepth 100000 in
set_option maxHeartbeats 4000000 in
theorem rhas_calls (A : Option Addr) (c : Nat) (l : List Int) (n : Int) (w : World) (hr : (Kd.int .i64).C w A l.length l) :
    Calls Tryd.prog 35 #[.slice A l.length c, .int .i64 n] w fun e w' => e = .returned (.bool (l.any fun x => n == x)) ∧ Below w.heap.size w w' := by
  have hmax := Kd.C_max hr
  have HR := Aside0.mk hr; clear hr
  go_enter Tryd.func35, Tryd.ntmps35
  go_wp2
  go_loopw [5] (fun i wr => ∃ k : Nat, k ≤ l.length ∧ i = .int .i64 k ∧ Aside0 ((l.take k).any (fun x => n == x) = false) ∧ Aside0 (Below w.heap.size w wr)) (fun i _ => l.length - (intOf i).toNat)
  case atStart => exact ⟨0, Nat.zero_le _, rfl, ⟨by simp⟩, ⟨Below.refl _ _⟩⟩
  case round =>
    obtain ⟨k, hk, rfl, hV, hB⟩ := hrel
    by_cases hlt : k < l.length
    · have hd : (k : Int) < l.length := by omega
      have hp0 : (0 : Int) ≤ k := by omega
      obtain ⟨ad, rfl, hx⟩ := (Kd.reads_of_C (d := (0 : Int)) (Kd.C_below HR.out hB.out)).at_ k (by omega) (by omega)
      simp only [Int.toNat_natCast] at hx
      have hsn := take_snoc' l 0 k hlt
      have hmn : l.getD k 0 ∈ l := by rw [List.getD_eq_getElem?_getD, List.getElem?_eq_getElem hlt]; exact List.getElem_mem hlt
      rw [show l.getD k 0 = rdOf 0 l k from by simp [rdOf]] at hsn hmn
      generalize rdOf 0 l k = y at hx hsn hmn
      have HN := Aside0.mk (show (n == y) = false → (l.take (k + 1)).any (fun x => n == x) = false from fun h => by rw [hsn, List.any_append, hV.out]; simp [h])
      have HY := Aside0.mk (show (n == y) = true → l.any (fun x => n == x) = true from fun h => List.any_eq_true.2 ⟨y, hmn, h⟩)
      rw [ibeq_comm' n y] at HN HY
      clear hsn hmn
      cases he : (y == n) with
      | true =>
        have HS := Aside0.mk (HY.out he)
        go_wp2
        go_ret
        exact ⟨by rw [HS.out]; rfl, hB.out⟩
      | false =>
        have HV := Aside0.mk (HN.out he)
        go_wp2
        exact ⟨⟨k + 1, by omega, by go_num, HV, hB⟩, by simp [intOf]; omega⟩
    · have hd : ¬ (k : Int) < l.length := by omega
      have hs := hV.out
      rw [List.take_of_length_le (by omega)] at hs
      have HS := Aside0.mk hs
      clear hs
      go_wp2
      go_ret
      exact ⟨by rw [HS.out]; rfl, hB.out⟩
def rSecs (l : List S34) (b0 b1 : Int) : List S34 := if b1 = -1 then [(sFind l b0).1] else [(sFind l b0).1, (sFind l b1).1]
set_option maxRecDepth 100000 in
set_option maxHeartbeats 4000000 in
theorem rsecs_calls (A : Option Addr) (c : Nat) (l : List S34) (b0 b1 : Int) (w : World) (hr : k34.C w A l.length l) :
    Calls Tryd.prog 31 #[.slice A l.length c, .agg #[.int .i64 b0, .int .i64 b1]] w fun e w' => ∃ B d, e = .returned (.slice B (rSecs l b0 b1).length d) ∧ (rSecs l b0 b1).length ≤ d ∧ k34.C w' B (rSecs l b0 b1).length (rSecs l b0 b1) ∧ Below w.heap.size w w' := by
  have hb0 := (Below.refl w.heap.size w).alloc (Nat.le_refl _) (.cells #[.int .i64 b0, .int .i64 b1] 24)
  have HX0 := Aside0.mk (new_blk w (.cells #[.int .i64 b0, .int .i64 b1] 24))
  have HR := Aside0.mk hr; have HB0 := Aside0.mk hb0
  have D := Aside0.mk (fun id W hr => rfind_calls A c l id W hr)
  have g := D.out b0 _ (Kd.C_below hr hb0)
  obtain ⟨S0, hS0⟩ : ∃ S0, sFind l b0 = S0 := ⟨_, rfl⟩
  rw [hS0] at g
  obtain ⟨s, sok⟩ := S0
  have G := Aside0.mk g
  have HS0 := Aside0.mk hS0
  clear hr hb0 g hS0
  go_enter Tryd.func31, Tryd.ntmps31
  go_wp2_with fail
  refine G.out.mono ?_
  rintro e w1 ⟨cs, rfl, hK, hb1⟩
  have HK := Aside0.mk hK
  obtain ⟨A5, c5, A6, c6, A7, c7, rfl, -⟩ := k34_open hK
  have hbs := (Below.refl w1.heap.size w1).alloc (Nat.le_refl _) (.cells #[.int .i64 s.f0, .int .i64 s.f1, .int .i64 s.f2, .int .i64 s.f3, .int .i64 s.f4, .slice A5 s.f5.length c5, .slice A6 s.f6.length c6, .slice A7 s.f7.length c7, .bool s.f8] 34)
  have hns := new_blk w1 (.cells #[.int .i64 s.f0, .int .i64 s.f1, .int .i64 s.f2, .int .i64 s.f3, .int .i64 s.f4, .slice A5 s.f5.length c5, .slice A6 s.f6.length c6, .slice A7 s.f7.length c7, .bool s.f8] 34)
  have HBs := Aside0.mk hbs
  have HNs := Aside0.mk hns
  have HB1 := Aside0.mk (below_tr HB0.out (below_tr hb1 hbs))
  have z1 := (blk_cell (blk_low (below_tr hb1 hbs) HX0.out) 1).trans rfl
  have s0 := (blk_cell hns 0).trans rfl; have s1 := (blk_cell hns 1).trans rfl; have s2 := (blk_cell hns 2).trans rfl; have s3 := (blk_cell hns 3).trans rfl; have s4 := (blk_cell hns 4).trans rfl
  have s5 := (blk_cell hns 5).trans rfl; have s6 := (blk_cell hns 6).trans rfl; have s7 := (blk_cell hns 7).trans rfl; have s8 := (blk_cell hns 8).trans rfl
  clear hb1 hbs hns hK G
  by_cases h1 : b1 = -1
  · have e1 : (b1 == -1) = true := by simp [h1]
    have HQ := Aside0.mk (show rSecs l b0 b1 = [s] by unfold rSecs; rw [if_pos h1, HS0.out])
    clear h1
    go_wp2
    go_ret
    rw [HQ.out]
    refine ⟨_, _, rfl, Nat.le_refl _, ?_, below_tr HB1.out ((Below.refl _ _).alloc (Nat.le_refl _) _)⟩
    refine lit_C (ps := [s]) (inner := [.int .i64 s.f0, .int .i64 s.f1, .int .i64 s.f2, .int .i64 s.f3, .int .i64 s.f4, .slice A5 s.f5.length c5, .slice A6 s.f6.length c6, .slice A7 s.f7.length c7, .bool s.f8]) (new_blk' _ _ _ (by simp)) ?_ (by simp)
    exact Reps.snoc (Reps.none _ _) (k34.K_below (below_tr HBs.out ((Below.refl _ _).alloc (Nat.le_refl _) _)) HK.out) rfl
  · have e1 : (b1 == -1) = false := by simp [h1]
    have hq : rSecs l b0 b1 = [s, (sFind l b1).1] := by unfold rSecs; rw [if_neg h1, HS0.out]
    have g2 := D.out b1 _ (Kd.C_below HR.out HB1.out)
    obtain ⟨X0, hX0⟩ : ∃ S0, sFind l b1 = S0 := ⟨_, rfl⟩
    rw [hX0] at g2 hq
    obtain ⟨x, xok⟩ := X0
    have G2 := Aside0.mk g2; have HQ := Aside0.mk hq
    clear h1 g2 hq hX0 s0 s1 s2 s3 s4 s5 s6 s7 s8
    go_wp2_with fail
    refine G2.out.mono ?_
    rintro e w2 ⟨cx, rfl, hKx, hb2⟩
    have HKx := Aside0.mk hKx
    obtain ⟨X5, x5, X6, x6, X7, x7, rfl, -⟩ := k34_open hKx
    have hbx := (Below.refl w2.heap.size w2).alloc (Nat.le_refl _) (.cells #[.int .i64 x.f0, .int .i64 x.f1, .int .i64 x.f2, .int .i64 x.f3, .int .i64 x.f4, .slice X5 x.f5.length x5, .slice X6 x.f6.length x6, .slice X7 x.f7.length x7, .bool x.f8] 34)
    have hnx := new_blk w2 (.cells #[.int .i64 x.f0, .int .i64 x.f1, .int .i64 x.f2, .int .i64 x.f3, .int .i64 x.f4, .slice X5 x.f5.length x5, .slice X6 x.f6.length x6, .slice X7 x.f7.length x7, .bool x.f8] 34)
    have hns := blk_low (below_tr hb2 hbx) HNs.out
    have HB2 := Aside0.mk (below_tr HB1.out (below_tr hb2 hbx)); have HBs2 := Aside0.mk (below_tr HBs.out (below_tr hb2 hbx)); have HBx := Aside0.mk hbx
    have s0 := (blk_cell hns 0).trans rfl; have s1 := (blk_cell hns 1).trans rfl; have s2 := (blk_cell hns 2).trans rfl; have s3 := (blk_cell hns 3).trans rfl; have s4 := (blk_cell hns 4).trans rfl
    have s5 := (blk_cell hns 5).trans rfl; have s6 := (blk_cell hns 6).trans rfl; have s7 := (blk_cell hns 7).trans rfl; have s8 := (blk_cell hns 8).trans rfl
    have t0 := (blk_cell hnx 0).trans rfl; have t1 := (blk_cell hnx 1).trans rfl; have t2 := (blk_cell hnx 2).trans rfl; have t3 := (blk_cell hnx 3).trans rfl; have t4 := (blk_cell hnx 4).trans rfl
    have t5 := (blk_cell hnx 5).trans rfl; have t6 := (blk_cell hnx 6).trans rfl; have t7 := (blk_cell hnx 7).trans rfl; have t8 := (blk_cell hnx 8).trans rfl
    clear hb2 hbx hnx hns hKx G2 z1
    go_wp2
    go_ret
    rw [HQ.out]
    refine ⟨_, _, rfl, Nat.le_refl _, ?_, below_tr HB2.out ((Below.refl _ _).alloc (Nat.le_refl _) _)⟩
    refine lit_C (ps := [s, x]) (inner := [.int .i64 s.f0, .int .i64 s.f1, .int .i64 s.f2, .int .i64 s.f3, .int .i64 s.f4, .slice A5 s.f5.length c5, .slice A6 s.f6.length c6, .slice A7 s.f7.length c7, .bool s.f8, .int .i64 x.f0, .int .i64 x.f1, .int .i64 x.f2, .int .i64 x.f3, .int .i64 x.f4, .slice X5 x.f5.length x5, .slice X6 x.f6.length x6, .slice X7 x.f7.length x7, .bool x.f8]) (new_blk' _ _ _ (by simp)) ?_ (by simp)
    exact Reps.snoc (Reps.snoc (Reps.none _ _) (k34.K_below (below_tr HBs2.out ((Below.refl _ _).alloc (Nat.le_refl _) _)) HK.out) rfl) (k34.K_below (below_tr HBx.out ((Below.refl _ _).alloc (Nat.le_refl _) _)) HKx.out) rfl

theorem bCheck_e {l : List S34} {b0 b1 : Int} (h0 : sAll l = 0) (h1 : (sFind l b0).2 = true) (h2 : (sFind l b0).1.f8 = false) (h7 : (sFind l b0).1.f7.length = 0) : bCheck l b0 b1 = if b1 = -1 then 0 else 240 := by
  have hid := (sFind_mem h1).2
  unfold bCheck
  rw [if_neg (by simp [h0]), if_neg (by simp [h1, h2])]
  by_cases hb : b1 = -1
  · rw [if_pos hb, if_pos ⟨h7, by rw [hid]; simp [hb]⟩]
  · rw [if_neg hb, if_neg (fun h => hb (by have := h.2; simp only [Bool.and_eq_true, beq_iff_eq] at this; exact this.2)), if_pos]
    right; left
    rw [List.eq_nil_of_length_eq_zero h7]; rfl
theorem bCheck_l {l : List S34} {b0 b1 : Int} (h0 : sAll l = 0) (h1 : (sFind l b0).2 = true) (h2 : (sFind l b0).1.f8 = false) (h7 : (sFind l b0).1.f7.length ≠ 0) : bCheck l b0 b1 = if (sFind l b1).2 = false ∨ ((sFind l b0).1.f7.any fun x => b1 == x) = false ∨ (sFind l b1).1.f8 = false ∨ (sFind l b1).1.f2 ≠ (sFind l b0).1.f2 then 240 else if (mClash (sFind l b0).1.f5 (sFind l b1).1.f5).1 = true then 240 else 0 := by
  unfold bCheck
  rw [if_neg (by simp [h0]), if_neg (by simp [h1, h2]), if_neg (fun h => h7 h.1)]
theorem bCheck_n {l : List S34} {b0 b1 : Int} (h0 : sAll l = 0) (h1 : (sFind l b0).2 = false ∨ (sFind l b0).1.f8 = true) : bCheck l b0 b1 = 240 := by
  unfold bCheck
  rw [if_neg (by simp [h0]), if_pos h1]
set_option maxRecDepth 100000 in
set_option maxHeartbeats 8000000 in
theorem rcheck24_calls (A : Option Addr) (c : Nat) (l : List S34) (b0 b1 : Int) (w : World) (hr : k34.C w A l.length l) :
    Calls Tryd.prog 18 #[.slice A l.length c, .agg #[.int .i64 b0, .int .i64 b1]] w fun e w' => e = .returned (.int .i64 (bCheck l b0 b1)) ∧ Below w.heap.size w w' := by
  have HR := Aside0.mk hr
  have hb0 := (Below.refl w.heap.size w).alloc (Nat.le_refl _) (.cells #[.int .i64 b0, .int .i64 b1] 24)
  have HX0 := Aside0.mk (new_blk w (.cells #[.int .i64 b0, .int .i64 b1] 24))
  have HB0 := Aside0.mk hb0
  have h1 := Aside0.mk (rall_calls A c l _ (Kd.C_below hr hb0))
  have h2 := Aside0.mk (fun id W hr => rfind_calls A c l id W hr)
  have h3 := Aside0.mk (fun A c l x W hr => rhas_calls A c l x W hr)
  have h4 := Aside0.mk (fun A c a B d b W h1 h3 => rclash22_calls A c a B d b W h1 h3)
  clear hr hb0
  by_cases ha : sAll l = 0
  · rw [ha] at h1
    have HE := Aside0.mk (fun h h' h'' => bCheck_e (b1 := b1) (b0 := b0) ha h h' h''); have HL := Aside0.mk (fun h h' h'' => bCheck_l (b1 := b1) (b0 := b0) ha h h' h''); have HN := Aside0.mk (fun h => bCheck_n (b1 := b1) (b0 := b0) ha h)
    have F1 := Aside0.mk (h2.out b0); have F2 := Aside0.mk (h2.out b1)
    clear ha h2
    generalize sFind l b0 = s at HE HL HN F1
    generalize sFind l b1 = x at HL F2
    obtain ⟨s, sok⟩ := s
    obtain ⟨x, xok⟩ := x
    dsimp only at HE HL HN F1 F2
    go_enter Tryd.func18, Tryd.ntmps18
    go_wp2_with fail
    refine h1.out.mono ?_
    rintro e w1 ⟨rfl, hb1⟩
    have HB1 := Aside0.mk (below_tr HB0.out hb1); have hn1 := blk_low hb1 HX0.out
    have HX1 := Aside0.mk hn1
    have z0 := (blk_cell hn1 0).trans rfl
    clear hb1 hn1 h1
    go_wp2_with fail
    refine (F1.out _ (Kd.C_below HR.out HB1.out)).mono ?_
    rintro e w2 ⟨cs, rfl, hK, hb2⟩
    obtain ⟨A5, c5, A6, c6, A7, c7, rfl, l5, g5, l6, g6, l7, g7⟩ := k34_open hK
    have hbs := (Below.refl w2.heap.size w2).alloc (Nat.le_refl _) (.cells #[.int .i64 s.f0, .int .i64 s.f1, .int .i64 s.f2, .int .i64 s.f3, .int .i64 s.f4, .slice A5 s.f5.length c5, .slice A6 s.f6.length c6, .slice A7 s.f7.length c7, .bool s.f8] 34)
    have HNs := Aside0.mk (new_blk w2 (.cells #[.int .i64 s.f0, .int .i64 s.f1, .int .i64 s.f2, .int .i64 s.f3, .int .i64 s.f4, .slice A5 s.f5.length c5, .slice A6 s.f6.length c6, .slice A7 s.f7.length c7, .bool s.f8] 34))
    have G5 := Aside0.mk (Kd.C_below g5 hbs); have G7 := Aside0.mk (Kd.C_below g7 hbs)
    have hm7 := Kd.C_max g7
    have hbT := below_tr hb2 hbs
    have HB2 := Aside0.mk (below_tr HB1.out hbT); have HX2 := Aside0.mk (blk_low hbT HX1.out)
    clear z0 hb2 hbs hbT hK g5 g6 g7 l5 l6 l7 F1
    cases sok with
    | false =>
      have HS := Aside0.mk (HN.out (.inl rfl))
      go_wp2
      go_ret
      exact ⟨by rw [HS.out]; rfl, HB2.out⟩
    | true =>
      cases h8 : s.f8 with
      | true =>
        rw [h8] at HB2
        have HS := Aside0.mk (HN.out (.inr h8))
        go_wp2
        go_ret
        exact ⟨by rw [HS.out]; rfl, HB2.out⟩
      | false =>
        rw [h8] at HNs HB2 HX2 G5 G7
        have HE1 := Aside0.mk (HE.out rfl h8); have HL1 := Aside0.mk (HL.out rfl h8)
        clear HE HL HN h8
        have hns := HNs.out; have hxs := HX2.out
        obtain ⟨n7, hn7⟩ : ∃ n7, s.f7.length = n7 := ⟨_, rfl⟩
        rw [hn7] at hns HNs HB2 HX2 hxs G5 G7 HE1 HL1 hm7 ⊢
        have HN7 := Aside0.mk hn7
        clear hn7
        have z1 := (blk_cell hxs 1).trans rfl
        have s7 := (blk_cell hns 7).trans rfl
        by_cases h0 : n7 = 0
        · have hE := HE1.out h0
          have h00 : ((n7 : Int) == 0) = true := by simp [h0]
          have h02 : (n7 == 0) = true := by simp [h0]
          have h03 : decide (n7 = 0) = true := by simp [h0]
          clear h0
          by_cases hb : b1 = -1
          · rw [if_pos hb] at hE
            have HS := Aside0.mk hE
            have e1 : (b1 != -1) = false := by simp [hb]
            have e2 : (b1 == -1) = true := by simp [hb]
            clear hb hE
            go_wp2
            all_goals
              go_ret
              exact ⟨by rw [HS.out]; rfl, HB2.out⟩
          · rw [if_neg hb] at hE
            have HS := Aside0.mk hE
            have e1 : (b1 != -1) = true := by simp [hb]
            have e2 : (b1 == -1) = false := by simp [hb]
            clear hb hE
            go_wp2
            all_goals
              go_ret
              exact ⟨by rw [HS.out]; rfl, HB2.out⟩
        · have HS2 := Aside0.mk (HL1.out h0)
          have h00 : ((n7 : Int) == 0) = false := by simp [h0]
          have h02 : (n7 == 0) = false := by simp [h0]
          have h03 : decide (n7 = 0) = false := by simp [h0]
          clear h0 HE1 HL1
          have hal := Aside0.mk (fun o => (Below.refl w2.heap.size w2).alloc (Nat.le_refl _) o)
          go_wp2_with fail
          refine (F2.out _ (Kd.C_below HR.out HB2.out)).mono ?_
          rintro e w3 ⟨cx, rfl, hKx, hb3⟩
          obtain ⟨X5, x5, X6, x6, X7, x7, rfl, xl5, xg5, -⟩ := k34_open hKx
          have hbx := (Below.refl w3.heap.size w3).alloc (Nat.le_refl _) (.cells #[.int .i64 x.f0, .int .i64 x.f1, .int .i64 x.f2, .int .i64 x.f3, .int .i64 x.f4, .slice X5 x.f5.length x5, .slice X6 x.f6.length x6, .slice X7 x.f7.length x7, .bool x.f8] 34)
          have hnx := new_blk w3 (.cells #[.int .i64 x.f0, .int .i64 x.f1, .int .i64 x.f2, .int .i64 x.f3, .int .i64 x.f4, .slice X5 x.f5.length x5, .slice X6 x.f6.length x6, .slice X7 x.f7.length x7, .bool x.f8] 34)
          have hbU := below_tr hb3 hbx
          have XG5 := Aside0.mk (Kd.C_below xg5 hbx); have G5b := Aside0.mk (Kd.C_below G5.out hbU); have G7b := Aside0.mk (Kd.C_below G7.out hbU)
          have hns3 := blk_low hbU HNs.out; have hxs3 := blk_low hbU HX2.out
          have HB3 := Aside0.mk (below_tr HB2.out hbU)
          have HNS := Aside0.mk hns3; have HNX := Aside0.mk hnx
          clear hb3 hKx hbx hbU xg5 xl5 s7 z1 hns hxs G5 G7 h00 h02 h03
          have y1 := (blk_cell hxs3 1).trans rfl; have y7 := (blk_cell hns3 7).trans rfl
          clear hxs3 hns3 hnx
          cases xok with
          | false =>
            have HS3 := Aside0.mk (show bCheck l b0 b1 = 240 by rw [HS2.out]; simp)
            go_wp2
            go_ret
            exact ⟨by rw [HS3.out]; rfl, HB3.out⟩
          | true =>
            have hc3 := h3.out A7 c7 s.f7 b1 _ (show (Kd.int .i64).C _ A7 s.f7.length s.f7 by rw [HN7.out]; exact G7b.out)
            rw [HN7.out] at hc3
            have HC3 := Aside0.mk hc3
            clear hc3
            go_wp2_with fail
            refine HC3.out.mono ?_
            rintro e w4 ⟨rfl, hb4⟩
            have HB4 := Aside0.mk (below_tr HB3.out hb4)
            have hns4 := blk_low hb4 HNS.out; have hnx4 := blk_low hb4 HNX.out
            have G5c := Aside0.mk (Kd.C_below G5b.out hb4); have XG5c := Aside0.mk (Kd.C_below XG5.out hb4)
            clear hb4 y1 y7 HC3
            have v2 := (blk_cell hns4 2).trans rfl; have v5 := (blk_cell hns4 5).trans rfl
            have u2 := (blk_cell hnx4 2).trans rfl; have u5 := (blk_cell hnx4 5).trans rfl; have u8 := (blk_cell hnx4 8).trans rfl
            clear hns4 hnx4
            cases hcn : (s.f7.any fun x => b1 == x) with
            | false =>
              have HS3 := Aside0.mk (show bCheck l b0 b1 = 240 by rw [HS2.out, if_pos (by simp [hcn])])
              go_wp2
              go_ret
              exact ⟨by rw [HS3.out]; rfl, HB4.out⟩
            | true =>
              cases hx8 : x.f8 with
              | false =>
                rw [hx8] at u8
                have HS3 := Aside0.mk (show bCheck l b0 b1 = 240 by rw [HS2.out, if_pos (by simp [hx8])])
                go_wp2
                go_ret
                exact ⟨by rw [HS3.out]; rfl, HB4.out⟩
              | true =>
                rw [hx8] at u8
                by_cases hte : x.f2 = s.f2
                · have HS3 := Aside0.mk (show bCheck l b0 b1 = if (mClash s.f5 x.f5).1 = true then 240 else 0 by
                    rw [HS2.out, if_neg]
                    rw [hcn, hx8]
                    simp [hte])
                  have ht1 : (x.f2 == s.f2) = true := by simp [hte]
                  have ht2 : (x.f2 != s.f2) = false := by simp [hte]
                  clear hte
                  have HC4 := Aside0.mk (h4.out A5 c5 s.f5 X5 x5 x.f5 w4 G5c.out XG5c.out)
                  go_wp2_with fail
                  refine HC4.out.mono ?_
                  rintro e w5 ⟨rfl, hb5⟩
                  have HB5 := Aside0.mk (below_tr HB4.out hb5)
                  clear hb5
                  cases hcl : (mClash s.f5 x.f5).1 with
                  | true =>
                    have HS4 := Aside0.mk (show bCheck l b0 b1 = 240 by rw [HS3.out, if_pos hcl])
                    go_wp2
                    go_ret
                    exact ⟨by rw [HS4.out]; rfl, HB5.out⟩
                  | false =>
                    have HS4 := Aside0.mk (show bCheck l b0 b1 = 0 by rw [HS3.out, if_neg (by simp [hcl])])
                    go_wp2
                    go_ret
                    exact ⟨by rw [HS4.out]; rfl, HB5.out⟩
                · have HS3 := Aside0.mk (show bCheck l b0 b1 = 240 by rw [HS2.out, if_pos (by simp [hte])])
                  have ht1 : (x.f2 == s.f2) = false := by simp [hte]
                  have ht2 : (x.f2 != s.f2) = true := by simp [hte]
                  clear hte
                  go_wp2
                  go_ret
                  exact ⟨by rw [HS3.out]; rfl, HB4.out⟩
  · have HS := Aside0.mk (show bCheck l b0 b1 = sAll l by unfold bCheck; rw [if_pos ha])
    obtain ⟨q, hq⟩ : ∃ q, sAll l = q := ⟨_, rfl⟩
    rw [hq] at h1 HS ha
    have ha1 : (q != 0) = true := by simp [ha]
    have ha2 : (q == 0) = false := by simp [ha]
    clear ha hq
    go_enter Tryd.func18, Tryd.ntmps18
    go_wp2_with fail
    refine h1.out.mono ?_
    rintro e w1 ⟨rfl, hb1⟩
    have HB1 := Aside0.mk (below_tr HB0.out hb1); clear hb1
    go_wp2
    go_ret
    exact ⟨by rw [HS.out]; rfl, HB1.out⟩
end Go.Proofs.YtbpgoddohhiohaaDoor
