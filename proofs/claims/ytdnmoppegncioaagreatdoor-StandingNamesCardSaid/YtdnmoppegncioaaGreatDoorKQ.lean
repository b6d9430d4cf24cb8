/- standing.Of at valid arguments, over any contracts of book.System, record.Of and record.Counted that succeed; and at arguments that are not valid. (Printed by gen_kq.py.) -/
import Derived.Test.YtdnmoppegncioaaGreatDoorKW
import Derived.Test.YtdnmoppegncioaaGreatDoorKX
import Derived.BigQuiet
import Derived.Deep.QuietTactic
namespace Go.Proofs.YtdnmoppegncioaaGreatDoor
open Go.RowKit Go.Proofs.YtdnmoppegncioaaGreatDoorW.PrintWords
set_option linter.unusedVariables false
set_option linter.unusedSimpArgs false
theorem meanA_i64 (l : List S141) : I64 (meanA l) := by
  unfold meanA newA newOk I64
  generalize (pntS l).toNat / (pntS l).toNat.gcd (credS l).toNat = a
  generalize (credS l).toNat / (pntS l).toNat.gcd (credS l).toNat = b
  by_cases h : a ≤ 1073741824
  · split
    · split
      · omega
      · split <;> omega
    · omega
  · rw [decide_eq_false h, Bool.false_and]
    split
    · split
      · omega
      · rw [if_neg Bool.false_ne_true]; omega
    · omega
set_option maxRecDepth 100000 in
set_option maxHeartbeats 8000000 in
theorem sof_class (D1 D2 D3 D4 : Option Addr) (n1 n2 n3 n4 e1 e2 e3 e4 : Nat) (st ob t kn : Int) (s : S26) (P0 P1 P2 P3 : Option Addr) (m3 q0 q1 q2 q3 : Nat) (la lc : List S141) (rs ra rc : List S119) (w : World)
    (hst : 0 ≤ st ∧ st < 20000) (ht : 0 ≤ t ∧ t < 1024) (hs : SysAt w s P0 P1 P2)
    (hsys : ∀ V, Below w.heap.size w V → Calls Tryz.prog 42 #[.agg #[.slice D1 n1 e1, .slice D2 n2 e2, .slice D3 n3 e3, .slice D4 n4 e4], .int .i64 t, .int .i64 kn] V fun e w' => ∃ rv, e = .returned (.tuple #[.agg #[.slice P0 s.f0.length q0, .slice P1 s.f1.length q1, .slice P2 s.f2.length q2, .slice P3 m3 q3], rv]) ∧ k119.R 119 w' V.heap.size (fun _ => True) rv rs ∧ Below V.heap.size V w')
    (hof : ∀ V, Below w.heap.size w V → Calls Tryz.prog 44 #[.agg #[.slice D1 n1 e1, .slice D2 n2 e2, .slice D3 n3 e3, .slice D4 n4 e4], .int .i64 st, .int .i64 t, .int .i64 kn] V fun e w' => ∃ av rv, e = .returned (.tuple #[.agg #[.int .i64 st, av], rv, .int .i64 0]) ∧ k141.R 141 w' V.heap.size (fun _ => True) av la ∧ k119.R 119 w' V.heap.size (fun _ => True) rv ra ∧ Below V.heap.size V w')
    (hct : ∀ V A c, Below w.heap.size w V → k141.C V A la.length la → Calls Tryz.prog 45 #[.agg #[.slice D1 n1 e1, .slice D2 n2 e2, .slice D3 n3 e3, .slice D4 n4 e4], .agg #[.int .i64 st, .slice A la.length c], .int .i64 t, .int .i64 kn] V fun e w' => ∃ lv rv, e = .returned (.tuple #[lv, rv, .int .i64 0]) ∧ k141.R 141 w' V.heap.size (fun _ => True) lv lc ∧ k119.R 119 w' V.heap.size (fun _ => True) rv rc ∧ Below V.heap.size V w')
    (hac : aCheck lc = 0) (hme : meanE lc = 0) (hlc : lc.length ≤ 10000000000000000) (hl : (rs.length + ra.length + rc.length) * 40 ≤ 140737488355328) :
    Calls Tryz.prog 20 #[.agg #[.slice D1 n1 e1, .slice D2 n2 e2, .slice D3 n3 e3, .slice D4 n4 e4], .int .i64 2, .int .i64 st, .int .i64 ob, .int .i64 t, .int .i64 kn] w fun e w' => ∃ rv, e = .returned (.tuple #[.int .i64 (ofN s s.f0 (capE (earnS lc)) ⟨meanA lc, meanB lc⟩), rv, .int .i64 (ofE s (capE (earnS lc)) ⟨meanA lc, meanB lc⟩)]) ∧ k119.R 119 w' w.heap.size (fun _ => True) rv (rs ++ (ra ++ rc)) ∧ Below w.heap.size w w' := by
  have HSys := Aside0.mk hsys; have HOf := Aside0.mk hof; have HCt := Aside0.mk hct; have HSA := Aside0.mk hs
  clear hsys hof hct hs
  have g1 : decide (st < 0) = false := decide_eq_false (by omega)
  have g2 : decide (20000 ≤ st) = false := decide_eq_false (by omega)
  have g3 : decide (t < 0) = false := decide_eq_false (by omega)
  have g4 : decide (1024 ≤ t) = false := decide_eq_false (by omega)
  have b1 := ((Below.refl w.heap.size w).alloc (Nat.le_refl _) (.cells #[.slice D1 n1 e1, .slice D2 n2 e2, .slice D3 n3 e3, .slice D4 n4 e4] 58)).alloc (by simp) (.cells #[.slice none 0 0, .slice D1 n1 e1, .slice D2 n2 e2, .slice D3 n3 e3, .slice D4 n4 e4, .int .i64 t, .int .i64 kn] 75)
  have x1 := new_blk (w.alloc (.cells #[.slice D1 n1 e1, .slice D2 n2 e2, .slice D3 n3 e3, .slice D4 n4 e4] 58)) (.cells #[.slice none 0 0, .slice D1 n1 e1, .slice D2 n2 e2, .slice D3 n3 e3, .slice D4 n4 e4, .int .i64 t, .int .i64 kn] 75)
  rw [World.size_alloc] at x1
  have HB1 := Aside0.mk b1; have HX1 := Aside0.mk x1; clear b1 x1
  go_enter Tryz.func20, Tryz.ntmps20
  go_wp2_with fail
  generalize hw1 : (w.alloc (.cells #[.slice D1 n1 e1, .slice D2 n2 e2, .slice D3 n3 e3, .slice D4 n4 e4] 58)).alloc (.cells #[.slice none 0 0, .slice D1 n1 e1, .slice D2 n2 e2, .slice D3 n3 e3, .slice D4 n4 e4, .int .i64 t, .int .i64 kn] 75) = w1 at *
  (try rw [hw1]); clear hw1
  refine (vsys_calls (w.heap.size + 1) (.slice none 0 0) (.slice D1 n1 e1) (.slice D2 n2 e2) (.slice D3 n3 e3) (.slice D4 n4 e4) t kn P0 P1 P2 P3 s.f0.length s.f1.length s.f2.length m3 q0 q1 q2 q3 [] rs w.heap.size w w1 (fun V hV => HSys.out V (below_tr HB1.out hV)) HX1.out (Kd.R_nil _ _ _ _ _) HB1.out.size (Nat.le_succ _) (by simp; omega) HB1.out).mono ?_
  rintro e w2 ⟨rfl, v2, hx2, hR2, hb2⟩
  rw [List.nil_append] at hR2
  have HX2 := Aside0.mk (blk_alloc hx2 (.cells #[.slice P0 s.f0.length q0, .slice P1 s.f1.length q1, .slice P2 s.f2.length q2, .slice P3 m3 q3] 26)); have HR2 := Aside0.mk (Kd.R_below hR2 ((Below.refl w2.heap.size w2).alloc (Nat.le_refl _) (.cells #[.slice P0 s.f0.length q0, .slice P1 s.f1.length q1, .slice P2 s.f2.length q2, .slice P3 m3 q3] 26))); have HB2 := Aside0.mk (hb2.alloc hb2.size (.cells #[.slice P0 s.f0.length q0, .slice P1 s.f1.length q1, .slice P2 s.f2.length q2, .slice P3 m3 q3] 26)); have HN2 := Aside0.mk (new_blk w2 (.cells #[.slice P0 s.f0.length q0, .slice P1 s.f1.length q1, .slice P2 s.f2.length q2, .slice P3 m3 q3] 26))
  clear hx2 hR2 hb2 HSys HX1 HB1
  go_wp2_with fail
  generalize hw3 : w2.alloc (.cells #[.slice P0 s.f0.length q0, .slice P1 s.f1.length q1, .slice P2 s.f2.length q2, .slice P3 m3 q3] 26) = w3 at *
  (try rw [hw3]); clear hw3
  refine (vcounted_calls (w.heap.size + 1) v2 (.slice D1 n1 e1) (.slice D2 n2 e2) (.slice D3 n3 e3) (.slice D4 n4 e4) st t kn la lc rs ra rc w.heap.size w w3 HOf.out HCt.out hac hme hlc HX2.out HR2.out HB2.out.size (Nat.le_succ _) hl HB2.out).mono ?_
  rintro e w4 ⟨rfl, v4, hx4, hR4, hb4, hk4⟩
  have hn4 := hk4 _ _ _ _ (by decide) (by decide) HN2.out
  have HX4 := Aside0.mk (blk_alloc hx4 (.cells #[.int .i64 (meanA lc), .int .i64 (meanB lc)] 28)); have HN4 := Aside0.mk (blk_alloc hn4 (.cells #[.int .i64 (meanA lc), .int .i64 (meanB lc)] 28)); have HR4 := Aside0.mk (Kd.R_below hR4 ((Below.refl w4.heap.size w4).alloc (Nat.le_refl _) (.cells #[.int .i64 (meanA lc), .int .i64 (meanB lc)] 28))); have HB4 := Aside0.mk (hb4.alloc hb4.size (.cells #[.int .i64 (meanA lc), .int .i64 (meanB lc)] 28)); have HM4 := Aside0.mk (new_blk w4 (.cells #[.int .i64 (meanA lc), .int .i64 (meanB lc)] 28))
  have z0 : ∀ o : Obj, (w4.alloc o).cell? ⟨w2.heap.size, 0, none⟩ = some (.slice P0 s.f0.length q0) := fun o => (blk_cell (blk_alloc hn4 o) 0).trans rfl
  have z1 : ∀ o : Obj, (w4.alloc o).cell? ⟨w2.heap.size, 1, none⟩ = some (.slice P1 s.f1.length q1) := fun o => (blk_cell (blk_alloc hn4 o) 1).trans rfl
  have z2 : ∀ o : Obj, (w4.alloc o).cell? ⟨w2.heap.size, 2, none⟩ = some (.slice P2 s.f2.length q2) := fun o => (blk_cell (blk_alloc hn4 o) 2).trans rfl
  have z3 : ∀ o : Obj, (w4.alloc o).cell? ⟨w2.heap.size, 3, none⟩ = some (.slice P3 m3 q3) := fun o => (blk_cell (blk_alloc hn4 o) 3).trans rfl
  clear hx4 hn4 hR4 hb4 hk4 HX2 HR2 HB2 HN2 HOf HCt
  go_wp2_with fail
  refine (class_calls s P0 q0 P1 q1 P2 q2 (.slice P3 m3 q3) (capE (earnS lc)) ⟨meanA lc, meanB lc⟩ _ (HSA.out.below HB4.out) (meanA_i64 lc)).mono ?_
  rintro e w5 ⟨rfl, hb5⟩
  have hx5 := blk_low hb5 HX4.out
  have hz0 := (blk_cell hx5 0).trans rfl
  have HR5 := Aside0.mk (Kd.R_below HR4.out hb5); have HB5 := Aside0.mk (below_tr HB4.out hb5)
  obtain ⟨A4, c4, rfl⟩ := Kd.R_slice HR5.out
  clear hb5 hx5 HX4 HR4 HB4 z0 z1 z2 z3 HN4 HM4
  go_wp2
  go_quiet (fail)
  go_wp2
  exact bodyPost_ret (v := .tuple #[.int .i64 (ofN s s.f0 (capE (earnS lc)) ⟨meanA lc, meanB lc⟩), .slice A4 (rs ++ (ra ++ rc)).length c4, .int .i64 (ofE s (capE (earnS lc)) ⟨meanA lc, meanB lc⟩)]) (by simp [results, Tryz.f20, go_sem]) rfl ⟨_, rfl, Kd.R_below HR5.out (pw_below_drewN (Below.refl _ _) _), pw_below_drewN HB5.out _⟩
set_option maxRecDepth 100000 in
set_option maxHeartbeats 8000000 in
theorem sof_honour (D1 D2 D3 D4 : Option Addr) (n1 n2 n3 n4 e1 e2 e3 e4 : Nat) (st ob t kn : Int) (s : S26) (P0 P1 P2 P3 : Option Addr) (m3 q0 q1 q2 q3 : Nat) (la lc : List S141) (rs ra rc : List S119) (w : World)
    (hst : 0 ≤ st ∧ st < 20000) (ht : 0 ≤ t ∧ t < 1024) (hs : SysAt w s P0 P1 P2)
    (hsys : ∀ V, Below w.heap.size w V → Calls Tryz.prog 42 #[.agg #[.slice D1 n1 e1, .slice D2 n2 e2, .slice D3 n3 e3, .slice D4 n4 e4], .int .i64 t, .int .i64 kn] V fun e w' => ∃ rv, e = .returned (.tuple #[.agg #[.slice P0 s.f0.length q0, .slice P1 s.f1.length q1, .slice P2 s.f2.length q2, .slice P3 m3 q3], rv]) ∧ k119.R 119 w' V.heap.size (fun _ => True) rv rs ∧ Below V.heap.size V w')
    (hof : ∀ V, Below w.heap.size w V → Calls Tryz.prog 44 #[.agg #[.slice D1 n1 e1, .slice D2 n2 e2, .slice D3 n3 e3, .slice D4 n4 e4], .int .i64 st, .int .i64 t, .int .i64 kn] V fun e w' => ∃ av rv, e = .returned (.tuple #[.agg #[.int .i64 st, av], rv, .int .i64 0]) ∧ k141.R 141 w' V.heap.size (fun _ => True) av la ∧ k119.R 119 w' V.heap.size (fun _ => True) rv ra ∧ Below V.heap.size V w')
    (hct : ∀ V A c, Below w.heap.size w V → k141.C V A la.length la → Calls Tryz.prog 45 #[.agg #[.slice D1 n1 e1, .slice D2 n2 e2, .slice D3 n3 e3, .slice D4 n4 e4], .agg #[.int .i64 st, .slice A la.length c], .int .i64 t, .int .i64 kn] V fun e w' => ∃ lv rv, e = .returned (.tuple #[lv, rv, .int .i64 0]) ∧ k141.R 141 w' V.heap.size (fun _ => True) lv lc ∧ k119.R 119 w' V.heap.size (fun _ => True) rv rc ∧ Below V.heap.size V w')
    (hac : aCheck lc = 0) (hme : meanE lc = 0) (hlc : lc.length ≤ 10000000000000000) (hl : (rs.length + ra.length + rc.length) * 40 ≤ 140737488355328) :
    Calls Tryz.prog 20 #[.agg #[.slice D1 n1 e1, .slice D2 n2 e2, .slice D3 n3 e3, .slice D4 n4 e4], .int .i64 4, .int .i64 st, .int .i64 ob, .int .i64 t, .int .i64 kn] w fun e w' => ∃ rv, e = .returned (.tuple #[.int .i64 (ofN s s.f2 (capE (earnS lc)) ⟨meanA lc, meanB lc⟩), rv, .int .i64 (ofE s (capE (earnS lc)) ⟨meanA lc, meanB lc⟩)]) ∧ k119.R 119 w' w.heap.size (fun _ => True) rv (rs ++ (ra ++ rc)) ∧ Below w.heap.size w w' := by
  have HSys := Aside0.mk hsys; have HOf := Aside0.mk hof; have HCt := Aside0.mk hct; have HSA := Aside0.mk hs
  clear hsys hof hct hs
  have g1 : decide (st < 0) = false := decide_eq_false (by omega)
  have g2 : decide (20000 ≤ st) = false := decide_eq_false (by omega)
  have g3 : decide (t < 0) = false := decide_eq_false (by omega)
  have g4 : decide (1024 ≤ t) = false := decide_eq_false (by omega)
  have b1 := ((Below.refl w.heap.size w).alloc (Nat.le_refl _) (.cells #[.slice D1 n1 e1, .slice D2 n2 e2, .slice D3 n3 e3, .slice D4 n4 e4] 58)).alloc (by simp) (.cells #[.slice none 0 0, .slice D1 n1 e1, .slice D2 n2 e2, .slice D3 n3 e3, .slice D4 n4 e4, .int .i64 t, .int .i64 kn] 75)
  have x1 := new_blk (w.alloc (.cells #[.slice D1 n1 e1, .slice D2 n2 e2, .slice D3 n3 e3, .slice D4 n4 e4] 58)) (.cells #[.slice none 0 0, .slice D1 n1 e1, .slice D2 n2 e2, .slice D3 n3 e3, .slice D4 n4 e4, .int .i64 t, .int .i64 kn] 75)
  rw [World.size_alloc] at x1
  have HB1 := Aside0.mk b1; have HX1 := Aside0.mk x1; clear b1 x1
  go_enter Tryz.func20, Tryz.ntmps20
  go_wp2_with fail
  generalize hw1 : (w.alloc (.cells #[.slice D1 n1 e1, .slice D2 n2 e2, .slice D3 n3 e3, .slice D4 n4 e4] 58)).alloc (.cells #[.slice none 0 0, .slice D1 n1 e1, .slice D2 n2 e2, .slice D3 n3 e3, .slice D4 n4 e4, .int .i64 t, .int .i64 kn] 75) = w1 at *
  (try rw [hw1]); clear hw1
  refine (vsys_calls (w.heap.size + 1) (.slice none 0 0) (.slice D1 n1 e1) (.slice D2 n2 e2) (.slice D3 n3 e3) (.slice D4 n4 e4) t kn P0 P1 P2 P3 s.f0.length s.f1.length s.f2.length m3 q0 q1 q2 q3 [] rs w.heap.size w w1 (fun V hV => HSys.out V (below_tr HB1.out hV)) HX1.out (Kd.R_nil _ _ _ _ _) HB1.out.size (Nat.le_succ _) (by simp; omega) HB1.out).mono ?_
  rintro e w2 ⟨rfl, v2, hx2, hR2, hb2⟩
  rw [List.nil_append] at hR2
  have HX2 := Aside0.mk (blk_alloc hx2 (.cells #[.slice P0 s.f0.length q0, .slice P1 s.f1.length q1, .slice P2 s.f2.length q2, .slice P3 m3 q3] 26)); have HR2 := Aside0.mk (Kd.R_below hR2 ((Below.refl w2.heap.size w2).alloc (Nat.le_refl _) (.cells #[.slice P0 s.f0.length q0, .slice P1 s.f1.length q1, .slice P2 s.f2.length q2, .slice P3 m3 q3] 26))); have HB2 := Aside0.mk (hb2.alloc hb2.size (.cells #[.slice P0 s.f0.length q0, .slice P1 s.f1.length q1, .slice P2 s.f2.length q2, .slice P3 m3 q3] 26)); have HN2 := Aside0.mk (new_blk w2 (.cells #[.slice P0 s.f0.length q0, .slice P1 s.f1.length q1, .slice P2 s.f2.length q2, .slice P3 m3 q3] 26))
  clear hx2 hR2 hb2 HSys HX1 HB1
  go_wp2_with fail
  generalize hw3 : w2.alloc (.cells #[.slice P0 s.f0.length q0, .slice P1 s.f1.length q1, .slice P2 s.f2.length q2, .slice P3 m3 q3] 26) = w3 at *
  (try rw [hw3]); clear hw3
  refine (vcounted_calls (w.heap.size + 1) v2 (.slice D1 n1 e1) (.slice D2 n2 e2) (.slice D3 n3 e3) (.slice D4 n4 e4) st t kn la lc rs ra rc w.heap.size w w3 HOf.out HCt.out hac hme hlc HX2.out HR2.out HB2.out.size (Nat.le_succ _) hl HB2.out).mono ?_
  rintro e w4 ⟨rfl, v4, hx4, hR4, hb4, hk4⟩
  have hn4 := hk4 _ _ _ _ (by decide) (by decide) HN2.out
  have HX4 := Aside0.mk (blk_alloc hx4 (.cells #[.int .i64 (meanA lc), .int .i64 (meanB lc)] 28)); have HN4 := Aside0.mk (blk_alloc hn4 (.cells #[.int .i64 (meanA lc), .int .i64 (meanB lc)] 28)); have HR4 := Aside0.mk (Kd.R_below hR4 ((Below.refl w4.heap.size w4).alloc (Nat.le_refl _) (.cells #[.int .i64 (meanA lc), .int .i64 (meanB lc)] 28))); have HB4 := Aside0.mk (hb4.alloc hb4.size (.cells #[.int .i64 (meanA lc), .int .i64 (meanB lc)] 28)); have HM4 := Aside0.mk (new_blk w4 (.cells #[.int .i64 (meanA lc), .int .i64 (meanB lc)] 28))
  have z0 : ∀ o : Obj, (w4.alloc o).cell? ⟨w2.heap.size, 0, none⟩ = some (.slice P0 s.f0.length q0) := fun o => (blk_cell (blk_alloc hn4 o) 0).trans rfl
  have z1 : ∀ o : Obj, (w4.alloc o).cell? ⟨w2.heap.size, 1, none⟩ = some (.slice P1 s.f1.length q1) := fun o => (blk_cell (blk_alloc hn4 o) 1).trans rfl
  have z2 : ∀ o : Obj, (w4.alloc o).cell? ⟨w2.heap.size, 2, none⟩ = some (.slice P2 s.f2.length q2) := fun o => (blk_cell (blk_alloc hn4 o) 2).trans rfl
  have z3 : ∀ o : Obj, (w4.alloc o).cell? ⟨w2.heap.size, 3, none⟩ = some (.slice P3 m3 q3) := fun o => (blk_cell (blk_alloc hn4 o) 3).trans rfl
  clear hx4 hn4 hR4 hb4 hk4 HX2 HR2 HB2 HN2 HOf HCt
  go_wp2_with fail
  refine (honour_calls s P0 q0 P1 q1 P2 q2 (.slice P3 m3 q3) (capE (earnS lc)) ⟨meanA lc, meanB lc⟩ _ (HSA.out.below HB4.out) (meanA_i64 lc)).mono ?_
  rintro e w5 ⟨rfl, hb5⟩
  have hx5 := blk_low hb5 HX4.out
  have hz0 := (blk_cell hx5 0).trans rfl
  have HR5 := Aside0.mk (Kd.R_below HR4.out hb5); have HB5 := Aside0.mk (below_tr HB4.out hb5)
  obtain ⟨A4, c4, rfl⟩ := Kd.R_slice HR5.out
  clear hb5 hx5 HX4 HR4 HB4 z0 z1 z2 z3 HN4 HM4
  go_wp2
  go_quiet (fail)
  go_wp2
  exact bodyPost_ret (v := .tuple #[.int .i64 (ofN s s.f2 (capE (earnS lc)) ⟨meanA lc, meanB lc⟩), .slice A4 (rs ++ (ra ++ rc)).length c4, .int .i64 (ofE s (capE (earnS lc)) ⟨meanA lc, meanB lc⟩)]) (by simp [results, Tryz.f20, go_sem]) rfl ⟨_, rfl, Kd.R_below HR5.out (pw_below_drewN (Below.refl _ _) _), pw_below_drewN HB5.out _⟩
set_option maxRecDepth 100000 in
set_option maxHeartbeats 8000000 in
theorem sof_fee (D1 D2 D3 D4 : Option Addr) (n1 n2 n3 n4 e1 e2 e3 e4 : Nat) (st ob t kn : Int) (s : S26) (P0 P1 P2 P3 : Option Addr) (m3 q0 q1 q2 q3 : Nat) (rs : List S119) (w : World)
    (hst : 0 ≤ st ∧ st < 20000) (ht : 0 ≤ t ∧ t < 1024) (hob : amt ob = true) (hs : SysAt w s P0 P1 P2)
    (hsys : ∀ V, Below w.heap.size w V → Calls Tryz.prog 42 #[.agg #[.slice D1 n1 e1, .slice D2 n2 e2, .slice D3 n3 e3, .slice D4 n4 e4], .int .i64 t, .int .i64 kn] V fun e w' => ∃ rv, e = .returned (.tuple #[.agg #[.slice P0 s.f0.length q0, .slice P1 s.f1.length q1, .slice P2 s.f2.length q2, .slice P3 m3 q3], rv]) ∧ k119.R 119 w' V.heap.size (fun _ => True) rv rs ∧ Below V.heap.size V w')
    (hl : rs.length * 40 ≤ 140737488355328) :
    Calls Tryz.prog 20 #[.agg #[.slice D1 n1 e1, .slice D2 n2 e2, .slice D3 n3 e3, .slice D4 n4 e4], .int .i64 3, .int .i64 st, .int .i64 ob, .int .i64 t, .int .i64 kn] w fun e w' => ∃ rv, e = .returned (.tuple #[.int .i64 (feeN s ob), rv, .int .i64 (feeE s ob)]) ∧ k119.R 119 w' w.heap.size (fun _ => True) rv rs ∧ Below w.heap.size w w' := by
  have HSys := Aside0.mk hsys; have HSA := Aside0.mk hs
  clear hsys hs
  have ham := fun V => amount_calls ob V
  rw [hob] at ham
  have HAM := Aside0.mk ham; clear ham
  have g1 : decide (st < 0) = false := decide_eq_false (by omega)
  have g2 : decide (20000 ≤ st) = false := decide_eq_false (by omega)
  have g3 : decide (t < 0) = false := decide_eq_false (by omega)
  have g4 : decide (1024 ≤ t) = false := decide_eq_false (by omega)
  have b1 := ((Below.refl w.heap.size w).alloc (Nat.le_refl _) (.cells #[.slice D1 n1 e1, .slice D2 n2 e2, .slice D3 n3 e3, .slice D4 n4 e4] 58)).alloc (by simp) (.cells #[.slice none 0 0, .slice D1 n1 e1, .slice D2 n2 e2, .slice D3 n3 e3, .slice D4 n4 e4, .int .i64 t, .int .i64 kn] 75)
  have x1 := new_blk (w.alloc (.cells #[.slice D1 n1 e1, .slice D2 n2 e2, .slice D3 n3 e3, .slice D4 n4 e4] 58)) (.cells #[.slice none 0 0, .slice D1 n1 e1, .slice D2 n2 e2, .slice D3 n3 e3, .slice D4 n4 e4, .int .i64 t, .int .i64 kn] 75)
  rw [World.size_alloc] at x1
  have HB1 := Aside0.mk b1; have HX1 := Aside0.mk x1; clear b1 x1
  go_enter Tryz.func20, Tryz.ntmps20
  go_wp2_with fail
  refine (HAM.out _).mono ?_
  rintro e w0 ⟨rfl, rfl⟩
  go_wp2_with fail
  generalize hw1 : (w.alloc (.cells #[.slice D1 n1 e1, .slice D2 n2 e2, .slice D3 n3 e3, .slice D4 n4 e4] 58)).alloc (.cells #[.slice none 0 0, .slice D1 n1 e1, .slice D2 n2 e2, .slice D3 n3 e3, .slice D4 n4 e4, .int .i64 t, .int .i64 kn] 75) = w1 at *
  (try rw [hw1]); clear hw1
  refine (vsys_calls (w.heap.size + 1) (.slice none 0 0) (.slice D1 n1 e1) (.slice D2 n2 e2) (.slice D3 n3 e3) (.slice D4 n4 e4) t kn P0 P1 P2 P3 s.f0.length s.f1.length s.f2.length m3 q0 q1 q2 q3 [] rs w.heap.size w w1 (fun V hV => HSys.out V (below_tr HB1.out hV)) HX1.out (Kd.R_nil _ _ _ _ _) HB1.out.size (Nat.le_succ _) (by simp; omega) HB1.out).mono ?_
  rintro e w2 ⟨rfl, v2, hx2, hR2, hb2⟩
  rw [List.nil_append] at hR2
  have HX2 := Aside0.mk (blk_alloc hx2 (.cells #[.slice P0 s.f0.length q0, .slice P1 s.f1.length q1, .slice P2 s.f2.length q2, .slice P3 m3 q3] 26)); have HR2 := Aside0.mk (Kd.R_below hR2 ((Below.refl w2.heap.size w2).alloc (Nat.le_refl _) (.cells #[.slice P0 s.f0.length q0, .slice P1 s.f1.length q1, .slice P2 s.f2.length q2, .slice P3 m3 q3] 26))); have HB2 := Aside0.mk (hb2.alloc hb2.size (.cells #[.slice P0 s.f0.length q0, .slice P1 s.f1.length q1, .slice P2 s.f2.length q2, .slice P3 m3 q3] 26)); have HN2 := Aside0.mk (new_blk w2 (.cells #[.slice P0 s.f0.length q0, .slice P1 s.f1.length q1, .slice P2 s.f2.length q2, .slice P3 m3 q3] 26))
  clear hx2 hR2 hb2 HSys HX1 HB1
  go_wp2_with fail
  have HB2 := HB2
  refine (fee_calls s P0 q0 P1 q1 P2 q2 (.slice P3 m3 q3) ob _ (HSA.out.below HB2.out)).mono ?_
  rintro e w5 ⟨rfl, hb5⟩
  have hx5 := blk_low hb5 HX2.out
  have hz0 := (blk_cell hx5 0).trans rfl
  have HR5 := Aside0.mk (Kd.R_below HR2.out hb5); have HB5 := Aside0.mk (below_tr HB2.out hb5)
  obtain ⟨A4, c4, rfl⟩ := Kd.R_slice HR5.out
  clear hb5 hx5 HX2 HR2 HB2
  go_wp2
  go_quiet (fail)
  go_wp2
  exact bodyPost_ret (v := .tuple #[.int .i64 (feeN s ob), .slice A4 rs.length c4, .int .i64 (feeE s ob)]) (by simp [results, Tryz.f20, go_sem]) rfl ⟨_, rfl, Kd.R_below HR5.out (pw_below_drewN (Below.refl _ _) _), pw_below_drewN HB5.out _⟩
end Go.Proofs.YtdnmoppegncioaaGreatDoor
