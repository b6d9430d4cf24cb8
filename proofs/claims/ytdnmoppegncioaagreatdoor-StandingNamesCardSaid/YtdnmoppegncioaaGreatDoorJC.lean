/- ratio.Compare. -/
import Derived.Test.YtdnmoppegncioaaGreatDoorJR
namespace Go.Proofs.YtdnmoppegncioaaGreatDoor
open Go.RowKit Go.Proofs.YtdnmoppegncioaaGreatDoorW.PrintWords
set_option linter.unusedVariables false
set_option linter.unusedSimpArgs false

theorem isNaN_calls (a : Int) (W : World) : Calls Tryz.prog 41 #[.int .i64 a] W fun e w' => e = .returned (.bool false) ∧ w' = W := by
  go_enter Tryz.func41, Tryz.ntmps41
  go_wp2
  go_ret
  exact ⟨rfl, rfl⟩
theorem compare_calls (a b : Int) (W : World) : Calls Tryz.prog 33 #[.int .i64 a, .int .i64 b] W fun e w' => e = .returned (.int .i64 (fSign a b)) ∧ w' = W := by
  have hc := fun a W => isNaN_calls a W
  by_cases h1 : a < b
  · have hs : fSign a b = -1 := by simp [fSign, h1]
    rw [hs]
    go_enter Tryz.func33, Tryz.ntmps33
    go_wp2_with (go_at_call 41; refine (hc _ _).mono ?_; rintro e w1 ⟨rfl, rfl⟩)
    all_goals
      go_ret
      exact ⟨rfl, rfl⟩
  · by_cases h2 : b < a
    · have hs : fSign a b = 1 := by simp [fSign, h1, h2]
      rw [hs]
      go_enter Tryz.func33, Tryz.ntmps33
      go_wp2_with (go_at_call 41; refine (hc _ _).mono ?_; rintro e w1 ⟨rfl, rfl⟩)
      all_goals
        go_ret
        exact ⟨rfl, rfl⟩
    · have hs : fSign a b = 0 := by simp [fSign, h1, h2]
      rw [hs]
      go_enter Tryz.func33, Tryz.ntmps33
      go_wp2_with (go_at_call 41; refine (hc _ _).mono ?_; rintro e w1 ⟨rfl, rfl⟩)
      all_goals
        go_ret
        exact ⟨rfl, rfl⟩

theorem wrap_i64 (n : Int) (h0 : -9223372036854775808 ≤ n) (h : n ≤ 9223372036854775807) : IntKind.i64.wrap n = n := by
  simp [IntKind.wrap, IntKind.signed, IntKind.bits]; omega
theorem compare1_calls (a b : S28) (ga gb : Nat) (ha : okR a = true) (hb : okR b = true) (W : World) (ha0 : W.cell? ⟨ga, 0, none⟩ = some (.int .i64 a.f0)) (ha1 : W.cell? ⟨ga, 1, none⟩ = some (.int .i64 a.f1)) (hb0 : W.cell? ⟨gb, 0, none⟩ = some (.int .i64 b.f0)) (hb1 : W.cell? ⟨gb, 1, none⟩ = some (.int .i64 b.f1)) :
    Calls Tryz.prog 32 #[.pointer (some ⟨ga, 0, none⟩), .pointer (some ⟨gb, 0, none⟩)] W fun e w' => e = .returned (.tuple #[.int .i64 (fSign (a.f0 * b.f1) (b.f0 * a.f1)), .int .i64 0]) ∧ w' = W := by
  simp only [okR, fRatio, Bool.and_eq_true] at ha hb
  have p1 := prod_bound a.f0 b.f1 (of_decide_eq_true ha.1.1.2) (of_decide_eq_true ha.1.2) (of_decide_eq_true hb.1.1.1.1) (of_decide_eq_true hb.1.1.1.2)
  have p2 := prod_bound b.f0 a.f1 (of_decide_eq_true hb.1.1.2) (of_decide_eq_true hb.1.2) (of_decide_eq_true ha.1.1.1.1) (of_decide_eq_true ha.1.1.1.2)
  have q1 := wrap_i64 (a.f0 * b.f1) (by omega) (by omega)
  have q2 := wrap_i64 (b.f0 * a.f1) (by omega) (by omega)
  have hc := compare_calls (a.f0 * b.f1) (b.f0 * a.f1) W
  generalize hX : a.f0 * b.f1 = X at *
  generalize hY : b.f0 * a.f1 = Y at *
  clear ha hb
  have HC := Aside0.mk hc; clear hc
  go_enter Tryz.func32, Tryz.ntmps32
  go_wp2_with (go_at_call 33; refine HC.out.mono ?_; rintro e w1 ⟨rfl, rfl⟩)
  exact bodyPost_ret (v := .tuple #[.int .i64 (fSign X Y), .int .i64 0]) (by simp [results, Tryz.f32, go_sem]) rfl ⟨rfl, rfl⟩
theorem below_al {W w' : World} {o : Obj} (h : Below (W.alloc o).heap.size (W.alloc o) w') : Below W.heap.size W w' := below_tr ((Below.refl _ _).alloc (Nat.le_refl _) _) h
theorem idx0 (a0 a1 b0 b1 : Int) (w : World) : (Instr.index 82 (.agg #[.int .i64 a0, .int .i64 a1, .int .i64 b0, .int .i64 b1]) (.int .i64 0)).run Tryz.prog w = .ok (.agg #[.int .i64 a0, .int .i64 a1]) w := by kernel_rfl
theorem idx1 (a0 a1 b0 b1 : Int) (w : World) : (Instr.index 82 (.agg #[.int .i64 a0, .int .i64 a1, .int .i64 b0, .int .i64 b1]) (.int .i64 1)).run Tryz.prog w = .ok (.agg #[.int .i64 b0, .int .i64 b1]) w := by kernel_rfl
set_option maxRecDepth 100000 in
theorem both_calls (a b : S28) (ga gb : Nat) (ha : -9223372036854775808 ≤ a.f0 ∧ a.f0 ≤ 9223372036854775807) (hb : -9223372036854775808 ≤ b.f0 ∧ b.f0 ≤ 9223372036854775807) (W : World) (ha0 : W.cell? ⟨ga, 0, none⟩ = some (.int .i64 a.f0)) (ha1 : W.cell? ⟨ga, 1, none⟩ = some (.int .i64 a.f1)) (hb0 : W.cell? ⟨gb, 0, none⟩ = some (.int .i64 b.f0)) (hb1 : W.cell? ⟨gb, 1, none⟩ = some (.int .i64 b.f1)) :
    Calls Tryz.prog 31 #[.agg #[.int .i64 a.f0, .int .i64 a.f1], .agg #[.int .i64 b.f0, .int .i64 b.f1], .func (.func 32) #[] #[.pointer (some ⟨ga, 0, none⟩), .pointer (some ⟨gb, 0, none⟩)]] W fun e w' => e = .returned (.tuple #[.int .i64 (if okR a && okR b then fSign (a.f0 * b.f1) (b.f0 * a.f1) else 0), .int .i64 (if okR a && okR b then 0 else 50)]) ∧ Below W.heap.size W w' := by
  have hca := fun V => check_calls a ha V
  have hcb := fun V => check_calls b hb V
  have HA := Aside0.mk hca; clear hca
  have i0 := idx0 a.f0 a.f1 b.f0 b.f1
  have i1 := idx1 a.f0 a.f1 b.f0 b.f1
  have HB := Aside0.mk hcb; clear hcb
  cases va : okR a with
  | false =>
    simp only [errR, va, Bool.false_and, Bool.false_eq_true, if_false] at HA ⊢
    go_enter Tryz.func31, Tryz.ntmps31
    go_wp2
    refine wp_loop_rounds 1 ?_
    rw [rounds_succ]
    go_wp2_with (go_at_call 17; refine (HA.out _).mono ?_; rintro e w1 ⟨rfl, hb1⟩)
    exact bodyPost_ret (v := .tuple #[.int .i64 0, .int .i64 50]) (by simp [results, Tryz.f31, go_sem]) rfl ⟨rfl, below_al (below_al (below_al hb1))⟩
  | true =>
    have HA2 := HA
    simp only [errR, va, Bool.true_and, if_true] at HA ⊢
    cases vb : okR b with
    | false =>
      simp only [errR, vb, Bool.false_eq_true, if_false] at HB ⊢
      go_enter Tryz.func31, Tryz.ntmps31
      go_wp2
      refine wp_loop_rounds 2 ?_
      rw [rounds_succ]
      go_wp2_with (go_at_call 17; refine (HA.out _).mono ?_; rintro e w1 ⟨rfl, hb1⟩)
      rw [rounds_succ]
      go_wp2_with (go_at_call 17; refine (HB.out _).mono ?_; rintro e w2 ⟨rfl, hb2⟩)
      exact bodyPost_ret (v := .tuple #[.int .i64 0, .int .i64 50]) (by simp [results, Tryz.f31, go_sem]) rfl ⟨rfl, below_tr (below_al (below_al (below_al hb1))) (below_al hb2)⟩
    | true =>
      have hc := fun V h0 h1 h2 h3 => compare1_calls a b ga gb va vb V h0 h1 h2 h3
      have HC := Aside0.mk hc; clear hc
      simp only [errR, vb, if_true] at HB ⊢
      generalize hX : fSign (a.f0 * b.f1) (b.f0 * a.f1) = X at *
      have HW := Aside0.mk (And.intro ha0 (And.intro ha1 (And.intro hb0 hb1))); clear ha0 ha1 hb0 hb1
      go_enter Tryz.func31, Tryz.ntmps31
      go_wp2
      refine wp_loop_rounds 3 ?_
      rw [rounds_succ]
      go_wp2_with (go_at_call 17; refine (HA.out _).mono ?_; rintro e w1 ⟨rfl, hb1⟩)
      rw [rounds_succ]
      go_wp2_with (go_at_call 17; refine (HB.out _).mono ?_; rintro e w2 ⟨rfl, hb2⟩)
      have HB2 := Aside0.mk (below_tr (below_al (below_al (below_al hb1))) (below_al hb2)); clear hb1 hb2
      rw [rounds_succ]
      go_wp2_with fail
      refine (HC.out _ (cell_low HB2.out HW.out.1) (cell_low HB2.out HW.out.2.1) (cell_low HB2.out HW.out.2.2.1) (cell_low HB2.out HW.out.2.2.2)).mono ?_
      rintro e w3 ⟨rfl, rfl⟩
      go_wp2_with fail
      exact bodyPost_ret (v := .tuple #[.int .i64 X, .int .i64 0]) (by simp [results, Tryz.f31, go_sem]) rfl ⟨rfl, HB2.out⟩

/-- ratio.Compare's answer. -/
def cmpR (a b : S28) : Int := if okR a && okR b then fSign (a.f0 * b.f1) (b.f0 * a.f1) else 0
def cmpE (a b : S28) : Int := if okR a && okR b then 0 else 50
theorem cmp_calls (a b : S28) (ha : -9223372036854775808 ≤ a.f0 ∧ a.f0 ≤ 9223372036854775807) (hb : -9223372036854775808 ≤ b.f0 ∧ b.f0 ≤ 9223372036854775807) (W : World) :
    Calls Tryz.prog 19 #[.agg #[.int .i64 a.f0, .int .i64 a.f1], .agg #[.int .i64 b.f0, .int .i64 b.f1]] W fun e w' => e = .returned (.tuple #[.int .i64 (cmpR a b), .int .i64 (cmpE a b)]) ∧ Below W.heap.size W w' := by
  have hc := fun V h0 h1 h2 h3 => both_calls a b W.heap.size (W.heap.size + 1) ha hb V h0 h1 h2 h3
  change ∀ V, _ → _ → _ → _ → Calls _ _ _ _ fun e w' => e = .returned (.tuple #[.int .i64 (cmpR a b), .int .i64 (cmpE a b)]) ∧ _ at hc
  generalize cmpR a b = X at *
  generalize cmpE a b = Y at *
  have k0 := new_blk W (.cells #[.int .i64 a.f0, .int .i64 a.f1] 28)
  have k1 := new_blk (W.alloc (.cells #[.int .i64 a.f0, .int .i64 a.f1] 28)) (.cells #[.int .i64 b.f0, .int .i64 b.f1] 28)
  have k2 := blk_low ((Below.refl _ _).alloc (Nat.le_refl _) (.cells #[.int .i64 b.f0, .int .i64 b.f1] 28)) k0
  rw [show (W.alloc (.cells #[.int .i64 a.f0, .int .i64 a.f1] 28)).heap.size = W.heap.size + 1 from by simp] at k1
  have hc2 := hc _ (blk_cell k2 0) (blk_cell k2 1) (blk_cell k1 0) (blk_cell k1 1)
  clear hc k0 k1 k2
  have HC := Aside0.mk hc2; clear hc2
  go_enter Tryz.func19, Tryz.ntmps19
  go_wp2_with fail
  refine HC.out.mono ?_
  rintro e w3 ⟨rfl, hb3⟩
  go_wp2_with fail
  exact bodyPost_ret (v := .tuple #[.int .i64 X, .int .i64 Y]) (by simp [results, Tryz.f19, go_sem]) rfl ⟨rfl, below_al (below_al hb3)⟩
end Go.Proofs.YtdnmoppegncioaaGreatDoor
