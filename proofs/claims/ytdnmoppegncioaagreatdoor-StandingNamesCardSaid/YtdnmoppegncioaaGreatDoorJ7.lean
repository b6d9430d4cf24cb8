/- sizarref21.Few; sizarlaw21.holds. -/
import Derived.Test.YtdnmoppegncioaaGreatDoorJ6
namespace Go.Proofs.YtdnmoppegncioaaGreatDoor
open Go.RowKit Go.Proofs.YtdnmoppegncioaaGreatDoorW.PrintWords
set_option linter.unusedVariables false
set_option linter.unusedSimpArgs false

theorem few_calls (n0 n1 n2 n3 : Nat) (A0 : Option Addr) (c0 : Nat) (A1 : Option Addr) (c1 : Nat) (A2 : Option Addr) (c2 : Nat) (A3 : Option Addr) (c3 : Nat) (h : n0 + n1 + n2 + n3 ≤ 9223372036854775807) (W : World) :
    Calls Tryz.prog 8 #[.agg #[.slice A0 n0 c0, .slice A1 n1 c1, .slice A2 n2 c2, .slice A3 n3 c3]] W fun e w' => e = .returned (.bool (decide (n0 + n1 + n2 + n3 ≤ 40))) ∧ Below W.heap.size W w' := by
  have q1 : IntKind.i64.wrap ((n0 : Int) + n1) = (n0 : Int) + n1 := wrap_i64 _ (by omega) (by omega)
  have q2 : IntKind.i64.wrap ((n0 : Int) + n1 + n2) = (n0 : Int) + n1 + n2 := wrap_i64 _ (by omega) (by omega)
  have q3 : IntKind.i64.wrap ((n0 : Int) + n1 + n2 + n3) = (n0 : Int) + n1 + n2 + n3 := wrap_i64 _ (by omega) (by omega)
  go_enter Tryz.func8, Tryz.ntmps8
  go_wp2
  go_ret
  refine ⟨ret_bool ?_, (Below.refl _ _).alloc (Nat.le_refl _) _⟩
  exact decide_eq_decide.2 (by omega)
theorem holds_calls (x : S42) (hx : I64 x.f2.f0) (mean : S28) (hm : I64 mean.f0) (earned : Int) (W : World) :
    Calls Tryz.prog 18 #[.agg #[.string x.f0, .int .i64 x.f1, .int .i64 x.f2.f0, .int .i64 x.f2.f1], .int .i64 earned, .agg #[.int .i64 mean.f0, .int .i64 mean.f1]] W fun e w' => e = .returned (.bool (decide (cmpE x.f2 mean = 0) && holdsC earned mean x)) ∧ Below W.heap.size W w' := by
  have hc := fun V => cmp_calls x.f2 mean hx hm V
  have nb := new_blk W (.cells #[.string x.f0, .int .i64 x.f1, .int .i64 x.f2.f0, .int .i64 x.f2.f1] 42)
  have nb := blk_low ((Below.refl _ _).alloc (Nat.le_refl _) (.cells #[.int .i64 mean.f0, .int .i64 mean.f1] 28)) nb
  have HN := Aside0.mk nb; clear nb
  unfold holdsC
  generalize cmpR x.f2 mean = X at *
  generalize cmpE x.f2 mean = Y at *
  have HC := Aside0.mk hc; clear hc
  by_cases hY : Y = 0
  · subst hY
    rw [decide_eq_true rfl, Bool.true_and]
    by_cases hX : X ≤ 0
    · rw [decide_eq_true hX, Bool.true_and]
      go_enter Tryz.func18, Tryz.ntmps18
      go_wp2_with fail
      refine (HC.out _).mono ?_
      rintro e w1 ⟨rfl, hb1⟩
      have k0 := (blk_cell (blk_low hb1 HN.out) 1).trans rfl
      have HB1 := Aside0.mk (below_al (below_al hb1)); clear hb1
      go_wp2
      go_ret
      exact ⟨rfl, HB1.out⟩
    · rw [decide_eq_false hX, Bool.false_and]
      have hd : decide (X ≤ 0) = false := decide_eq_false hX
      go_enter Tryz.func18, Tryz.ntmps18
      go_wp2_with fail
      refine (HC.out _).mono ?_
      rintro e w1 ⟨rfl, hb1⟩
      have HB1 := Aside0.mk (below_al (below_al hb1)); clear hb1
      go_wp2
      go_ret
      exact ⟨by simp [hd], HB1.out⟩
  · rw [decide_eq_false hY, Bool.false_and]
    have hd : (Y == 0) = false := by simpa using hY
    go_enter Tryz.func18, Tryz.ntmps18
    go_wp2_with fail
    refine (HC.out _).mono ?_
    rintro e w1 ⟨rfl, hb1⟩
    have HB1 := Aside0.mk (below_al (below_al hb1)); clear hb1
    go_wp2
    go_ret
    exact ⟨by simp [hd], HB1.out⟩
end Go.Proofs.YtdnmoppegncioaaGreatDoor
