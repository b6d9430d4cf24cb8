/- standing.of, Class, Honour, Fee. -/
import Derived.Test.YtdnmoppegncioaaGreatDoorJK
namespace Go.Proofs.YtdnmoppegncioaaGreatDoor
open Go.RowKit Go.Proofs.YtdnmoppegncioaaGreatDoorW.PrintWords
set_option linter.unusedVariables false
set_option linter.unusedSimpArgs false

/-- The condition of a standing. -/
def holdsC (earned : Int) (mean : S28) (c : S42) : Bool := decide (cmpR c.f2 mean ≤ 0) && decide (c.f1 ≤ earned)
theorem of1_calls (x : S42) (hx : I64 x.f2.f0) (mean : S28) (hm : I64 mean.f0) (earned : Int) (gm ge : Nat) (W : World) (m0 : W.cell? ⟨gm, 0, none⟩ = some (.int .i64 mean.f0)) (m1 : W.cell? ⟨gm, 1, none⟩ = some (.int .i64 mean.f1)) (e0 : W.cell? ⟨ge, 0, none⟩ = some (.int .i64 earned)) :
    Calls Tryz.prog 36 #[.agg #[.string x.f0, .int .i64 x.f1, .int .i64 x.f2.f0, .int .i64 x.f2.f1], .pointer (some ⟨gm, 0, none⟩), .pointer (some ⟨ge, 0, none⟩)] W fun e w' => e = .returned (.bool (holdsC earned mean x)) ∧ Below W.heap.size W w' := by
  have hc := fun V => cmp_calls x.f2 mean hx hm V
  have hal := (Below.refl W.heap.size W).alloc (Nat.le_refl _) (.cells #[.string x.f0, .int .i64 x.f1, .int .i64 x.f2.f0, .int .i64 x.f2.f1] 42)
  have nb := new_blk W (.cells #[.string x.f0, .int .i64 x.f1, .int .i64 x.f2.f0, .int .i64 x.f2.f1] 42)
  have m0 := cell_low hal m0; have m1 := cell_low hal m1; have e0 := cell_low hal e0
  have n1 := blk_cell nb 1
  unfold holdsC
  generalize cmpR x.f2 mean = X at *
  generalize cmpE x.f2 mean = Y at *
  have HC := Aside0.mk hc; have HE := Aside0.mk (And.intro e0 n1); clear hc hal nb n1 e0
  by_cases hX : X ≤ 0
  · rw [decide_eq_true hX, Bool.true_and]
    go_enter Tryz.func36, Tryz.ntmps36
    go_wp2_with fail
    refine (HC.out _).mono ?_
    rintro e w1 ⟨rfl, hb1⟩
    have k0 := cell_low hb1 HE.out.1; have k1 := (cell_low hb1 HE.out.2).trans rfl
    have HB1 := Aside0.mk hb1; clear hb1
    go_wp2
    go_ret
    exact ⟨rfl, below_al HB1.out⟩
  · rw [decide_eq_false hX, Bool.false_and]
    have hd : decide (X ≤ 0) = false := decide_eq_false hX
    go_enter Tryz.func36, Tryz.ntmps36
    go_wp2_with fail
    refine (HC.out _).mono ?_
    rintro e w1 ⟨rfl, hb1⟩
    have HB1 := Aside0.mk hb1; clear hb1
    go_wp2
    go_ret
    exact ⟨by simp [hd], below_al HB1.out⟩
theorem fee1_calls (x : S38) (n : Int) (ge : Nat) (W : World) (e0 : W.cell? ⟨ge, 0, none⟩ = some (.int .i64 n)) :
    Calls Tryz.prog 25 #[.agg #[.string x.f0, .int .i64 x.f1], .pointer (some ⟨ge, 0, none⟩)] W fun e w' => e = .returned (.bool (decide (x.f1 ≤ n))) ∧ Below W.heap.size W w' := by
  have hal := (Below.refl W.heap.size W).alloc (Nat.le_refl _) (.cells #[.string x.f0, .int .i64 x.f1] 38)
  have e0 := cell_low hal e0
  have HA := Aside0.mk hal; clear hal
  go_enter Tryz.func25, Tryz.ntmps25
  go_wp2
  go_ret
  exact ⟨rfl, HA.out⟩
end Go.Proofs.YtdnmoppegncioaaGreatDoor
