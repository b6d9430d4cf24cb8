/- cmp.Or of two numbers, facts.compare: what they compute. No condition. -/
import Derived.Test.YtdnmoppegncioaaGreatDoorKA
import Derived.Test.YtdnmoppegncioaaGreatDoorJC
import Derived.Deep.RegionHeld3
namespace Go.Proofs.YtdnmoppegncioaaGreatDoor
open Go.RowKit Go.Proofs.YtdnmoppegncioaaGreatDoorW.PrintWords
set_option linter.unusedVariables false
set_option linter.unusedSimpArgs false
def or2 (x y : Int) : Int := if x = 0 then y else x
theorem or2_calls (x y : Int) (g : Nat) (W : World) (h : W.heap[g]? = some (.cells #[.int .i64 x, .int .i64 y] 3 (0, 0))) :
    Calls Tryz.prog 95 #[.slice (some ⟨g, 0, none⟩) 2 2] W fun e w' => e = .returned (.int .i64 (or2 x y)) ∧ w' = W := by
  have c0 : W.cell? ⟨g, 0, none⟩ = some (.int .i64 x) := blk_cell h 0
  have c1 : W.cell? ⟨g, 1, none⟩ = some (.int .i64 y) := blk_cell h 1
  clear h
  by_cases hx : x = 0
  · subst hx
    have hs : or2 0 y = y := if_pos rfl
    rw [hs]
    by_cases hy : y = 0
    · subst hy
      go_enter Tryz.func95, Tryz.ntmps95
      go_wp2
      refine wp_loop_rounds 3 ?_
      rw [rounds_succ]
      go_wp2
      rw [rounds_succ]
      go_wp2
      rw [rounds_succ]
      go_wp2
      go_ret
      exact ⟨rfl, rfl⟩
    · have hy1 : (y == 0) = false := by simp [hy]
      have hy2 : (y != 0) = true := by simp [hy]
      clear hy
      go_enter Tryz.func95, Tryz.ntmps95
      go_wp2
      refine wp_loop_rounds 2 ?_
      rw [rounds_succ]
      go_wp2
      rw [rounds_succ]
      go_wp2
      go_ret
      exact ⟨rfl, rfl⟩
  · have hs : or2 x y = x := if_neg hx
    rw [hs]
    have hy1 : (x == 0) = false := by simp [hx]
    have hy2 : (x != 0) = true := by simp [hx]
    clear hx hs
    go_enter Tryz.func95, Tryz.ntmps95
    go_wp2
    refine wp_loop_rounds 1 ?_
    rw [rounds_succ]
    go_wp2
    go_ret
    exact ⟨rfl, rfl⟩
abbrev factV (a : S151) : Array Value := #[.int .i64 a.f0.f0, .int .i64 a.f0.f1, .int .i64 a.f0.f2, .int .i64 a.f1, .int .i64 a.f2.f0, .int .i64 a.f2.f1, .int .i64 a.f3, .int .i64 a.f4]
def fCmp (a b : S151) : Int := or2 (fSign a.f3 b.f3) (fSign a.f4 b.f4)
theorem two_keep {a1 a2 a3 a4 : Addr} {v1 v2 v3 v4 : Value} {w0 W W' : World} (hb : Aside0 (Below W.heap.size W W')) (h : W.cell? a1 = some v1 ∧ W.cell? a2 = some v2 ∧ W.cell? a3 = some v3 ∧ W.cell? a4 = some v4 ∧ Aside0 (Below w0.heap.size w0 W)) :
    W'.cell? a1 = some v1 ∧ W'.cell? a2 = some v2 ∧ W'.cell? a3 = some v3 ∧ W'.cell? a4 = some v4 ∧ Aside0 (Below w0.heap.size w0 W') :=
  ⟨cell_low hb.out h.1, cell_low hb.out h.2.1, cell_low hb.out h.2.2.1, cell_low hb.out h.2.2.2.1, ⟨below_tr h.2.2.2.2.out hb.out⟩⟩
theorem drew_alloc (w : World) (o : Obj) : Below w.drew.heap.size w.drew (w.alloc o).drew := ⟨rfl, rfl, rfl, by show w.heap.size ≤ (w.alloc o).heap.size; simp, fun k hk => Below.heap_alloc w o k hk⟩
set_option maxRecDepth 100000 in
set_option maxHeartbeats 4000000 in
theorem fcmp_calls (a b : S151) (w : World) : Calls Tryz.prog 82 #[.agg (factV a), .agg (factV b)] w fun e w' => e = .returned (.int .i64 (fCmp a b)) ∧ Below w.heap.size w w' := by
  obtain ⟨⟨a0, a1, a2⟩, a3, ⟨a4, a5⟩, a6, a7⟩ := a
  obtain ⟨⟨b0, b1, b2⟩, b3, ⟨b4, b5⟩, b6, b7⟩ := b
  simp only [fCmp, factV]
  have n0 := new_blk w (.cells #[.int .i64 a0, .int .i64 a1, .int .i64 a2, .int .i64 a3, .int .i64 a4, .int .i64 a5, .int .i64 a6, .int .i64 a7] 151)
  have n1 := new_blk (w.alloc (.cells #[.int .i64 a0, .int .i64 a1, .int .i64 a2, .int .i64 a3, .int .i64 a4, .int .i64 a5, .int .i64 a6, .int .i64 a7] 151)) (.cells #[.int .i64 b0, .int .i64 b1, .int .i64 b2, .int .i64 b3, .int .i64 b4, .int .i64 b5, .int .i64 b6, .int .i64 b7] 151)
  have m0 := blk_alloc n0 (.cells #[.int .i64 b0, .int .i64 b1, .int .i64 b2, .int .i64 b3, .int .i64 b4, .int .i64 b5, .int .i64 b6, .int .i64 b7] 151)
  rw [World.size_alloc] at n1
  have HB := Aside0.mk (((Below.refl w.heap.size w).alloc (Nat.le_refl _) (.cells #[.int .i64 a0, .int .i64 a1, .int .i64 a2, .int .i64 a3, .int .i64 a4, .int .i64 a5, .int .i64 a6, .int .i64 a7] 151)).alloc (by simp) (.cells #[.int .i64 b0, .int .i64 b1, .int .i64 b2, .int .i64 b3, .int .i64 b4, .int .i64 b5, .int .i64 b6, .int .i64 b7] 151))
  have z6 := blk_cell m0 6; have z7 := blk_cell m0 7; have y6 := blk_cell n1 6; have y7 := blk_cell n1 7
  have ZZ := Aside0.mk (And.intro z6 (And.intro y6 (And.intro z7 y7)))
  clear n0 n1 m0 z6 z7 y6 y7
  have H1 := Aside0.mk (fun x y W => compare_calls x y W)
  have H2 := Aside0.mk (fun x y g W h => or2_calls x y g W h)
  go_enter Tryz.func82, Tryz.ntmps82
  go_wp2_with fail
  generalize hw1 : (w.alloc (.cells #[.int .i64 a0, .int .i64 a1, .int .i64 a2, .int .i64 a3, .int .i64 a4, .int .i64 a5, .int .i64 a6, .int .i64 a7] 151)).alloc (.cells #[.int .i64 b0, .int .i64 b1, .int .i64 b2, .int .i64 b3, .int .i64 b4, .int .i64 b5, .int .i64 b6, .int .i64 b7] 151) = w1 at *
  have hS0 : w1.drew.cell? ⟨w.heap.size, 6, none⟩ = some (.int .i64 a6) ∧ w1.drew.cell? ⟨w.heap.size + 1, 6, none⟩ = some (.int .i64 b6) ∧ w1.drew.cell? ⟨w.heap.size, 7, none⟩ = some (.int .i64 a7) ∧ w1.drew.cell? ⟨w.heap.size + 1, 7, none⟩ = some (.int .i64 b7) ∧ Aside0 (Below w1.heap.size w1 w1.drew) := ⟨ZZ.out.1, ZZ.out.2.1, ZZ.out.2.2.1, ZZ.out.2.2.2, ⟨below_drew (Below.refl _ _)⟩⟩
  clear hw1 ZZ
  have HN := Aside0.mk (fun o => (show (w1.alloc o).drew.heap[w1.heap.size]? = some o from new_blk w1 o))
  go_region_held3 (fun W => W.cell? ⟨w.heap.size, 6, none⟩ = some (.int .i64 a6) ∧ W.cell? ⟨w.heap.size + 1, 6, none⟩ = some (.int .i64 b6) ∧ W.cell? ⟨w.heap.size, 7, none⟩ = some (.int .i64 a7) ∧ W.cell? ⟨w.heap.size + 1, 7, none⟩ = some (.int .i64 b7) ∧ Aside0 (Below w1.heap.size w1 W))
    (first | with_reducible assumption | (refine two_keep (W := w1.drew) ⟨drew_alloc w1 _⟩ ?_; with_reducible assumption) | (refine two_keep ⟨(Below.refl _ _).alloc (Nat.le_refl _) _⟩ ?_; with_reducible assumption) | (apply two_keep; with_reducible assumption; with_reducible assumption))
    (first | (go_at_call 33; with_reducible refine (H1.out _ _ _).mono ?_; rintro e W' ⟨rfl, rfl⟩) | (go_at_call 95; with_reducible refine (H2.out _ _ _ _ (HN.out _)).mono ?_; rintro e W' ⟨rfl, rfl⟩))
  all_goals
    go_wp2
    go_ret
    refine ⟨rfl, ?_⟩
    have hw := (by assumption : _ ∧ _ ∧ _ ∧ _ ∧ Aside0 (Below w1.heap.size w1 _)).2.2.2.2.out
    exact below_tr HB.out hw
end Go.Proofs.YtdnmoppegncioaaGreatDoor
