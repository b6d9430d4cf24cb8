/- sizarlaw24.BundlesClashSpec: it is true. -/
import Derived.Test.YtbpgoddohhiohaaDoorLA
import Derived.Test.YtbpgoddohhiohaaDoorR7
namespace Go.Proofs.YtbpgoddohhiohaaDoor
open Go.RowKit Go.Proofs.YtbpgoddohhiohaaDoorW.PrintWords
set_option linter.unusedVariables false
set_option linter.unusedSimpArgs false
set_option maxRecDepth 100000 in
set_option maxHeartbeats 8000000 in
theorem lawClash_calls (A : Option Addr) (c : Nat) (l : List S34) (a0 a1 b0 b1 : Int) (w : World) (hE : ErrT w) (hr : k34.C w A l.length l) (hc : l.length ≤ c) :
    Calls Tryd.prog 4 #[.slice A l.length c, .agg #[.int .i64 a0, .int .i64 a1], .agg #[.int .i64 b0, .int .i64 b1]] w fun e w' => e = .returned (.bool true) ∧ Below w.heap.size w w' := by
  have hb0 := ((Below.refl w.heap.size w).alloc (Nat.le_refl _) (.cells #[.int .i64 a0, .int .i64 a1] 24)).alloc (by simp) (.cells #[.int .i64 b0, .int .i64 b1] 24)
  have hx0 := blk_alloc (new_blk w (.cells #[.int .i64 a0, .int .i64 a1] 24)) (.cells #[.int .i64 b0, .int .i64 b1] 24)
  have hy0 := new_blk (w.alloc (.cells #[.int .i64 a0, .int .i64 a1] 24)) (.cells #[.int .i64 b0, .int .i64 b1] 24)
  rw [World.size_alloc] at hy0
  have HR := Aside0.mk hr; have HE := Aside0.mk hE; have HB0 := Aside0.mk hb0; have HX0 := Aside0.mk hx0; have HY0 := Aside0.mk hy0
  have h10 := Aside0.mk (sane_calls _ (hE.below hb0))
  have D1 := Aside0.mk (fun W hE hr => bclash_calls A c l a0 a1 b0 b1 W hE hr hc)
  have D2 := Aside0.mk (fun W hr => rclash24_calls A c l a0 a1 b0 b1 W hr)
  obtain ⟨⟨x, e⟩, hxe⟩ : ∃ p, bClash l a0 a1 b0 b1 = p := ⟨_, rfl⟩
  rw [hxe] at D1 D2
  clear hr hE hb0 hx0 hy0 hc hxe
  go_enter Tryd.func4, Tryd.ntmps4
  go_wp2_with fail
  refine h10.out.mono ?_
  rintro e w1 ⟨rfl, hb1⟩
  have HB1 := Aside0.mk (below_tr HB0.out hb1); have HX1 := Aside0.mk (blk_low hb1 HX0.out); have HY1 := Aside0.mk (blk_low hb1 HY0.out)
  clear hb1 h10 HX0 HY0
  have h11 := few_calls A c l none 0 0 w1 (Kd.C_below HR.out HB1.out)
  cases hf : sFew l 0 with
  | false =>
    rw [hf] at h11
    go_wp2_with fail
    refine h11.mono ?_
    rintro e w2 ⟨rfl, rfl⟩
    go_wp2
    go_ret
    exact ⟨rfl, HB1.out⟩
  | true =>
    rw [hf] at h11
    clear hf
    go_wp2_with fail
    refine h11.mono ?_
    rintro e w2 ⟨rfl, rfl⟩
    clear h11
    have z0 := (blk_cell HX1.out 0).trans rfl; have z1 := (blk_cell HX1.out 1).trans rfl
    have y0 := (blk_cell HY1.out 0).trans rfl; have y1 := (blk_cell HY1.out 1).trans rfl
    go_wp2_with fail
    refine (D1.out _ (HE.out.below HB1.out) (Kd.C_below HR.out HB1.out)).mono ?_
    rintro e w3 ⟨rfl, hb3⟩
    have HB3 := Aside0.mk (below_tr HB1.out hb3); have HX3 := Aside0.mk (blk_low hb3 HX1.out); have HY3 := Aside0.mk (blk_low hb3 HY1.out)
    clear z0 z1 y0 y1 hb3 HX1 HY1 D1
    have z0 := (blk_cell HX3.out 0).trans rfl; have z1 := (blk_cell HX3.out 1).trans rfl
    have y0 := (blk_cell HY3.out 0).trans rfl; have y1 := (blk_cell HY3.out 1).trans rfl
    go_wp2_with fail
    refine (D2.out _ (Kd.C_below HR.out HB3.out)).mono ?_
    rintro e w4 ⟨rfl, hb4⟩
    have HB4 := Aside0.mk (below_tr HB3.out hb4)
    clear z0 z1 y0 y1 hb4 D2
    go_wp2
    go_ret
    exact ⟨ret_bool (by simp), HB4.out⟩
end Go.Proofs.YtbpgoddohhiohaaDoor
