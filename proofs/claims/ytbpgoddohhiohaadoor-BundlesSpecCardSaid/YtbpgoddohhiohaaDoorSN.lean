/- sizarlaw24.sane: it is true. -/
import Derived.Test.YtbpgoddohhiohaaDoorSS
import Derived.Deep.RegionHeld3
namespace Go.Proofs.YtbpgoddohhiohaaDoor
open Go.RowKit Go.Proofs.YtbpgoddohhiohaaDoorW.PrintWords
set_option linter.unusedVariables false
set_option linter.unusedSimpArgs false
theorem bAll_hL {l : List S34} (h : ∀ s ∈ l, s.f7.length ≤ 100000) (id : Int) : (sFind l id).1.f7.length ≤ 100000 := by
  unfold sFind
  split
  · rename_i hany
    show (rd_T34 l _).f7.length ≤ 100000
    unfold rd_T34
    rw [List.getD_eq_getElem?_getD]
    cases hg : l[(fIdx (fun s => s.f0 == id) l).toNat]? with
    | none => simp [z34]
    | some s => exact h s (List.mem_of_getElem? hg)
  · simp [z34]
theorem bMeet_hL {l : List S34} (h : ∀ s ∈ l, s.f5.length ≤ 100000) (id : Int) : (sFind l id).1.f5.length ≤ 100000 := by
  unfold sFind
  split
  · show (rd_T34 l _).f5.length ≤ 100000
    unfold rd_T34
    rw [List.getD_eq_getElem?_getD]
    cases hg : l[(fIdx (fun s => s.f0 == id) l).toNat]? with
    | none => simp [z34]
    | some s => exact h s (List.mem_of_getElem? hg)
  · simp [z34]
theorem someL7 : ∀ s ∈ someL, s.f7.length ≤ 100000 := by decide
theorem someL5 : ∀ s ∈ someL, s.f5.length ≤ 100000 := by decide
def seatsL : List S47 := [⟨3, 3, -1⟩, ⟨3, 1, -1⟩, ⟨4, 4, -1⟩]
theorem seats_C {g : Nat} {w' : World} (hb : w'.heap[g]? = some (.cells #[.int .i64 3, .int .i64 3, .int .i64 (-1), .int .i64 3, .int .i64 1, .int .i64 (-1), .int .i64 4, .int .i64 4, .int .i64 (-1)] 47 (0, 0))) : k47.C w' (some ⟨g, 0, none⟩) 3 seatsL :=
  lit_C (ps := seatsL) (inner := [.int .i64 3, .int .i64 3, .int .i64 (-1), .int .i64 3, .int .i64 1, .int .i64 (-1), .int .i64 4, .int .i64 4, .int .i64 (-1)]) hb ⟨rfl, fun j p hj => by
    match j, hj with
    | 0, hj => injection hj with hj; subst hj; exact k47_mk _ ⟨3, 3, -1⟩
    | 1, hj => injection hj with hj; subst hj; exact k47_mk _ ⟨3, 1, -1⟩
    | 2, hj => injection hj with hj; subst hj; exact k47_mk _ ⟨4, 4, -1⟩⟩ (by decide)
theorem bun_C (x y : Int) {g : Nat} {w' : World} (hb : w'.heap[g]? = some (.cells #[.int .i64 x, .int .i64 y] 24 (0, 0))) : k24.C w' (some ⟨g, 0, none⟩) 1 [⟨x, y⟩] :=
  lit_C (ps := [(⟨x, y⟩ : S24)]) (inner := [.int .i64 x, .int .i64 y]) hb ⟨rfl, fun j p hj => by
    match j, hj with
    | 0, hj => injection hj with hj; subst hj; exact k24_mk _ ⟨x, y⟩⟩ (by simp)

theorem sane_keep {w1 w8 W W' : World} (hb : Aside0 (Below W.heap.size W W')) (h : W.cell? ⟨w1.heap.size, 0, none⟩ = some (.int .i64 1) ∧ W.cell? ⟨w1.heap.size, 1, none⟩ = some (.int .i64 3) ∧ W.cell? ⟨w1.heap.size + 1, 0, none⟩ = some (.int .i64 4) ∧ W.cell? ⟨w1.heap.size + 1, 1, none⟩ = some (.int .i64 (-1)) ∧ Aside0 (Below w8.heap.size w8 W)) : W'.cell? ⟨w1.heap.size, 0, none⟩ = some (.int .i64 1) ∧ W'.cell? ⟨w1.heap.size, 1, none⟩ = some (.int .i64 3) ∧ W'.cell? ⟨w1.heap.size + 1, 0, none⟩ = some (.int .i64 4) ∧ W'.cell? ⟨w1.heap.size + 1, 1, none⟩ = some (.int .i64 (-1)) ∧ Aside0 (Below w8.heap.size w8 W') :=
  ⟨cell_low hb.out h.1, cell_low hb.out h.2.1, cell_low hb.out h.2.2.1, cell_low hb.out h.2.2.2.1, ⟨below_tr h.2.2.2.2.out hb.out⟩⟩
theorem same_any (A : Option Addr) (c : Nat) (B : Option Addr) (d n : Nat) (a : List S24) (w : World) (hra : k24.C w A n a) (hrb : k24.C w B n a) :
    Calls Tryd.prog 12 #[.slice A n c, .slice B n d] w fun e w' => e = .returned (.bool true) ∧ Aside0 (Below w.heap.size w w') := by
  obtain rfl : a.length = n := hra.1
  have h := same_calls A c a B d a w hra hrb
  rw [(sSame_iff a a).2 rfl] at h
  exact h.mono fun _ _ h => ⟨h.1, ⟨h.2⟩⟩
theorem ball_C (A : Option Addr) (c : Nat) (l : List S34) (sec : Int) (b : List S24) (w : World) (hE : ErrT w) (hr : k34.C w A l.length l) (hc : l.length ≤ c) (hL : ∀ s ∈ l, s.f7.length ≤ 100000) (hb : bAll l sec = b) :
    Calls Tryd.prog 13 #[.slice A l.length c, .int .i64 sec] w fun e w' => ∃ B d, e = .returned (.slice B b.length d) ∧ k24.C w' B b.length b ∧ Aside0 (Below w.heap.size w w') := by
  refine (ball_calls A c l sec w hE hr hc (bAll_hL hL sec)).mono ?_
  rintro e w' ⟨v, rfl, hR, hb1⟩
  rw [hb] at hR
  obtain ⟨B, d, rfl, _, hC⟩ := Kd.R_reads hR
  exact ⟨B, d, rfl, hC, ⟨hb1⟩⟩

set_option maxRecDepth 100000 in
set_option maxHeartbeats 8000000 in
theorem sane_calls (w : World) (hE : ErrT w) : Calls Tryd.prog 10 #[] w fun e w' => e = .returned (.bool true) ∧ Below w.heap.size w w' := by
  have HE := Aside0.mk hE; clear hE
  go_enter Tryd.func10, Tryd.ntmps10
  go_wp2_with fail
  refine (some_calls w).mono ?_
  rintro e w1 ⟨A, rfl, hC, hb1⟩
  have HC := Aside0.mk hC; have HB1 := Aside0.mk hb1
  have hb2 := ((Below.refl w1.heap.size w1).alloc (Nat.le_refl _) (.cells #[.int .i64 1, .int .i64 3] 24)).alloc (by simp) (.cells #[.int .i64 4, .int .i64 (-1)] 24)
  have hx2 := blk_alloc (new_blk w1 (.cells #[.int .i64 1, .int .i64 3] 24)) (.cells #[.int .i64 4, .int .i64 (-1)] 24)
  have hx3 := new_blk (w1.alloc (.cells #[.int .i64 1, .int .i64 3] 24)) (.cells #[.int .i64 4, .int .i64 (-1)] 24)
  rw [World.size_alloc] at hx3
  have HB2 := Aside0.mk hb2; have HX2 := Aside0.mk hx2; have HX3 := Aside0.mk hx3
  clear hC hb1 hb2 hx2 hx3
  have g20 := bclash_calls A 4 someL 1 3 4 (-1) _ (HE.out.below (below_tr HB1.out HB2.out)) (Kd.C_below HC.out HB2.out) (Nat.le_refl _)
  rw [sv0] at g20
  have G20 := Aside0.mk g20; clear g20
  go_wp2_with fail
  refine G20.out.mono ?_
  rintro e w2 ⟨rfl, hb3⟩
  have HB3 := Aside0.mk (below_tr HB2.out hb3)
  have X2 := Aside0.mk (blk_low hb3 HX2.out); have X3 := Aside0.mk (blk_low hb3 HX3.out)
  clear hb3 G20 HX2 HX3
  have z20 := (blk_cell X2.out 0).trans rfl; have z21 := (blk_cell X2.out 1).trans rfl
  have g15 := bmeet_calls A 4 someL 1 3 w2 (HE.out.below (below_tr HB1.out HB3.out)) (Kd.C_below HC.out HB3.out) (Nat.le_refl _) (bMeet_hL someL5)
  rw [sv1] at g15
  have G15 := Aside0.mk g15; clear g15
  go_wp2_with fail
  refine G15.out.mono ?_
  rintro e w3 ⟨v6, rfl, hR6, hb4⟩
  obtain ⟨A6, c6, rfl⟩ := Kd.R_slice hR6
  have HB4 := Aside0.mk (below_tr HB3.out hb4)
  have Y2 := Aside0.mk (blk_low hb4 X2.out); have Y3 := Aside0.mk (blk_low hb4 X3.out)
  clear hR6 hb4 z20 z21 G15 X2 X3
  have hbs := (Below.refl w3.heap.size w3).alloc (Nat.le_refl _) (.cells #[.int .i64 3, .int .i64 3, .int .i64 (-1), .int .i64 3, .int .i64 1, .int .i64 (-1), .int .i64 4, .int .i64 4, .int .i64 (-1)] 47)
  have g22 := bof_calls A 4 someL (some ⟨w3.heap.size, 0, none⟩) 3 seatsL 3 3 _ (Kd.C_below HC.out (below_tr HB4.out hbs)) (seats_C (new_blk w3 _)) (by decide)
  rw [show bOf someL seatsL 3 3 = [⟨1, 3⟩] from sv2'] at g22
  have G22 := Aside0.mk g22; have HBS := Aside0.mk hbs; clear g22 hbs
  go_wp2_with fail
  refine G22.out.mono ?_
  rintro e w4 ⟨v8, rfl, hR8, hb5⟩
  obtain ⟨A8, c8, rfl, -, hC8⟩ := Kd.R_reads hR8
  have HC8 := Aside0.mk hC8
  have HB5 := Aside0.mk (below_tr (below_tr HB4.out HBS.out) hb5)
  have Z2 := Aside0.mk (blk_low hb5 (blk_low HBS.out Y2.out)); have Z3 := Aside0.mk (blk_low hb5 (blk_low HBS.out Y3.out))
  clear hR8 hC8 hb5 Y2 Y3 G22 HBS
  have h17 := bcheck_calls none 0 [] 0 (-1) w4 (HE.out.below (below_tr HB1.out HB5.out)) (Kd.C_nil _ _) (Nat.le_refl _)
  rw [sv3] at h17
  have H17 := Aside0.mk h17; clear h17
  go_wp2_with fail
  refine H17.out.mono ?_
  rintro e w5 ⟨rfl, hb6⟩
  have HB6 := Aside0.mk (below_tr HB5.out hb6); have HC8b := Aside0.mk (Kd.C_below HC8.out hb6)
  have V2 := Aside0.mk (blk_low hb6 Z2.out); have V3 := Aside0.mk (blk_low hb6 Z3.out)
  clear hb6 Z2 Z3 H17 HC8
  have H13 := Aside0.mk (ball_C none 0 [] 0 [] w5 (HE.out.below (below_tr HB1.out HB6.out)) (Kd.C_nil _ _) (Nat.le_refl _) (by simp) sv4)
  go_wp2_with fail
  refine H13.out.mono ?_
  rintro e w6 ⟨A9, c9, rfl, -, ⟨hb7⟩⟩
  have HB7 := Aside0.mk (below_tr HB6.out hb7); have HC8c := Aside0.mk (Kd.C_below HC8b.out hb7)
  have U2 := Aside0.mk (blk_low hb7 V2.out); have U3 := Aside0.mk (blk_low hb7 V3.out)
  clear hb7 V2 V3 H13 HC8b
  have h22 := bof_calls none 0 [] none 0 [] 3 5 w6 (Kd.C_nil _ _) (Kd.C_nil _ _) (by decide)
  rw [sv5] at h22
  have H22 := Aside0.mk h22; clear h22
  go_wp2_with fail
  refine H22.out.mono ?_
  rintro e w8 ⟨v9, rfl, hR9, hb8⟩
  obtain ⟨A7, c7, rfl⟩ := Kd.R_slice hR9
  have HB8 := Aside0.mk (below_tr HB7.out hb8); have HC8d := Aside0.mk (Kd.C_below HC8c.out hb8)
  have T2 := Aside0.mk (blk_low hb8 U2.out); have T3 := Aside0.mk (blk_low hb8 U3.out)
  clear hR9 hb8 U2 U3 H22 HC8c
  have i131 : Aside0 (∀ W, W.cell? ⟨w1.heap.size, 0, none⟩ = some (.int .i64 1) ∧ W.cell? ⟨w1.heap.size, 1, none⟩ = some (.int .i64 3) ∧ W.cell? ⟨w1.heap.size + 1, 0, none⟩ = some (.int .i64 4) ∧ W.cell? ⟨w1.heap.size + 1, 1, none⟩ = some (.int .i64 (-1)) ∧ Aside0 (Below w8.heap.size w8 W) → Calls Tryd.prog 13 #[.slice A 4 4, .int .i64 1] W fun e w' => ∃ B d, e = .returned (.slice B 1 d) ∧ k24.C w' B 1 [⟨1, 3⟩] ∧ Aside0 (Below W.heap.size W w')) := ⟨fun W h => ball_C A 4 someL 1 [⟨1, 3⟩] W (HE.out.below (below_tr HB1.out (below_tr HB8.out h.2.2.2.2.out))) (Kd.C_below HC.out (below_tr HB8.out h.2.2.2.2.out)) (Nat.le_refl _) someL7 sv6⟩
  have i134 : Aside0 (∀ W, W.cell? ⟨w1.heap.size, 0, none⟩ = some (.int .i64 1) ∧ W.cell? ⟨w1.heap.size, 1, none⟩ = some (.int .i64 3) ∧ W.cell? ⟨w1.heap.size + 1, 0, none⟩ = some (.int .i64 4) ∧ W.cell? ⟨w1.heap.size + 1, 1, none⟩ = some (.int .i64 (-1)) ∧ Aside0 (Below w8.heap.size w8 W) → Calls Tryd.prog 13 #[.slice A 4 4, .int .i64 4] W fun e w' => ∃ B d, e = .returned (.slice B 1 d) ∧ k24.C w' B 1 [⟨4, -1⟩] ∧ Aside0 (Below W.heap.size W w')) := ⟨fun W h => ball_C A 4 someL 4 [⟨4, -1⟩] W (HE.out.below (below_tr HB1.out (below_tr HB8.out h.2.2.2.2.out))) (Kd.C_below HC.out (below_tr HB8.out h.2.2.2.2.out)) (Nat.le_refl _) someL7 sv7⟩
  have i132 : Aside0 (∀ W, W.cell? ⟨w1.heap.size, 0, none⟩ = some (.int .i64 1) ∧ W.cell? ⟨w1.heap.size, 1, none⟩ = some (.int .i64 3) ∧ W.cell? ⟨w1.heap.size + 1, 0, none⟩ = some (.int .i64 4) ∧ W.cell? ⟨w1.heap.size + 1, 1, none⟩ = some (.int .i64 (-1)) ∧ Aside0 (Below w8.heap.size w8 W) → Calls Tryd.prog 13 #[.slice A 4 4, .int .i64 2] W fun e w' => ∃ B d, e = .returned (.slice B 0 d) ∧ k24.C w' B 0 [] ∧ Aside0 (Below W.heap.size W w')) := ⟨fun W h => ball_C A 4 someL 2 [] W (HE.out.below (below_tr HB1.out (below_tr HB8.out h.2.2.2.2.out))) (Kd.C_below HC.out (below_tr HB8.out h.2.2.2.2.out)) (Nat.le_refl _) someL7 sv8⟩
  have j1 : ∀ W, W.cell? ⟨w1.heap.size, 0, none⟩ = some (.int .i64 1) ∧ W.cell? ⟨w1.heap.size, 1, none⟩ = some (.int .i64 3) ∧ W.cell? ⟨w1.heap.size + 1, 0, none⟩ = some (.int .i64 4) ∧ W.cell? ⟨w1.heap.size + 1, 1, none⟩ = some (.int .i64 (-1)) ∧ Aside0 (Below w8.heap.size w8 W) → Calls Tryd.prog 17 #[.slice A 4 4, .agg #[.int .i64 1, .int .i64 (-1)]] W fun e w' => e = .returned (.int .i64 240) ∧ Aside0 (Below W.heap.size W w') := fun W h => by
    have := bcheck_calls A 4 someL 1 (-1) W (HE.out.below (below_tr HB1.out (below_tr HB8.out h.2.2.2.2.out))) (Kd.C_below HC.out (below_tr HB8.out h.2.2.2.2.out)) (Nat.le_refl _)
    rw [sv9] at this
    exact this.mono fun _ _ h => ⟨h.1, ⟨h.2⟩⟩
  have j2 : ∀ W, W.cell? ⟨w1.heap.size, 0, none⟩ = some (.int .i64 1) ∧ W.cell? ⟨w1.heap.size, 1, none⟩ = some (.int .i64 3) ∧ W.cell? ⟨w1.heap.size + 1, 0, none⟩ = some (.int .i64 4) ∧ W.cell? ⟨w1.heap.size + 1, 1, none⟩ = some (.int .i64 (-1)) ∧ Aside0 (Below w8.heap.size w8 W) → Calls Tryd.prog 17 #[.slice A 4 4, .agg #[.int .i64 1, .int .i64 3]] W fun e w' => e = .returned (.int .i64 0) ∧ Aside0 (Below W.heap.size W w') := fun W h => by
    have := bcheck_calls A 4 someL 1 3 W (HE.out.below (below_tr HB1.out (below_tr HB8.out h.2.2.2.2.out))) (Kd.C_below HC.out (below_tr HB8.out h.2.2.2.2.out)) (Nat.le_refl _)
    rw [sv10] at this
    exact this.mono fun _ _ h => ⟨h.1, ⟨h.2⟩⟩
  have J1 := Aside0.mk j1; have J2 := Aside0.mk j2; clear j1 j2
  have hS0 : (w8.drew.cell? ⟨w1.heap.size, 0, none⟩ = some (.int .i64 1) ∧ w8.drew.cell? ⟨w1.heap.size, 1, none⟩ = some (.int .i64 3) ∧ w8.drew.cell? ⟨w1.heap.size + 1, 0, none⟩ = some (.int .i64 4) ∧ w8.drew.cell? ⟨w1.heap.size + 1, 1, none⟩ = some (.int .i64 (-1)) ∧ Aside0 (Below w8.heap.size w8 w8.drew)) := ⟨(blk_cell T2.out 0).trans rfl, (blk_cell T2.out 1).trans rfl, (blk_cell T3.out 0).trans rfl, (blk_cell T3.out 1).trans rfl, ⟨pw_below_drewN (Below.refl _ _) 1⟩⟩
  have hSA : (w8.alloc (.cells #[.int .i64 1, .int .i64 3] 24)).drew.cell? ⟨w1.heap.size, 0, none⟩ = some (.int .i64 1) ∧ (w8.alloc (.cells #[.int .i64 1, .int .i64 3] 24)).drew.cell? ⟨w1.heap.size, 1, none⟩ = some (.int .i64 3) ∧ (w8.alloc (.cells #[.int .i64 1, .int .i64 3] 24)).drew.cell? ⟨w1.heap.size + 1, 0, none⟩ = some (.int .i64 4) ∧ (w8.alloc (.cells #[.int .i64 1, .int .i64 3] 24)).drew.cell? ⟨w1.heap.size + 1, 1, none⟩ = some (.int .i64 (-1)) ∧ Aside0 (Below w8.heap.size w8 (w8.alloc (.cells #[.int .i64 1, .int .i64 3] 24)).drew) := sane_keep (W := w8.drew) ⟨⟨rfl, rfl, rfl, by show w8.heap.size ≤ (w8.alloc _).heap.size; simp, fun k hk => (Below.heap_alloc w8 _ k hk)⟩⟩ hS0
  have hNB := Aside0.mk (show (w8.alloc (.cells #[.int .i64 1, .int .i64 3] 24)).drew.heap[w8.heap.size]? = some (.cells #[.int .i64 1, .int .i64 3] 24 (0, 0)) from new_blk w8 _)
  have HBw := Aside0.mk (below_tr HB1.out HB8.out)
  have hC8S : Aside0 (∀ W, W.cell? ⟨w1.heap.size, 0, none⟩ = some (.int .i64 1) ∧ W.cell? ⟨w1.heap.size, 1, none⟩ = some (.int .i64 3) ∧ W.cell? ⟨w1.heap.size + 1, 0, none⟩ = some (.int .i64 4) ∧ W.cell? ⟨w1.heap.size + 1, 1, none⟩ = some (.int .i64 (-1)) ∧ Aside0 (Below w8.heap.size w8 W) → k24.C W A8 1 [⟨1, 3⟩]) := ⟨fun W h => Kd.C_below HC8d.out h.2.2.2.2.out⟩
  go_wp2_with fail
  go_region_held3 (fun W => W.cell? ⟨w1.heap.size, 0, none⟩ = some (.int .i64 1) ∧ W.cell? ⟨w1.heap.size, 1, none⟩ = some (.int .i64 3) ∧ W.cell? ⟨w1.heap.size + 1, 0, none⟩ = some (.int .i64 4) ∧ W.cell? ⟨w1.heap.size + 1, 1, none⟩ = some (.int .i64 (-1)) ∧ Aside0 (Below w8.heap.size w8 W))
    (first | with_reducible assumption | (refine sane_keep ⟨(Below.refl _ _).alloc (Nat.le_refl _) _⟩ ?_; with_reducible assumption) | (apply sane_keep; with_reducible assumption; with_reducible assumption))
    (first
      | (go_at_call 13; (first | with_reducible refine (i131.out _ ?_).mono ?_ | with_reducible refine (i134.out _ ?_).mono ?_ | with_reducible refine (i132.out _ ?_).mono ?_); with_reducible assumption; rintro e W' ⟨B, d, rfl, hC, hb⟩)
      | (go_at_call 17; (first | with_reducible refine (J1.out _ ?_).mono ?_ | with_reducible refine (J2.out _ ?_).mono ?_); with_reducible assumption; rintro e W' ⟨rfl, hb⟩)
      | (go_at_call 12; (first | (with_reducible refine (same_any _ _ _ _ _ [⟨1, 3⟩] _ ?_ ?_).mono ?_; (first | with_reducible assumption | (refine Kd.C_below ?_ ((Below.refl _ _).alloc (Nat.le_refl _) _); with_reducible assumption) | (refine hC8S.out _ ?_; with_reducible assumption)); (first | exact bun_C (1) (3) (new_blk _ _) | (refine bun_C 1 3 (blk_low (Aside0.out ?_) hNB.out); with_reducible assumption) | (refine bun_C (1) (3) (blk_low (Aside0.out ?_) (new_blk _ _)); with_reducible assumption)); rintro e W' ⟨rfl, hb⟩) | (with_reducible refine (same_any _ _ _ _ _ [⟨4, -1⟩] _ ?_ ?_).mono ?_; (first | with_reducible assumption | (refine Kd.C_below ?_ ((Below.refl _ _).alloc (Nat.le_refl _) _); with_reducible assumption)); (first | exact bun_C (4) (-1) (new_blk _ _) | (refine bun_C (4) (-1) (blk_low (Aside0.out ?_) (new_blk _ _)); with_reducible assumption)); rintro e W' ⟨rfl, hb⟩))))
  all_goals
    go_wp2
    go_ret
    refine ⟨rfl, ?_⟩
    have hw := (show Aside0 (Below w8.heap.size w8 _) from (by assumption : _ ∧ _ ∧ _ ∧ _ ∧ Aside0 (Below w8.heap.size w8 _)).2.2.2.2).out
    exact below_tr HBw.out hw
end Go.Proofs.YtbpgoddohhiohaaDoor
