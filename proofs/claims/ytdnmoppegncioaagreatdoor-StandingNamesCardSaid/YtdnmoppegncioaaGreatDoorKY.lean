/- record.within; record.Of, over any contract of (*record.look).of. -/
import Derived.Test.YtdnmoppegncioaaGreatDoorKS0
import Derived.Test.YtdnmoppegncioaaGreatDoorKT
import Derived.RegionTactic
namespace Go.Proofs.YtdnmoppegncioaaGreatDoor
open Go.RowKit Go.Proofs.YtdnmoppegncioaaGreatDoorW.PrintWords
set_option linter.unusedVariables false
set_option linter.unusedSimpArgs false
theorem R_put2L {α : Type} {d : Kd α} {e : Nat} {w : World} {base : Nat} {ok : Nat → Prop} {v : Value} {xs : List α} (h : d.R e w base ok v xs) {g t : Nat} {a0 a1 : Value} (hb : w.heap[g]? = some (.cells #[a0, a1] t (0, 0))) (ht : ∀ q, q ∈ e :: d.E → q ≠ t) (v0 v1 : Value) : d.R e ((w.setCell ⟨g, 0, none⟩ v0).setCell ⟨g, 1, none⟩ v1) base ok v xs :=
  Kd.R_set (Kd.R_set h hb ht 0 v0) (blk_put (cs' := #[v0, a1]) hb 0 v0 rfl) ht 1 v1
theorem rwithin_calls (n lo hi : Int) (W : World) : Calls Tryz.prog 53 #[.int .i64 n, .int .i64 lo, .int .i64 hi] W fun e w' => e = .returned (.bool (inR n lo hi)) ∧ w' = W := by
  cases h1 : decide (lo ≤ n) with
  | false =>
    have hs : inR n lo hi = false := by unfold inR; rw [h1]; rfl
    rw [hs]
    go_enter Tryz.func53, Tryz.ntmps53
    go_wp2
    go_ret
    exact ⟨rfl, rfl⟩
  | true =>
    have hs : inR n lo hi = decide (n ≤ hi) := by unfold inR; rw [h1]; rfl
    rw [hs]
    go_enter Tryz.func53, Tryz.ntmps53
    go_wp2
    go_ret
    exact ⟨rfl, rfl⟩
set_option maxHeartbeats 4000000 in
theorem rof_of (D1 D2 D3 D4 : Option Addr) (n1 n2 n3 n4 e1 e2 e3 e4 : Nat) (st t kn : Int) (la : List S141) (ra : List S119) (w : World) (hst : 0 ≤ st ∧ st < 20000) (ht : 0 ≤ t ∧ t ≤ 1024)
    (hof : ∀ (V : World) (g : Nat), Below w.heap.size w V → w.heap.size ≤ g → V.heap[g]? = some (lookO (.slice none 0 0) (.slice D1 n1 e1) (.slice D2 n2 e2) (.slice D3 n3 e3) (.slice D4 n4 e4) (.int .i64 kn)) → Calls Tryz.prog 54 #[.pointer (some ⟨g, 0, none⟩), .int .i64 st, .int .i64 t] V fun e w' => ∃ av, e = .returned (.agg #[.int .i64 st, av]) ∧ k141.R 141 w' w.heap.size (fun _ => True) av la ∧ ∃ v', w'.heap[g]? = some (lookO v' (.slice D1 n1 e1) (.slice D2 n2 e2) (.slice D3 n3 e3) (.slice D4 n4 e4) (.int .i64 kn)) ∧ k119.R 119 w' w.heap.size (fun _ => True) v' ra ∧ Below w.heap.size w w' ∧ KeepL V w') :
    Calls Tryz.prog 44 #[.agg #[.slice D1 n1 e1, .slice D2 n2 e2, .slice D3 n3 e3, .slice D4 n4 e4], .int .i64 st, .int .i64 t, .int .i64 kn] w fun e w' => ∃ av rv, e = .returned (.tuple #[.agg #[.int .i64 st, av], rv, .int .i64 0]) ∧ k141.R 141 w' w.heap.size (fun _ => True) av la ∧ k119.R 119 w' w.heap.size (fun _ => True) rv ra ∧ Below w.heap.size w w' := by
  have h1 := fun W => rwithin_calls st 0 19999 W
  have h2 := fun W => rwithin_calls t 0 1024 W
  rw [show inR st 0 19999 = true by simp [inR]; omega] at h1
  rw [show inR t 0 1024 = true by simp [inR]; omega] at h2
  have H1 := Aside0.mk h1; have H2 := Aside0.mk h2; clear h1 h2
  obtain ⟨W1, h1⟩ : ∃ W1, W1 = w.alloc (.cells #[.slice D1 n1 e1, .slice D2 n2 e2, .slice D3 n3 e3, .slice D4 n4 e4] 58) := ⟨_, rfl⟩
  obtain ⟨W2, h2⟩ : ∃ W2, W2 = W1.alloc (.cells #[.int .i64 0, .slice none 0 0] 88) := ⟨_, rfl⟩
  obtain ⟨W3, h3⟩ : ∃ W3, W3 = W2.alloc (.cells #[.slice none 0 0, .slice D1 n1 e1, .slice D2 n2 e2, .slice D3 n3 e3, .slice D4 n4 e4, .int .i64 kn] 105) := ⟨_, rfl⟩
  have p1 := nb (W := w) rfl (.cells #[.slice D1 n1 e1, .slice D2 n2 e2, .slice D3 n3 e3, .slice D4 n4 e4] 58); rw [← h1] at p1
  have p2 := nb p1.2 (.cells #[.int .i64 0, .slice none 0 0] 88); rw [← h2] at p2
  have p3 := nb p2.2 (.cells #[.slice none 0 0, .slice D1 n1 e1, .slice D2 n2 e2, .slice D3 n3 e3, .slice D4 n4 e4, .int .i64 kn] 105); rw [← h3] at p3
  have hB3 : Below w.heap.size w W3 := by rw [h3, h2, h1]; exact (((Below.refl _ w).alloc (Nat.le_refl _) _).alloc (by simp) _).alloc (by simp; omega) _
  have HN3 := Aside0.mk (show W3.heap[w.heap.size + 1]? = some (.cells #[.int .i64 0, .slice none 0 0] 88 (0, 0)) by rw [h3]; exact blk_alloc p2.1 _)
  have HC := Aside0.mk (hof W3 (w.heap.size + 1 + 1) hB3 (by omega) p3.1)
  clear p1 p2 p3 hof hB3
  go_enter Tryz.func44, Tryz.ntmps44
  go_wp2_with (go_at_call 53; (first | with_reducible refine (H1.out _).mono ?_ | with_reducible refine (H2.out _).mono ?_); rintro e w1 ⟨rfl, rfl⟩)
  (try rw [← h1]); (try rw [← h2]); (try rw [← h3])
  refine HC.out.mono ?_
  rintro e w4 ⟨av, rfl, hA, v4, hx4, hR4, hb4, hk4⟩
  obtain ⟨A, c, rfl⟩ := Kd.R_slice hA
  have hn4 := hk4 _ _ _ _ (by decide) (by decide) HN3.out
  have z0 := (blk_cell hn4 0).trans rfl; have z1 := (blk_cell hn4 1).trans rfl
  have zf : ∀ i, w4.frozen? ⟨w.heap.size + 1, i, none⟩ = false := fun i => blk_frozen hn4 i
  have HA4 := Aside0.mk hA; have HX4 := Aside0.mk hx4; have HR4 := Aside0.mk hR4; have HB4 := Aside0.mk hb4; have HN4 := Aside0.mk hn4
  obtain ⟨A', c', rfl⟩ := Kd.R_slice hR4
  clear hA hx4 hR4 hb4 hk4 hn4 HN3 h1 h2 h3 W1 W2 HC
  go_wp2
  have hn5 := blk_put2 HN4.out (.int .i64 st) (.slice A la.length c)
  have HX5 := (Below.heap_setCell (w4.setCell ⟨w.heap.size + 1, 0, none⟩ (.int .i64 st)) ⟨w.heap.size + 1, 1, none⟩ (.slice A la.length c) (w.heap.size + 1 + 1) (by simp)).trans ((Below.heap_setCell w4 ⟨w.heap.size + 1, 0, none⟩ (.int .i64 st) (w.heap.size + 1 + 1) (by simp)).trans HX4.out)
  have HA5 := Aside0.mk (R_put2L HA4.out HN4.out (by decide) (.int .i64 st) (.slice A la.length c)); have HR5 := Aside0.mk (R_put2L HR4.out HN4.out (by decide) (.int .i64 st) (.slice A la.length c)); have HB5 := Aside0.mk (below_put2 HB4.out (Nat.le_succ _) (.int .i64 st) (.slice A la.length c))
  have HN5 := Aside0.mk hn5
  clear HA4 HR4 HB4 HN4 HX4 z0 z1 zf
  generalize ((w4.setCell ⟨w.heap.size + 1, 0, none⟩ (.int .i64 st)).setCell ⟨w.heap.size + 1, 1, none⟩ (.slice A la.length c)) = w5 at *
  have z0 := (blk_cell hn5 0).trans rfl; have z1 := (blk_cell hn5 1).trans rfl; have y0 := (blk_cell HX5 0).trans rfl
  have zf : ∀ i, w5.frozen? ⟨w.heap.size + 1, i, none⟩ = false := fun i => blk_frozen hn5 i
  clear hn5 HX5
  go_region
  all_goals
    go_wp2
    have hf := blk_put2 HN5.out (.int .i64 st) (.slice A la.length c)
    have u0 : ((w5.setCell ⟨w.heap.size + 1, 0, none⟩ (.int .i64 st)).setCell ⟨w.heap.size + 1, 1, none⟩ (.slice A la.length c)).drew.cell? ⟨w.heap.size + 1, 0, none⟩ = some (.int .i64 st) := (blk_cell hf 0).trans rfl
    have u1 : ((w5.setCell ⟨w.heap.size + 1, 0, none⟩ (.int .i64 st)).setCell ⟨w.heap.size + 1, 1, none⟩ (.slice A la.length c)).drew.cell? ⟨w.heap.size + 1, 1, none⟩ = some (.slice A la.length c) := (blk_cell hf 1).trans rfl
    exact bodyPost_ret (v := .tuple #[.agg #[.int .i64 st, .slice A la.length c], .slice A' ra.length c', .int .i64 0]) (by simp [results, Tryz.f44, go_sem, u0, u1]) rfl ⟨_, _, rfl, Kd.R_drew (R_put2L HA5.out HN5.out (by decide) _ _), Kd.R_drew (R_put2L HR5.out HN5.out (by decide) _ _), below_drew (below_put2 HB5.out (Nat.le_succ _) _ _)⟩
end Go.Proofs.YtdnmoppegncioaaGreatDoor
