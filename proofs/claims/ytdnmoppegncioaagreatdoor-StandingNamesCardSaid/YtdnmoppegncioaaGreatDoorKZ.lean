/- record.Counted, over any contracts of record.Check and (*record.look).counted that succeed. -/
import Derived.Test.YtdnmoppegncioaaGreatDoorKY
import Derived.BigQuiet
import Derived.Deep.QuietTactic
namespace Go.Proofs.YtdnmoppegncioaaGreatDoor
open Go.RowKit Go.Proofs.YtdnmoppegncioaaGreatDoorW.PrintWords
set_option linter.unusedVariables false
set_option linter.unusedSimpArgs false
set_option maxHeartbeats 4000000 in
theorem rcounted_of (D1 D2 D3 D4 : Option Addr) (n1 n2 n3 n4 e1 e2 e3 e4 : Nat) (st t kn : Int) (A : Option Addr) (c : Nat) (la lc : List S141) (rc : List S119) (w : World) (ht : 0 ≤ t ∧ t < 1024)
    (hchk : ∀ V, Below w.heap.size w V → Calls Tryz.prog 55 #[.agg #[.int .i64 st, .slice A la.length c]] V fun e w' => e = .returned (.int .i64 0) ∧ Below V.heap.size V w')
    (hct : ∀ (V : World) (g : Nat), Below w.heap.size w V → w.heap.size ≤ g → V.heap[g]? = some (lookO (.slice none 0 0) (.slice D1 n1 e1) (.slice D2 n2 e2) (.slice D3 n3 e3) (.slice D4 n4 e4) (.int .i64 kn)) → Calls Tryz.prog 56 #[.pointer (some ⟨g, 0, none⟩), .slice A la.length c, .int .i64 t] V fun e w' => ∃ lv, e = .returned (.tuple #[lv, .int .i64 0]) ∧ k141.R 141 w' w.heap.size (fun _ => True) lv lc ∧ ∃ v', w'.heap[g]? = some (lookO v' (.slice D1 n1 e1) (.slice D2 n2 e2) (.slice D3 n3 e3) (.slice D4 n4 e4) (.int .i64 kn)) ∧ k119.R 119 w' w.heap.size (fun _ => True) v' rc ∧ Below w.heap.size w w') :
    Calls Tryz.prog 45 #[.agg #[.slice D1 n1 e1, .slice D2 n2 e2, .slice D3 n3 e3, .slice D4 n4 e4], .agg #[.int .i64 st, .slice A la.length c], .int .i64 t, .int .i64 kn] w fun e w' => ∃ lv rv, e = .returned (.tuple #[lv, rv, .int .i64 0]) ∧ k141.R 141 w' w.heap.size (fun _ => True) lv lc ∧ k119.R 119 w' w.heap.size (fun _ => True) rv rc ∧ Below w.heap.size w w' := by
  have h2 := fun W => rwithin_calls t 0 1023 W
  rw [show inR t 0 1023 = true by simp [inR]; omega] at h2
  have H2 := Aside0.mk h2; clear h2
  obtain ⟨W1, h1⟩ : ∃ W1, W1 = w.alloc (.cells #[.slice D1 n1 e1, .slice D2 n2 e2, .slice D3 n3 e3, .slice D4 n4 e4] 58) := ⟨_, rfl⟩
  obtain ⟨W2, h2⟩ : ∃ W2, W2 = W1.alloc (.cells #[.int .i64 st, .slice A la.length c] 88) := ⟨_, rfl⟩
  have p1 := nb (W := w) rfl (.cells #[.slice D1 n1 e1, .slice D2 n2 e2, .slice D3 n3 e3, .slice D4 n4 e4] 58); rw [← h1] at p1
  have p2 := nb p1.2 (.cells #[.int .i64 st, .slice A la.length c] 88); rw [← h2] at p2
  have hB2 : Below w.heap.size w W2 := by rw [h2, h1]; exact ((Below.refl _ w).alloc (Nat.le_refl _) _).alloc (by simp) _
  have HW2 := Aside0.mk (show W2.heap[w.heap.size]? = some (.cells #[.slice D1 n1 e1, .slice D2 n2 e2, .slice D3 n3 e3, .slice D4 n4 e4] 58 (0, 0)) by rw [h2]; exact blk_alloc p1.1 _)
  have HN2 := Aside0.mk p2.1; have HB2 := Aside0.mk hB2
  have HC := Aside0.mk (hchk W2 hB2); have HCt := Aside0.mk hct
  clear p1 p2 hchk hct hB2
  go_enter Tryz.func45, Tryz.ntmps45
  go_wp2_with fail
  (try rw [← h1]); (try rw [← h2])
  clear h1 h2 W1
  refine HC.out.mono ?_
  rintro e w3 ⟨rfl, hb3⟩
  have HB3 := Aside0.mk (below_tr HB2.out hb3); have HN3 := Aside0.mk (blk_low hb3 HN2.out)
  have hw3 := blk_low hb3 HW2.out
  have z0 := (blk_cell hw3 0).trans rfl; have z1 := (blk_cell hw3 1).trans rfl; have z2 := (blk_cell hw3 2).trans rfl; have z3 := (blk_cell hw3 3).trans rfl
  have y1 : ∀ o : Obj, (w3.alloc o).cell? ⟨w.heap.size + 1, 1, none⟩ = some (.slice A la.length c) := fun o => (blk_cell (blk_alloc HN3.out o) 1).trans rfl
  clear hb3 hw3 HW2 HN2 HB2 HC
  go_wp2_with (go_at_call 53; refine (H2.out _).mono ?_; rintro e w3 ⟨rfl, rfl⟩)
  refine (HCt.out (w3.alloc (.cells #[.slice none 0 0, .slice D1 n1 e1, .slice D2 n2 e2, .slice D3 n3 e3, .slice D4 n4 e4, .int .i64 kn] 105)) w3.heap.size (HB3.out.alloc HB3.out.size _) HB3.out.size (new_blk _ _)).mono ?_
  rintro e w5 ⟨lv, rfl, hL, v5, hx5, hR5, hb5⟩
  obtain ⟨A1, c1, rfl⟩ := Kd.R_slice hL
  obtain ⟨A2, c2, rfl⟩ := Kd.R_slice hR5
  have HL := Aside0.mk hL; have HR := Aside0.mk hR5; have HB := Aside0.mk hb5
  have u0 := (blk_cell hx5 0).trans rfl
  clear hL hx5 hR5 hb5 HCt HB3 HN3 y1 z0 z1 z2 z3
  go_wp2
  go_quiet (fail)
  go_wp2
  exact bodyPost_ret (v := .tuple #[.slice A1 lc.length c1, .slice A2 rc.length c2, .int .i64 0]) (by simp [results, Tryz.f45, go_sem]) rfl ⟨_, _, rfl, Kd.R_below HL.out (pw_below_drewN (Below.refl _ _) _), Kd.R_below HR.out (pw_below_drewN (Below.refl _ _) _), pw_below_drewN HB.out _⟩
end Go.Proofs.YtdnmoppegncioaaGreatDoor
