/- (*record.trail).add, (*record.look).numbers over any contract of book.Numbers. (Printed by gen_kt.py.) -/
import Derived.Test.YtdnmoppegncioaaGreatDoorKV
namespace Go.Proofs.YtdnmoppegncioaaGreatDoor
open Go.RowKit Go.Proofs.YtdnmoppegncioaaGreatDoorW.PrintWords
set_option linter.unusedVariables false
set_option linter.unusedSimpArgs false
/-- A record's look in memory: its reads, its world and time. -/
abbrev lookO (v a b c d e : Value) : Obj := .cells #[v, a, b, c, d, e] 105 (0, 0)
set_option maxHeartbeats 2000000 in
theorem radd_calls (g : Nat) (v a b c d e : Value) (xs ys : List S119) (A : Option Addr) (cp : Nat) (B : Nat) (w0 w : World) (hg : w.heap[g]? = some (lookO v a b c d e)) (hR : k119.R 119 w B (fun _ => True) v xs) (hC : k119.C w A ys.length ys) (hB : B ≤ w.heap.size) (hgB : B ≤ g) (hl : (xs.length + ys.length) * 40 ≤ 140737488355328) (hb : Below B w0 w) :
    Calls Tryz.prog 90 #[.pointer (some ⟨g, 0, none⟩), .slice A ys.length cp] w fun e' w' => e' = .returned (.tuple #[]) ∧ ∃ v', w'.heap[g]? = some (lookO v' a b c d e) ∧ k119.R 119 w' B (fun _ => True) v' (xs ++ ys) ∧ Below B w0 w' ∧ w.heap.size ≤ w'.heap.size ∧ ∀ (k : Nat) (o : Obj), k ≠ g → w.heap[k]? = some o → some k ≠ v.ownBlock → w'.heap[k]? = some o := by
  obtain ⟨A0, c0, rfl⟩ := Kd.R_slice hR
  have hne := Kd.R_ne hR hg (by decide)
  have z0 := (blk_cell hg 0).trans rfl
  have f0 := blk_frozen hg 0
  have HG := Aside0.mk hg; have HR := Aside0.mk hR; have HC := Aside0.mk hC; have HB := Aside0.mk hb; have HNE := Aside0.mk hne
  clear hg hR hC hb hne
  go_enter Tryz.func90, Tryz.ntmps90
  go_wp2_with (at_builtin; go_must (refine Kd.R_append_rows k119 (w0 := w0) B rfl (.tmp 8) (.tmp 9) 48 119 (.agg #[.int .i64 0, .int .i64 0, .int .i64 0, .int .i64 0, .int .i64 0]) 40 rfl Tryz.underlying48 info119 rfl (by decide) (by omega) (.slice A0 xs.length c0) xs ys A ys.length cp (fun _ => True) (fun _ => False) rfl rfl HR.out HC.out (fun _ _ h => h) (fun _ h => h.elim) (fun _ _ => trivial) HB.out hB hl ?_; rintro v1 w5 hR5 hB5 hg5 hat5; have hx5 := blk_grown HG.out hg5 HNE.out; have hcz5 := (blk_cell hx5 0).trans rfl; have hfz5 := blk_frozen hx5 0; obtain ⟨A8, c8, rfl⟩ := Kd.R_slice hR5; rw [List.length_append] at hR5; have HX5 := Aside0.mk hx5; have HR5 := Aside0.mk hR5; have HB5 := Aside0.mk hB5; have HG5 := Aside0.mk hg5; clear hx5 hR5 hB5 hg5 hat5))
  go_end0
  refine ⟨rfl, _, blk_put HX5.out 0 _ rfl, Kd.R_set HR5.out HX5.out (by decide) 0 _, HB5.out.setCell (p := ⟨g, 0, none⟩) hgB _, ?_, fun k o hk hko hkv => ?_⟩
  · have := HG5.out.size; simpa using this
  · exact (Below.heap_setCell _ _ _ _ hk).trans (blk_grown hko HG5.out hkv)
/-- Blocks that hold neither reads nor a record's look stay. -/
def KeepL (w w' : World) : Prop := ∀ (k : Nat) (cs : Array Value) (t : TypeId) (f : Nat × Nat), t ≠ 119 → t ≠ 105 → w.heap[k]? = some (.cells cs t f) → w'.heap[k]? = some (.cells cs t f)
theorem KeepL.trans {a b c : World} (h : KeepL a b) (k : KeepL b c) : KeepL a c := fun i cs t f h1 h2 hi => k i cs t f h1 h2 (h i cs t f h1 h2 hi)
theorem KeepL.of_below {a b : World} (h : Below a.heap.size a b) : KeepL a b := fun i cs t f _ _ hi => blk_low h hi
theorem keepL_of {w w' : World} {B g : Nat} {okv : Nat → Prop} {v a b c d' e' f' : Value} {xs : List S119} (hg : w.heap[g]? = some (lookO a b c d' e' f')) (hv : k119.R 119 w B okv v xs) (hkeep : ∀ (k : Nat) (o : Obj), k ≠ g → w.heap[k]? = some o → some k ≠ v.ownBlock → w'.heap[k]? = some o) : KeepL w w' := fun k cs t f h1 h2 hk =>
  hkeep k _ (fun he => by subst he; rw [hk] at hg; injection hg with hg; injection hg with _ hg; exact h2 hg) hk (fun he => by
    obtain ⟨cells', hc'⟩ := Kd.R_typed hv k he.symm
    rw [hk] at hc'; injection hc' with hc'; injection hc' with _ hc'; exact h1 hc')
theorem RL_kept {α : Type} {d : Kd α} {e : Nat} {w w' : World} {base B g : Nat} {ok okv : Nat → Prop} {u v a b c d' e' f' : Value} {ys : List α} {xs : List S119} (h : d.R e w base ok u ys) (hg : w.heap[g]? = some (lookO a b c d' e' f')) (hv : k119.R 119 w B okv v xs) (ht : ∀ q, q ∈ e :: d.E → q ≠ 105) (hr : ∀ q, q ∈ e :: d.E → q ≠ 119) (hkeep : ∀ (k : Nat) (o : Obj), k ≠ g → w.heap[k]? = some o → some k ≠ v.ownBlock → w'.heap[k]? = some o) : d.R e w' base ok u ys :=
  Kd.R_mono (Kd.R_move (Kd.R_bound h) (fun k hk => by
    obtain ⟨_, _, _, q, hq, cells, hc⟩ := hk
    refine (hkeep k _ (fun he => ?_) hc (fun he => ?_)).trans hc.symm
    · subst he; rw [hc] at hg; injection hg with hg; injection hg with _ hg; exact ht q hq hg
    · obtain ⟨cells', hc'⟩ := Kd.R_typed hv k he.symm
      rw [hc] at hc'; injection hc' with hc'; injection hc' with _ hc'; exact hr q hq hc')) (fun k hk => hk.1)
set_option maxRecDepth 100000 in
set_option maxHeartbeats 8000000 in
theorem lnum_calls (g : Nat) (v d1 d2 d3 d4 : Value) (kn : Int) (ns : List Int) (xs rn : List S119) (B : Nat) (w0 w : World)
    (hnum : ∀ V, Below B w0 V → Calls Tryz.prog 89 #[.agg #[d1, d2, d3, d4], .int .i64 kn] V fun e w' => ∃ lv rv, e = .returned (.tuple #[lv, rv]) ∧ (Kd.int .i64).R 3 w' V.heap.size (fun _ => True) lv ns ∧ k119.R 119 w' V.heap.size (fun _ => True) rv rn ∧ Below V.heap.size V w')
    (hg : w.heap[g]? = some (lookO v d1 d2 d3 d4 (.int .i64 kn))) (hR : k119.R 119 w B (fun _ => True) v xs) (hB : B ≤ w.heap.size) (hgB : B ≤ g) (hl : (xs.length + rn.length) * 40 ≤ 140737488355328) (hb : Below B w0 w) :
    Calls Tryz.prog 71 #[.pointer (some ⟨g, 0, none⟩)] w fun e w' => ∃ lv, e = .returned lv ∧ (Kd.int .i64).R 3 w' B (fun _ => True) lv ns ∧ ∃ v', w'.heap[g]? = some (lookO v' d1 d2 d3 d4 (.int .i64 kn)) ∧ k119.R 119 w' B (fun _ => True) v' (xs ++ rn) ∧ Below B w0 w' ∧ KeepL w w' := by
  have HNum := Aside0.mk hnum; have HG := Aside0.mk hg; have HR := Aside0.mk hR; have HB := Aside0.mk hb
  clear hnum hg hR hb
  go_enter Tryz.func71, Tryz.ntmps71
  go_wp2_with fail
  have HS := Aside0.mk (fun W (h : Below w.heap.size w W) => (⟨cell_low h ((blk_cell HG.out 1).trans rfl), cell_low h ((blk_cell HG.out 2).trans rfl), cell_low h ((blk_cell HG.out 3).trans rfl), cell_low h ((blk_cell HG.out 4).trans rfl), cell_low h ((blk_cell HG.out 5).trans rfl), ⟨h⟩⟩ : W.cell? ⟨g, 1, none⟩ = some d1 ∧ W.cell? ⟨g, 2, none⟩ = some d2 ∧ W.cell? ⟨g, 3, none⟩ = some d3 ∧ W.cell? ⟨g, 4, none⟩ = some d4 ∧ W.cell? ⟨g, 5, none⟩ = some (.int .i64 kn) ∧ Aside0 (Below w.heap.size w W)))
  refine wp_region_held_drew (S := (fun W => W.cell? ⟨g, 1, none⟩ = some d1 ∧ W.cell? ⟨g, 2, none⟩ = some d2 ∧ W.cell? ⟨g, 3, none⟩ = some d3 ∧ W.cell? ⟨g, 4, none⟩ = some d4 ∧ W.cell? ⟨g, 5, none⟩ = some (.int .i64 kn) ∧ Aside0 (Below w.heap.size w W))) (by kernel_rfl) (HS.out _ (below_drew (Below.refl _ _))) (fun hHeld => ?_)
  (first | (refine wpAnyH_take (i := 0) rfl (by kernel_rfl) (by kernel_rfl) (by kernel_rfl) (fun _ _ _ h => h) (Or.inr ⟨by rfl, rfl⟩) (by assumption) ?_) | (refine wpAnyH_take (i := 0) (v := ?_) rfl (by kernel_rfl) (by kernel_rfl) (by kernel_rfl) (fun _ _ _ h => h) (Or.inl ⟨by rfl, ?_⟩) (by assumption) ?_; rotate_left 1; (focus (intro w hSw; (try dsimp only at hSw); go_simp; (try with_reducible rfl); done)))) <;> (try simp only [Act.put, List.getElem_toArray, List.getElem_cons_succ, List.getElem_cons_zero, List.setIfInBounds_toArray, List.set_cons_zero, List.set_cons_succ])
  (first | (refine wpAnyH_take (i := 1) rfl (by kernel_rfl) (by kernel_rfl) (by kernel_rfl) (fun _ _ _ h => h) (Or.inr ⟨by rfl, rfl⟩) (by assumption) ?_) | (refine wpAnyH_take (i := 1) (v := ?_) rfl (by kernel_rfl) (by kernel_rfl) (by kernel_rfl) (fun _ _ _ h => h) (Or.inl ⟨by rfl, ?_⟩) (by assumption) ?_; rotate_left 1; (focus (intro w hSw; (try dsimp only at hSw); go_simp; (try with_reducible rfl); done)))) <;> (try simp only [Act.put, List.getElem_toArray, List.getElem_cons_succ, List.getElem_cons_zero, List.setIfInBounds_toArray, List.set_cons_zero, List.set_cons_succ])
  (first | (refine wpAnyH_take (i := 2) rfl (by kernel_rfl) (by kernel_rfl) (by kernel_rfl) (fun _ _ _ h => h) (Or.inr ⟨by rfl, rfl⟩) (by assumption) ?_) | (refine wpAnyH_take (i := 2) (v := ?_) rfl (by kernel_rfl) (by kernel_rfl) (by kernel_rfl) (fun _ _ _ h => h) (Or.inl ⟨by rfl, ?_⟩) (by assumption) ?_; rotate_left 1; (focus (intro w hSw; (try dsimp only at hSw); go_simp; (try with_reducible rfl); done)))) <;> (try simp only [Act.put, List.getElem_toArray, List.getElem_cons_succ, List.getElem_cons_zero, List.setIfInBounds_toArray, List.set_cons_zero, List.set_cons_succ])
  (first | (refine wpAnyH_take (i := 3) rfl (by kernel_rfl) (by kernel_rfl) (by kernel_rfl) (fun _ _ _ h => h) (Or.inr ⟨by rfl, rfl⟩) (by assumption) ?_) | (refine wpAnyH_take (i := 3) (v := ?_) rfl (by kernel_rfl) (by kernel_rfl) (by kernel_rfl) (fun _ _ _ h => h) (Or.inl ⟨by rfl, ?_⟩) (by assumption) ?_; rotate_left 1; (focus (intro w hSw; (try dsimp only at hSw); go_simp; (try with_reducible rfl); done)))) <;> (try simp only [Act.put, List.getElem_toArray, List.getElem_cons_succ, List.getElem_cons_zero, List.setIfInBounds_toArray, List.set_cons_zero, List.set_cons_succ])
  (first | (refine wpAnyH_take (i := 4) rfl (by kernel_rfl) (by kernel_rfl) (by kernel_rfl) (fun _ _ _ h => h) (Or.inr ⟨by rfl, rfl⟩) (by assumption) ?_) | (refine wpAnyH_take (i := 4) (v := ?_) rfl (by kernel_rfl) (by kernel_rfl) (by kernel_rfl) (fun _ _ _ h => h) (Or.inl ⟨by rfl, ?_⟩) (by assumption) ?_; rotate_left 1; (focus (intro w hSw; (try dsimp only at hSw); go_simp; (try with_reducible rfl); done)))) <;> (try simp only [Act.put, List.getElem_toArray, List.getElem_cons_succ, List.getElem_cons_zero, List.setIfInBounds_toArray, List.set_cons_zero, List.set_cons_succ])
  (first | (refine wpAnyH_take (i := 5) rfl (by kernel_rfl) (by kernel_rfl) (by kernel_rfl) (fun _ _ _ h => h) (Or.inr ⟨by rfl, rfl⟩) (by assumption) ?_) | (refine wpAnyH_take (i := 5) (v := ?_) rfl (by kernel_rfl) (by kernel_rfl) (by kernel_rfl) (fun _ _ _ h => h) (Or.inl ⟨by rfl, ?_⟩) (by assumption) ?_; rotate_left 1; (focus (intro w hSw; (try dsimp only at hSw); go_simp; (try with_reducible rfl); done)))) <;> (try simp only [Act.put, List.getElem_toArray, List.getElem_cons_succ, List.getElem_cons_zero, List.setIfInBounds_toArray, List.set_cons_zero, List.set_cons_succ])
  (first | (refine wpAnyH_take (i := 6) rfl (by kernel_rfl) (by kernel_rfl) (by kernel_rfl) (fun _ _ _ h => h) (Or.inr ⟨by rfl, rfl⟩) (by assumption) ?_) | (refine wpAnyH_take (i := 6) (v := ?_) rfl (by kernel_rfl) (by kernel_rfl) (by kernel_rfl) (fun _ _ _ h => h) (Or.inl ⟨by rfl, ?_⟩) (by assumption) ?_; rotate_left 1; (focus (intro w hSw; (try dsimp only at hSw); go_simp; (try with_reducible rfl); done)))) <;> (try simp only [Act.put, List.getElem_toArray, List.getElem_cons_succ, List.getElem_cons_zero, List.setIfInBounds_toArray, List.set_cons_zero, List.set_cons_succ])
  (first | (refine wpAnyH_take (i := 7) rfl (by kernel_rfl) (by kernel_rfl) (by kernel_rfl) (fun _ _ _ h => h) (Or.inr ⟨by rfl, rfl⟩) (by assumption) ?_) | (refine wpAnyH_take (i := 7) (v := ?_) rfl (by kernel_rfl) (by kernel_rfl) (by kernel_rfl) (fun _ _ _ h => h) (Or.inl ⟨by rfl, ?_⟩) (by assumption) ?_; rotate_left 1; (focus (intro w hSw; (try dsimp only at hSw); go_simp; (try with_reducible rfl); done)))) <;> (try simp only [Act.put, List.getElem_toArray, List.getElem_cons_succ, List.getElem_cons_zero, List.setIfInBounds_toArray, List.set_cons_zero, List.set_cons_succ])
  have G := Aside0.mk (HNum.out w.drew (HB.out.trans (hHeld.2.2.2.2.2.out.mono hB)))
  refine wpAnyH_ready (rs := [8]) (by kernel_rfl) (by simp) ?_
  refine AllReadyH.cons rfl (fun K hK => ?_) AllReadyH.nil
  go_simp
  go_at_call 89; refine G.out.mono ?_; rintro e w2 ⟨lv, rv, rfl, hL2, hR2, hb2⟩; obtain ⟨A, c, rfl⟩ := Kd.R_slice hL2; obtain ⟨A', c', rfl⟩ := Kd.R_slice hR2; go_wp2_with fail
  have HB2 := Aside0.mk (below_tr hHeld.2.2.2.2.2.out hb2); have HL2 := Aside0.mk hL2; have HR2 := Aside0.mk hR2; have HZ := Aside0.mk (Nat.le_trans hB hHeld.2.2.2.2.2.out.size)
  clear hb2 hL2 hR2 G
  refine hK.out _ _ (HS.out _ HB2.out) (fun hHeld => ?_)
  clear hK K
  try simp only [Act.put, List.getElem_toArray, List.getElem_cons_succ, List.getElem_cons_zero, List.setIfInBounds_toArray, List.set_cons_zero, List.set_cons_succ]
  (first | (refine wpAnyH_take (i := 9) rfl (by kernel_rfl) (by kernel_rfl) (by kernel_rfl) (fun _ _ _ h => h) (Or.inr ⟨by rfl, rfl⟩) (by assumption) ?_) | (refine wpAnyH_take (i := 9) (v := ?_) rfl (by kernel_rfl) (by kernel_rfl) (by kernel_rfl) (fun _ _ _ h => h) (Or.inl ⟨by rfl, ?_⟩) (by assumption) ?_; rotate_left 1; (focus (intro w hSw; (try dsimp only at hSw); go_simp; (try with_reducible rfl); done)))) <;> (try simp only [Act.put, List.getElem_toArray, List.getElem_cons_succ, List.getElem_cons_zero, List.setIfInBounds_toArray, List.set_cons_zero, List.set_cons_succ])
  (first | (refine wpAnyH_take (i := 10) rfl (by kernel_rfl) (by kernel_rfl) (by kernel_rfl) (fun _ _ _ h => h) (Or.inr ⟨by rfl, rfl⟩) (by assumption) ?_) | (refine wpAnyH_take (i := 10) (v := ?_) rfl (by kernel_rfl) (by kernel_rfl) (by kernel_rfl) (fun _ _ _ h => h) (Or.inl ⟨by rfl, ?_⟩) (by assumption) ?_; rotate_left 1; (focus (intro w hSw; (try dsimp only at hSw); go_simp; (try with_reducible rfl); done)))) <;> (try simp only [Act.put, List.getElem_toArray, List.getElem_cons_succ, List.getElem_cons_zero, List.setIfInBounds_toArray, List.set_cons_zero, List.set_cons_succ])
  (first | (refine wpAnyH_take (i := 11) rfl (by kernel_rfl) (by kernel_rfl) (by kernel_rfl) (fun _ _ _ h => h) (Or.inr ⟨by rfl, rfl⟩) (by assumption) ?_) | (refine wpAnyH_take (i := 11) (v := ?_) rfl (by kernel_rfl) (by kernel_rfl) (by kernel_rfl) (fun _ _ _ h => h) (Or.inl ⟨by rfl, ?_⟩) (by assumption) ?_; rotate_left 1; (focus (intro w hSw; (try dsimp only at hSw); go_simp; (try with_reducible rfl); done)))) <;> (try simp only [Act.put, List.getElem_toArray, List.getElem_cons_succ, List.getElem_cons_zero, List.setIfInBounds_toArray, List.set_cons_zero, List.set_cons_succ])
  (first | (refine wpAnyH_take (i := 12) rfl (by kernel_rfl) (by kernel_rfl) (by kernel_rfl) (fun _ _ _ h => h) (Or.inr ⟨by rfl, rfl⟩) (by assumption) ?_) | (refine wpAnyH_take (i := 12) (v := ?_) rfl (by kernel_rfl) (by kernel_rfl) (by kernel_rfl) (fun _ _ _ h => h) (Or.inl ⟨by rfl, ?_⟩) (by assumption) ?_; rotate_left 1; (focus (intro w hSw; (try dsimp only at hSw); go_simp; (try with_reducible rfl); done)))) <;> (try simp only [Act.put, List.getElem_toArray, List.getElem_cons_succ, List.getElem_cons_zero, List.setIfInBounds_toArray, List.set_cons_zero, List.set_cons_succ])
  (first | (refine wpAnyH_take (i := 13) rfl (by kernel_rfl) (by kernel_rfl) (by kernel_rfl) (fun _ _ _ h => h) (Or.inr ⟨by rfl, rfl⟩) (by assumption) ?_) | (refine wpAnyH_take (i := 13) (v := ?_) rfl (by kernel_rfl) (by kernel_rfl) (by kernel_rfl) (fun _ _ _ h => h) (Or.inl ⟨by rfl, ?_⟩) (by assumption) ?_; rotate_left 1; (focus (intro w hSw; (try dsimp only at hSw); go_simp; (try with_reducible rfl); done)))) <;> (try simp only [Act.put, List.getElem_toArray, List.getElem_cons_succ, List.getElem_cons_zero, List.setIfInBounds_toArray, List.set_cons_zero, List.set_cons_succ])
  refine wpAnyH_done (by kernel_rfl) ?_ _
  clear hHeld HS HNum
  (try simp only [Exit.then])
  obtain ⟨A1, c1, hAc, hlc1, hCC⟩ := Kd.R_reads HR2.out
  injection hAc with h1 h2 h3
  subst h1; subst h3
  have HCC := Aside0.mk hCC
  have HX2 := Aside0.mk (blk_low HB2.out HG.out); have HQ2 := Aside0.mk (Kd.R_below HR.out HB2.out)
  clear hCC h2 hlc1
  go_wp2_with fail
  refine (radd_calls g v d1 d2 d3 d4 (.int .i64 kn) xs rn A' c' B w0 w2 HX2.out HQ2.out HCC.out (Nat.le_trans hB HB2.out.size) hgB hl (HB.out.trans (HB2.out.mono hB))).mono ?_
  rintro e w3 ⟨rfl, v3, hx3, hR3, hb3, hsz3, hkeep⟩
  have HL3 := Aside0.mk (RL_kept HL2.out HX2.out HQ2.out (by decide) (by decide) hkeep)
  have HK3 := Aside0.mk ((KeepL.of_below HB2.out).trans (keepL_of HX2.out HQ2.out hkeep))
  have HX3 := Aside0.mk hx3; have HR3 := Aside0.mk hR3; have HB3 := Aside0.mk hb3
  clear hx3 hR3 hb3 hsz3 hkeep HX2 HQ2 HL2 HCC
  go_wp2
  go_ret
  exact ⟨_, rfl, Kd.R_lower HL3.out HZ.out, v3, HX3.out, HR3.out, HB3.out, HK3.out⟩
end Go.Proofs.YtdnmoppegncioaaGreatDoor
