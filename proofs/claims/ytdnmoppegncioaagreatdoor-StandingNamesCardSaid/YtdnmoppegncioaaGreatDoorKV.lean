/- (*standing.looks).add: reads are appended to a view's. -/
import Derived.Test.YtdnmoppegncioaaGreatDoorKG
import Derived.Test.YtdnmoppegncioaaGreatDoorKN
import Derived.Test.YtdnmoppegncioaaGreatDoorJP
import Derived.Deep.DeepMust
namespace Go.Proofs.YtdnmoppegncioaaGreatDoor
open Go.RowKit Go.Proofs.YtdnmoppegncioaaGreatDoorW.PrintWords
set_option linter.unusedVariables false
set_option linter.unusedSimpArgs false
theorem blk_put4 {w : World} {g : Nat} {t : TypeId} {a0 a1 a2 a3 : Value} (h : w.heap[g]? = some (Obj.cells #[a0, a1, a2, a3] t (0, 0))) (v0 v1 v2 v3 : Value) : ((((w.setCell ⟨g, 0, none⟩ v0).setCell ⟨g, 1, none⟩ v1).setCell ⟨g, 2, none⟩ v2).setCell ⟨g, 3, none⟩ v3).heap[g]? = some (Obj.cells #[v0, v1, v2, v3] t (0, 0)) := (blk_put (cs' := #[v0, v1, v2, v3]) (blk_put (cs' := #[v0, v1, v2, a3]) (blk_put (cs' := #[v0, v1, a2, a3]) (blk_put (cs' := #[v0, a1, a2, a3]) h 0 v0 rfl) 1 v1 rfl) 2 v2 rfl) 3 v3 rfl)
theorem below_put4 {B : Nat} {w0 w : World} {g : Nat} (hb : Below B w0 w) (hg : B ≤ g) (v0 v1 v2 v3 : Value) : Below B w0 ((((w.setCell ⟨g, 0, none⟩ v0).setCell ⟨g, 1, none⟩ v1).setCell ⟨g, 2, none⟩ v2).setCell ⟨g, 3, none⟩ v3) := ((((hb.setCell (p := ⟨g, 0, none⟩) hg v0).setCell (p := ⟨g, 1, none⟩) hg v1).setCell (p := ⟨g, 2, none⟩) hg v2).setCell (p := ⟨g, 3, none⟩) hg v3)
theorem far_put4 {w : World} {g k : Nat} (hne : k ≠ g) (v0 v1 v2 v3 : Value) : ((((w.setCell ⟨g, 0, none⟩ v0).setCell ⟨g, 1, none⟩ v1).setCell ⟨g, 2, none⟩ v2).setCell ⟨g, 3, none⟩ v3).heap[k]? = w.heap[k]? := by
  rw [Below.heap_setCell _ _ _ _ hne, Below.heap_setCell _ _ _ _ hne, Below.heap_setCell _ _ _ _ hne, Below.heap_setCell _ _ _ _ hne]
theorem R_put4 {α : Type} {d : Kd α} {e : Nat} {w : World} {base : Nat} {ok : Nat → Prop} {v : Value} {xs : List α} (h : d.R e w base ok v xs) {g t : Nat} {a0 a1 a2 a3 : Value} (hb : w.heap[g]? = some (.cells #[a0, a1, a2, a3] t (0, 0))) (ht : ∀ q, q ∈ e :: d.E → q ≠ t) (v0 v1 v2 v3 : Value) : d.R e ((((w.setCell ⟨g, 0, none⟩ v0).setCell ⟨g, 1, none⟩ v1).setCell ⟨g, 2, none⟩ v2).setCell ⟨g, 3, none⟩ v3) base ok v xs :=
  Kd.R_set (Kd.R_set (Kd.R_set (Kd.R_set h hb ht 0 v0) (blk_put (cs' := #[v0, a1, a2, a3]) hb 0 v0 rfl) ht 1 v1) (blk_put (cs' := #[v0, v1, a2, a3]) (blk_put (cs' := #[v0, a1, a2, a3]) hb 0 v0 rfl) 1 v1 rfl) ht 2 v2) (blk_put (cs' := #[v0, v1, v2, a3]) (blk_put (cs' := #[v0, v1, a2, a3]) (blk_put (cs' := #[v0, a1, a2, a3]) hb 0 v0 rfl) 1 v1 rfl) 2 v2 rfl) ht 3 v3
theorem info119 : (Tryz.prog.info? 119).map (fun i => (i.zero, i.size, i.bytes)) = some (some (.agg #[.int .i64 0, .int .i64 0, .int .i64 0, .int .i64 0, .int .i64 0]), 5, 40) := by kernel_rfl
/-- A view in memory: its reads, its world, term and time. -/
abbrev viewO (v a b c d e f : Value) : Obj := .cells #[v, a, b, c, d, e, f] 75 (0, 0)
set_option maxHeartbeats 2000000 in
theorem vadd_calls (g : Nat) (v a b c d e f : Value) (xs ys : List S119) (A : Option Addr) (cp : Nat) (B : Nat) (w0 w : World) (hg : w.heap[g]? = some (viewO v a b c d e f)) (hR : k119.R 119 w B (fun _ => True) v xs) (hC : k119.C w A ys.length ys) (hB : B ≤ w.heap.size) (hgB : B ≤ g) (hl : (xs.length + ys.length) * 40 ≤ 140737488355328) (hb : Below B w0 w) :
    Calls Tryz.prog 43 #[.pointer (some ⟨g, 0, none⟩), .slice A ys.length cp] w fun e' w' => e' = .returned (.tuple #[]) ∧ ∃ v', w'.heap[g]? = some (viewO v' a b c d e f) ∧ k119.R 119 w' B (fun _ => True) v' (xs ++ ys) ∧ Below B w0 w' ∧ w.heap.size ≤ w'.heap.size ∧ ∀ (k : Nat) (o : Obj), k ≠ g → w.heap[k]? = some o → some k ≠ v.ownBlock → w'.heap[k]? = some o := by
  obtain ⟨A0, c0, rfl⟩ := Kd.R_slice hR
  have hne := Kd.R_ne hR hg (by decide)
  have z0 := (blk_cell hg 0).trans rfl
  have f0 := blk_frozen hg 0
  have HG := Aside0.mk hg; have HR := Aside0.mk hR; have HC := Aside0.mk hC; have HB := Aside0.mk hb; have HNE := Aside0.mk hne
  clear hg hR hC hb hne
  go_enter Tryz.func43, Tryz.ntmps43
  go_wp2_with (at_builtin; go_must (refine Kd.R_append_rows k119 (w0 := w0) B rfl (.tmp 8) (.tmp 9) 48 119 (.agg #[.int .i64 0, .int .i64 0, .int .i64 0, .int .i64 0, .int .i64 0]) 40 rfl Tryz.underlying48 info119 rfl (by decide) (by omega) (.slice A0 xs.length c0) xs ys A ys.length cp (fun _ => True) (fun _ => False) rfl rfl HR.out HC.out (fun _ _ h => h) (fun _ h => h.elim) (fun _ _ => trivial) HB.out hB hl ?_; rintro v1 w5 hR5 hB5 hg5 hat5; have hx5 := blk_grown HG.out hg5 HNE.out; have hcz5 := (blk_cell hx5 0).trans rfl; have hfz5 := blk_frozen hx5 0; obtain ⟨A8, c8, rfl⟩ := Kd.R_slice hR5; rw [List.length_append] at hR5; have HX5 := Aside0.mk hx5; have HR5 := Aside0.mk hR5; have HB5 := Aside0.mk hB5; have HG5 := Aside0.mk hg5; clear hx5 hR5 hB5 hg5 hat5))
  go_end0
  refine ⟨rfl, _, blk_put HX5.out 0 _ rfl, Kd.R_set HR5.out HX5.out (by decide) 0 _, HB5.out.setCell (p := ⟨g, 0, none⟩) hgB _, ?_, fun k o hk hko hkv => ?_⟩
  · have := HG5.out.size; simpa using this
  · exact (Below.heap_setCell _ _ _ _ hk).trans (blk_grown hko HG5.out hkv)
/-- Blocks that hold neither reads nor a view stay. -/
def KeepT (w w' : World) : Prop := ∀ (k : Nat) (cs : Array Value) (t : TypeId) (f : Nat × Nat), t ≠ 119 → t ≠ 75 → w.heap[k]? = some (.cells cs t f) → w'.heap[k]? = some (.cells cs t f)
theorem KeepT.trans {a b c : World} (h : KeepT a b) (k : KeepT b c) : KeepT a c := fun i cs t f h1 h2 hi => k i cs t f h1 h2 (h i cs t f h1 h2 hi)
theorem KeepT.of_below {a b : World} (h : Below a.heap.size a b) : KeepT a b := fun i cs t f _ _ hi => blk_low h hi
theorem keepT_of {w w' : World} {B g : Nat} {okv : Nat → Prop} {v a b c d' e' f' h' : Value} {xs : List S119} (hg : w.heap[g]? = some (viewO a b c d' e' f' h')) (hv : k119.R 119 w B okv v xs) (hkeep : ∀ (k : Nat) (o : Obj), k ≠ g → w.heap[k]? = some o → some k ≠ v.ownBlock → w'.heap[k]? = some o) : KeepT w w' := fun k cs t f h1 h2 hk =>
  hkeep k _ (fun he => by subst he; rw [hk] at hg; injection hg with hg; injection hg with _ hg; exact h2 hg) hk (fun he => by
    obtain ⟨cells', hc'⟩ := Kd.R_typed hv k he.symm
    rw [hk] at hc'; injection hc' with hc'; injection hc' with _ hc'; exact h1 hc')
end Go.Proofs.YtdnmoppegncioaaGreatDoor
