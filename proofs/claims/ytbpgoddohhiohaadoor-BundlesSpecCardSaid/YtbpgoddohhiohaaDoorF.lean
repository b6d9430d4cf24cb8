/- sections.Find: the first section with an ID. No condition but how the slice lies in memory. -/
import Derived.Test.YtbpgoddohhiohaaDoorI
import Derived.Deep.RegionWith
namespace Go.Proofs.YtbpgoddohhiohaaDoor
open Go.RowKit Go.Proofs.YtbpgoddohhiohaaDoorW.PrintWords
set_option linter.unusedVariables false
set_option linter.unusedSimpArgs false

theorem number_calls (a0 a1 a2 a3 a4 : Int) (v5 v6 v7 v8 : Value) (w : World) :
    Calls Tryd.prog 46 #[.agg #[.int .i64 a0, .int .i64 a1, .int .i64 a2, .int .i64 a3, .int .i64 a4, v5, v6, v7, v8]] w fun e w' => e = .returned (.int .i64 a0) ∧ Below w.heap.size w w' := by
  go_enter Tryd.func46, Tryd.ntmps46
  go_wp2
  go_ret
  exact ⟨rfl, (Below.refl _ _).alloc (Nat.le_refl _) _⟩

set_option maxHeartbeats 2000000 in
theorem find1_calls (a0 a1 a2 a3 a4 : Int) (v5 v6 v7 v8 : Value) (b : Nat) (id : Int) (w : World) (hc : w.cell? ⟨b, 0, none⟩ = some (.int .i64 id)) :
    Calls Tryd.prog 45 #[.agg #[.int .i64 a0, .int .i64 a1, .int .i64 a2, .int .i64 a3, .int .i64 a4, v5, v6, v7, v8], .pointer (some ⟨b, 0, none⟩)] w fun e w' => e = .returned (.bool (a0 == id)) ∧ Below w.heap.size w w' := by
  have hc1 : ∀ o : Obj, (w.alloc o).cell? ⟨b, 0, none⟩ = some (.int .i64 id) := fun o => cell_low ((Below.refl _ _).alloc (Nat.le_refl _) o) hc
  have HB := Aside0.mk ((Below.refl _ w).alloc (Nat.le_refl _) (.cells #[.int .i64 a0, .int .i64 a1, .int .i64 a2, .int .i64 a3, .int .i64 a4, v5, v6, v7, v8] 34)).drew
  go_enter Tryd.func45, Tryd.ntmps45
  go_wp2
  go_region_with (go_at_call 46; refine (number_calls _ _ _ _ _ _ _ _ _ _).mono ?_; rintro e w1 ⟨rfl, hb1⟩; have hcq := cell_low hb1 (hc1 _); have HB1 := Aside0.mk (below_tr HB.out hb1); clear hb1)
  all_goals
    go_wp2
    go_ret
    exact ⟨rfl, HB1.out⟩

/-- What Find returns: the section, and whether there is one. -/
def sFind (l : List S34) (id : Int) : S34 × Bool := if l.any (fun s => s.f0 == id) then (rd_T34 l (fIdx (fun s => s.f0 == id) l), true) else (z34, false)

set_option maxHeartbeats 2000000 in
theorem find0_calls (A : Option Addr) (c : Nat) (l : List S34) (id : Int) (w0 w : World) (hw0 : Below w0.heap.size w0 w) (hr : k34.C w0 A l.length l) (hc : l.length ≤ c) :
    Calls Tryd.prog 24 #[.slice A l.length c, .int .i64 id] w fun e w' => ∃ cs, e = .returned (.tuple #[.agg cs.toArray, .bool (sFind l id).2]) ∧ k34.K w0 (sFind l id).1 cs ∧ Below w.heap.size w w' := by
  have hmax := Kd.C_max hr
  have hb0 := ((Below.refl _ w).alloc (Nat.le_refl _) (.cells #[.int .i64 id] 3)).alloc (by simp) (.cells #[.int .i64 0, .int .i64 0, .int .i64 0, .int .i64 0, .int .i64 0, .slice none 0 0, .slice none 0 0, .slice none 0 0, .bool false] 34)
  have hcell : ((w.alloc (.cells #[.int .i64 id] 3)).alloc (.cells #[.int .i64 0, .int .i64 0, .int .i64 0, .int .i64 0, .int .i64 0, .slice none 0 0, .slice none 0 0, .slice none 0 0, .bool false] 34)).cell? ⟨w.heap.size, 0, none⟩ = some (.int .i64 id) := (blk_cell (blk_alloc (heap_alloc_new _ _) _) 0).trans rfl
  have hcall := idx_Section (fun s => s.f0 == id) 45 #[] #[.pointer (some ⟨w.heap.size, 0, none⟩)] (enters_of Tryd.func45 (by kernel_rfl) rfl) A c l _ (fun W x cs _ hb hK => by
    obtain ⟨A5, c5, A6, c6, A7, c7, rfl, _⟩ := k34_open hK
    exact find1_calls _ _ _ _ _ _ _ _ _ w.heap.size id W (cell_low hb hcell)) (Kd.C_below hr (below_tr hw0 hb0))
  clear hcell
  cases hany : l.any (fun s => s.f0 == id) with
  | true =>
    have h1 : sFind l id = (rd_T34 l (fIdx (fun s => s.f0 == id) l), true) := by unfold sFind; rw [if_pos hany]
    have hi0 : 0 ≤ fIdx (fun s => s.f0 == id) l := by have := fIdx_nonneg (fun s : S34 => s.f0 == id) l; rw [hany] at this; simpa using this
    have hi1 : fIdx (fun s => s.f0 == id) l < l.length := by
      unfold fIdx
      rw [if_pos hany]
      have := List.findIdx_lt_length_of_exists (p := fun s : S34 => s.f0 == id) (xs := l) (by obtain ⟨x, hx, hp⟩ := List.any_eq_true.1 hany; exact ⟨x, hx, hp⟩)
      omega
    rw [h1]
    clear h1 hany
    generalize fIdx (fun s => s.f0 == id) l = i at *
    have HC := Aside0.mk hcall; clear hcall
    have HR := Aside0.mk hr; clear hr
    have H0 := Aside0.mk hb0; clear hb0
    go_enter Tryd.func24, Tryd.ntmps24
    go_wp2_with fail
    refine HC.out.mono ?_
    rintro e w1 ⟨rfl, hb1⟩
    have HB := Aside0.mk (below_tr H0.out hb1)
    have hbk := Aside0.mk (blk_low hb1 (by have := new_blk (w.alloc (.cells #[.int .i64 id] 3)) (.cells #[.int .i64 0, .int .i64 0, .int .i64 0, .int .i64 0, .int .i64 0, .slice none 0 0, .slice none 0 0, .slice none 0 0, .bool false] 34); rwa [World.size_alloc] at this))
    obtain ⟨hcz, hfz⟩ := bcell hb1
    clear hb1
    have HB9 := Aside0.mk (below_tr hw0 HB.out)
    obtain ⟨ad, A5, c5, A6, c6, A7, c7, rfl, hx0, hx1, hx2, hx3, hx4, hx5, hx6, hx7, hx8, l5, g5, l6, g6, l7, g7⟩ := at_T34 HR.out i hi0 hi1
    have G5 := Aside0.mk g5; have G6 := Aside0.mk g6; have G7 := Aside0.mk g7; clear g5 g6 g7
    replace hx0 := cell_low HB9.out hx0; replace hx1 := cell_low HB9.out hx1; replace hx2 := cell_low HB9.out hx2; replace hx3 := cell_low HB9.out hx3; replace hx4 := cell_low HB9.out hx4
    replace hx5 := cell_low HB9.out hx5; replace hx6 := cell_low HB9.out hx6; replace hx7 := cell_low HB9.out hx7; replace hx8 := cell_low HB9.out hx8
    go_wp2
    have hfin := blk_put9 hbk.out (.int .i64 (rd_T34 l i).f0) (.int .i64 (rd_T34 l i).f1) (.int .i64 (rd_T34 l i).f2) (.int .i64 (rd_T34 l i).f3) (.int .i64 (rd_T34 l i).f4) (.slice A5 (rd_T34 l i).f5.length c5) (.slice A6 (rd_T34 l i).f6.length c6) (.slice A7 (rd_T34 l i).f7.length c7) (.bool (rd_T34 l i).f8)
    have hbf := below_put9 (g := w.heap.size + 1) HB.out (by omega) (.int .i64 (rd_T34 l i).f0) (.int .i64 (rd_T34 l i).f1) (.int .i64 (rd_T34 l i).f2) (.int .i64 (rd_T34 l i).f3) (.int .i64 (rd_T34 l i).f4) (.slice A5 (rd_T34 l i).f5.length c5) (.slice A6 (rd_T34 l i).f6.length c6) (.slice A7 (rd_T34 l i).f7.length c7) (.bool (rd_T34 l i).f8)
    refine bodyPost_ret (results_ct rfl _ _ (w.heap.size + 1) 34 _ (0, 0) _ rfl hfin Tryd.underlying34 rfl (by kernel_rfl)) rfl ?_
    exact ⟨_, rfl, k34_mk _ _ l5 G5.out l6 G6.out l7 G7.out, hbf⟩
  | false =>
    have h1 : sFind l id = (z34, false) := by unfold sFind; rw [if_neg (by rw [hany]; simp)]
    have hi : fIdx (fun s => s.f0 == id) l = -1 := by unfold fIdx; rw [if_neg (by rw [hany]; simp)]
    rw [h1]
    rw [hi] at hcall
    clear h1 hany hi
    have HC := Aside0.mk hcall; clear hcall
    have HR := Aside0.mk hr; clear hr
    have H0 := Aside0.mk hb0; clear hb0
    go_enter Tryd.func24, Tryd.ntmps24
    go_wp2_with fail
    refine HC.out.mono ?_
    rintro e w1 ⟨rfl, hb1⟩
    have HB := Aside0.mk (below_tr H0.out hb1)
    have hbk := Aside0.mk (blk_low hb1 (by have := new_blk (w.alloc (.cells #[.int .i64 id] 3)) (.cells #[.int .i64 0, .int .i64 0, .int .i64 0, .int .i64 0, .int .i64 0, .slice none 0 0, .slice none 0 0, .slice none 0 0, .bool false] 34); rwa [World.size_alloc] at this))
    obtain ⟨hcz, hfz⟩ := bcell hb1
    clear hb1
    go_wp2
    have hfin := blk_put9 hbk.out (.int .i64 0) (.int .i64 0) (.int .i64 0) (.int .i64 0) (.int .i64 0) (.slice none 0 0) (.slice none 0 0) (.slice none 0 0) (.bool false)
    have hbf := below_put9 (g := w.heap.size + 1) HB.out (by omega) (.int .i64 0) (.int .i64 0) (.int .i64 0) (.int .i64 0) (.int .i64 0) (.slice none 0 0) (.slice none 0 0) (.slice none 0 0) (.bool false)
    refine bodyPost_ret (results_ct rfl _ _ (w.heap.size + 1) 34 _ (0, 0) _ rfl hfin Tryd.underlying34 rfl (by kernel_rfl)) rfl ?_
    exact ⟨_, rfl, k34_mk _ z34 (Nat.le_refl _) (Kd.C_nil _ _) (Nat.le_refl _) (Kd.C_nil _ _) (Nat.le_refl _) (Kd.C_nil _ _), hbf⟩
theorem find_calls (A : Option Addr) (c : Nat) (l : List S34) (id : Int) (w : World) (hr : k34.C w A l.length l) (hc : l.length ≤ c) :
    Calls Tryd.prog 24 #[.slice A l.length c, .int .i64 id] w fun e w' => ∃ cs, e = .returned (.tuple #[.agg cs.toArray, .bool (sFind l id).2]) ∧ k34.K w' (sFind l id).1 cs ∧ Below w.heap.size w w' := by
  refine (find0_calls A c l id w w (Below.refl _ _) hr hc).mono ?_
  rintro e w' ⟨cs, he, hK, hb⟩
  exact ⟨cs, he, k34.K_below hb hK, hb⟩
end Go.Proofs.YtbpgoddohhiohaaDoor
