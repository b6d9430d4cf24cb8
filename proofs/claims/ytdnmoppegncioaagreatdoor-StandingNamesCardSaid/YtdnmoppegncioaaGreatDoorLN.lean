/- sizarlaw21.StandingNames: it is true. (Printed by gen_ln.py.) -/
import Derived.Test.YtdnmoppegncioaaGreatDoorL1
import Derived.Test.YtdnmoppegncioaaGreatDoorG4
import Derived.Test.YtdnmoppegncioaaGreatDoorKS0
import Derived.Deep.DeepCutAuto
namespace Go.Proofs.YtdnmoppegncioaaGreatDoor
open Go.RowKit Go.Proofs.YtdnmoppegncioaaGreatDoorW.PrintWords
set_option linter.unusedVariables false
set_option linter.unusedSimpArgs false
theorem info46 : (Tryz.prog.info? 46).map (fun i => (i.zero, i.size, i.bytes)) = some (some (.agg #[.int .i64 0, .int .i64 0, .int .i64 0, .int .i64 0]), 4, 32) := by kernel_rfl
theorem info38 : (Tryz.prog.info? 38).map (fun i => (i.zero, i.size, i.bytes)) = some (some (.agg #[.string ByteArray.empty, .int .i64 0]), 2, 24) := by kernel_rfl
theorem info42 : (Tryz.prog.info? 42).map (fun i => (i.zero, i.size, i.bytes)) = some (some (.agg #[.string ByteArray.empty, .int .i64 0, .int .i64 0, .int .i64 0]), 4, 40) := by kernel_rfl
/-- All blocks but g stay. -/
def KeepG (g : Nat) (w w' : World) : Prop := ∀ (q : Nat) (o : Obj), q ≠ g → w.heap[q]? = some o → w'.heap[q]? = some o
theorem R_keepG {α : Type} {d : Kd α} {e : Nat} {w w' : World} {base g t : Nat} {cs : Array Value} {ok : Nat → Prop} {u : Value} {ys : List α} (h : d.R e w base ok u ys) (hg : w.heap[g]? = some (.cells cs t (0, 0))) (ht : ∀ q, q ∈ e :: d.E → q ≠ t) (hkeep : KeepG g w w') : d.R e w' base ok u ys :=
  Kd.R_mono (Kd.R_move (Kd.R_bound h) (fun k hk => by
    obtain ⟨_, _, _, q, hq, cells, hc⟩ := hk
    refine (hkeep k _ (fun he => ?_) hc).trans hc.symm
    subst he; rw [hc] at hg; injection hg with hg; injection hg with _ hg; exact ht q hq hg)) (fun k hk => hk.1)
theorem take_map_next {α β : Type} (f : α → β) (l : List α) (z : α) (k : Nat) (h : k < l.length) : (l.take (k + 1)).map f = (l.take k).map f ++ [f (l.getD k z)] := by
  rw [List.take_succ_eq_append_getElem h, List.map_append, show l.getD k z = l[k] from by simp [List.getElem?_eq_getElem h]]
  rfl
set_option maxRecDepth 100000 in
set_option maxHeartbeats 64000000 in
theorem names_calls (s : S26) (A0 : Option Addr) (c0 : Nat) (A1 : Option Addr) (c1 : Nat) (A2 : Option Addr) (c2 : Nat) (A3 : Option Addr) (c3 : Nat) (name : ByteArray) (cl : S46) (earned : Int) (mean : S28) (w : World) (hs : SysAt w s A0 A1 A2) (hC3 : k46.C w A3 s.f3.length s.f3) (hl : s.f0.length + s.f1.length + s.f2.length + s.f3.length ≤ 9223372036854775807) (hm : I64 mean.f0) (hnc : ∀ x ∈ s.f2, x.f0.size ≤ 140737488351232) (hnm : name.size ≤ 140737488351232) :
    Calls Tryz.prog 6 #[.agg #[.slice A0 s.f0.length c0, .slice A1 s.f1.length c1, .slice A2 s.f2.length c2, .slice A3 s.f3.length c3], .string name, .agg #[.int .i64 cl.f0, .int .i64 cl.f1, .int .i64 cl.f2, .int .i64 cl.f3], .int .i64 earned, .agg #[.int .i64 mean.f0, .int .i64 mean.f1]] w fun e w' => e = .returned (.bool true) ∧ Below w.heap.size w w' := by
  have HS := Aside0.mk hs; have HC3 := Aside0.mk hC3; have HNM := Aside0.mk (And.intro hnc hnm); clear hs hC3 hnc hnm
  obtain ⟨W1, h1⟩ : ∃ W1, W1 = w.alloc (.cells #[.slice A0 s.f0.length c0, .slice A1 s.f1.length c1, .slice A2 s.f2.length c2, .slice A3 s.f3.length c3] 26) := ⟨_, rfl⟩
  obtain ⟨W2, h2⟩ : ∃ W2, W2 = W1.alloc (.cells #[.int .i64 cl.f0, .int .i64 cl.f1, .int .i64 cl.f2, .int .i64 cl.f3] 46) := ⟨_, rfl⟩
  obtain ⟨W3, h3⟩ : ∃ W3, W3 = W2.alloc (.cells #[.int .i64 mean.f0, .int .i64 mean.f1] 28) := ⟨_, rfl⟩
  have p1 := nb (W := w) rfl (.cells #[.slice A0 s.f0.length c0, .slice A1 s.f1.length c1, .slice A2 s.f2.length c2, .slice A3 s.f3.length c3] 26); rw [← h1] at p1
  have p2 := nb p1.2 (.cells #[.int .i64 cl.f0, .int .i64 cl.f1, .int .i64 cl.f2, .int .i64 cl.f3] 46); rw [← h2] at p2
  have p3 := nb p2.2 (.cells #[.int .i64 mean.f0, .int .i64 mean.f1] 28); rw [← h3] at p3
  have HQ0 := Aside0.mk (show W3.heap[w.heap.size]? = some (.cells #[.slice A0 s.f0.length c0, .slice A1 s.f1.length c1, .slice A2 s.f2.length c2, .slice A3 s.f3.length c3] 26 (0, 0)) by rw [h3, h2]; exact blk_alloc (blk_alloc (p1.1) _) _)
  have HQ1 := Aside0.mk (show W3.heap[w.heap.size + 1]? = some (.cells #[.int .i64 cl.f0, .int .i64 cl.f1, .int .i64 cl.f2, .int .i64 cl.f3] 46 (0, 0)) by rw [h3]; exact blk_alloc (p2.1) _)
  have HQ2 := Aside0.mk (show W3.heap[w.heap.size + 1 + 1]? = some (.cells #[.int .i64 mean.f0, .int .i64 mean.f1] 28 (0, 0)) by exact p3.1)
  have HB0 := Aside0.mk (show Below w.heap.size w W3 by rw [h3, h2, h1]; exact ((((Below.refl _ w).alloc (Nat.le_refl _) _).alloc (by simp) _).alloc (by simp; omega) _))
  clear p1 p2 p3
  go_enter Tryz.func6, Tryz.ntmps6
  go_wp2_with fail
  (try rw [← h1])
  (try rw [← h2])
  (try rw [← h3])
  clear h1 h2 h3 W1 W2
  refine (sane_calls _).mono ?_
  rintro e z1 ⟨rfl, hb⟩
  have HB := Aside0.mk hb
  clear hb
  have hq := blk_low HB.out HQ0.out
  have q0_0 := (blk_cell hq 0).trans rfl; have q0_1 := (blk_cell hq 1).trans rfl; have q0_2 := (blk_cell hq 2).trans rfl; have q0_3 := (blk_cell hq 3).trans rfl
  clear hq
  go_wp2_with fail
  have hfew := few_calls s.f0.length s.f1.length s.f2.length s.f3.length A0 c0 A1 c1 A2 c2 A3 c3 hl z1
  cases hf : decide (s.f0.length + s.f1.length + s.f2.length + s.f3.length ≤ 40) with
  | false =>
    rw [hf] at hfew
    refine hfew.mono ?_
    rintro e z2 ⟨rfl, hb⟩
    have HB := Aside0.mk (below_tr HB.out hb); clear hb q0_0 q0_1 q0_2 q0_3 hfew
    go_wp2
    go_ret
    exact ⟨rfl, below_tr HB0.out HB.out⟩
  | true =>
    have HF := Aside0.mk (of_decide_eq_true hf)
    rw [hf] at hfew
    refine (hfew).mono ?_
    rintro e z2 ⟨rfl, hb⟩
    clear q0_0 q0_1 q0_2 q0_3
    have HB := Aside0.mk (below_tr HB.out hb)
    clear hb
    clear hfew hf
    have hq := blk_low HB.out HQ0.out
    have q0_0 := (blk_cell hq 0).trans rfl; have q0_1 := (blk_cell hq 1).trans rfl; have q0_2 := (blk_cell hq 2).trans rfl; have q0_3 := (blk_cell hq 3).trans rfl
    clear hq
    have hq := blk_low HB.out HQ1.out
    have q1_0 := (blk_cell hq 0).trans rfl; have q1_1 := (blk_cell hq 1).trans rfl; have q1_2 := (blk_cell hq 2).trans rfl; have q1_3 := (blk_cell hq 3).trans rfl
    clear hq
    have HR36 := Aside0.mk (lit_R (d := k46) (base := z2.heap.size) (e := 46) (ps := [cl]) (inner := [.int .i64 cl.f0, .int .i64 cl.f1, .int .i64 cl.f2, .int .i64 cl.f3]) (new_blk z2 (.cells #[.int .i64 cl.f0, .int .i64 cl.f1, .int .i64 cl.f2, .int .i64 cl.f3] 46)) ⟨rfl, fun j p hj => by
      match j, hj with
      | 0, hj => injection hj with hj; subst hj; exact k46_mkM _ _ _ _⟩ (by simp) (Nat.le_refl _))
    have HB36 := Aside0.mk ((Below.refl z2.heap.size z2).alloc (Nat.le_refl _) (.cells #[.int .i64 cl.f0, .int .i64 cl.f1, .int .i64 cl.f2, .int .i64 cl.f3] 46))
    have HC36 := Aside0.mk (Kd.C_below HC3.out (below_tr (below_tr HB0.out HB.out) HB36.out))
    have u3 := fun o => cell_low ((Below.refl z2.heap.size z2).alloc (Nat.le_refl _) o) q0_3
    have hlen : ([cl].length + s.f3.length) * 32 ≤ 140737488355328 := by have := HF.out; simp; omega
    have HLEN := Aside0.mk hlen; clear hlen
    go_upto_region 6 with (at_builtin; go_must (refine Kd.R_append_rows k46 (w0 := z2) z2.heap.size rfl (.tmp 36) (.tmp 38) 24 46 (.agg #[.int .i64 0, .int .i64 0, .int .i64 0, .int .i64 0]) 32 rfl Tryz.underlying24 info46 rfl (by decide) (by omega) (.slice (some ⟨z2.heap.size, 0, none⟩) 1 1) [cl] s.f3 A3 s.f3.length c3 (fun _ => True) (fun _ => False) rfl rfl HR36.out HC36.out (fun _ _ h => h) (fun _ h => h.elim) (fun _ _ => trivial) HB36.out HB36.out.size HLEN.out ?_; rintro v3 w5 hR5 hB5 hg5 hat5; obtain ⟨A8, c8, rfl⟩ := Kd.R_slice hR5; generalize ([cl] ++ s.f3).length = n8; have HB5 := Aside0.mk hB5; clear hR5 hB5 hg5 hat5))
    have HT := Aside0.mk (new_blk w5 (.cells #[.slice none 0 0, .slice none 0 0, .slice none 0 0, .slice A8 n8 c8] 26))
    have HZ := Aside0.mk (HB5.out.alloc HB5.out.size (.cells #[.slice none 0 0, .slice none 0 0, .slice none 0 0, .slice A8 n8 c8] 26))
    have HG := Aside0.mk HB5.out.size
    clear HB5 HR36 HB36 HC36 HLEN u3 q0_0 q0_1 q0_2 q0_3 q1_0 q1_1 q1_2 q1_3
    generalize w5.alloc (.cells #[.slice none 0 0, .slice none 0 0, .slice none 0 0, .slice A8 n8 c8] 26) = w6 at *
    generalize w5.heap.size = g at *
    have HV := Aside0.mk (show ∃ v3 : Value, v3 = .slice A8 n8 c8 from ⟨_, rfl⟩)
    have HBz := Aside0.mk (below_tr HB0.out HB.out)
    have hq := blk_low (below_tr HB.out HZ.out) HQ0.out
    have q0_0 := (blk_cell hq 0).trans rfl
    clear hq
    go_wp2_with fail
    (try clear hd)
    clear q0_0
    have HK0 := Aside0.mk (show KeepG g w6 w6 from fun _ _ _ h => h)
    go_loopw [44] (fun i wv => ∃ (k : Nat) (vv : Value), k ≤ s.f0.length ∧ i = .int .i64 k ∧ Aside0 (wv.heap[g]? = some (.cells #[vv, .slice none 0 0, .slice none 0 0, .slice A8 n8 c8] 26 (0, 0))) ∧ Aside0 (k42.R 42 wv z2.heap.size (fun q => w6.heap.size ≤ q) vv ((s.f0.take k).map (nmC name))) ∧ Aside0 (Below z2.heap.size z2 wv) ∧ Aside0 (KeepG g w6 wv) ∧ Aside0 (w6.heap.size ≤ wv.heap.size)) (fun i _ => s.f0.length - (intOf i).toNat)
    case atStart => exact ⟨0, _, Nat.zero_le _, rfl, HT, ⟨Kd.R_nil _ _ _ _ _⟩, HZ, HK0, ⟨Nat.le_refl _⟩⟩
    case round =>
      have HTo := HT; clear HT HZ HK0
      obtain ⟨k, va, hk, rfl, HT, HR, HZ, HK, HSZ⟩ := hrel
      by_cases hlt : k < s.f0.length
      · have hd : (k : Int) < s.f0.length := by omega
        have hp0 : (0 : Int) ≤ k := by omega
        have HN := Aside0.mk (take_map_next (nmC name) s.f0 z42 k hlt)
        obtain ⟨ad, hA, hx0, hx1, hx2, hx3⟩ := at_T42 (Kd.C_below HS.out.1 (below_tr HBz.out HZ.out)) k (by omega) (by omega)
        subst hA
        simp only [Int.toNat_natCast] at hx0 hx1 hx2 hx3
        rw [show s.f0.getD k z42 = rd_T42 s.f0 k by simp [rd_T42]] at HN
        have hLL : ((s.f0.take k).map (nmC name)).length ≤ 40 := by have := HF.out; simp; omega
        have hne := Kd.R_ne HR.out HT.out (by decide)
        obtain ⟨Av, cv, rfl⟩ := Kd.R_slice HR.out
        generalize (s.f0.take k).map (nmC name) = X at *
        generalize rd_T42 s.f0 k = x at *
        have HLL := Aside0.mk hLL; have HNE := Aside0.mk hne
        clear hLL hne
        have HBx := Aside0.mk (HZ.out.alloc HZ.out.size (.cells #[.string name, .int .i64 x.f1, .int .i64 x.f2.f0, .int .i64 x.f2.f1] 42))
        have HRx := Aside0.mk (Kd.R_below HR.out ((Below.refl wr.heap.size wr).alloc (Nat.le_refl _) (.cells #[.string name, .int .i64 x.f1, .int .i64 x.f2.f0, .int .i64 x.f2.f1] 42)))
        have HTx := Aside0.mk (blk_alloc HT.out (.cells #[.string name, .int .i64 x.f1, .int .i64 x.f2.f0, .int .i64 x.f2.f1] 42))
        have tz := fun o => (blk_cell (blk_alloc HT.out o) 0).trans rfl
        have hfr : ∀ q, (wr.alloc (.cells #[.string name, .int .i64 x.f1, .int .i64 x.f2.f0, .int .i64 x.f2.f1] 42)).heap.size ≤ q → _ ≤ q := fun q hq => Nat.le_trans (Nat.le_trans HSZ.out (by rw [World.size_alloc]; omega)) hq
        have HFR := Aside0.mk hfr; clear hfr
        have hlen : (X.length + 1) * 40 ≤ 140737488355328 := by have := HLL.out; omega
        have HLEN := Aside0.mk hlen; clear hlen
        go_wp2_with (at_builtin; go_must (refine Kd.R_append k42 (w0 := z2) z2.heap.size rfl (.tmp 51) (.tmp 53) 22 42 (.agg #[.string ByteArray.empty, .int .i64 0, .int .i64 0, .int .i64 0]) 40 rfl Tryz.underlying22 info42 rfl (by decide) (by omega) (.slice Av X.length cv) X ⟨name, x.f1, x.f2⟩ [.string name, .int .i64 x.f1, .int .i64 x.f2.f0, .int .i64 x.f2.f1] _ (fun _ => False) rfl (show Value.slice (some ⟨wr.heap.size + 1, 0, none⟩) 1 1 = _ by rw [World.size_alloc]) (k42_mkM _ _ _ ⟨name, x.f1, x.f2⟩) (fun _ hk => hk.elim) HFR.out HRx.out HBx.out HBx.out.size HLEN.out ?_; rintro v5 w7 hR7 hB7 hg7 hat7; obtain ⟨A9, c9, rfl⟩ := Kd.R_slice hR7; generalize (X ++ [(⟨name, x.f1, x.f2⟩ : S42)]).length = n9 at hR7 ⊢; have hx7 := blk_grown HTx.out hg7 HNE.out; have hcz7 := (blk_cell hx7 0).trans rfl; have hfz7 := blk_frozen hx7 0; have HX7 := Aside0.mk hx7; have HR7 := Aside0.mk hR7; have HB7 := Aside0.mk hB7; have HG7 := Aside0.mk hg7; clear hx7 hR7 hB7 hg7 hat7))
        go_roundw
        case rel => exact ⟨k + 1, _, by omega, by go_num, ⟨blk_put HX7.out 0 _ rfl⟩, ⟨by rw [HN.out]; exact Kd.R_set HR7.out HX7.out (by decide) 0 _⟩, ⟨HB7.out.setCell (p := ⟨g, 0, none⟩) HG.out _⟩, ⟨fun q o hq ho => (Below.heap_setCell _ _ _ _ hq).trans (blk_grown (blk_alloc (HK.out q o hq ho) _) HG7.out (fun he => by have h1 := HRx.out.1 q he.symm; have h2 := blk_lt ho; omega))⟩, ⟨by have h1 := HG7.out.size; have h2 := HSZ.out; simp only [World.size_alloc] at h1; simpa using (by omega)⟩⟩
        case measure => simp [intOf]; omega
      · have hd : ¬ (k : Int) < s.f0.length := by omega
        have hR := HR.out
        rw [List.take_of_length_le (by omega)] at hR
        have HR0 := Aside0.mk hR
        clear hR HR hlt hk
        clear HTo HSZ HK
        have HVA := Aside0.mk (show ∀ q, wr.heap.size ≤ q → some q ≠ va.ownBlock from fun q hq he => by
          obtain ⟨cells, hc⟩ := Kd.R_typed HR0.out q he.symm
          have := blk_lt hc
          omega)
        have hq := blk_low (below_tr HB.out HZ.out) HQ0.out
        have q0_0 := (blk_cell hq 2).trans rfl
        clear hq
        go_wp2_with fail
        (try clear hd)
        clear q0_0
        have HK0 := Aside0.mk (show KeepG g wr wr from fun _ _ _ h => h)
        go_loopw [60] (fun i wv => ∃ (k : Nat) (vv : Value), k ≤ s.f2.length ∧ i = .int .i64 k ∧ Aside0 (wv.heap[g]? = some (.cells #[va, .slice none 0 0, vv, .slice A8 n8 c8] 26 (0, 0))) ∧ Aside0 (k42.R 42 wv z2.heap.size (fun q => wr.heap.size ≤ q) vv ((s.f2.take k).map (nmH name))) ∧ Aside0 (Below z2.heap.size z2 wv) ∧ Aside0 (KeepG g wr wv) ∧ Aside0 (wr.heap.size ≤ wv.heap.size)) (fun i _ => s.f2.length - (intOf i).toNat)
        case atStart => exact ⟨0, _, Nat.zero_le _, rfl, HT, ⟨Kd.R_nil _ _ _ _ _⟩, HZ, HK0, ⟨Nat.le_refl _⟩⟩
        case round =>
          have HTo := HT; clear HT HZ HK0
          obtain ⟨k, vc, hk, rfl, HT, HR, HZ, HK, HSZ⟩ := hrel
          by_cases hlt : k < s.f2.length
          · have hd : (k : Int) < s.f2.length := by omega
            have hp0 : (0 : Int) ≤ k := by omega
            have HN := Aside0.mk (take_map_next (nmH name) s.f2 z42 k hlt)
            obtain ⟨ad, hA, hx0, hx1, hx2, hx3⟩ := at_T42 (Kd.C_below HS.out.2.2.1 (below_tr HBz.out HZ.out)) k (by omega) (by omega)
            subst hA
            simp only [Int.toNat_natCast] at hx0 hx1 hx2 hx3
            rw [show s.f2.getD k z42 = rd_T42 s.f2 k by simp [rd_T42]] at HN
            have hLL : ((s.f2.take k).map (nmH name)).length ≤ 40 := by have := HF.out; simp; omega
            have hne := Kd.R_ne HR.out HT.out (by decide)
            obtain ⟨Av, cv, rfl⟩ := Kd.R_slice HR.out
            have hmem : rd_T42 s.f2 k ∈ s.f2 := by
              rw [show rd_T42 s.f2 k = s.f2[k] from by simp [rd_T42, List.getElem?_eq_getElem hlt]]
              exact List.getElem_mem hlt
            have hsum : ¬ 9223372036854775807 < (rd_T42 s.f2 k).f0.size + name.size := by have := HNM.out.1 _ hmem; have := HNM.out.2; omega
            clear hmem
            generalize (s.f2.take k).map (nmH name) = X at *
            generalize rd_T42 s.f2 k = x at *
            have HLL := Aside0.mk hLL; have HNE := Aside0.mk hne
            clear hLL hne
            have HBx := Aside0.mk (HZ.out.alloc HZ.out.size (.cells #[.string (x.f0 ++ name), .int .i64 x.f1, .int .i64 x.f2.f0, .int .i64 x.f2.f1] 42))
            have HRx := Aside0.mk (Kd.R_below HR.out ((Below.refl wr.heap.size wr).alloc (Nat.le_refl _) (.cells #[.string (x.f0 ++ name), .int .i64 x.f1, .int .i64 x.f2.f0, .int .i64 x.f2.f1] 42)))
            have HTx := Aside0.mk (blk_alloc HT.out (.cells #[.string (x.f0 ++ name), .int .i64 x.f1, .int .i64 x.f2.f0, .int .i64 x.f2.f1] 42))
            have tz := fun o => (blk_cell (blk_alloc HT.out o) 2).trans rfl
            have hfr : ∀ q, (wr.alloc (.cells #[.string (x.f0 ++ name), .int .i64 x.f1, .int .i64 x.f2.f0, .int .i64 x.f2.f1] 42)).heap.size ≤ q → _ ≤ q := fun q hq => Nat.le_trans (Nat.le_trans HSZ.out (by rw [World.size_alloc]; omega)) hq
            have HFR := Aside0.mk hfr; clear hfr
            have hlen : (X.length + 1) * 40 ≤ 140737488355328 := by have := HLL.out; omega
            have HLEN := Aside0.mk hlen; clear hlen
            go_wp2_with (at_builtin; go_must (refine Kd.R_append k42 (w0 := z2) z2.heap.size rfl (.tmp 70) (.tmp 72) 22 42 (.agg #[.string ByteArray.empty, .int .i64 0, .int .i64 0, .int .i64 0]) 40 rfl Tryz.underlying22 info42 rfl (by decide) (by omega) (.slice Av X.length cv) X ⟨x.f0 ++ name, x.f1, x.f2⟩ [.string (x.f0 ++ name), .int .i64 x.f1, .int .i64 x.f2.f0, .int .i64 x.f2.f1] _ (fun _ => False) rfl (show Value.slice (some ⟨wr.heap.size + 1, 0, none⟩) 1 1 = _ by rw [World.size_alloc]) (k42_mkM _ _ _ ⟨x.f0 ++ name, x.f1, x.f2⟩) (fun _ hk => hk.elim) HFR.out HRx.out HBx.out HBx.out.size HLEN.out ?_; rintro v5 w7 hR7 hB7 hg7 hat7; obtain ⟨A9, c9, rfl⟩ := Kd.R_slice hR7; generalize (X ++ [(⟨x.f0 ++ name, x.f1, x.f2⟩ : S42)]).length = n9 at hR7 ⊢; have hx7 := blk_grown HTx.out hg7 HNE.out; have hcz7 := (blk_cell hx7 2).trans rfl; have hfz7 := blk_frozen hx7 2; have HX7 := Aside0.mk hx7; have HR7 := Aside0.mk hR7; have HB7 := Aside0.mk hB7; have HG7 := Aside0.mk hg7; clear hx7 hR7 hB7 hg7 hat7))
            go_roundw
            case rel => exact ⟨k + 1, _, by omega, by go_num, ⟨blk_put HX7.out 2 _ rfl⟩, ⟨by rw [HN.out]; exact Kd.R_set HR7.out HX7.out (by decide) 2 _⟩, ⟨HB7.out.setCell (p := ⟨g, 2, none⟩) HG.out _⟩, ⟨fun q o hq ho => (Below.heap_setCell _ _ _ _ hq).trans (blk_grown (blk_alloc (HK.out q o hq ho) _) HG7.out (fun he => by have h1 := HRx.out.1 q he.symm; have h2 := blk_lt ho; omega))⟩, ⟨by have h1 := HG7.out.size; have h2 := HSZ.out; simp only [World.size_alloc] at h1; simpa using (by omega)⟩⟩
            case measure => simp [intOf]; omega
          · have hd : ¬ (k : Int) < s.f2.length := by omega
            have hR := HR.out
            rw [List.take_of_length_le (by omega)] at hR
            have HR2 := Aside0.mk hR
            clear hR HR hlt hk
            have HR0 := Aside0.mk (R_keepG HR0.out HTo.out (by decide) HK.out)
            clear HTo HSZ HK
            have hq := blk_low (below_tr HB.out HZ.out) HQ0.out
            have q0_0 := (blk_cell hq 1).trans rfl
            clear hq
            go_wp2_with fail
            (try clear hd)
            clear q0_0
            have HK0 := Aside0.mk (show KeepG g wr wr from fun _ _ _ h => h)
            go_loopw [79] (fun i wv => ∃ (k : Nat) (vv : Value), k ≤ s.f1.length ∧ i = .int .i64 k ∧ Aside0 (wv.heap[g]? = some (.cells #[va, vv, vc, .slice A8 n8 c8] 26 (0, 0))) ∧ Aside0 (k38.R 38 wv z2.heap.size (fun q => wr.heap.size ≤ q) vv ((s.f1.take k).map (nmF name))) ∧ Aside0 (Below z2.heap.size z2 wv) ∧ Aside0 (KeepG g wr wv) ∧ Aside0 (wr.heap.size ≤ wv.heap.size)) (fun i _ => s.f1.length - (intOf i).toNat)
            case atStart => exact ⟨0, _, Nat.zero_le _, rfl, HT, ⟨Kd.R_nil _ _ _ _ _⟩, HZ, HK0, ⟨Nat.le_refl _⟩⟩
            case round =>
              have HTo := HT; clear HT HZ HK0
              obtain ⟨k, vb, hk, rfl, HT, HR, HZ, HK, HSZ⟩ := hrel
              by_cases hlt : k < s.f1.length
              · have hd : (k : Int) < s.f1.length := by omega
                have hp0 : (0 : Int) ≤ k := by omega
                have HN := Aside0.mk (take_map_next (nmF name) s.f1 z38 k hlt)
                obtain ⟨ad, hA, hx0, hx1⟩ := at_T38 (Kd.C_below HS.out.2.1 (below_tr HBz.out HZ.out)) k (by omega) (by omega)
                subst hA
                simp only [Int.toNat_natCast] at hx0 hx1
                rw [show s.f1.getD k z38 = rd_T38 s.f1 k by simp [rd_T38]] at HN
                have hLL : ((s.f1.take k).map (nmF name)).length ≤ 40 := by have := HF.out; simp; omega
                have hne := Kd.R_ne HR.out HT.out (by decide)
                obtain ⟨Av, cv, rfl⟩ := Kd.R_slice HR.out
                generalize (s.f1.take k).map (nmF name) = X at *
                generalize rd_T38 s.f1 k = x at *
                have HLL := Aside0.mk hLL; have HNE := Aside0.mk hne
                clear hLL hne
                have HBx := Aside0.mk (HZ.out.alloc HZ.out.size (.cells #[.string name, .int .i64 x.f1] 38))
                have HRx := Aside0.mk (Kd.R_below HR.out ((Below.refl wr.heap.size wr).alloc (Nat.le_refl _) (.cells #[.string name, .int .i64 x.f1] 38)))
                have HTx := Aside0.mk (blk_alloc HT.out (.cells #[.string name, .int .i64 x.f1] 38))
                have tz := fun o => (blk_cell (blk_alloc HT.out o) 1).trans rfl
                have hfr : ∀ q, (wr.alloc (.cells #[.string name, .int .i64 x.f1] 38)).heap.size ≤ q → _ ≤ q := fun q hq => Nat.le_trans (Nat.le_trans HSZ.out (by rw [World.size_alloc]; omega)) hq
                have HFR := Aside0.mk hfr; clear hfr
                have hlen : (X.length + 1) * 24 ≤ 140737488355328 := by have := HLL.out; omega
                have HLEN := Aside0.mk hlen; clear hlen
                go_wp2_with (at_builtin; go_must (refine Kd.R_append k38 (w0 := z2) z2.heap.size rfl (.tmp 86) (.tmp 88) 23 38 (.agg #[.string ByteArray.empty, .int .i64 0]) 24 rfl Tryz.underlying23 info38 rfl (by decide) (by omega) (.slice Av X.length cv) X ⟨name, x.f1⟩ [.string name, .int .i64 x.f1] _ (fun _ => False) rfl (show Value.slice (some ⟨wr.heap.size + 1, 0, none⟩) 1 1 = _ by rw [World.size_alloc]) (k38_mkM _ _ _ ⟨name, x.f1⟩) (fun _ hk => hk.elim) HFR.out HRx.out HBx.out HBx.out.size HLEN.out ?_; rintro v5 w7 hR7 hB7 hg7 hat7; obtain ⟨A9, c9, rfl⟩ := Kd.R_slice hR7; generalize (X ++ [(⟨name, x.f1⟩ : S38)]).length = n9 at hR7 ⊢; have hx7 := blk_grown HTx.out hg7 HNE.out; have hcz7 := (blk_cell hx7 1).trans rfl; have hfz7 := blk_frozen hx7 1; have HX7 := Aside0.mk hx7; have HR7 := Aside0.mk hR7; have HB7 := Aside0.mk hB7; have HG7 := Aside0.mk hg7; clear hx7 hR7 hB7 hg7 hat7))
                go_roundw
                case rel => exact ⟨k + 1, _, by omega, by go_num, ⟨blk_put HX7.out 1 _ rfl⟩, ⟨by rw [HN.out]; exact Kd.R_set HR7.out HX7.out (by decide) 1 _⟩, ⟨HB7.out.setCell (p := ⟨g, 1, none⟩) HG.out _⟩, ⟨fun q o hq ho => (Below.heap_setCell _ _ _ _ hq).trans (blk_grown (blk_alloc (HK.out q o hq ho) _) HG7.out (fun he => by have h1 := HRx.out.1 q he.symm; have h2 := blk_lt ho; omega))⟩, ⟨by have h1 := HG7.out.size; have h2 := HSZ.out; simp only [World.size_alloc] at h1; simpa using (by omega)⟩⟩
                case measure => simp [intOf]; omega
              · have hd : ¬ (k : Int) < s.f1.length := by omega
                have hR := HR.out
                rw [List.take_of_length_le (by omega)] at hR
                have HR1 := Aside0.mk hR
                clear hR HR hlt hk
                have HR0 := Aside0.mk (R_keepG HR0.out HTo.out (by decide) HK.out)
                have HR2 := Aside0.mk (R_keepG HR2.out HTo.out (by decide) HK.out)
                clear HTo HSZ HK
                have HR0 := Aside0.mk (Kd.R_mono HR0.out (fun _ _ => trivial) : k42.R 42 wr z2.heap.size (fun _ => True) va (s.f0.map (nmC name)))
                have HR1 := Aside0.mk (Kd.R_mono HR1.out (fun _ _ => trivial) : k38.R 38 wr z2.heap.size (fun _ => True) vb (s.f1.map (nmF name)))
                have HR2 := Aside0.mk (Kd.R_mono HR2.out HVA.out : k42.R 42 wr z2.heap.size (fun q => some q ≠ va.ownBlock) vc (s.f2.map (nmH name)))
                clear HVA
                go_upto_if 93 with fail
                clear hd
                go_cut [] (fun wx => ∃ va vb vc : Value, Aside0 (wx.heap[g]? = some (.cells #[va, vb, vc, .slice A8 n8 c8] 26 (0, 0))) ∧ Aside0 (k42.R 42 wx z2.heap.size (fun _ => True) va (nmS s name cl earned).f0) ∧ Aside0 (k38.R 38 wx z2.heap.size (fun _ => True) vb (nmS s name cl earned).f1) ∧ Aside0 (k42.R 42 wx z2.heap.size (fun _ => True) vc (nmS s name cl earned).f2) ∧ Aside0 (Below z2.heap.size z2 wx))
                case first =>
                  by_cases he : earned < 10000
                  · have d1 : decide (earned < 10000) = true := decide_eq_true he
                    have E0 := Aside0.mk (show (nmS s name cl earned).f0 = s.f0.map (nmC name) ++ [⟨ByteArray.empty, 10000, ⟨0, 1⟩⟩] by unfold nmS exC; simp [he])
                    have E1 := Aside0.mk (show (nmS s name cl earned).f1 = s.f1.map (nmF name) ++ [⟨ByteArray.empty, 10000⟩] by unfold nmS exF; simp [he])
                    have E2 := Aside0.mk (show (nmS s name cl earned).f2 = s.f2.map (nmH name) from rfl)
                    clear he
                    rw [d1]
                    obtain ⟨Av0, cv0, rfl⟩ := Kd.R_slice HR0.out
                    have HNE := Aside0.mk (Kd.R_ne HR0.out HT.out (by decide))
                    have hLL : (s.f0.map (nmC name)).length ≤ 40 ∧ (s.f1.map (nmF name)).length ≤ 40 := by have := HF.out; simp; omega
                    generalize s.f0.map (nmC name) = X at *
                    generalize s.f1.map (nmF name) = Y at *
                    have HLL := Aside0.mk hLL; clear hLL
                    have tz := (blk_cell HT.out 0).trans rfl
                    have tu := fun o => (blk_cell (blk_alloc HT.out o) 0).trans rfl
                    have HLEN := Aside0.mk (show (X.length + 1) * 40 ≤ 140737488355328 by have := HLL.out.1; omega)
                    go_upto_region 26 with (at_builtin; go_must (refine Kd.R_append k42 (w0 := z2) z2.heap.size rfl (.tmp 95) (.tmp 98) 22 42 (.agg #[.string ByteArray.empty, .int .i64 0, .int .i64 0, .int .i64 0]) 40 rfl Tryz.underlying22 info42 rfl (by decide) (by omega) (.slice Av0 X.length cv0) X ⟨ByteArray.empty, 10000, ⟨0, 1⟩⟩ [.string ByteArray.empty, .int .i64 10000, .int .i64 0, .int .i64 1] (fun _ => True) (fun _ => False) rfl rfl (k42_mkM _ _ _ ⟨ByteArray.empty, 10000, ⟨0, 1⟩⟩) (fun _ hk => hk.elim) (fun _ _ => trivial) HR0.out HZ.out HZ.out.size HLEN.out ?_; rintro v5 w7 hR7 hB7 hg7 hat7; obtain ⟨A90, c90, rfl⟩ := Kd.R_slice hR7; generalize (X ++ [(⟨ByteArray.empty, 10000, ⟨0, 1⟩⟩ : S42)]).length = n90 at hR7 ⊢; have hx7 := blk_grown HT.out hg7 HNE.out; have hcz7 := (blk_cell hx7 0).trans rfl; have hfz7 := blk_frozen hx7 0; have HX7 := Aside0.mk hx7; have HR7 := Aside0.mk hR7; have HB7 := Aside0.mk hB7; have HG7 := Aside0.mk hg7; clear hx7 hR7 hB7 hg7 hat7))
                    have HT8 := Aside0.mk (blk_put (cs' := #[.slice A90 n90 c90, vb, vc, .slice A8 n8 c8]) HX7.out 0 _ rfl)
                    have HR8 := Aside0.mk (Kd.R_set HR7.out HX7.out (by decide) 0 (.slice A90 n90 c90))
                    have HR2 := Aside0.mk (Kd.R_set (Kd.R_grown HR2.out HG7.out (fun k hk => hk)) HX7.out (by decide) 0 (.slice A90 n90 c90))
                    have HR1 := Aside0.mk (Kd.R_set (Kd.R_over' HR1.out (Kd.R_typed HR0.out) (by decide) HG7.out) HX7.out (by decide) 0 (.slice A90 n90 c90))
                    have HZ8 := Aside0.mk (HB7.out.setCell (p := ⟨g, 0, none⟩) HG.out (.slice A90 n90 c90))
                    clear hcz7 hfz7 HX7 HR7 HB7 HG7 tz tu HNE HLEN HT HZ HR0
                    generalize w7.setCell ⟨g, 0, none⟩ (.slice A90 n90 c90) = w8 at *
                    obtain ⟨Av1, cv1, rfl⟩ := Kd.R_slice HR1.out
                    have HNE := Aside0.mk (Kd.R_ne HR1.out HT8.out (by decide))
                    have tz := (blk_cell HT8.out 1).trans rfl
                    have tu := fun o => (blk_cell (blk_alloc HT8.out o) 1).trans rfl
                    have HLEN := Aside0.mk (show (Y.length + 1) * 24 ≤ 140737488355328 by have := HLL.out.2; omega)
                    go_wp2_with (at_builtin; go_must (refine Kd.R_append k38 (w0 := z2) z2.heap.size rfl (.tmp 102) (.tmp 104) 23 38 (.agg #[.string ByteArray.empty, .int .i64 0]) 24 rfl Tryz.underlying23 info38 rfl (by decide) (by omega) (.slice Av1 Y.length cv1) Y ⟨ByteArray.empty, 10000⟩ [.string ByteArray.empty, .int .i64 10000] (fun _ => True) (fun _ => False) rfl rfl (k38_mkM _ _ _ ⟨ByteArray.empty, 10000⟩) (fun _ hk => hk.elim) (fun _ _ => trivial) HR1.out HZ8.out HZ8.out.size HLEN.out ?_; rintro v5 w7 hR7 hB7 hg7 hat7; obtain ⟨A91, c91, rfl⟩ := Kd.R_slice hR7; generalize (Y ++ [(⟨ByteArray.empty, 10000⟩ : S38)]).length = n91 at hR7 ⊢; have hx7 := blk_grown HT8.out hg7 HNE.out; have hcz7 := (blk_cell hx7 1).trans rfl; have hfz7 := blk_frozen hx7 1; have HX7 := Aside0.mk hx7; have HR7 := Aside0.mk hR7; have HB7 := Aside0.mk hB7; have HG7 := Aside0.mk hg7; clear hx7 hR7 hB7 hg7 hat7))
                    go_meet
                    exact ⟨_, _, _, ⟨blk_put HX7.out 1 _ rfl⟩, ⟨by rw [E0.out]; exact Kd.R_set (Kd.R_over' HR8.out (Kd.R_typed HR1.out) (by decide) HG7.out) HX7.out (by decide) 1 _⟩, ⟨by rw [E1.out]; exact Kd.R_set HR7.out HX7.out (by decide) 1 _⟩, ⟨by rw [E2.out]; exact Kd.R_mono (Kd.R_set (Kd.R_over' HR2.out (Kd.R_typed HR1.out) (by decide) HG7.out) HX7.out (by decide) 1 _) (fun _ _ => trivial)⟩, ⟨HB7.out.setCell (p := ⟨g, 1, none⟩) HG.out _⟩⟩
                  · have d1 : decide (earned < 10000) = false := decide_eq_false he
                    have E0 := Aside0.mk (show (nmS s name cl earned).f0 = s.f0.map (nmC name) by unfold nmS; simp [he])
                    have E1 := Aside0.mk (show (nmS s name cl earned).f1 = s.f1.map (nmF name) by unfold nmS; simp [he])
                    have E2 := Aside0.mk (show (nmS s name cl earned).f2 = s.f2.map (nmH name) from rfl)
                    clear he
                    rw [d1]
                    go_wp2_with fail
                    go_meet
                    exact ⟨va, vb, vc, HT, ⟨by rw [E0.out]; exact HR0.out⟩, ⟨by rw [E1.out]; exact HR1.out⟩, ⟨by rw [E2.out]; exact Kd.R_mono HR2.out (fun _ _ => trivial)⟩, HZ⟩
                case rest =>
                  obtain ⟨va, vb, vc, HT, HR0, HR1, HR2, HZ⟩ := hcut
                  have HB := Aside0.mk (below_tr HB.out HZ.out)
                  have hI0 : ∀ x ∈ (nmS s name cl earned).f0, I64 x.f2.f0 := fun x hx => by
                    unfold nmS at hx
                    rcases List.mem_append.1 hx with hx | hx
                    · obtain ⟨y, hy, rfl⟩ := List.mem_map.1 hx
                      exact HS.out.2.2.2.1 y hy
                    · split at hx
                      · obtain rfl := List.mem_singleton.1 hx
                        exact ⟨by decide, by decide⟩
                      · cases hx
                  have hI2 : ∀ x ∈ (nmS s name cl earned).f2, I64 x.f2.f0 := fun x hx => by
                    obtain ⟨y, hy, rfl⟩ := List.mem_map.1 (show x ∈ s.f2.map (nmH name) from hx)
                    exact HS.out.2.2.2.2.1 y hy
                  have hl0 : (nmS s name cl earned).f0.length + (nmS s name cl earned).f2.length ≤ 9223372036854775807 := by
                    have := HF.out
                    unfold nmS
                    split <;> simp <;> omega
                  have Q1 := class_nm s name cl earned mean; have Q2 := honour_nm s name cl earned mean; have Q3 := fee_nm s name cl earned; have Q4 := ofE_nm s name cl earned mean; have Q5 := feeE_nm s name cl earned; have Q6 := okS_nm s name cl earned
                  generalize nmS s name cl earned = T at *
                  obtain ⟨B0, d0, rfl, -, hC0⟩ := Kd.R_reads HR0.out
                  obtain ⟨B1, d1, rfl, -, hC1⟩ := Kd.R_reads HR1.out
                  obtain ⟨B2, d2, rfl, -, hC2⟩ := Kd.R_reads HR2.out
                  have HST := Aside0.mk (show SysAt wc T B0 B1 B2 from ⟨hC0, hC1, hC2, hI0, hI2, hl0⟩)
                  have HCc := Aside0.mk (Below.refl wc.heap.size wc)
                  have Q1 := Aside0.mk Q1; have Q2 := Aside0.mk Q2; have Q3 := Aside0.mk Q3; have Q4 := Aside0.mk Q4; have Q5 := Aside0.mk Q5; have Q6 := Aside0.mk Q6
                  clear hI0 hI2 hl0 hC0 hC1 hC2 HR0 HR1 HR2 HZ
                  have hq := blk_low HB.out HQ0.out
                  have q0_0 := (blk_cell hq 0).trans rfl; have q0_1 := (blk_cell hq 1).trans rfl; have q0_2 := (blk_cell hq 2).trans rfl; have q0_3 := (blk_cell hq 3).trans rfl
                  clear hq
                  have hq := blk_low HCc.out HT.out
                  have qt_0 := (blk_cell hq 0).trans rfl; have qt_1 := (blk_cell hq 1).trans rfl; have qt_2 := (blk_cell hq 2).trans rfl; have qt_3 := (blk_cell hq 3).trans rfl
                  clear hq
                  have hq := blk_low HB.out HQ2.out
                  have q2_0 := (blk_cell hq 0).trans rfl; have q2_1 := (blk_cell hq 1).trans rfl
                  clear hq
                  go_wp2_with fail
                  refine (class_calls s A0 c0 A1 c1 A2 c2 (.slice A3 s.f3.length c3) earned mean _ (HS.out.below (below_tr HB0.out HB.out)) hm).mono ?_
                  rintro e z3 ⟨rfl, hb⟩
                  have HB := Aside0.mk (below_tr HB.out hb); have HCc := Aside0.mk (below_tr HCc.out hb)
                  clear q0_0 q0_1 q0_2 q0_3 qt_0 qt_1 qt_2 qt_3 q2_0 q2_1 hb
                  have hq := blk_low HB.out HQ0.out
                  have q0_0 := (blk_cell hq 0).trans rfl; have q0_1 := (blk_cell hq 1).trans rfl; have q0_2 := (blk_cell hq 2).trans rfl; have q0_3 := (blk_cell hq 3).trans rfl
                  clear hq
                  have hq := blk_low HCc.out HT.out
                  have qt_0 := (blk_cell hq 0).trans rfl; have qt_1 := (blk_cell hq 1).trans rfl; have qt_2 := (blk_cell hq 2).trans rfl; have qt_3 := (blk_cell hq 3).trans rfl
                  clear hq
                  have hq := blk_low HB.out HQ2.out
                  have q2_0 := (blk_cell hq 0).trans rfl; have q2_1 := (blk_cell hq 1).trans rfl
                  clear hq
                  go_wp2_with fail
                  refine (class_calls T B0 d0 B1 d1 B2 d2 (.slice A8 n8 c8) earned mean _ (HST.out.below HCc.out) hm).mono ?_
                  rintro e z4 ⟨rfl, hb⟩
                  have HB := Aside0.mk (below_tr HB.out hb); have HCc := Aside0.mk (below_tr HCc.out hb)
                  clear q0_0 q0_1 q0_2 q0_3 qt_0 qt_1 qt_2 qt_3 q2_0 q2_1 hb
                  rw [Q1.out, Q4.out]
                  have hq := blk_low HB.out HQ0.out
                  have q0_0 := (blk_cell hq 0).trans rfl; have q0_1 := (blk_cell hq 1).trans rfl; have q0_2 := (blk_cell hq 2).trans rfl; have q0_3 := (blk_cell hq 3).trans rfl
                  clear hq
                  have hq := blk_low HCc.out HT.out
                  have qt_0 := (blk_cell hq 0).trans rfl; have qt_1 := (blk_cell hq 1).trans rfl; have qt_2 := (blk_cell hq 2).trans rfl; have qt_3 := (blk_cell hq 3).trans rfl
                  clear hq
                  have hq := blk_low HB.out HQ2.out
                  have q2_0 := (blk_cell hq 0).trans rfl; have q2_1 := (blk_cell hq 1).trans rfl
                  clear hq
                  go_wp2_with fail
                  refine (honour_calls s A0 c0 A1 c1 A2 c2 (.slice A3 s.f3.length c3) earned mean _ (HS.out.below (below_tr HB0.out HB.out)) hm).mono ?_
                  rintro e z5 ⟨rfl, hb⟩
                  have HB := Aside0.mk (below_tr HB.out hb); have HCc := Aside0.mk (below_tr HCc.out hb)
                  clear q0_0 q0_1 q0_2 q0_3 qt_0 qt_1 qt_2 qt_3 q2_0 q2_1 hb
                  have hq := blk_low HB.out HQ0.out
                  have q0_0 := (blk_cell hq 0).trans rfl; have q0_1 := (blk_cell hq 1).trans rfl; have q0_2 := (blk_cell hq 2).trans rfl; have q0_3 := (blk_cell hq 3).trans rfl
                  clear hq
                  have hq := blk_low HCc.out HT.out
                  have qt_0 := (blk_cell hq 0).trans rfl; have qt_1 := (blk_cell hq 1).trans rfl; have qt_2 := (blk_cell hq 2).trans rfl; have qt_3 := (blk_cell hq 3).trans rfl
                  clear hq
                  have hq := blk_low HB.out HQ2.out
                  have q2_0 := (blk_cell hq 0).trans rfl; have q2_1 := (blk_cell hq 1).trans rfl
                  clear hq
                  go_wp2_with fail
                  refine (honour_calls T B0 d0 B1 d1 B2 d2 (.slice A8 n8 c8) earned mean _ (HST.out.below HCc.out) hm).mono ?_
                  rintro e z6 ⟨rfl, hb⟩
                  have HB := Aside0.mk (below_tr HB.out hb); have HCc := Aside0.mk (below_tr HCc.out hb)
                  clear q0_0 q0_1 q0_2 q0_3 qt_0 qt_1 qt_2 qt_3 q2_0 q2_1 hb
                  rw [Q2.out, Q4.out]
                  have hq := blk_low HB.out HQ0.out
                  have q0_0 := (blk_cell hq 0).trans rfl; have q0_1 := (blk_cell hq 1).trans rfl; have q0_2 := (blk_cell hq 2).trans rfl; have q0_3 := (blk_cell hq 3).trans rfl
                  clear hq
                  have hq := blk_low HCc.out HT.out
                  have qt_0 := (blk_cell hq 0).trans rfl; have qt_1 := (blk_cell hq 1).trans rfl; have qt_2 := (blk_cell hq 2).trans rfl; have qt_3 := (blk_cell hq 3).trans rfl
                  clear hq
                  have hq := blk_low HB.out HQ2.out
                  have q2_0 := (blk_cell hq 0).trans rfl; have q2_1 := (blk_cell hq 1).trans rfl
                  clear hq
                  go_wp2_with fail
                  refine (fee_calls s A0 c0 A1 c1 A2 c2 (.slice A3 s.f3.length c3) earned _ (HS.out.below (below_tr HB0.out HB.out))).mono ?_
                  rintro e z7 ⟨rfl, hb⟩
                  have HB := Aside0.mk (below_tr HB.out hb); have HCc := Aside0.mk (below_tr HCc.out hb)
                  clear q0_0 q0_1 q0_2 q0_3 qt_0 qt_1 qt_2 qt_3 q2_0 q2_1 hb
                  have hq := blk_low HB.out HQ0.out
                  have q0_0 := (blk_cell hq 0).trans rfl; have q0_1 := (blk_cell hq 1).trans rfl; have q0_2 := (blk_cell hq 2).trans rfl; have q0_3 := (blk_cell hq 3).trans rfl
                  clear hq
                  have hq := blk_low HCc.out HT.out
                  have qt_0 := (blk_cell hq 0).trans rfl; have qt_1 := (blk_cell hq 1).trans rfl; have qt_2 := (blk_cell hq 2).trans rfl; have qt_3 := (blk_cell hq 3).trans rfl
                  clear hq
                  have hq := blk_low HB.out HQ2.out
                  have q2_0 := (blk_cell hq 0).trans rfl; have q2_1 := (blk_cell hq 1).trans rfl
                  clear hq
                  go_wp2_with fail
                  refine (fee_calls T B0 d0 B1 d1 B2 d2 (.slice A8 n8 c8) earned _ (HST.out.below HCc.out)).mono ?_
                  rintro e z8 ⟨rfl, hb⟩
                  have HB := Aside0.mk (below_tr HB.out hb); have HCc := Aside0.mk (below_tr HCc.out hb)
                  clear q0_0 q0_1 q0_2 q0_3 qt_0 qt_1 qt_2 qt_3 q2_0 q2_1 hb
                  rw [Q3.out, Q5.out]
                  generalize ofN s s.f0 earned mean = x0 at *
                  generalize ofN s s.f2 earned mean = x1 at *
                  generalize ofE s earned mean = x2 at *
                  generalize feeN s earned = x3 at *
                  generalize feeE s earned = x4 at *
                  clear Q1 Q2 Q3 Q4 Q5
                  have C1 := fun W h => stcheck_calls s A0 c0 A1 c1 A2 c2 (.slice A3 s.f3.length c3) W h
                  have C2 := fun W h => stcheck_calls T B0 d0 B1 d1 B2 d2 (.slice A8 n8 c8) W h
                  rw [Q6.out] at C2
                  obtain ⟨x5, hx5⟩ : ∃ x, (if okS s = true then (0 : Int) else 1) = x := ⟨_, rfl⟩
                  rw [hx5] at C1 C2
                  have C1 := Aside0.mk C1; have C2 := Aside0.mk C2
                  clear hx5
                  have hq := blk_low HB.out HQ0.out
                  have q0_0 := (blk_cell hq 0).trans rfl; have q0_1 := (blk_cell hq 1).trans rfl; have q0_2 := (blk_cell hq 2).trans rfl; have q0_3 := (blk_cell hq 3).trans rfl
                  clear hq
                  have hq := blk_low HCc.out HT.out
                  have qt_0 := (blk_cell hq 0).trans rfl; have qt_1 := (blk_cell hq 1).trans rfl; have qt_2 := (blk_cell hq 2).trans rfl; have qt_3 := (blk_cell hq 3).trans rfl
                  clear hq
                  have HX := Aside0.mk (fun W (h : Below z8.heap.size z8 W) => (⟨cell_low h q0_0, cell_low h q0_1, cell_low h q0_2, cell_low h q0_3, cell_low h qt_0, cell_low h qt_1, cell_low h qt_2, cell_low h qt_3, ⟨h⟩⟩ : W.cell? ⟨w.heap.size, 0, none⟩ = some (.slice A0 s.f0.length c0) ∧ W.cell? ⟨w.heap.size, 1, none⟩ = some (.slice A1 s.f1.length c1) ∧ W.cell? ⟨w.heap.size, 2, none⟩ = some (.slice A2 s.f2.length c2) ∧ W.cell? ⟨w.heap.size, 3, none⟩ = some (.slice A3 s.f3.length c3) ∧ W.cell? ⟨g, 0, none⟩ = some (.slice B0 T.f0.length d0) ∧ W.cell? ⟨g, 1, none⟩ = some (.slice B1 T.f1.length d1) ∧ W.cell? ⟨g, 2, none⟩ = some (.slice B2 T.f2.length d2) ∧ W.cell? ⟨g, 3, none⟩ = some (.slice A8 n8 c8) ∧ Aside0 (Below z8.heap.size z8 W)))
                  clear q0_0 q0_1 q0_2 q0_3 qt_0 qt_1 qt_2 qt_3
                  go_wp2_with fail
                  refine wp_region_held_drew (S := (fun W => W.cell? ⟨w.heap.size, 0, none⟩ = some (.slice A0 s.f0.length c0) ∧ W.cell? ⟨w.heap.size, 1, none⟩ = some (.slice A1 s.f1.length c1) ∧ W.cell? ⟨w.heap.size, 2, none⟩ = some (.slice A2 s.f2.length c2) ∧ W.cell? ⟨w.heap.size, 3, none⟩ = some (.slice A3 s.f3.length c3) ∧ W.cell? ⟨g, 0, none⟩ = some (.slice B0 T.f0.length d0) ∧ W.cell? ⟨g, 1, none⟩ = some (.slice B1 T.f1.length d1) ∧ W.cell? ⟨g, 2, none⟩ = some (.slice B2 T.f2.length d2) ∧ W.cell? ⟨g, 3, none⟩ = some (.slice A8 n8 c8) ∧ Aside0 (Below z8.heap.size z8 W))) (by kernel_rfl) (HX.out _ (below_drew (Below.refl _ _))) (fun hHeld => ?_)
                  (first | (refine wpAnyH_take (i := 0) rfl (by kernel_rfl) (by kernel_rfl) (by kernel_rfl) (fun _ _ _ h => h) (Or.inr ⟨by rfl, rfl⟩) (by assumption) ?_) | (refine wpAnyH_take (i := 0) (v := ?_) rfl (by kernel_rfl) (by kernel_rfl) (by kernel_rfl) (fun _ _ _ h => h) (Or.inl ⟨by rfl, ?_⟩) (by assumption) ?_; rotate_left 1; (focus (intro w hSw; (try dsimp only at hSw); go_simp; (try with_reducible rfl); done)))) <;> (try simp only [Act.put, List.getElem_toArray, List.getElem_cons_succ, List.getElem_cons_zero, List.setIfInBounds_toArray, List.set_cons_zero, List.set_cons_succ])
                  (first | (refine wpAnyH_take (i := 1) rfl (by kernel_rfl) (by kernel_rfl) (by kernel_rfl) (fun _ _ _ h => h) (Or.inr ⟨by rfl, rfl⟩) (by assumption) ?_) | (refine wpAnyH_take (i := 1) (v := ?_) rfl (by kernel_rfl) (by kernel_rfl) (by kernel_rfl) (fun _ _ _ h => h) (Or.inl ⟨by rfl, ?_⟩) (by assumption) ?_; rotate_left 1; (focus (intro w hSw; (try dsimp only at hSw); go_simp; (try with_reducible rfl); done)))) <;> (try simp only [Act.put, List.getElem_toArray, List.getElem_cons_succ, List.getElem_cons_zero, List.setIfInBounds_toArray, List.set_cons_zero, List.set_cons_succ])
                  (first | (refine wpAnyH_take (i := 2) rfl (by kernel_rfl) (by kernel_rfl) (by kernel_rfl) (fun _ _ _ h => h) (Or.inr ⟨by rfl, rfl⟩) (by assumption) ?_) | (refine wpAnyH_take (i := 2) (v := ?_) rfl (by kernel_rfl) (by kernel_rfl) (by kernel_rfl) (fun _ _ _ h => h) (Or.inl ⟨by rfl, ?_⟩) (by assumption) ?_; rotate_left 1; (focus (intro w hSw; (try dsimp only at hSw); go_simp; (try with_reducible rfl); done)))) <;> (try simp only [Act.put, List.getElem_toArray, List.getElem_cons_succ, List.getElem_cons_zero, List.setIfInBounds_toArray, List.set_cons_zero, List.set_cons_succ])
                  (first | (refine wpAnyH_take (i := 3) rfl (by kernel_rfl) (by kernel_rfl) (by kernel_rfl) (fun _ _ _ h => h) (Or.inr ⟨by rfl, rfl⟩) (by assumption) ?_) | (refine wpAnyH_take (i := 3) (v := ?_) rfl (by kernel_rfl) (by kernel_rfl) (by kernel_rfl) (fun _ _ _ h => h) (Or.inl ⟨by rfl, ?_⟩) (by assumption) ?_; rotate_left 1; (focus (intro w hSw; (try dsimp only at hSw); go_simp; (try with_reducible rfl); done)))) <;> (try simp only [Act.put, List.getElem_toArray, List.getElem_cons_succ, List.getElem_cons_zero, List.setIfInBounds_toArray, List.set_cons_zero, List.set_cons_succ])
                  (first | (refine wpAnyH_take (i := 4) rfl (by kernel_rfl) (by kernel_rfl) (by kernel_rfl) (fun _ _ _ h => h) (Or.inr ⟨by rfl, rfl⟩) (by assumption) ?_) | (refine wpAnyH_take (i := 4) (v := ?_) rfl (by kernel_rfl) (by kernel_rfl) (by kernel_rfl) (fun _ _ _ h => h) (Or.inl ⟨by rfl, ?_⟩) (by assumption) ?_; rotate_left 1; (focus (intro w hSw; (try dsimp only at hSw); go_simp; (try with_reducible rfl); done)))) <;> (try simp only [Act.put, List.getElem_toArray, List.getElem_cons_succ, List.getElem_cons_zero, List.setIfInBounds_toArray, List.set_cons_zero, List.set_cons_succ])
                  (first | (refine wpAnyH_take (i := 5) rfl (by kernel_rfl) (by kernel_rfl) (by kernel_rfl) (fun _ _ _ h => h) (Or.inr ⟨by rfl, rfl⟩) (by assumption) ?_) | (refine wpAnyH_take (i := 5) (v := ?_) rfl (by kernel_rfl) (by kernel_rfl) (by kernel_rfl) (fun _ _ _ h => h) (Or.inl ⟨by rfl, ?_⟩) (by assumption) ?_; rotate_left 1; (focus (intro w hSw; (try dsimp only at hSw); go_simp; (try with_reducible rfl); done)))) <;> (try simp only [Act.put, List.getElem_toArray, List.getElem_cons_succ, List.getElem_cons_zero, List.setIfInBounds_toArray, List.set_cons_zero, List.set_cons_succ])
                  (first | (refine wpAnyH_take (i := 6) rfl (by kernel_rfl) (by kernel_rfl) (by kernel_rfl) (fun _ _ _ h => h) (Or.inr ⟨by rfl, rfl⟩) (by assumption) ?_) | (refine wpAnyH_take (i := 6) (v := ?_) rfl (by kernel_rfl) (by kernel_rfl) (by kernel_rfl) (fun _ _ _ h => h) (Or.inl ⟨by rfl, ?_⟩) (by assumption) ?_; rotate_left 1; (focus (intro w hSw; (try dsimp only at hSw); go_simp; (try with_reducible rfl); done)))) <;> (try simp only [Act.put, List.getElem_toArray, List.getElem_cons_succ, List.getElem_cons_zero, List.setIfInBounds_toArray, List.set_cons_zero, List.set_cons_succ])
                  (first | (refine wpAnyH_take (i := 7) rfl (by kernel_rfl) (by kernel_rfl) (by kernel_rfl) (fun _ _ _ h => h) (Or.inr ⟨by rfl, rfl⟩) (by assumption) ?_) | (refine wpAnyH_take (i := 7) (v := ?_) rfl (by kernel_rfl) (by kernel_rfl) (by kernel_rfl) (fun _ _ _ h => h) (Or.inl ⟨by rfl, ?_⟩) (by assumption) ?_; rotate_left 1; (focus (intro w hSw; (try dsimp only at hSw); go_simp; (try with_reducible rfl); done)))) <;> (try simp only [Act.put, List.getElem_toArray, List.getElem_cons_succ, List.getElem_cons_zero, List.setIfInBounds_toArray, List.set_cons_zero, List.set_cons_succ])
                  (first | (refine wpAnyH_take (i := 8) rfl (by kernel_rfl) (by kernel_rfl) (by kernel_rfl) (fun _ _ _ h => h) (Or.inr ⟨by rfl, rfl⟩) (by assumption) ?_) | (refine wpAnyH_take (i := 8) (v := ?_) rfl (by kernel_rfl) (by kernel_rfl) (by kernel_rfl) (fun _ _ _ h => h) (Or.inl ⟨by rfl, ?_⟩) (by assumption) ?_; rotate_left 1; (focus (intro w hSw; (try dsimp only at hSw); go_simp; (try with_reducible rfl); done)))) <;> (try simp only [Act.put, List.getElem_toArray, List.getElem_cons_succ, List.getElem_cons_zero, List.setIfInBounds_toArray, List.set_cons_zero, List.set_cons_succ])
                  (first | (refine wpAnyH_take (i := 9) rfl (by kernel_rfl) (by kernel_rfl) (by kernel_rfl) (fun _ _ _ h => h) (Or.inr ⟨by rfl, rfl⟩) (by assumption) ?_) | (refine wpAnyH_take (i := 9) (v := ?_) rfl (by kernel_rfl) (by kernel_rfl) (by kernel_rfl) (fun _ _ _ h => h) (Or.inl ⟨by rfl, ?_⟩) (by assumption) ?_; rotate_left 1; (focus (intro w hSw; (try dsimp only at hSw); go_simp; (try with_reducible rfl); done)))) <;> (try simp only [Act.put, List.getElem_toArray, List.getElem_cons_succ, List.getElem_cons_zero, List.setIfInBounds_toArray, List.set_cons_zero, List.set_cons_succ])
                  (first | (refine wpAnyH_take (i := 10) rfl (by kernel_rfl) (by kernel_rfl) (by kernel_rfl) (fun _ _ _ h => h) (Or.inr ⟨by rfl, rfl⟩) (by assumption) ?_) | (refine wpAnyH_take (i := 10) (v := ?_) rfl (by kernel_rfl) (by kernel_rfl) (by kernel_rfl) (fun _ _ _ h => h) (Or.inl ⟨by rfl, ?_⟩) (by assumption) ?_; rotate_left 1; (focus (intro w hSw; (try dsimp only at hSw); go_simp; (try with_reducible rfl); done)))) <;> (try simp only [Act.put, List.getElem_toArray, List.getElem_cons_succ, List.getElem_cons_zero, List.setIfInBounds_toArray, List.set_cons_zero, List.set_cons_succ])
                  (first | (refine wpAnyH_take (i := 11) rfl (by kernel_rfl) (by kernel_rfl) (by kernel_rfl) (fun _ _ _ h => h) (Or.inr ⟨by rfl, rfl⟩) (by assumption) ?_) | (refine wpAnyH_take (i := 11) (v := ?_) rfl (by kernel_rfl) (by kernel_rfl) (by kernel_rfl) (fun _ _ _ h => h) (Or.inl ⟨by rfl, ?_⟩) (by assumption) ?_; rotate_left 1; (focus (intro w hSw; (try dsimp only at hSw); go_simp; (try with_reducible rfl); done)))) <;> (try simp only [Act.put, List.getElem_toArray, List.getElem_cons_succ, List.getElem_cons_zero, List.setIfInBounds_toArray, List.set_cons_zero, List.set_cons_succ])
                  (first | (refine wpAnyH_take (i := 12) rfl (by kernel_rfl) (by kernel_rfl) (by kernel_rfl) (fun _ _ _ h => h) (Or.inr ⟨by rfl, rfl⟩) (by assumption) ?_) | (refine wpAnyH_take (i := 12) (v := ?_) rfl (by kernel_rfl) (by kernel_rfl) (by kernel_rfl) (fun _ _ _ h => h) (Or.inl ⟨by rfl, ?_⟩) (by assumption) ?_; rotate_left 1; (focus (intro w hSw; (try dsimp only at hSw); go_simp; (try with_reducible rfl); done)))) <;> (try simp only [Act.put, List.getElem_toArray, List.getElem_cons_succ, List.getElem_cons_zero, List.setIfInBounds_toArray, List.set_cons_zero, List.set_cons_succ])
                  (first | (refine wpAnyH_take (i := 13) rfl (by kernel_rfl) (by kernel_rfl) (by kernel_rfl) (fun _ _ _ h => h) (Or.inr ⟨by rfl, rfl⟩) (by assumption) ?_) | (refine wpAnyH_take (i := 13) (v := ?_) rfl (by kernel_rfl) (by kernel_rfl) (by kernel_rfl) (fun _ _ _ h => h) (Or.inl ⟨by rfl, ?_⟩) (by assumption) ?_; rotate_left 1; (focus (intro w hSw; (try dsimp only at hSw); go_simp; (try with_reducible rfl); done)))) <;> (try simp only [Act.put, List.getElem_toArray, List.getElem_cons_succ, List.getElem_cons_zero, List.setIfInBounds_toArray, List.set_cons_zero, List.set_cons_succ])
                  (first | (refine wpAnyH_take (i := 14) rfl (by kernel_rfl) (by kernel_rfl) (by kernel_rfl) (fun _ _ _ h => h) (Or.inr ⟨by rfl, rfl⟩) (by assumption) ?_) | (refine wpAnyH_take (i := 14) (v := ?_) rfl (by kernel_rfl) (by kernel_rfl) (by kernel_rfl) (fun _ _ _ h => h) (Or.inl ⟨by rfl, ?_⟩) (by assumption) ?_; rotate_left 1; (focus (intro w hSw; (try dsimp only at hSw); go_simp; (try with_reducible rfl); done)))) <;> (try simp only [Act.put, List.getElem_toArray, List.getElem_cons_succ, List.getElem_cons_zero, List.setIfInBounds_toArray, List.set_cons_zero, List.set_cons_succ])
                  (first | (refine wpAnyH_take (i := 15) rfl (by kernel_rfl) (by kernel_rfl) (by kernel_rfl) (fun _ _ _ h => h) (Or.inr ⟨by rfl, rfl⟩) (by assumption) ?_) | (refine wpAnyH_take (i := 15) (v := ?_) rfl (by kernel_rfl) (by kernel_rfl) (by kernel_rfl) (fun _ _ _ h => h) (Or.inl ⟨by rfl, ?_⟩) (by assumption) ?_; rotate_left 1; (focus (intro w hSw; (try dsimp only at hSw); go_simp; (try with_reducible rfl); done)))) <;> (try simp only [Act.put, List.getElem_toArray, List.getElem_cons_succ, List.getElem_cons_zero, List.setIfInBounds_toArray, List.set_cons_zero, List.set_cons_succ])
                  (first | (refine wpAnyH_take (i := 16) rfl (by kernel_rfl) (by kernel_rfl) (by kernel_rfl) (fun _ _ _ h => h) (Or.inr ⟨by rfl, rfl⟩) (by assumption) ?_) | (refine wpAnyH_take (i := 16) (v := ?_) rfl (by kernel_rfl) (by kernel_rfl) (by kernel_rfl) (fun _ _ _ h => h) (Or.inl ⟨by rfl, ?_⟩) (by assumption) ?_; rotate_left 1; (focus (intro w hSw; (try dsimp only at hSw); go_simp; (try with_reducible rfl); done)))) <;> (try simp only [Act.put, List.getElem_toArray, List.getElem_cons_succ, List.getElem_cons_zero, List.setIfInBounds_toArray, List.set_cons_zero, List.set_cons_succ])
                  (first | (refine wpAnyH_take (i := 17) rfl (by kernel_rfl) (by kernel_rfl) (by kernel_rfl) (fun _ _ _ h => h) (Or.inr ⟨by rfl, rfl⟩) (by assumption) ?_) | (refine wpAnyH_take (i := 17) (v := ?_) rfl (by kernel_rfl) (by kernel_rfl) (by kernel_rfl) (fun _ _ _ h => h) (Or.inl ⟨by rfl, ?_⟩) (by assumption) ?_; rotate_left 1; (focus (intro w hSw; (try dsimp only at hSw); go_simp; (try with_reducible rfl); done)))) <;> (try simp only [Act.put, List.getElem_toArray, List.getElem_cons_succ, List.getElem_cons_zero, List.setIfInBounds_toArray, List.set_cons_zero, List.set_cons_succ])
                  (first | (refine wpAnyH_take (i := 18) rfl (by kernel_rfl) (by kernel_rfl) (by kernel_rfl) (fun _ _ _ h => h) (Or.inr ⟨by rfl, rfl⟩) (by assumption) ?_) | (refine wpAnyH_take (i := 18) (v := ?_) rfl (by kernel_rfl) (by kernel_rfl) (by kernel_rfl) (fun _ _ _ h => h) (Or.inl ⟨by rfl, ?_⟩) (by assumption) ?_; rotate_left 1; (focus (intro w hSw; (try dsimp only at hSw); go_simp; (try with_reducible rfl); done)))) <;> (try simp only [Act.put, List.getElem_toArray, List.getElem_cons_succ, List.getElem_cons_zero, List.setIfInBounds_toArray, List.set_cons_zero, List.set_cons_succ])
                  (first | (refine wpAnyH_take (i := 19) rfl (by kernel_rfl) (by kernel_rfl) (by kernel_rfl) (fun _ _ _ h => h) (Or.inr ⟨by rfl, rfl⟩) (by assumption) ?_) | (refine wpAnyH_take (i := 19) (v := ?_) rfl (by kernel_rfl) (by kernel_rfl) (by kernel_rfl) (fun _ _ _ h => h) (Or.inl ⟨by rfl, ?_⟩) (by assumption) ?_; rotate_left 1; (focus (intro w hSw; (try dsimp only at hSw); go_simp; (try with_reducible rfl); done)))) <;> (try simp only [Act.put, List.getElem_toArray, List.getElem_cons_succ, List.getElem_cons_zero, List.setIfInBounds_toArray, List.set_cons_zero, List.set_cons_succ])
                  (first | (refine wpAnyH_take (i := 20) rfl (by kernel_rfl) (by kernel_rfl) (by kernel_rfl) (fun _ _ _ h => h) (Or.inr ⟨by rfl, rfl⟩) (by assumption) ?_) | (refine wpAnyH_take (i := 20) (v := ?_) rfl (by kernel_rfl) (by kernel_rfl) (by kernel_rfl) (fun _ _ _ h => h) (Or.inl ⟨by rfl, ?_⟩) (by assumption) ?_; rotate_left 1; (focus (intro w hSw; (try dsimp only at hSw); go_simp; (try with_reducible rfl); done)))) <;> (try simp only [Act.put, List.getElem_toArray, List.getElem_cons_succ, List.getElem_cons_zero, List.setIfInBounds_toArray, List.set_cons_zero, List.set_cons_succ])
                  (first | (refine wpAnyH_take (i := 21) rfl (by kernel_rfl) (by kernel_rfl) (by kernel_rfl) (fun _ _ _ h => h) (Or.inr ⟨by rfl, rfl⟩) (by assumption) ?_) | (refine wpAnyH_take (i := 21) (v := ?_) rfl (by kernel_rfl) (by kernel_rfl) (by kernel_rfl) (fun _ _ _ h => h) (Or.inl ⟨by rfl, ?_⟩) (by assumption) ?_; rotate_left 1; (focus (intro w hSw; (try dsimp only at hSw); go_simp; (try with_reducible rfl); done)))) <;> (try simp only [Act.put, List.getElem_toArray, List.getElem_cons_succ, List.getElem_cons_zero, List.setIfInBounds_toArray, List.set_cons_zero, List.set_cons_succ])
                  (first | (refine wpAnyH_take (i := 22) rfl (by kernel_rfl) (by kernel_rfl) (by kernel_rfl) (fun _ _ _ h => h) (Or.inr ⟨by rfl, rfl⟩) (by assumption) ?_) | (refine wpAnyH_take (i := 22) (v := ?_) rfl (by kernel_rfl) (by kernel_rfl) (by kernel_rfl) (fun _ _ _ h => h) (Or.inl ⟨by rfl, ?_⟩) (by assumption) ?_; rotate_left 1; (focus (intro w hSw; (try dsimp only at hSw); go_simp; (try with_reducible rfl); done)))) <;> (try simp only [Act.put, List.getElem_toArray, List.getElem_cons_succ, List.getElem_cons_zero, List.setIfInBounds_toArray, List.set_cons_zero, List.set_cons_succ])
                  (first | (refine wpAnyH_take (i := 23) rfl (by kernel_rfl) (by kernel_rfl) (by kernel_rfl) (fun _ _ _ h => h) (Or.inr ⟨by rfl, rfl⟩) (by assumption) ?_) | (refine wpAnyH_take (i := 23) (v := ?_) rfl (by kernel_rfl) (by kernel_rfl) (by kernel_rfl) (fun _ _ _ h => h) (Or.inl ⟨by rfl, ?_⟩) (by assumption) ?_; rotate_left 1; (focus (intro w hSw; (try dsimp only at hSw); go_simp; (try with_reducible rfl); done)))) <;> (try simp only [Act.put, List.getElem_toArray, List.getElem_cons_succ, List.getElem_cons_zero, List.setIfInBounds_toArray, List.set_cons_zero, List.set_cons_succ])
                  (first | (refine wpAnyH_take (i := 24) rfl (by kernel_rfl) (by kernel_rfl) (by kernel_rfl) (fun _ _ _ h => h) (Or.inr ⟨by rfl, rfl⟩) (by assumption) ?_) | (refine wpAnyH_take (i := 24) (v := ?_) rfl (by kernel_rfl) (by kernel_rfl) (by kernel_rfl) (fun _ _ _ h => h) (Or.inl ⟨by rfl, ?_⟩) (by assumption) ?_; rotate_left 1; (focus (intro w hSw; (try dsimp only at hSw); go_simp; (try with_reducible rfl); done)))) <;> (try simp only [Act.put, List.getElem_toArray, List.getElem_cons_succ, List.getElem_cons_zero, List.setIfInBounds_toArray, List.set_cons_zero, List.set_cons_succ])
                  (first | (refine wpAnyH_take (i := 25) rfl (by kernel_rfl) (by kernel_rfl) (by kernel_rfl) (fun _ _ _ h => h) (Or.inr ⟨by rfl, rfl⟩) (by assumption) ?_) | (refine wpAnyH_take (i := 25) (v := ?_) rfl (by kernel_rfl) (by kernel_rfl) (by kernel_rfl) (fun _ _ _ h => h) (Or.inl ⟨by rfl, ?_⟩) (by assumption) ?_; rotate_left 1; (focus (intro w hSw; (try dsimp only at hSw); go_simp; (try with_reducible rfl); done)))) <;> (try simp only [Act.put, List.getElem_toArray, List.getElem_cons_succ, List.getElem_cons_zero, List.setIfInBounds_toArray, List.set_cons_zero, List.set_cons_succ])
                  (first | (refine wpAnyH_take (i := 26) rfl (by kernel_rfl) (by kernel_rfl) (by kernel_rfl) (fun _ _ _ h => h) (Or.inr ⟨by rfl, rfl⟩) (by assumption) ?_) | (refine wpAnyH_take (i := 26) (v := ?_) rfl (by kernel_rfl) (by kernel_rfl) (by kernel_rfl) (fun _ _ _ h => h) (Or.inl ⟨by rfl, ?_⟩) (by assumption) ?_; rotate_left 1; (focus (intro w hSw; (try dsimp only at hSw); go_simp; (try with_reducible rfl); done)))) <;> (try simp only [Act.put, List.getElem_toArray, List.getElem_cons_succ, List.getElem_cons_zero, List.setIfInBounds_toArray, List.set_cons_zero, List.set_cons_succ])
                  (first | (refine wpAnyH_take (i := 27) rfl (by kernel_rfl) (by kernel_rfl) (by kernel_rfl) (fun _ _ _ h => h) (Or.inr ⟨by rfl, rfl⟩) (by assumption) ?_) | (refine wpAnyH_take (i := 27) (v := ?_) rfl (by kernel_rfl) (by kernel_rfl) (by kernel_rfl) (fun _ _ _ h => h) (Or.inl ⟨by rfl, ?_⟩) (by assumption) ?_; rotate_left 1; (focus (intro w hSw; (try dsimp only at hSw); go_simp; (try with_reducible rfl); done)))) <;> (try simp only [Act.put, List.getElem_toArray, List.getElem_cons_succ, List.getElem_cons_zero, List.setIfInBounds_toArray, List.set_cons_zero, List.set_cons_succ])
                  (first | (refine wpAnyH_take (i := 28) rfl (by kernel_rfl) (by kernel_rfl) (by kernel_rfl) (fun _ _ _ h => h) (Or.inr ⟨by rfl, rfl⟩) (by assumption) ?_) | (refine wpAnyH_take (i := 28) (v := ?_) rfl (by kernel_rfl) (by kernel_rfl) (by kernel_rfl) (fun _ _ _ h => h) (Or.inl ⟨by rfl, ?_⟩) (by assumption) ?_; rotate_left 1; (focus (intro w hSw; (try dsimp only at hSw); go_simp; (try with_reducible rfl); done)))) <;> (try simp only [Act.put, List.getElem_toArray, List.getElem_cons_succ, List.getElem_cons_zero, List.setIfInBounds_toArray, List.set_cons_zero, List.set_cons_succ])
                  (first | (refine wpAnyH_take (i := 29) rfl (by kernel_rfl) (by kernel_rfl) (by kernel_rfl) (fun _ _ _ h => h) (Or.inr ⟨by rfl, rfl⟩) (by assumption) ?_) | (refine wpAnyH_take (i := 29) (v := ?_) rfl (by kernel_rfl) (by kernel_rfl) (by kernel_rfl) (fun _ _ _ h => h) (Or.inl ⟨by rfl, ?_⟩) (by assumption) ?_; rotate_left 1; (focus (intro w hSw; (try dsimp only at hSw); go_simp; (try with_reducible rfl); done)))) <;> (try simp only [Act.put, List.getElem_toArray, List.getElem_cons_succ, List.getElem_cons_zero, List.setIfInBounds_toArray, List.set_cons_zero, List.set_cons_succ])
                  (first | (refine wpAnyH_take (i := 31) rfl (by kernel_rfl) (by kernel_rfl) (by kernel_rfl) (fun _ _ _ h => h) (Or.inr ⟨by rfl, rfl⟩) (by assumption) ?_) | (refine wpAnyH_take (i := 31) (v := ?_) rfl (by kernel_rfl) (by kernel_rfl) (by kernel_rfl) (fun _ _ _ h => h) (Or.inl ⟨by rfl, ?_⟩) (by assumption) ?_; rotate_left 1; (focus (intro w hSw; (try dsimp only at hSw); go_simp; (try with_reducible rfl); done)))) <;> (try simp only [Act.put, List.getElem_toArray, List.getElem_cons_succ, List.getElem_cons_zero, List.setIfInBounds_toArray, List.set_cons_zero, List.set_cons_succ])
                  have G1 := Aside0.mk (C1.out z8.drew (HS.out.below (below_tr (below_tr HB0.out HB.out) hHeld.2.2.2.2.2.2.2.2.out)))
                  refine wpAnyH_ready (rs := [30]) (by kernel_rfl) (by simp) ?_
                  refine AllReadyH.cons rfl (fun K hK => ?_) AllReadyH.nil
                  go_simp
                  go_at_call 15; refine G1.out.mono ?_; rintro e v1 ⟨rfl, hb1⟩; go_wp2_with fail
                  refine hK.out _ _ (HX.out _ (below_tr hHeld.2.2.2.2.2.2.2.2.out hb1)) (fun hHeld => ?_)
                  clear hK K
                  try simp only [Act.put, List.getElem_toArray, List.getElem_cons_succ, List.getElem_cons_zero, List.setIfInBounds_toArray, List.set_cons_zero, List.set_cons_succ]
                  have G2 := Aside0.mk (C2.out v1 (HST.out.below (below_tr HCc.out hHeld.2.2.2.2.2.2.2.2.out)))
                  clear hb1 G1
                  refine wpAnyH_ready (rs := [32]) (by kernel_rfl) (by simp) ?_
                  refine AllReadyH.cons rfl (fun K hK => ?_) AllReadyH.nil
                  go_simp
                  go_at_call 15; refine G2.out.mono ?_; rintro e v2 ⟨rfl, hb2⟩; go_wp2_with fail
                  refine hK.out _ _ (HX.out _ (below_tr hHeld.2.2.2.2.2.2.2.2.out hb2)) (fun hHeld => ?_)
                  clear hK K
                  try simp only [Act.put, List.getElem_toArray, List.getElem_cons_succ, List.getElem_cons_zero, List.setIfInBounds_toArray, List.set_cons_zero, List.set_cons_succ]
                  clear hb2 G2
                  (first | (refine wpAnyH_take (i := 33) rfl (by kernel_rfl) (by kernel_rfl) (by kernel_rfl) (fun _ _ _ h => h) (Or.inr ⟨by rfl, rfl⟩) (by assumption) ?_) | (refine wpAnyH_take (i := 33) (v := ?_) rfl (by kernel_rfl) (by kernel_rfl) (by kernel_rfl) (fun _ _ _ h => h) (Or.inl ⟨by rfl, ?_⟩) (by assumption) ?_; rotate_left 1; (focus (intro w hSw; (try dsimp only at hSw); go_simp; (try with_reducible rfl); done)))) <;> (try simp only [Act.put, List.getElem_toArray, List.getElem_cons_succ, List.getElem_cons_zero, List.setIfInBounds_toArray, List.set_cons_zero, List.set_cons_succ])
                  (first | (refine wpAnyH_take (i := 34) rfl (by kernel_rfl) (by kernel_rfl) (by kernel_rfl) (fun _ _ _ h => h) (Or.inr ⟨by rfl, rfl⟩) (by assumption) ?_) | (refine wpAnyH_take (i := 34) (v := ?_) rfl (by kernel_rfl) (by kernel_rfl) (by kernel_rfl) (fun _ _ _ h => h) (Or.inl ⟨by rfl, ?_⟩) (by assumption) ?_; rotate_left 1; (focus (intro w hSw; (try dsimp only at hSw); go_simp; (try with_reducible rfl); done)))) <;> (try simp only [Act.put, List.getElem_toArray, List.getElem_cons_succ, List.getElem_cons_zero, List.setIfInBounds_toArray, List.set_cons_zero, List.set_cons_succ])
                  (first | (refine wpAnyH_take (i := 35) rfl (by kernel_rfl) (by kernel_rfl) (by kernel_rfl) (fun _ _ _ h => h) (Or.inr ⟨by rfl, rfl⟩) (by assumption) ?_) | (refine wpAnyH_take (i := 35) (v := ?_) rfl (by kernel_rfl) (by kernel_rfl) (by kernel_rfl) (fun _ _ _ h => h) (Or.inl ⟨by rfl, ?_⟩) (by assumption) ?_; rotate_left 1; (focus (intro w hSw; (try dsimp only at hSw); go_simp; (try with_reducible rfl); done)))) <;> (try simp only [Act.put, List.getElem_toArray, List.getElem_cons_succ, List.getElem_cons_zero, List.setIfInBounds_toArray, List.set_cons_zero, List.set_cons_succ])
                  refine wpAnyH_done (by kernel_rfl) ?_ _
                  have HBe := Aside0.mk hHeld.2.2.2.2.2.2.2.2.out
                  clear hHeld HX
                  go_wp2
                  go_ret
                  exact ⟨rfl, below_tr HB0.out (below_tr HB.out HBe.out)⟩
end Go.Proofs.YtdnmoppegncioaaGreatDoor
