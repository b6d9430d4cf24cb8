/- ratio.New at numbers that are not negative; average.Mean. -/
import Derived.Test.YtdnmoppegncioaaGreatDoorKE
namespace Go.Proofs.YtdnmoppegncioaaGreatDoor
open Go.RowKit Go.Proofs.YtdnmoppegncioaaGreatDoorW.PrintWords
set_option linter.unusedVariables false
set_option linter.unusedSimpArgs false
/-- Has a fraction small parts, in lowest terms? -/
def newOk (n d : Nat) : Bool := decide (n / Nat.gcd n d ≤ 1073741824) && decide (d / Nat.gcd n d ≤ 1073741824)
def newA (n d : Nat) : Int := if newOk n d then ((n / Nat.gcd n d : Nat) : Int) else 0
def newB (n d : Nat) : Int := if newOk n d then ((d / Nat.gcd n d : Nat) : Int) else 0
def newE (n d : Nat) : Int := if newOk n d then 0 else 2
set_option maxHeartbeats 4000000 in
theorem new_calls (n d : Nat) (hn : n ≤ 9223372036854775807) (hd : d ≤ 9223372036854775807) (h0 : 0 < d) (w : World) :
    Calls Tryz.prog 60 #[.int .i64 n, .int .i64 d] w fun e w' => e = .returned (.tuple #[.agg #[.int .i64 (newA n d), .int .i64 (newB n d)], .int .i64 (newE n d)]) ∧ Below w.heap.size w w' := by
  have b1 := (Below.refl w.heap.size w).alloc (Nat.le_refl _) (.cells #[.int .i64 0, .int .i64 0] 28)
  have x1 := new_blk w (.cells #[.int .i64 0, .int .i64 0] 28)
  have HB := Aside0.mk b1; have HX := Aside0.mk x1; clear b1 x1
  have hg0 : 0 < Nat.gcd n d := Nat.gcd_pos_of_pos_right _ h0
  have HC := Aside0.mk (fun W => common_calls (n : Int) (d : Int) (by omega) (by omega) (by omega) (by omega) W)
  have HS1 := Aside0.mk (fun (V : World) => size_calls (n : Int) (by omega) (by omega) V)
  have HS2 := Aside0.mk (fun (V : World) => size_calls (d : Int) (by omega) (by omega) V)
  simp only [Int.natAbs_natCast] at HC HS1 HS2
  have HE := Aside0.mk (And.intro (show newA n d = if newOk n d then ((n / Nat.gcd n d : Nat) : Int) else 0 from rfl) (And.intro (show newB n d = if newOk n d then ((d / Nat.gcd n d : Nat) : Int) else 0 from rfl) (And.intro (show newE n d = if newOk n d then 0 else 2 from rfl) (show newOk n d = (decide (n / Nat.gcd n d ≤ 1073741824) && decide (d / Nat.gcd n d ≤ 1073741824)) from rfl))))
  generalize Nat.gcd n d = g at HC HE hg0
  have hdn : (d : Int) ≠ 0 := by omega
  have hd1 : ((d : Int) == 0) = false := by simp; omega
  have hg1 : (g : Int) ≠ 0 := by omega
  have hg2 : ((g : Int) == 0) = false := by simp; omega
  have hn0 : decide ((n : Int) < 0) = false := decide_eq_false (by omega)
  have hd0 : decide ((d : Int) < 0) = false := decide_eq_false (by omega)
  have hq1 : (n : Int).tdiv g = ((n / g : Nat) : Int) := rfl
  have hq2 : (d : Int).tdiv g = ((d / g : Nat) : Int) := rfl
  have hl1 : n / g ≤ n := Nat.div_le_self _ _
  have hl2 : d / g ≤ d := Nat.div_le_self _ _
  generalize n / g = x at *
  generalize d / g = y at *
  go_enter Tryz.func60, Tryz.ntmps60
  go_wp2_with fail
  refine (HC.out _).mono ?_
  rintro e w1 ⟨rfl, hb1⟩
  have HB1 := Aside0.mk (below_tr HB.out hb1); have HX1 := Aside0.mk (blk_low hb1 HX.out)
  clear hb1 HC HB HX
  have c0 := (blk_cell HX1.out 0).trans rfl; have c1 := (blk_cell HX1.out 1).trans rfl
  have bf : ∀ i, w1.frozen? ⟨w.heap.size, i, none⟩ = false := fun i => blk_frozen HX1.out i
  by_cases h1 : x ≤ 1073741824
  · by_cases h2 : y ≤ 1073741824
    · have HR := Aside0.mk (show newA n d = x ∧ newB n d = y ∧ newE n d = 0 by
        have h := HE.out
        rw [show newOk n d = true by rw [h.2.2.2]; simp [h1, h2]] at h
        exact ⟨h.1, h.2.1, h.2.2.1⟩)
      clear HE
      have k1 : decide (1073741824 < (x : Int)) = false := decide_eq_false (by omega)
      have k2 : decide (1073741824 < (y : Int)) = false := decide_eq_false (by omega)
      have q1 : IntKind.i64.wrap (x : Int) = x := wrap_i64 _ (by omega) (by omega)
      have q2 : IntKind.i64.wrap (y : Int) = y := wrap_i64 _ (by omega) (by omega)
      go_wp2
      go_quiet ((first | (go_at_call_of 40 (Value.int .i64 n); exact Calls.quiet_of_same (HS1.out _)) | (go_at_call_of 40 (Value.int .i64 d); exact Calls.quiet_of_same (HS2.out _))))
      go_wp2
      have hf : (((((w1.drewN nq).setCell ⟨w.heap.size, 0, none⟩ (.int .i64 x)).setCell ⟨w.heap.size, 1, none⟩ (.int .i64 y)).setCell ⟨w.heap.size, 0, none⟩ (.int .i64 x)).setCell ⟨w.heap.size, 1, none⟩ (.int .i64 y)).heap[w.heap.size]? = some (.cells #[.int .i64 x, .int .i64 y] 28 (0, 0)) := blk_put2 (blk_put2 (show (w1.drewN nq).heap[w.heap.size]? = _ from HX1.out) _ _) _ _
      have f0 := (blk_cell hf 0).trans rfl; have f1 := (blk_cell hf 1).trans rfl
      exact bodyPost_ret (v := .tuple #[.agg #[.int .i64 x, .int .i64 y], .int .i64 0]) (by simp [results, Tryz.f60, go_sem, f0, f1]) rfl ⟨by rw [HR.out.1, HR.out.2.1, HR.out.2.2], below_put2 (below_put2 (pw_below_drewN HB1.out _) (Nat.le_refl _) _ _) (Nat.le_refl _) _ _⟩
    · have HR := Aside0.mk (show newA n d = 0 ∧ newB n d = 0 ∧ newE n d = 2 by
        have h := HE.out
        rw [show newOk n d = false by rw [h.2.2.2]; simp; omega] at h
        exact ⟨h.1, h.2.1, h.2.2.1⟩)
      clear HE
      have k1 : decide (1073741824 < (x : Int)) = false := decide_eq_false (by omega)
      have k2 : decide (1073741824 < (y : Int)) = true := decide_eq_true (by omega)
      go_wp2
      go_quiet ((first | (go_at_call_of 40 (Value.int .i64 n); exact Calls.quiet_of_same (HS1.out _)) | (go_at_call_of 40 (Value.int .i64 d); exact Calls.quiet_of_same (HS2.out _))))
      go_wp2
      have hf : ((((w1.drewN nq).setCell ⟨w.heap.size, 0, none⟩ (.int .i64 0)).setCell ⟨w.heap.size, 1, none⟩ (.int .i64 0))).heap[w.heap.size]? = some (.cells #[.int .i64 0, .int .i64 0] 28 (0, 0)) := blk_put2 (show (w1.drewN nq).heap[w.heap.size]? = _ from HX1.out) _ _
      have f0 := (blk_cell hf 0).trans rfl; have f1 := (blk_cell hf 1).trans rfl
      exact bodyPost_ret (v := .tuple #[.agg #[.int .i64 0, .int .i64 0], .int .i64 2]) (by simp [results, Tryz.f60, go_sem, f0, f1]) rfl ⟨by rw [HR.out.1, HR.out.2.1, HR.out.2.2], below_put2 (pw_below_drewN HB1.out _) (Nat.le_refl _) _ _⟩
  · have HR := Aside0.mk (show newA n d = 0 ∧ newB n d = 0 ∧ newE n d = 2 by
      have h := HE.out
      rw [show newOk n d = false by rw [h.2.2.2]; simp; omega] at h
      exact ⟨h.1, h.2.1, h.2.2.1⟩)
    clear HE
    have k1 : decide (1073741824 < (x : Int)) = true := decide_eq_true (by omega)
    go_wp2
    go_quiet ((first | (go_at_call_of 40 (Value.int .i64 n); exact Calls.quiet_of_same (HS1.out _)) | (go_at_call_of 40 (Value.int .i64 d); exact Calls.quiet_of_same (HS2.out _))))
    go_wp2
    have hf : ((((w1.drewN nq).setCell ⟨w.heap.size, 0, none⟩ (.int .i64 0)).setCell ⟨w.heap.size, 1, none⟩ (.int .i64 0))).heap[w.heap.size]? = some (.cells #[.int .i64 0, .int .i64 0] 28 (0, 0)) := blk_put2 (show (w1.drewN nq).heap[w.heap.size]? = _ from HX1.out) _ _
    have f0 := (blk_cell hf 0).trans rfl; have f1 := (blk_cell hf 1).trans rfl
    exact bodyPost_ret (v := .tuple #[.agg #[.int .i64 0, .int .i64 0], .int .i64 2]) (by simp [results, Tryz.f60, go_sem, f0, f1]) rfl ⟨by rw [HR.out.1, HR.out.2.1, HR.out.2.2], below_put2 (pw_below_drewN HB1.out _) (Nat.le_refl _) _ _⟩
/-- average.Mean's answers. -/
def meanA (l : List S141) : Int := if aCheck l = 0 then (if credS l = 0 then 0 else newA (pntS l).toNat (credS l).toNat) else 0
def meanB (l : List S141) : Int := if aCheck l = 0 then (if credS l = 0 then 1 else newB (pntS l).toNat (credS l).toNat) else 0
def meanE (l : List S141) : Int := if aCheck l = 0 then (if credS l = 0 then 0 else newE (pntS l).toNat (credS l).toNat) else 150
set_option maxHeartbeats 4000000 in
theorem mean_calls (A : Option Addr) (c : Nat) (l : List S141) (w : World) (hr : k141.C w A l.length l) (hl : l.length ≤ 10000000000000000) :
    Calls Tryz.prog 47 #[.slice A l.length c] w fun e w' => e = .returned (.tuple #[.agg #[.int .i64 (meanA l), .int .i64 (meanB l)], .int .i64 (meanE l)]) ∧ Below w.heap.size w w' := by
  have b1 := (Below.refl w.heap.size w).alloc (Nat.le_refl _) (.cells #[.int .i64 0, .int .i64 0] 28)
  have x1 := new_blk w (.cells #[.int .i64 0, .int .i64 0] 28)
  have HC := Aside0.mk (sums_calls A c l _ (Kd.C_below hr b1) hl)
  have HB := Aside0.mk b1; have HX := Aside0.mk x1; clear b1 x1 hr
  have HRA := Aside0.mk (show meanA l = if aCheck l = 0 then (if credS l = 0 then 0 else newA (pntS l).toNat (credS l).toNat) else 0 from rfl)
  have HRB := Aside0.mk (show meanB l = if aCheck l = 0 then (if credS l = 0 then 1 else newB (pntS l).toNat (credS l).toNat) else 0 from rfl)
  have HRE := Aside0.mk (show meanE l = if aCheck l = 0 then (if credS l = 0 then 0 else newE (pntS l).toNat (credS l).toNat) else 150 from rfl)
  rcases aCheck_or l with hc | hc
  · have hbd := (sums_bd l (aCheck_zero hc)).2
    have hcn : credN l = credS l := by unfold credN; rw [if_pos hc]
    have hpn : pntN l = pntS l := by unfold pntN; rw [if_pos hc]
    rw [hcn, hpn, hc] at HC
    rw [hc] at HRA HRB HRE
    simp only [if_true] at HRA HRB HRE
    clear hcn hpn hc
    obtain ⟨C, hC⟩ : ∃ C : Nat, credS l = C := ⟨(credS l).toNat, by omega⟩
    obtain ⟨P, hP⟩ : ∃ P : Nat, pntS l = P := ⟨(pntS l).toNat, by omega⟩
    rw [hC, hP] at HC HRA HRB HRE hbd
    simp only [Int.toNat_natCast] at HRA HRB HRE
    clear hC hP
    by_cases h0 : C = 0
    · subst h0
      have HR := Aside0.mk (show meanA l = 0 ∧ meanB l = 1 ∧ meanE l = 0 from ⟨HRA.out.trans (if_pos rfl), HRB.out.trans (if_pos rfl), HRE.out.trans (if_pos rfl)⟩)
      clear HRA HRB HRE
      go_enter Tryz.func47, Tryz.ntmps47
      go_wp2_with fail
      refine HC.out.mono ?_
      rintro e w1 ⟨rfl, hb1⟩
      have HB1 := Aside0.mk (below_tr HB.out hb1); have HX1 := Aside0.mk (blk_low hb1 HX.out)
      clear hb1 HC HB HX
      have c0 := (blk_cell HX1.out 0).trans rfl; have c1 := (blk_cell HX1.out 1).trans rfl
      have bf : ∀ i, w1.frozen? ⟨w.heap.size, i, none⟩ = false := fun i => blk_frozen HX1.out i
      go_wp2
      have hf := blk_put2 HX1.out (.int .i64 0) (.int .i64 1)
      have f0 := (blk_cell hf 0).trans rfl; have f1 := (blk_cell hf 1).trans rfl
      exact bodyPost_ret (v := .tuple #[.agg #[.int .i64 0, .int .i64 1], .int .i64 0]) (by simp [results, Tryz.f47, go_sem, f0, f1]) rfl ⟨by rw [HR.out.1, HR.out.2.1, HR.out.2.2], below_put2 HB1.out (Nat.le_refl _) _ _⟩
    · have h01 : (C : Int) ≠ 0 := by omega
      have h02 : ((C : Int) == 0) = false := by simp; omega
      have HR := Aside0.mk (show meanA l = newA P C ∧ meanB l = newB P C ∧ meanE l = newE P C from ⟨HRA.out.trans (if_neg h01), HRB.out.trans (if_neg h01), HRE.out.trans (if_neg h01)⟩)
      clear HRA HRB HRE
      have HN := Aside0.mk (fun W => new_calls P C (by omega) (by omega) (by omega) W)
      generalize newA P C = na at HN HR
      generalize newB P C = nb at HN HR
      generalize newE P C = ne at HN HR
      clear hbd
      go_enter Tryz.func47, Tryz.ntmps47
      go_wp2_with fail
      refine HC.out.mono ?_
      rintro e w1 ⟨rfl, hb1⟩
      have HB1 := Aside0.mk (below_tr HB.out hb1); have HX1 := Aside0.mk (blk_low hb1 HX.out)
      clear hb1 HC HB HX
      go_wp2_with fail
      refine (HN.out _).mono ?_
      rintro e w2 ⟨rfl, hb2⟩
      have HB2 := Aside0.mk (below_tr HB1.out hb2); have HX2 := Aside0.mk (blk_low hb2 HX1.out)
      clear hb2 HN HB1 HX1
      have c0 := (blk_cell HX2.out 0).trans rfl; have c1 := (blk_cell HX2.out 1).trans rfl
      have bf : ∀ i, w2.frozen? ⟨w.heap.size, i, none⟩ = false := fun i => blk_frozen HX2.out i
      go_wp2
      have hf := blk_put2 HX2.out (.int .i64 na) (.int .i64 nb)
      have f0 := (blk_cell hf 0).trans rfl; have f1 := (blk_cell hf 1).trans rfl
      exact bodyPost_ret (v := .tuple #[.agg #[.int .i64 na, .int .i64 nb], .int .i64 ne]) (by simp [results, Tryz.f47, go_sem, f0, f1]) rfl ⟨by rw [HR.out.1, HR.out.2.1, HR.out.2.2], below_put2 HB2.out (Nat.le_refl _) _ _⟩
  · have h150 : ¬ (150 : Int) = 0 := by decide
    rw [hc] at HC HRA HRB HRE
    have HR := Aside0.mk (show meanA l = 0 ∧ meanB l = 0 ∧ meanE l = 150 from ⟨HRA.out.trans (if_neg h150), HRB.out.trans (if_neg h150), HRE.out.trans (if_neg h150)⟩)
    clear HRA HRB HRE h150
    go_enter Tryz.func47, Tryz.ntmps47
    go_wp2_with fail
    refine HC.out.mono ?_
    rintro e w1 ⟨rfl, hb1⟩
    have HB1 := Aside0.mk (below_tr HB.out hb1); have HX1 := Aside0.mk (blk_low hb1 HX.out)
    clear hb1 HC HB HX
    have c0 := (blk_cell HX1.out 0).trans rfl; have c1 := (blk_cell HX1.out 1).trans rfl
    have bf : ∀ i, w1.frozen? ⟨w.heap.size, i, none⟩ = false := fun i => blk_frozen HX1.out i
    go_wp2
    have hf := blk_put2 HX1.out (.int .i64 0) (.int .i64 0)
    have f0 := (blk_cell hf 0).trans rfl; have f1 := (blk_cell hf 1).trans rfl
    exact bodyPost_ret (v := .tuple #[.agg #[.int .i64 0, .int .i64 0], .int .i64 150]) (by simp [results, Tryz.f47, go_sem, f0, f1]) rfl ⟨by rw [HR.out.1, HR.out.2.1, HR.out.2.2], below_put2 HB1.out (Nat.le_refl _) _ _⟩
end Go.Proofs.YtdnmoppegncioaaGreatDoor
