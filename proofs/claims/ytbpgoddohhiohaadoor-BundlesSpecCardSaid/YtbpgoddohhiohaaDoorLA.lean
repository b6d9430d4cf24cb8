/- sizarlaw24.BundlesAll: it is true. -/
import Derived.Test.YtbpgoddohhiohaaDoorSN
import Derived.Test.YtbpgoddohhiohaaDoorFW
import Derived.Test.YtbpgoddohhiohaaDoorPL
import Derived.Deep.RegionHeld3
namespace Go.Proofs.YtbpgoddohhiohaaDoor
open Go.RowKit Go.Proofs.YtbpgoddohhiohaaDoorW.PrintWords
set_option linter.unusedVariables false
set_option linter.unusedSimpArgs false
attribute [local go_sem high] eqA24
theorem few_7 {l : List S34} {n : Nat} (h : sFew l n = true) : ∀ s ∈ l, s.f7.length ≤ 100000 := fun s hs => by
  simp only [sFew, Bool.and_eq_true, List.all_eq_true] at h
  have := h.2 s hs
  simp [fewS] at this
  omega
theorem few_5 {l : List S34} {n : Nat} (h : sFew l n = true) : ∀ s ∈ l, s.f5.length ≤ 100000 := fun s hs => by
  simp only [sFew, Bool.and_eq_true, List.all_eq_true] at h
  have := h.2 s hs
  simp [fewS] at this
  omega
theorem few_len {l : List S34} {n : Nat} (h : sFew l n = true) : l.length ≤ 10 := by
  simp [sFew] at h
  omega
theorem bAll_len (l : List S34) (s : Int) : (bAll l s).length ≤ (sFind l s).1.f7.length + 1 := by
  unfold bAll
  split
  · simp
  · have := bFold_len l s ((-1) :: (sFind l s).1.f7) []
    simpa using this
def metB (x : List S24) (b0 b1 : Int) (k : Nat) : Nat := (x.take k).countP (bEq ⟨b0, b1⟩)
theorem metB_succ (x : List S24) (b0 b1 : Int) (k : Nat) (h : k < x.length) : metB x b0 b1 (k + 1) = if ((rd_T24 x k).f0 == b0 && (rd_T24 x k).f1 == b1) = true then metB x b0 b1 k + 1 else metB x b0 b1 k := by
  unfold metB
  rw [take_snoc' x z24 k h, List.countP_append, show x.getD k z24 = rd_T24 x k from by simp [rd_T24]]
  have hq : bEq ⟨b0, b1⟩ (rd_T24 x k) = ((rd_T24 x k).f0 == b0 && (rd_T24 x k).f1 == b1) := by
    unfold bEq
    rw [ibeq_comm, ibeq_comm b1]
  simp only [List.countP_cons, List.countP_nil, hq]
  split <;> simp
theorem metB_le (x : List S24) (b0 b1 : Int) (k : Nat) : metB x b0 b1 k ≤ k := by
  unfold metB
  exact Nat.le_trans List.countP_le_length (by simp; omega)

theorem four_keep {a1 a2 a3 a4 : Addr} {v1 v2 v3 v4 : Value} {w0 W W' : World} (hb : Aside0 (Below W.heap.size W W')) (h : W.cell? a1 = some v1 ∧ W.cell? a2 = some v2 ∧ W.cell? a3 = some v3 ∧ W.cell? a4 = some v4 ∧ Aside0 (Below w0.heap.size w0 W)) :
    W'.cell? a1 = some v1 ∧ W'.cell? a2 = some v2 ∧ W'.cell? a3 = some v3 ∧ W'.cell? a4 = some v4 ∧ Aside0 (Below w0.heap.size w0 W') :=
  ⟨cell_low hb.out h.1, cell_low hb.out h.2.1, cell_low hb.out h.2.2.1, cell_low hb.out h.2.2.2.1, ⟨below_tr h.2.2.2.2.out hb.out⟩⟩

set_option maxRecDepth 100000 in
set_option maxHeartbeats 8000000 in
theorem lawAll_calls (A : Option Addr) (c : Nat) (l : List S34) (b0 b1 : Int) (w : World) (hE : ErrT w) (hr : k34.C w A l.length l) (hc : l.length ≤ c) :
    Calls Tryd.prog 6 #[.slice A l.length c, .agg #[.int .i64 b0, .int .i64 b1]] w fun e w' => e = .returned (.bool true) ∧ Below w.heap.size w w' := by
  have hb0 := (Below.refl w.heap.size w).alloc (Nat.le_refl _) (.cells #[.int .i64 b0, .int .i64 b1] 24)
  have hx0 := new_blk w (.cells #[.int .i64 b0, .int .i64 b1] 24)
  have HR := Aside0.mk hr; have HE := Aside0.mk hE; have HB0 := Aside0.mk hb0; have HX0 := Aside0.mk hx0
  have h10 := Aside0.mk (sane_calls _ (hE.below hb0))
  clear hr hE hb0 hx0
  go_enter Tryd.func6, Tryd.ntmps6
  go_wp2_with fail
  refine h10.out.mono ?_
  rintro e w1 ⟨rfl, hb1⟩
  have HB1 := Aside0.mk (below_tr HB0.out hb1); have HX1 := Aside0.mk (blk_low hb1 HX0.out)
  clear hb1 h10 HX0
  have h11 := few_calls A c l none 0 0 w1 (Kd.C_below HR.out HB1.out)
  cases hf : sFew l 0 with
  | false =>
    rw [hf] at h11
    go_wp2_with fail
    refine h11.mono ?_
    rintro e w2 ⟨rfl, rfl⟩
    go_wp2
    go_ret
    exact ⟨rfl, HB1.out⟩
  | true =>
    rw [hf] at h11
    have HF := Aside0.mk hf
    go_wp2_with fail
    refine h11.mono ?_
    rintro e w2 ⟨rfl, rfl⟩
    clear h11 hf
    have z0 := (blk_cell HX1.out 0).trans rfl
    have H13 := Aside0.mk (ball_calls A c l b0 w2 (HE.out.below HB1.out) (Kd.C_below HR.out HB1.out) hc (bAll_hL (few_7 HF.out) b0))
    go_wp2_with fail
    refine H13.out.mono ?_
    rintro e w3 ⟨v, rfl, hR, hb3⟩
    obtain ⟨B, d, rfl, hxl, hC⟩ := Kd.R_reads hR
    have HC := Aside0.mk hC; have HB3 := Aside0.mk (below_tr HB1.out hb3); have HX3 := Aside0.mk (blk_low hb3 HX1.out)
    have HXL := Aside0.mk (Nat.le_trans (bAll_len l b0) (Nat.succ_le_succ (bAll_hL (few_7 HF.out) b0)))
    have HS := Aside0.mk (bAll_sec (l := l) (s := b0)); have HO := Aside0.mk (bAll_ok (l := l) (s := b0)); have HN := Aside0.mk (bAll_nodup (l := l) (s := b0)); have HM := Aside0.mk (bAll_count l b0 b1)
    have H17 := Aside0.mk (fun x0 x1 W hE hr => bcheck_calls A c l x0 x1 W hE hr hc)
    clear hC hb3 hR z0 H13 HX1
    generalize bAll l b0 = x at HC HXL HS HO HN HM hxl
    have hmax := Kd.C_max HC.out
    go_wp2
    go_loopw [6, 7] (fun m i wr => ∃ k : Nat, k ≤ x.length ∧ i = .int .i64 k ∧ m = .int .i64 (metB x b0 b1 k : Nat) ∧ Aside0 (Below w3.heap.size w3 wr)) (fun _ i _ => x.length - (intOf i).toNat)
    case atStart => exact ⟨0, Nat.zero_le _, rfl, rfl, ⟨Below.refl _ _⟩⟩
    case round =>
      obtain ⟨k, hk, rfl, rfl, hB⟩ := hrel
      by_cases hlt : k < x.length
      · have hd : (k : Int) < x.length := by omega
        have hp0 : (0 : Int) ≤ k := by omega
        obtain ⟨ad, rfl, hx0, hx1⟩ := at_T24 (Kd.C_below HC.out hB.out) k (by omega) (by omega)
        simp only [Int.toNat_natCast] at hx0 hx1
        have hmem : rd_T24 x k ∈ x := by
          rw [show rd_T24 x k = x[k] from by simp [rd_T24, List.getElem?_eq_getElem hlt]]; exact List.getElem_mem hlt
        have hsec := HS.out _ hmem
        have hok := HO.out _ hmem
        have hms := metB_succ x b0 b1 k hlt
        have hml := metB_le x b0 b1 k
        have hnd : ∀ q, q < k → ((rd_T24 x q).f0 == (rd_T24 x k).f0 && (rd_T24 x q).f1 == (rd_T24 x k).f1) = false := fun q hq => by
          rw [Bool.eq_false_iff]
          intro he
          have h1 := (beq_iff' (rd_T24 x q) (rd_T24 x k)).1 he
          rw [show rd_T24 x q = x[q] from by simp [rd_T24, List.getElem?_eq_getElem (Nat.lt_trans hq hlt)], show rd_T24 x k = x[k] from by simp [rd_T24, List.getElem?_eq_getElem hlt]] at h1
          exact absurd h1 (List.pairwise_iff_getElem.1 HN.out q k (Nat.lt_trans hq hlt) hlt hq)
        rw [hsec] at hx0 hms hnd
        obtain ⟨f1, hf1⟩ : ∃ f1, (rd_T24 x k).f1 = f1 := ⟨_, rfl⟩
        rw [hf1] at hx1 hok hms hnd
        have HF1 := Aside0.mk hf1; have HSEC := Aside0.mk hsec
        clear hmem hsec hf1
        have HXk := HX3.out
        have hbx := blk_low hB.out HXk
        have bx0 := (blk_cell hbx 0).trans rfl; have bx1 := (blk_cell hbx 1).trans rfl
        clear HXk hbx
        have HMS := Aside0.mk hms; have HND := Aside0.mk hnd; clear hms hnd
        have HBw := Aside0.mk (below_tr HB3.out hB.out)
        have hS0 : wr.drew.cell? (ad.add (k * 2)) = some (.int .i64 b0) ∧ wr.drew.cell? ⟨(ad.add (k * 2)).block, (ad.add (k * 2)).off + 1, none⟩ = some (.int .i64 f1) ∧ wr.drew.cell? ⟨w.heap.size, 0, none⟩ = some (.int .i64 b0) ∧ wr.drew.cell? ⟨w.heap.size, 1, none⟩ = some (.int .i64 b1) ∧ Aside0 (Below wr.heap.size wr wr.drew) := ⟨hx0, hx1, bx0, bx1, ⟨below_drew (Below.refl _ _)⟩⟩
        have j17 : Aside0 (∀ W, W.cell? (ad.add (k * 2)) = some (.int .i64 b0) ∧ W.cell? ⟨(ad.add (k * 2)).block, (ad.add (k * 2)).off + 1, none⟩ = some (.int .i64 f1) ∧ W.cell? ⟨w.heap.size, 0, none⟩ = some (.int .i64 b0) ∧ W.cell? ⟨w.heap.size, 1, none⟩ = some (.int .i64 b1) ∧ Aside0 (Below wr.heap.size wr W) → Calls Tryd.prog 17 #[.slice A l.length c, .agg #[.int .i64 b0, .int .i64 f1]] W fun e w' => e = .returned (.int .i64 0) ∧ Aside0 (Below W.heap.size W w')) := ⟨fun W h => by
          have hbW := below_tr HBw.out h.2.2.2.2.out
          have := H17.out b0 f1 W (HE.out.below hbW) (Kd.C_below HR.out hbW)
          rw [hok] at this
          exact this.mono fun _ _ h => ⟨h.1, ⟨h.2⟩⟩⟩
        clear hok
        go_wp2_with fail
        go_region_held3 (fun W => W.cell? (ad.add (k * 2)) = some (.int .i64 b0) ∧ W.cell? ⟨(ad.add (k * 2)).block, (ad.add (k * 2)).off + 1, none⟩ = some (.int .i64 f1) ∧ W.cell? ⟨w.heap.size, 0, none⟩ = some (.int .i64 b0) ∧ W.cell? ⟨w.heap.size, 1, none⟩ = some (.int .i64 b1) ∧ Aside0 (Below wr.heap.size wr W))
          (first | with_reducible assumption | (refine four_keep ⟨(Below.refl _ _).alloc (Nat.le_refl _) _⟩ ?_; with_reducible assumption) | (apply four_keep; with_reducible assumption; with_reducible assumption))
          (first | (go_at_call 17; with_reducible refine (j17.out _ ?_).mono ?_; with_reducible assumption; rintro e W' ⟨rfl, hb⟩))
        obtain ⟨y0, y1, y2, y3, hBk⟩ := (by assumption : W'.cell? (ad.add (k * 2)) = some (.int .i64 b0) ∧ W'.cell? ⟨(ad.add (k * 2)).block, (ad.add (k * 2)).off + 1, none⟩ = some (.int .i64 f1) ∧ W'.cell? ⟨w.heap.size, 0, none⟩ = some (.int .i64 b0) ∧ W'.cell? ⟨w.heap.size, 1, none⟩ = some (.int .i64 b1) ∧ Aside0 (Below wr.heap.size wr W'))
        have hB2 := Aside0.mk (below_tr hB.out hBk.out)
        clear hx0 hx1 bx0 bx1 hS0 j17
        cases hv : (f1 == b1) with
        | true =>
          have hv2 : (b0 == b0 && (f1 == b1)) = true := by simp [hv]
          have HMS2 := Aside0.mk (show metB x b0 b1 (k + 1) = metB x b0 b1 k + 1 by rw [HMS.out, if_pos hv2])
          go_wp2
          go_quiet (fail)
          go_wp2
          go_loopw [8] (fun j wr2 => ∃ q : Nat, q ≤ k ∧ j = .int .i64 q ∧ Aside0 (Below w3.heap.size w3 wr2)) (fun j _ => k - (intOf j).toNat)
          case atStart => exact ⟨0, Nat.zero_le _, rfl, ⟨pw_below_drewN hB2.out _⟩⟩
          case round =>
            clear y0 y1 y2 y3
            obtain ⟨q, hq, rfl, hBq⟩ := hrel
            by_cases hql : q < k
            · have hd2 : (q : Int) < k := by omega
              have hd3 : (q : Int) < x.length := by omega
              have hq0 : (0 : Int) ≤ q := by omega
              obtain ⟨ad', had, hx0, hx1⟩ := at_T24 (Kd.C_below HC.out hBq.out) k (by omega) (by omega)
              injection had with had
              subst had
              obtain ⟨ad', had, hy0, hy1⟩ := at_T24 (Kd.C_below HC.out hBq.out) q (by omega) (by omega)
              injection had with had
              subst had
              simp only [Int.toNat_natCast] at hx0 hx1 hy0 hy1
              rw [HSEC.out] at hx0
              rw [HF1.out] at hx1
              have hne := HND.out q hql
              generalize (rd_T24 x q).f0 = g0 at hy0 hne
              generalize (rd_T24 x q).f1 = g1 at hy1 hne
              go_wp2
              go_quiet (fail)
              go_wp2
              exact ⟨⟨q + 1, by omega, by go_num, ⟨pw_below_drewN hBq.out _⟩⟩, by simp [intOf]; omega⟩
            · have hd2 : ¬ (q : Int) < k := by omega
              go_wp2
              exact ⟨⟨k + 1, by omega, by go_num, by first | (rw [HMS2.out]; done) | (rw [HMS2.out]; go_num), hBq⟩, by simp [intOf]; omega⟩
        | false =>
          have hv2 : (b0 == b0 && (f1 == b1)) = false := by simp [hv]
          have HMS2 := Aside0.mk (show metB x b0 b1 (k + 1) = metB x b0 b1 k by rw [HMS.out, if_neg (by rw [hv2]; simp)])
          go_wp2
          go_quiet (fail)
          go_wp2
          go_loopw [8] (fun j wr2 => ∃ q : Nat, q ≤ k ∧ j = .int .i64 q ∧ Aside0 (Below w3.heap.size w3 wr2)) (fun j _ => k - (intOf j).toNat)
          case atStart => exact ⟨0, Nat.zero_le _, rfl, ⟨pw_below_drewN hB2.out _⟩⟩
          case round =>
            clear y0 y1 y2 y3
            obtain ⟨q, hq, rfl, hBq⟩ := hrel
            by_cases hql : q < k
            · have hd2 : (q : Int) < k := by omega
              have hd3 : (q : Int) < x.length := by omega
              have hq0 : (0 : Int) ≤ q := by omega
              obtain ⟨ad', had, hx0, hx1⟩ := at_T24 (Kd.C_below HC.out hBq.out) k (by omega) (by omega)
              injection had with had
              subst had
              obtain ⟨ad', had, hy0, hy1⟩ := at_T24 (Kd.C_below HC.out hBq.out) q (by omega) (by omega)
              injection had with had
              subst had
              simp only [Int.toNat_natCast] at hx0 hx1 hy0 hy1
              rw [HSEC.out] at hx0
              rw [HF1.out] at hx1
              have hne := HND.out q hql
              generalize (rd_T24 x q).f0 = g0 at hy0 hne
              generalize (rd_T24 x q).f1 = g1 at hy1 hne
              go_wp2
              go_quiet (fail)
              go_wp2
              exact ⟨⟨q + 1, by omega, by go_num, ⟨pw_below_drewN hBq.out _⟩⟩, by simp [intOf]; omega⟩
            · have hd2 : ¬ (q : Int) < k := by omega
              go_wp2
              exact ⟨⟨k + 1, by omega, by go_num, by first | (rw [HMS2.out]; done) | (rw [HMS2.out]; go_num), hBq⟩, by simp [intOf]; omega⟩
      · have hd : ¬ (k : Int) < x.length := by omega
        obtain rfl : k = x.length := by omega
        have hbx := blk_low hB.out HX3.out
        have bx0 := (blk_cell hbx 0).trans rfl; have bx1 := (blk_cell hbx 1).trans rfl
        have hbW := below_tr HB3.out hB.out
        have HBw := Aside0.mk hbW
        have hmt : metB x b0 b1 x.length = if bCheck l b0 b1 = 0 then 1 else 0 := by
          unfold metB; rw [List.take_of_length_le (Nat.le_refl _)]; exact HM.out
        have H17b := Aside0.mk (H17.out b0 b1 wr (HE.out.below hbW) (Kd.C_below HR.out hbW))
        clear hbx hbW
        rw [hmt]
        by_cases hcb : bCheck l b0 b1 = 0
        · rw [if_pos hcb]
          rw [hcb] at H17b
          go_wp2_with fail
          refine H17b.out.mono ?_
          rintro e w9 ⟨rfl, hb9⟩
          have HB9 := Aside0.mk (below_tr HBw.out hb9); clear hb9
          go_wp2
          go_ret
          exact ⟨rfl, HB9.out⟩
        · rw [if_neg hcb]
          have hcb1 : (bCheck l b0 b1 == 0) = false := by simp [hcb]
          go_wp2_with fail
          refine H17b.out.mono ?_
          rintro e w9 ⟨rfl, hb9⟩
          have HB9 := Aside0.mk (below_tr HBw.out hb9); clear hb9
          go_wp2
          go_ret
          exact ⟨rfl, HB9.out⟩
end Go.Proofs.YtbpgoddohhiohaaDoor
