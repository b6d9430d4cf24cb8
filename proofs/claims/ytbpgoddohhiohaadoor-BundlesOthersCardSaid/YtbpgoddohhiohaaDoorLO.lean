/- sizarlaw24.BundlesOthers: it is true. -/
import Derived.Test.YtbpgoddohhiohaaDoorLA
namespace Go.Proofs.YtbpgoddohhiohaaDoor
open Go.RowKit Go.Proofs.YtbpgoddohhiohaaDoorW.PrintWords
set_option linter.unusedVariables false
set_option linter.unusedSimpArgs false
theorem bOf_congr (l : List S34) (t1 t2 : List S47) (st term : Int) (h : ∀ n, owns t1 st n = owns t2 st n) : bOf l t1 st term = bOf l t2 st term := by
  have h1 : owns t1 st = owns t2 st := funext h
  have h2 : ∀ i, oOne l t1 st term i = oOne l t2 st term i := fun i => by unfold oOne oSel oBun; rw [h1]
  unfold bOf oUpto
  rw [show oOne l t1 st term = oOne l t2 st term from funext h2]
theorem owns_others (taken : List S47) (st ot : Int) (more : List Int) (h : ot ≠ st) (n : Int) : owns (taken ++ more.map fun m => (⟨ot, m, -1⟩ : S47)) st n = owns taken st n := by
  unfold owns
  rw [List.any_append]
  have : ((more.map fun m => (⟨ot, m, -1⟩ : S47)).any fun t => t.f0 == st && t.f1 == n) = false := by
    rw [List.any_eq_false]
    intro t ht
    obtain ⟨m, -, rfl⟩ := List.mem_map.1 ht
    simp [h]
  rw [this, Bool.or_false]
theorem owns_own (taken : List S47) (st : Int) (n : Int) : owns (taken.filter fun t => t.f0 == st) st n = owns taken st n := by
  unfold owns
  rw [List.any_filter]
  congr 1
  funext t
  cases t.f0 == st <;> simp
theorem kM47 {W : World} {base : Nat} {ok : Nat → Prop} : ∀ (x : S47) (cs : List Value), k47.K W x cs → k47.M W base ok x cs := fun x cs h => by
  rw [k47_open h]; exact k47_mkM _ _ _ _
theorem R_empty (W : World) (base : Nat) (hb : base ≤ W.heap.size) : k47.R 47 (W.alloc (.cells #[] 47)) base (fun _ => True) (.slice (some ⟨W.heap.size, 0, none⟩) 0 0) [] :=
  ⟨fun _ _ => trivial, OwnRow.lit (size := 3) W base (Reps.none _ _) hb (by simp)⟩

set_option maxRecDepth 100000 in
set_option maxHeartbeats 8000000 in
theorem lawOthers_calls (A : Option Addr) (c : Nat) (l : List S34) (B : Option Addr) (d : Nat) (taken : List S47) (st ot term : Int) (M : Option Addr) (e : Nat) (more : List Int) (w : World) (hE : ErrT w) (hr : k34.C w A l.length l) (hrt : k47.C w B taken.length taken) (hrm : (Kd.int .i64).C w M more.length more) :
    Calls Tryd.prog 9 #[.slice A l.length c, .slice B taken.length d, .int .i64 st, .int .i64 ot, .int .i64 term, .slice M more.length e] w fun e w' => e = .returned (.bool true) ∧ Below w.heap.size w w' := by
  have HR := Aside0.mk hr; have HE := Aside0.mk hE; have HT := Aside0.mk hrt; have HM := Aside0.mk hrm
  have hmaxt := Kd.C_max hrt; have hmaxm := Kd.C_max hrm
  have h10 := Aside0.mk (sane_calls w hE)
  clear hr hE hrt hrm
  go_enter Tryd.func9, Tryd.ntmps9
  go_wp2_with fail
  refine h10.out.mono ?_
  rintro e w1 ⟨rfl, hb1⟩
  have HB1 := Aside0.mk hb1
  clear hb1 h10
  have h11 := few_calls A c l B taken.length d w1 (Kd.C_below HR.out HB1.out)
  cases hf : sFew l taken.length with
  | false =>
    rw [hf] at h11
    go_wp2_with fail
    refine h11.mono ?_
    rintro e w2 ⟨rfl, rfl⟩
    go_wp2
    go_ret
    exact ⟨rfl, HB1.out⟩
  | true =>
    rw [hf] at h11
    have HF := Aside0.mk hf
    have HT40 := Aside0.mk (show taken.length ≤ 40 by have := hf; simp [sFew] at this; omega)
    cases hso : (ot == st) with
    | true =>
      go_wp2_with fail
      refine h11.mono ?_
      rintro e w2 ⟨rfl, rfl⟩
      go_wp2
      go_ret
      exact ⟨rfl, HB1.out⟩
    | false =>
      have HOT := Aside0.mk (show ot ≠ st by intro h; simp [h] at hso)
      by_cases hm20 : 20 < more.length
      · have hm : (20 : Int) < more.length := by omega
        go_wp2_with fail
        refine h11.mono ?_
        rintro e w2 ⟨rfl, rfl⟩
        go_wp2
        go_ret
        exact ⟨rfl, HB1.out⟩
      · have hm : ¬ (20 : Int) < more.length := by omega
        have HM20 := Aside0.mk (show more.length ≤ 20 by omega)
        clear hm20
        go_wp2_with fail
        refine h11.mono ?_
        rintro e w2 ⟨rfl, rfl⟩
        clear h11 hf
        have HBa := Aside0.mk ((Below.refl w2.heap.size w2).alloc (Nat.le_refl _) (.cells #[] 47))
        have HOa := Aside0.mk (R_empty w2 w2.heap.size (Nat.le_refl _))
        go_wp2_with (at_builtin; go_must (refine Kd.R_append_rows k47 (w0 := w2) w2.heap.size rfl (.tmp 34) (.tmp 35) 44 47 (.agg #[.int .i64 0, .int .i64 0, .int .i64 0]) 24 rfl Tryd.underlying44 info47 rfl (by decide) (by omega) (.slice (some ⟨w2.heap.size, 0, none⟩) 0 0) [] taken B taken.length d (fun _ => True) (fun _ => False) rfl rfl HOa.out (Kd.C_below HT.out (below_tr HB1.out HBa.out)) kM47 (fun _ h => h.elim) (fun _ _ => trivial) HBa.out HBa.out.size (by have := HT40.out; simp; omega) ?_; rintro v1 w3 hR3 hB3 hg3 hat3; have HR3 := Aside0.mk (show k47.R 47 w3 w2.heap.size (fun _ => True) v1 (taken ++ [].map fun m => (⟨ot, m, -1⟩ : S47)) by simpa using hR3); have HB3 := Aside0.mk hB3; clear hR3 hB3 hg3 hat3))
        clear hso hm HBa HOa
        go_loopw [13, 14] (fun y i wr => ∃ k : Nat, k ≤ more.length ∧ i = .int .i64 k ∧ Aside0 (k47.R 47 wr w2.heap.size (fun _ => True) y (taken ++ (more.take k).map fun m => (⟨ot, m, -1⟩ : S47))) ∧ Aside0 (Below w2.heap.size w2 wr)) (fun _ i _ => more.length - (intOf i).toNat)
        case atStart => exact ⟨0, Nat.zero_le _, rfl, by simpa using HR3, HB3⟩
        case round =>
          clear HR3 HB3
          obtain ⟨k, hk, rfl, hY, hB⟩ := hrel
          have HBw := Aside0.mk (below_tr HB1.out hB.out)
          by_cases hlt : k < more.length
          · have hd : (k : Int) < more.length := by omega
            have hp0 : (0 : Int) ≤ k := by omega
            obtain ⟨ad, rfl, hx0⟩ := (Kd.reads_of_C (d := (0 : Int)) (Kd.C_below HM.out HBw.out)).at_ k (by omega) (by omega)
            simp only [Int.toNat_natCast] at hx0
            have hyk : (taken ++ (more.take (k + 1)).map fun m => (⟨ot, m, -1⟩ : S47)) = (taken ++ (more.take k).map fun m => (⟨ot, m, -1⟩ : S47)) ++ [⟨ot, rdOf 0 more k, -1⟩] := by
              rw [take_snoc' more 0 k hlt, List.map_append, List.append_assoc]; simp [rdOf]
            have hyl : (taken ++ (more.take k).map fun m => (⟨ot, m, -1⟩ : S47)).length ≤ 60 := by
              have := HT40.out; have := HM20.out; simp; omega
            have hYY := hY.out
            generalize (taken ++ (more.take k).map fun m => (⟨ot, m, -1⟩ : S47)) = Y at hYY hyk hyl
            generalize rdOf 0 more k = m at hx0 hyk
            have HYK := Aside0.mk hyk; have HYL := Aside0.mk hyl
            obtain ⟨Ay, cy, rfl⟩ := Kd.R_slice hYY
            have HYY := Aside0.mk hYY
            clear hyk hyl hYY hY
            go_wp2_with (at_builtin; go_must (refine Kd.R_append k47 (w0 := w2) w2.heap.size rfl (.tmp 43) (.tmp 50) 44 47 (.agg #[.int .i64 0, .int .i64 0, .int .i64 0]) 24 rfl Tryd.underlying44 info47 rfl (by decide) (by omega) (.slice Ay Y.length cy) Y ⟨ot, m, -1⟩ [.int .i64 ot, .int .i64 m, .int .i64 (-1)] (fun _ => True) (fun _ => False) rfl rfl (k47_mkM _ _ _ ⟨ot, m, -1⟩) (fun _ hk => hk.elim) (fun _ _ => trivial) HYY.out hB.out hB.out.size (by have := HYL.out; omega) ?_; rintro v5 w5 hR5 hB5 hg5 hat5; have HR5 := Aside0.mk hR5; have HB5 := Aside0.mk hB5; clear hR5 hB5 hg5 hat5))
            exact ⟨⟨k + 1, by omega, by go_num, ⟨by rw [HYK.out]; exact HR5.out⟩, HB5⟩, by simp [intOf]; omega⟩
          · have hd : ¬ (k : Int) < more.length := by omega
            have hY2 := hY.out
            rw [List.take_of_length_le (by omega)] at hY2
            have hyl : (taken ++ more.map fun m => (⟨ot, m, -1⟩ : S47)).length ≤ 60 := by
              have := HT40.out; have := HM20.out; simp; omega
            have how := fun n => owns_others taken st ot more HOT.out n
            generalize (taken ++ more.map fun m => (⟨ot, m, -1⟩ : S47)) = Y at hY2 hyl how
            have HOW := Aside0.mk how
            obtain ⟨Ay, cy, rfl, hyc, hCy⟩ := Kd.R_reads hY2
            have HCY := Aside0.mk hCy
            clear hY hY2 hyl how hCy hd
            go_wp2
            obtain ⟨wo, rfl⟩ : ∃ wo : World, wo = wr := ⟨_, rfl⟩
            go_loopw [15, 16] (fun y i wr => ∃ k : Nat, k ≤ taken.length ∧ i = .int .i64 k ∧ Aside0 (k47.R 47 wr wo.heap.size (fun _ => True) y ((taken.take k).filter fun t => t.f0 == st)) ∧ Aside0 (Below wo.heap.size wo wr)) (fun _ i _ => taken.length - (intOf i).toNat)
            case atStart => exact ⟨0, Nat.zero_le _, rfl, ⟨Kd.R_nil _ _ _ _ _⟩, ⟨Below.refl _ _⟩⟩
            case round =>
              obtain ⟨q, hq, rfl, hO, hB2⟩ := hrel
              have HBw2 := Aside0.mk (below_tr HBw.out hB2.out)
              by_cases hlq : q < taken.length
              · have hd : (q : Int) < taken.length := by omega
                have hp0 : (0 : Int) ≤ q := by omega
                obtain ⟨ad, rfl, hx0, hx1, hx2⟩ := at_T47 (Kd.C_below HT.out HBw2.out) q (by omega) (by omega)
                simp only [Int.toNat_natCast] at hx0 hx1 hx2
                have hfl : ((taken.take (q + 1)).filter fun t => t.f0 == st) = if ((rd_T47 taken q).f0 == st) = true then ((taken.take q).filter fun t => t.f0 == st) ++ [rd_T47 taken q] else ((taken.take q).filter fun t => t.f0 == st) := by
                  rw [take_snoc' taken z47 q hlq, List.filter_append, show taken.getD q z47 = rd_T47 taken q from by simp [rd_T47]]
                  split
                  · rename_i h; simp [h]
                  · rename_i h; simp [h]
                have hol : ((taken.take q).filter fun t => t.f0 == st).length ≤ 40 := Nat.le_trans (List.length_filter_le _ _) (by have := HT40.out; simp; omega)
                have hOO := hO.out
                generalize ((taken.take q).filter fun t => t.f0 == st) = O at hOO hfl hol
                generalize rd_T47 taken q = t at hx0 hx1 hx2 hfl
                have HFL := Aside0.mk hfl; have HOL := Aside0.mk hol; have HOO := Aside0.mk hOO
                clear hfl hol hO
                cases hts : (t.f0 == st) with
                | true =>
                  obtain ⟨Ao, co, rfl⟩ := Kd.R_slice hOO
                  clear hOO
                  go_wp2_with (at_builtin; go_must (refine Kd.R_append k47 (w0 := wo) wo.heap.size rfl (.tmp 65) (.tmp 70) 44 47 (.agg #[.int .i64 0, .int .i64 0, .int .i64 0]) 24 rfl Tryd.underlying44 info47 rfl (by decide) (by omega) (.slice Ao O.length co) O t [.int .i64 t.f0, .int .i64 t.f1, .int .i64 t.f2] (fun _ => True) (fun _ => False) rfl rfl (k47_mkM _ _ _ t) (fun _ hk => hk.elim) (fun _ _ => trivial) HOO.out hB2.out hB2.out.size (by have := HOL.out; omega) ?_; rintro v5 w5 hR5 hB5 hg5 hat5; have HR5 := Aside0.mk hR5; have HB5 := Aside0.mk hB5; clear hR5 hB5 hg5 hat5))
                  exact ⟨⟨q + 1, by omega, by go_num, ⟨by rw [HFL.out, if_pos hts]; exact HR5.out⟩, HB5⟩, by simp [intOf]; omega⟩
                | false =>
                  clear hOO
                  go_wp2
                  exact ⟨⟨q + 1, by omega, by go_num, ⟨by rw [HFL.out, if_neg (by rw [hts]; simp)]; exact HOO.out⟩, hB2⟩, by simp [intOf]; omega⟩
              · have hd : ¬ (q : Int) < taken.length := by omega
                have hO2 := hO.out
                rw [List.take_of_length_le (by omega)] at hO2
                have how := fun n => owns_own taken st n
                generalize (taken.filter fun t => t.f0 == st) = O at hO2 how
                obtain ⟨Ao, co, rfl, hoc, hCo⟩ := Kd.R_reads hO2
                have HCO := Aside0.mk hCo
                have HL10 := Aside0.mk (Nat.le_trans (few_len HF.out) (by omega) : l.length ≤ 12)
                have G1 := Aside0.mk (bof_calls A c l B d taken st term wr (Kd.C_below HR.out HBw2.out) (Kd.C_below HT.out HBw2.out) HL10.out)
                have E1 := Aside0.mk (bOf_congr l Y taken st term HOW.out)
                have E2 := Aside0.mk (bOf_congr l O taken st term how)
                clear hO hO2 how hCo
                go_wp2_with fail
                refine G1.out.mono ?_
                rintro e w6 ⟨v6, rfl, hR6, hb6⟩
                obtain ⟨A6, c6, rfl, -, hC6⟩ := Kd.R_reads hR6
                have HC6 := Aside0.mk hC6
                have HB6 := Aside0.mk hb6; have HBw6 := Aside0.mk (below_tr HBw2.out hb6)
                have HCY6 := Aside0.mk (Kd.C_below HCY.out (below_tr hB2.out hb6)); have HCO6 := Aside0.mk (Kd.C_below HCO.out hb6)
                clear hR6 hC6 hb6 G1
                have G2 := bof_calls A c l Ay cy Y st term w6 (Kd.C_below HR.out HBw6.out) HCY6.out HL10.out
                rw [E1.out] at G2
                have G2 := Aside0.mk G2
                go_wp2_with fail
                refine G2.out.mono ?_
                rintro e w7 ⟨v7, rfl, hR7, hb7⟩
                obtain ⟨A7, c7, rfl, -, hC7⟩ := Kd.R_reads hR7
                have HC7 := Aside0.mk hC7; have HC67 := Aside0.mk (Kd.C_below HC6.out hb7)
                have HBw7 := Aside0.mk (below_tr HBw6.out hb7); have HCO7 := Aside0.mk (Kd.C_below HCO6.out hb7)
                clear hR7 hC7 hb7 G2
                go_wp2_with fail
                refine (same_any A7 c7 A6 c6 _ _ w7 HC7.out HC67.out).mono ?_
                rintro e w8 ⟨rfl, ⟨hb8⟩⟩
                have HC68 := Aside0.mk (Kd.C_below HC67.out hb8)
                have HBw8 := Aside0.mk (below_tr HBw7.out hb8); have HCO8 := Aside0.mk (Kd.C_below HCO7.out hb8)
                clear hb8
                have G3 := bof_calls A c l Ao co O st term w8 (Kd.C_below HR.out HBw8.out) HCO8.out HL10.out
                rw [E2.out] at G3
                have G3 := Aside0.mk G3
                go_wp2_with fail
                refine G3.out.mono ?_
                rintro e w9 ⟨v9, rfl, hR9, hb9⟩
                obtain ⟨A9, c9, rfl, -, hC9⟩ := Kd.R_reads hR9
                have HC9 := Aside0.mk hC9; have HC69 := Aside0.mk (Kd.C_below HC68.out hb9)
                have HBw9 := Aside0.mk (below_tr HBw8.out hb9)
                clear hR9 hC9 hb9 G3
                go_wp2_with fail
                refine (same_any A9 c9 A6 c6 _ _ w9 HC9.out HC69.out).mono ?_
                rintro e w10 ⟨rfl, ⟨hb10⟩⟩
                have HB10 := Aside0.mk (below_tr HBw9.out hb10)
                clear hb10
                go_wp2
                go_ret
                exact ⟨rfl, HB10.out⟩
end Go.Proofs.YtbpgoddohhiohaaDoor
