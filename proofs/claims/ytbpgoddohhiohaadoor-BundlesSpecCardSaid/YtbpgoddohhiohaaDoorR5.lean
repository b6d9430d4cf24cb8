/- sizarref23: Check and CheckAll: what they compute. -/
import Derived.Test.YtbpgoddohhiohaaDoorR4
import Derived.Test.YtbpgoddohhiohaaDoorR3
import Derived.Test.YtbpgoddohhiohaaDoorPK
import Derived.StillTailTactics
namespace Go.Proofs.YtbpgoddohhiohaaDoor
open Go.RowKit Go.Proofs.YtbpgoddohhiohaaDoorW.PrintWords
set_option linter.unusedVariables false
set_option linter.unusedSimpArgs false
set_option maxHeartbeats 2000000 in
theorem rcheck23_calls (s : S34) (cs : List Value) (w : World) (hK : k34.K w s cs) :
    Calls Tryd.prog 56 #[.agg cs.toArray] w fun e w' => e = .returned (.int .i64 (sCheck s)) ∧ Below w.heap.size w w' := by
  have HF := Aside0.mk (fun W h => rformed_calls s cs W h)
  have HK := Aside0.mk hK
  obtain ⟨A5, c5, A6, c6, A7, c7, rfl, l5, g5, _⟩ := k34_open hK
  have HM := Aside0.mk (fun W h => rcheck22_calls A5 c5 s.f5 W h)
  have G5 := Aside0.mk g5
  have HB0 := Aside0.mk ((Below.refl w.heap.size w).alloc (Nat.le_refl _) (.cells #[.int .i64 s.f0, .int .i64 s.f1, .int .i64 s.f2, .int .i64 s.f3, .int .i64 s.f4, .slice A5 s.f5.length c5, .slice A6 s.f6.length c6, .slice A7 s.f7.length c7, .bool s.f8] 34))
  have HN0 := Aside0.mk (new_blk w (.cells #[.int .i64 s.f0, .int .i64 s.f1, .int .i64 s.f2, .int .i64 s.f3, .int .i64 s.f4, .slice A5 s.f5.length c5, .slice A6 s.f6.length c6, .slice A7 s.f7.length c7, .bool s.f8] 34))
  have HC := Aside0.mk (HF.out _ (k34.K_below HB0.out hK))
  clear hK g5 l5 HF
  cases hf : sForm s with
  | false =>
    have HS := Aside0.mk (show sCheck s = 230 by unfold sCheck; rw [hf, if_pos rfl])
    rw [hf] at HC
    go_enter Tryd.func56, Tryd.ntmps56
    go_wp2_with fail
    refine HC.out.mono ?_
    rintro e w1 ⟨rfl, hb1⟩
    have HB1 := Aside0.mk (below_tr HB0.out hb1); clear hb1
    go_wp2
    go_ret
    exact ⟨by rw [HS.out]; rfl, HB1.out⟩
  | true =>
    have HS := Aside0.mk (show sCheck s = mCheck s.f5 by unfold sCheck; rw [hf, if_neg (by simp)])
    rw [hf] at HC
    go_enter Tryd.func56, Tryd.ntmps56
    go_wp2_with fail
    refine HC.out.mono ?_
    rintro e w1 ⟨rfl, hb1⟩
    have HB1 := Aside0.mk (below_tr HB0.out hb1)
    have hn := blk_low hb1 HN0.out
    have z5 := (blk_cell hn 5).trans rfl
    clear hb1 hn HC
    go_wp2_with fail
    refine (HM.out _ (Kd.C_below G5.out HB1.out)).mono ?_
    rintro e w2 ⟨rfl, hb2⟩
    have HB2 := Aside0.mk (below_tr HB1.out hb2); clear hb2
    go_wp2
    go_ret
    exact ⟨by rw [HS.out]; rfl, HB2.out⟩
theorem rdS' (l : List S34) (i : Nat) (hi : i < l.length) : rd_T34 l (i : Int) = l[i] := by simp [rd_T34, List.getElem?_eq_getElem hi]
/-! Plain: what the loops of CheckAll find. -/
def labBad (l : List S34) (s : S34) (n : Int) : Bool := !(sFind l n).2 || (!(sFind l n).1.f8 || ((sFind l n).1.f1 != s.f1 || (sFind l n).1.f2 != s.f2))
theorem sAll_two {l : List S34} (he : sErr l = 0) : sAll l = if sOrd (labF l) l (-1) = true then 0 else 230 := by
  unfold sAll; rw [if_neg (by simp [he])]
theorem sOrd_labs {lab : Int → Option S34} : ∀ {l : List S34} {last : Int}, sOrd lab l last = true → ∀ s ∈ l, s.f7.any (mis lab s) = false
  | [], _, _ => by simp
  | s :: r, last, h => by
    rw [sOrd_cons] at h
    simp only [Bool.and_eq_true, Bool.not_eq_true', Bool.or_eq_false_iff] at h
    intro x hx
    rcases List.mem_cons.1 hx with rfl | hx
    · exact h.1.2
    · exact sOrd_labs h.2 x hx
theorem sOrd_of {lab : Int → Option S34} : ∀ {l : List S34} {last : Int}, (∀ s ∈ l, last < s.f0) → l.Pairwise (fun a b => a.f0 < b.f0) → (∀ s ∈ l, s.f7.any (mis lab s) = false) → sOrd lab l last = true
  | [], _, _, _, _ => rfl
  | s :: r, last, h1, h2, h3 => by
    rw [sOrd_cons, h3 s (by simp)]
    have h0 := h1 s (by simp)
    rw [decide_eq_false (by omega), sOrd_of (List.pairwise_cons.1 h2).1 (List.pairwise_cons.1 h2).2 (fun x hx => h3 x (by simp [hx]))]
    rfl
theorem labF_some {l : List S34} {n : Int} : ∀ {x : S34}, labF l n = some x → x ∈ l ∧ x.f8 = true ∧ x.f0 = n := by
  suffices h : ∀ (l : List S34) (a : Option S34) (x : S34), l.foldl (fun a s => if s.f8 && s.f0 == n then some s else a) a = some x → (a = some x) ∨ (x ∈ l ∧ x.f8 = true ∧ x.f0 = n) by
    intro x hx
    rcases h l none x hx with h1 | h1
    · cases h1
    · exact h1
  intro l
  induction l with
  | nil => intro a x h; exact .inl h
  | cons s r ih =>
    intro a x h
    rcases ih _ x h with h1 | ⟨h1, h2⟩
    · dsimp only at h1
      split at h1
      · rename_i hc
        injection h1 with h1
        subst h1
        simp only [Bool.and_eq_true, beq_iff_eq] at hc
        exact .inr ⟨by simp, hc⟩
      · exact .inl h1
    · exact .inr ⟨by simp [h1], h2⟩
theorem labF_of {l : List S34} (hup : l.Pairwise (fun a b => a.f0 < b.f0)) {x : S34} (hx : x ∈ l) (h8 : x.f8 = true) : labF l x.f0 = some x := by
  cases hl : labF l x.f0 with
  | some y =>
    obtain ⟨h1, h2, h3⟩ := labF_some hl
    obtain ⟨i, hi, rfl⟩ := List.mem_iff_getElem.1 hx
    obtain ⟨j, hj, rfl⟩ := List.mem_iff_getElem.1 h1
    have := up_uniq hup hi hj h3.symm
    subst this; rfl
  | none =>
    exfalso
    have key : ∀ (l : List S34) (a : Option S34), (x ∈ l ∨ a ≠ none) → l.foldl (fun a s => if s.f8 && s.f0 == x.f0 then some s else a) a ≠ none := by
      intro l
      induction l with
      | nil => intro a h; rcases h with h | h; · cases h
               · exact h
      | cons s r ih =>
        intro a h
        refine ih _ ?_
        rcases h with h | h
        · rcases List.mem_cons.1 h with rfl | h
          · right; show (if (x.f8 && x.f0 == x.f0) = true then some x else a) ≠ none; rw [if_pos (by simp [h8])]; simp
          · exact .inl h
        · right; show (if (s.f8 && s.f0 == x.f0) = true then some s else a) ≠ none; split
          · simp
          · exact h
    exact key l none (.inl hx) hl
theorem ref_bad_ord {l : List S34} (he : sErr l = 0) (i : Nat) (hi : i + 1 < l.length) (h : (rd_T34 l (i + 1 : Nat)).f0 ≤ (rd_T34 l i).f0) : sAll l = 230 := by
  rw [sAll_two he, if_neg]
  intro ho
  have := List.pairwise_iff_getElem.1 (sOrd_up ho).2 i (i + 1) (by omega) hi (by omega)
  rw [rdS' l i (by omega), rdS' l (i + 1) hi] at h
  omega
theorem ref_bad_lab {l : List S34} (he : sErr l = 0) (i : Nat) (hi : i < l.length) (n : Int) (hn : n ∈ (rd_T34 l i).f7) (h : labBad l (rd_T34 l i) n = true) : sAll l = 230 := by
  rw [sAll_two he, if_neg]
  intro ho
  rw [rdS' l i hi] at h hn
  have h1 := sOrd_labs ho l[i] (List.getElem_mem hi)
  rw [List.any_eq_false] at h1
  have h2 := h1 n hn
  unfold mis at h2
  cases hl : labF l n with
  | none => rw [hl] at h2; exact absurd rfl h2
  | some x =>
    rw [hl] at h2
    obtain ⟨hx, h8, h0⟩ := labF_some hl
    have hf := sFind_of (sOrd_up ho).2 hx
    rw [h0] at hf
    unfold labBad at h
    rw [hf] at h
    simp only [h8, Bool.not_true, Bool.false_or, Bool.or_eq_true, bne_iff_ne] at h
    simp only [Bool.not_eq_true, Bool.not_eq_false', Bool.and_eq_true, beq_iff_eq] at h2
    rcases h with h | h
    · exact h h2.1
    · exact h h2.2
theorem ref_good {l : List S34} (he : sErr l = 0) (ho : ∀ i, i + 1 < l.length → (rd_T34 l i).f0 < (rd_T34 l (i + 1 : Nat)).f0) (hl : ∀ i, i < l.length → ∀ n ∈ (rd_T34 l i).f7, labBad l (rd_T34 l i) n = false) : sAll l = 0 := by
  have hup : l.Pairwise (fun a b => a.f0 < b.f0) := by
    rw [List.pairwise_iff_getElem]
    intro i j hi hj hij
    induction j with
    | zero => omega
    | succ j ih =>
      have h1 := ho j hj
      rw [rdS' l j (by omega), rdS' l (j + 1) hj] at h1
      rcases Nat.lt_or_ge i j with h2 | h2
      · have := ih (by omega) h2; omega
      · obtain rfl : i = j := by omega
        exact h1
  rw [sAll_two he, if_pos]
  have hform : ∀ s ∈ l, sForm s = true := fun s hs => by
    have h2 := sErr_all he s hs
    unfold sCheck at h2
    cases hf : sForm s with
    | true => rfl
    | false => rw [hf, if_pos rfl] at h2; cases h2
  refine sOrd_of (fun s hs => by have := sForm_id (hform s hs); omega) hup fun s hs => ?_
  rw [List.any_eq_false]
  intro n hn
  obtain ⟨i, hi, rfl⟩ := List.mem_iff_getElem.1 hs
  have hb := hl i hi n (by rw [rdS' l i hi]; exact hn)
  rw [rdS' l i hi] at hb
  unfold labBad at hb
  simp only [Bool.or_eq_false_iff, Bool.not_eq_false', bne_eq_false_iff_eq] at hb
  obtain ⟨h1, h2, h3, h4⟩ := hb
  obtain ⟨hm, h0⟩ := sFind_mem h1
  have hlf := labF_of hup hm h2
  rw [h0] at hlf
  unfold mis
  rw [hlf]
  simp [h3, h4]

set_option maxRecDepth 100000 in
set_option maxHeartbeats 16000000 in
theorem rall_calls (A : Option Addr) (c : Nat) (l : List S34) (w : World) (hr : k34.C w A l.length l) :
    Calls Tryd.prog 34 #[.slice A l.length c] w fun e w' => e = .returned (.int .i64 (sAll l)) ∧ Below w.heap.size w w' := by
  have hmax := Kd.C_max hr
  have HR := Aside0.mk hr; clear hr
  go_enter Tryd.func34, Tryd.ntmps34
  go_wp2
  go_loopw [3] (fun i wr => ∃ k : Nat, k ≤ l.length ∧ i = .int .i64 k ∧ Aside0 (sErr (l.drop k) = sErr l) ∧ Aside0 (Below w.heap.size w wr)) (fun i _ => l.length - (intOf i).toNat)
  case atStart => exact ⟨0, Nat.zero_le _, rfl, ⟨rfl⟩, ⟨Below.refl _ _⟩⟩
  case round =>
    obtain ⟨k, hk, rfl, HE, HB⟩ := hrel
    by_cases hlt : k < l.length
    · have hd : (k : Int) < l.length := by omega
      have hp0 : (0 : Int) ≤ k := by omega
      obtain ⟨ad, A5, c5, A6, c6, A7, c7, rfl, hx0, hx1, hx2, hx3, hx4, hx5, hx6, hx7, hx8, l5, g5, l6, g6, l7, g7⟩ := at_T34 HR.out k (by omega) (by omega)
      simp only [Int.toNat_natCast] at hx0 hx1 hx2 hx3 hx4 hx5 hx6 hx7 hx8
      replace hx0 := cell_low HB.out hx0; replace hx1 := cell_low HB.out hx1; replace hx2 := cell_low HB.out hx2; replace hx3 := cell_low HB.out hx3; replace hx4 := cell_low HB.out hx4
      replace hx5 := cell_low HB.out hx5; replace hx6 := cell_low HB.out hx6; replace hx7 := cell_low HB.out hx7; replace hx8 := cell_low HB.out hx8
      have he := HE.out
      rw [drop_rd l z34 k hlt, sErr_cons, show l.getD k z34 = rd_T34 l k from by simp [rd_T34]] at he
      generalize rd_T34 l k = s at *
      have hK := k34.K_below HB.out (k34_mk w s l5 g5 l6 g6 l7 g7)
      have HC := Aside0.mk (rcheck23_calls s _ wr hK)
      clear hK l5 g5 l6 g6 l7 g7
      by_cases h0 : sCheck s = 0
      · rw [if_neg (by simp [h0])] at he
        have HE2 := Aside0.mk he
        rw [h0] at HC
        clear he h0 HE
        go_wp2_with fail
        refine HC.out.mono ?_
        rintro e w1 ⟨rfl, hb1⟩
        have HB1 := Aside0.mk (below_tr HB.out hb1)
        clear hb1 hx0 hx1 hx2 hx3 hx4 hx5 hx6 hx7 hx8 HC
        go_wp2
        exact ⟨⟨k + 1, by omega, by go_num, HE2, HB1⟩, by simp [intOf]; omega⟩
      · rw [if_pos h0] at he
        have HS := Aside0.mk (show sAll l = sCheck s by unfold sAll; rw [if_pos (by rw [← he]; exact h0), ← he])
        obtain ⟨q, hq⟩ : ∃ q, sCheck s = q := ⟨_, rfl⟩
        rw [hq] at HC HS h0
        have h1 : (q != 0) = true := by simp [h0]
        have h2 : (q == 0) = false := by simp [h0]
        clear he h0 hq HE
        go_wp2_with fail
        refine HC.out.mono ?_
        rintro e w1 ⟨rfl, hb1⟩
        have HB1 := Aside0.mk (below_tr HB.out hb1)
        clear hb1 hx0 hx1 hx2 hx3 hx4 hx5 hx6 hx7 hx8 HC
        go_wp2
        go_ret
        exact ⟨by rw [HS.out]; rfl, HB1.out⟩
    · have hd : ¬ (k : Int) < l.length := by omega
      have HE0 := Aside0.mk (show sErr l = 0 by rw [← HE.out, List.drop_eq_nil_iff.2 (by omega)]; rfl)
      clear HE
      go_wp2
      obtain ⟨wo, rfl⟩ : ∃ wo : World, wo = wr := ⟨_, rfl⟩
      go_loopw [5] (fun i wr => ∃ k : Nat, k ≤ l.length ∧ i = .int .i64 k ∧ Aside0 (∀ i, i + 1 < l.length → i + 1 ≤ k - 1 → (rd_T34 l i).f0 < (rd_T34 l (i + 1 : Nat)).f0) ∧ Aside0 (∀ i, i < k → ∀ n ∈ (rd_T34 l i).f7, labBad l (rd_T34 l i) n = false) ∧ Aside0 (Below wo.heap.size wo wr)) (fun i _ => l.length - (intOf i).toNat)
      case atStart => exact ⟨0, Nat.zero_le _, rfl, ⟨fun i _ hi => absurd hi (by omega)⟩, ⟨fun i hi => absurd hi (Nat.not_lt_zero _)⟩, ⟨Below.refl _ _⟩⟩
      case round =>
        clear hd hk
        obtain ⟨k, hk, rfl, HO, HLB, HB2⟩ := hrel
        have HBw := Aside0.mk (below_tr HB.out HB2.out)
        by_cases hlt : k < l.length
        · have hd : (k : Int) < l.length := by omega
          have hp0 : (0 : Int) ≤ k := by omega
          obtain ⟨ad, B5, e5, B6, e6, B7, e7, rfl, hk0, -⟩ := at_T34 HR.out k (by omega) (by omega)
          simp only [Int.toNat_natCast] at hk0
          replace hk0 := cell_low HBw.out hk0
          rcases Nat.eq_zero_or_pos k with h0 | h0
          · have q1 : decide ((k : Int) > 0) = false := decide_eq_false (by omega)
            have q2 : decide (0 < k) = false := decide_eq_false (by omega)
            have HO2 := Aside0.mk (show ∀ i, i + 1 < l.length → i + 1 ≤ k + 1 - 1 → (rd_T34 l i).f0 < (rd_T34 l (i + 1 : Nat)).f0 from fun i _ hi => absurd hi (by omega))
            clear h0 HO
            go_wp2_with fail
            go_quiet (fail)
            clear q1 q2 hk0
            generalize hwv : wr.drewN _ = wv
            have HV1 := Aside0.mk (show Below wo.heap.size wo wv by rw [← hwv]; exact pw_below_drewN HB2.out _)
            obtain ⟨s, hs⟩ : ∃ s, rd_T34 l k = s := ⟨_, rfl⟩
            have HSQ := Aside0.mk hs
            clear hwv hs
            go_wp2
            go_loopw [6] (fun i wr => ∃ q : Nat, q ≤ s.f7.length ∧ i = .int .i64 q ∧ Aside0 (∀ n ∈ s.f7.take q, labBad l s n = false) ∧ Aside0 (Below wo.heap.size wo wr)) (fun i _ => s.f7.length - (intOf i).toNat)
            case atStart => exact ⟨0, Nat.zero_le _, rfl, ⟨by simp⟩, HV1⟩
            case round =>
              clear HV1
              obtain ⟨q, hq, rfl, HQ, HV⟩ := hrel
              have HVw := Aside0.mk (below_tr HB.out HV.out)
              obtain ⟨ad', A5, c5, A6, c6, A7, c7, had, hx0, hx1, hx2, hx3, hx4, hx5, hx6, hx7, hx8, l5, g5, l6, g6, l7, g7⟩ := at_T34 HR.out k (by omega) (by omega)
              injection had with had
              subst had
              simp only [Int.toNat_natCast] at hx1 hx2 hx7
              rw [HSQ.out] at hx1 hx2 hx7 g7
              have G7 := Aside0.mk (Kd.C_below g7 HVw.out)
              have hm7 := Kd.C_max g7
              have HX1 := Aside0.mk (cell_low HVw.out hx1); have HX2 := Aside0.mk (cell_low HVw.out hx2)
              replace hx7 := cell_low HVw.out hx7
              clear l5 g5 l6 g6 l7 g7 hx0 hx1 hx2 hx3 hx4 hx5 hx6 hx8
              have HBL := Aside0.mk (fun (n : Int) (hn : n ∈ s.f7) (h : labBad l s n = true) => ref_bad_lab HE0.out k (by omega) n (by rw [HSQ.out]; exact hn) (by rw [HSQ.out]; exact h))
              have HGL := Aside0.mk (show (∀ n ∈ s.f7, labBad l s n = false) → ∀ i, i < k + 1 → ∀ n ∈ (rd_T34 l i).f7, labBad l (rd_T34 l i) n = false from fun h i hi => by
                rcases Nat.lt_or_ge i (k) with h1 | h1
                · exact HLB.out i h1
                · obtain rfl : i = k := by omega
                  rw [HSQ.out]; exact h)
              by_cases hql : q < s.f7.length
              · have hd2 : (q : Int) < s.f7.length := by omega
                have hq0 : (0 : Int) ≤ q := by omega
                obtain ⟨a7, rfl, hy⟩ := (Kd.reads_of_C (d := (0 : Int)) G7.out).at_ q (by omega) (by omega)
                simp only [Int.toNat_natCast] at hy
                have hsn := take_snoc' s.f7 0 q hql
                have hmn : s.f7.getD q 0 ∈ s.f7 := by rw [List.getD_eq_getElem?_getD, List.getElem?_eq_getElem hql]; exact List.getElem_mem hql
                rw [show s.f7.getD q 0 = rdOf 0 s.f7 q from by simp [rdOf]] at hsn hmn
                obtain ⟨n, hn⟩ : ∃ n, rdOf 0 s.f7 q = n := ⟨_, rfl⟩
                rw [hn] at hy hsn hmn
                have HBN := Aside0.mk (HBL.out n hmn)
                have HGN := Aside0.mk (show labBad l s n = false → ∀ m ∈ s.f7.take (q + 1), labBad l s m = false from fun h => by rw [hsn]; exact all_snoc HQ.out h)
                have hlb : labBad l s n = (!(sFind l n).2 || (!(sFind l n).1.f8 || ((sFind l n).1.f1 != s.f1 || (sFind l n).1.f2 != s.f2))) := rfl
                have hcall := rfind_calls (some ad) c l n wr (Kd.C_below HR.out HVw.out)
                generalize sFind l n = T at hlb hcall
                obtain ⟨t, tok⟩ := T
                dsimp only at hlb
                have HCL := Aside0.mk hcall; have HLBD := Aside0.mk hlb
                clear hsn hmn hn hcall hlb HBL
                go_wp2_with fail
                refine HCL.out.mono ?_
                rintro e w4 ⟨ct, rfl, hKt, hb4⟩
                obtain ⟨T5, d5, T6, d6, T7, d7, rfl, -⟩ := k34_open hKt
                have hbt := (Below.refl w4.heap.size w4).alloc (Nat.le_refl _) (.cells #[.int .i64 t.f0, .int .i64 t.f1, .int .i64 t.f2, .int .i64 t.f3, .int .i64 t.f4, .slice T5 t.f5.length d5, .slice T6 t.f6.length d6, .slice T7 t.f7.length d7, .bool t.f8] 34)
                have hnt := new_blk w4 (.cells #[.int .i64 t.f0, .int .i64 t.f1, .int .i64 t.f2, .int .i64 t.f3, .int .i64 t.f4, .slice T5 t.f5.length d5, .slice T6 t.f6.length d6, .slice T7 t.f7.length d7, .bool t.f8] 34)
                have hbU := below_tr hb4 hbt
                have t1 := (blk_cell hnt 1).trans rfl; have t2 := (blk_cell hnt 2).trans rfl; have t8 := (blk_cell hnt 8).trans rfl
                have s1 := cell_low hbU HX1.out; have s2 := cell_low hbU HX2.out
                have HVU := Aside0.mk (below_tr HV.out hbU)
                go_wp2_with fail
                obtain ⟨W1, hW1⟩ : ∃ W1, w4.alloc (.cells #[.int .i64 t.f0, .int .i64 t.f1, .int .i64 t.f2, .int .i64 t.f3, .int .i64 t.f4, .slice T5 t.f5.length d5, .slice T6 t.f6.length d6, .slice T7 t.f7.length d7, .bool t.f8] 34) = W1 := ⟨_, rfl⟩
                rw [hW1] at t1 t2 t8 s1 s2 HVU ⊢
                clear hW1 hb4 hKt hbt hnt hbU hy hx7 HCL
                cases tok with
                | false =>
                  have HS := Aside0.mk (HBN.out (by rw [HLBD.out]; rfl))
                  go_wp2_with fail
                  go_quiet (fail)
                  go_wp2
                  go_ret
                  exact ⟨by rw [HS.out]; rfl, pw_below_drewN (below_tr HB.out HVU.out) _⟩
                | true =>
                  cases h8 : t.f8 with
                  | false =>
                    rw [h8] at t8
                    have HS := Aside0.mk (HBN.out (by rw [HLBD.out, h8]; rfl))
                    go_wp2_with fail
                    go_quiet (fail)
                    go_wp2
                    go_ret
                    exact ⟨by rw [HS.out]; rfl, pw_below_drewN (below_tr HB.out HVU.out) _⟩
                  | true =>
                    rw [h8] at t8
                    cases h1 : (t.f1 == s.f1) with
                    | false =>
                      have h1' : (t.f1 != s.f1) = true := by simp [bne, h1]
                      have HS := Aside0.mk (HBN.out (by rw [HLBD.out, h8, h1']; rfl))
                      go_wp2_with fail
                      go_quiet (fail)
                      go_wp2
                      go_ret
                      exact ⟨by rw [HS.out]; rfl, pw_below_drewN (below_tr HB.out HVU.out) _⟩
                    | true =>
                      have h1' : (t.f1 != s.f1) = false := by simp [bne, h1]
                      cases h2 : (t.f2 == s.f2) with
                      | false =>
                        have h2' : (t.f2 != s.f2) = true := by simp [bne, h2]
                        have HS := Aside0.mk (HBN.out (by rw [HLBD.out, h8, h1', h2']; rfl))
                        go_wp2_with fail
                        go_quiet (fail)
                        go_wp2
                        go_ret
                        exact ⟨by rw [HS.out]; rfl, pw_below_drewN (below_tr HB.out HVU.out) _⟩
                      | true =>
                        have h2' : (t.f2 != s.f2) = false := by simp [bne, h2]
                        have HN2 := Aside0.mk (HGN.out (by rw [HLBD.out, h8, h1', h2']; rfl))
                        go_wp2_with fail
                        go_quiet (fail)
                        go_wp2
                        exact ⟨⟨q + 1, by omega, by go_num, HN2, ⟨pw_below_drewN HVU.out _⟩⟩, by simp [intOf]; omega⟩
              · have hd2 : ¬ (q : Int) < s.f7.length := by omega
                have hqq := HQ.out
                rw [List.take_of_length_le (by omega)] at hqq
                have HN2 := Aside0.mk (HGL.out hqq)
                clear hqq
                go_wp2
                exact ⟨⟨k + 1, by omega, by go_num, HO2, HN2, HV⟩, by simp [intOf]; omega⟩
          · obtain ⟨kp, hkp⟩ : ∃ kp, k = kp + 1 := ⟨k - 1, by omega⟩
            obtain ⟨ad', B5', e5', B6', e6', B7', e7', had, hk1, -⟩ := at_T34 HR.out kp (by omega) (by omega)
            injection had with had
            subst had
            simp only [Int.toNat_natCast] at hk1
            replace hk1 := cell_low HBw.out hk1
            have q1 : decide ((k : Int) > 0) = true := decide_eq_true (by omega)
            have q2 : decide (0 < k) = true := decide_eq_true (by omega)
            have q5 : IntKind.i64.wrap ((k : Int) - 1) = (kp : Int) := by rw [IntWalk.i64_in _ (by omega)]; omega
            have q7 : (0 : Int) ≤ (kp : Int) := by omega
            have q8 : (kp : Int) < l.length := by omega
            have hord : (rd_T34 l k).f0 ≤ (rd_T34 l kp).f0 → sAll l = 230 := fun h => ref_bad_ord HE0.out kp (by omega) (by rw [← hkp]; exact h)
            have hnxt : (rd_T34 l kp).f0 < (rd_T34 l k).f0 → ∀ i, i + 1 < l.length → i + 1 ≤ k + 1 - 1 → (rd_T34 l i).f0 < (rd_T34 l (i + 1 : Nat)).f0 := fun h i hi1 hi => by
              rcases Nat.lt_or_ge i kp with h1 | h1
              · exact HO.out i hi1 (by omega)
              · obtain rfl : i = kp := by omega
                rw [← hkp]; exact h
            have HORD := Aside0.mk hord; have HNXT := Aside0.mk hnxt
            clear hkp h0 HO hord hnxt
            generalize (rd_T34 l kp).f0 = x0 at hk1 HORD HNXT
            generalize (rd_T34 l k).f0 = x1 at hk0 HORD HNXT
            by_cases hle : x1 ≤ x0
            · have HS := Aside0.mk (HORD.out hle)
              have q3 : decide (x0 ≥ x1) = true := decide_eq_true hle
              clear hle
              go_wp2_with fail
              go_quiet (fail)
              go_wp2
              go_ret
              exact ⟨by rw [HS.out]; rfl, pw_below_drewN HBw.out _⟩
            · have q3 : decide (x0 ≥ x1) = false := decide_eq_false hle
              have HO2 := Aside0.mk (HNXT.out (by omega))
              clear hle
              go_wp2_with fail
              go_quiet (fail)
              clear q1 q2 q3 q5 q7 q8 hk0 hk1
              generalize hwv : wr.drewN _ = wv
              have HV1 := Aside0.mk (show Below wo.heap.size wo wv by rw [← hwv]; exact pw_below_drewN HB2.out _)
              obtain ⟨s, hs⟩ : ∃ s, rd_T34 l k = s := ⟨_, rfl⟩
              have HSQ := Aside0.mk hs
              clear hwv hs
              go_wp2
              go_loopw [6] (fun i wr => ∃ q : Nat, q ≤ s.f7.length ∧ i = .int .i64 q ∧ Aside0 (∀ n ∈ s.f7.take q, labBad l s n = false) ∧ Aside0 (Below wo.heap.size wo wr)) (fun i _ => s.f7.length - (intOf i).toNat)
              case atStart => exact ⟨0, Nat.zero_le _, rfl, ⟨by simp⟩, HV1⟩
              case round =>
                clear HV1
                obtain ⟨q, hq, rfl, HQ, HV⟩ := hrel
                have HVw := Aside0.mk (below_tr HB.out HV.out)
                obtain ⟨ad', A5, c5, A6, c6, A7, c7, had, hx0, hx1, hx2, hx3, hx4, hx5, hx6, hx7, hx8, l5, g5, l6, g6, l7, g7⟩ := at_T34 HR.out k (by omega) (by omega)
                injection had with had
                subst had
                simp only [Int.toNat_natCast] at hx1 hx2 hx7
                rw [HSQ.out] at hx1 hx2 hx7 g7
                have G7 := Aside0.mk (Kd.C_below g7 HVw.out)
                have hm7 := Kd.C_max g7
                have HX1 := Aside0.mk (cell_low HVw.out hx1); have HX2 := Aside0.mk (cell_low HVw.out hx2)
                replace hx7 := cell_low HVw.out hx7
                clear l5 g5 l6 g6 l7 g7 hx0 hx1 hx2 hx3 hx4 hx5 hx6 hx8
                have HBL := Aside0.mk (fun (n : Int) (hn : n ∈ s.f7) (h : labBad l s n = true) => ref_bad_lab HE0.out k (by omega) n (by rw [HSQ.out]; exact hn) (by rw [HSQ.out]; exact h))
                have HGL := Aside0.mk (show (∀ n ∈ s.f7, labBad l s n = false) → ∀ i, i < k + 1 → ∀ n ∈ (rd_T34 l i).f7, labBad l (rd_T34 l i) n = false from fun h i hi => by
                  rcases Nat.lt_or_ge i (k) with h1 | h1
                  · exact HLB.out i h1
                  · obtain rfl : i = k := by omega
                    rw [HSQ.out]; exact h)
                by_cases hql : q < s.f7.length
                · have hd2 : (q : Int) < s.f7.length := by omega
                  have hq0 : (0 : Int) ≤ q := by omega
                  obtain ⟨a7, rfl, hy⟩ := (Kd.reads_of_C (d := (0 : Int)) G7.out).at_ q (by omega) (by omega)
                  simp only [Int.toNat_natCast] at hy
                  have hsn := take_snoc' s.f7 0 q hql
                  have hmn : s.f7.getD q 0 ∈ s.f7 := by rw [List.getD_eq_getElem?_getD, List.getElem?_eq_getElem hql]; exact List.getElem_mem hql
                  rw [show s.f7.getD q 0 = rdOf 0 s.f7 q from by simp [rdOf]] at hsn hmn
                  obtain ⟨n, hn⟩ : ∃ n, rdOf 0 s.f7 q = n := ⟨_, rfl⟩
                  rw [hn] at hy hsn hmn
                  have HBN := Aside0.mk (HBL.out n hmn)
                  have HGN := Aside0.mk (show labBad l s n = false → ∀ m ∈ s.f7.take (q + 1), labBad l s m = false from fun h => by rw [hsn]; exact all_snoc HQ.out h)
                  have hlb : labBad l s n = (!(sFind l n).2 || (!(sFind l n).1.f8 || ((sFind l n).1.f1 != s.f1 || (sFind l n).1.f2 != s.f2))) := rfl
                  have hcall := rfind_calls (some ad) c l n wr (Kd.C_below HR.out HVw.out)
                  generalize sFind l n = T at hlb hcall
                  obtain ⟨t, tok⟩ := T
                  dsimp only at hlb
                  have HCL := Aside0.mk hcall; have HLBD := Aside0.mk hlb
                  clear hsn hmn hn hcall hlb HBL
                  go_wp2_with fail
                  refine HCL.out.mono ?_
                  rintro e w4 ⟨ct, rfl, hKt, hb4⟩
                  obtain ⟨T5, d5, T6, d6, T7, d7, rfl, -⟩ := k34_open hKt
                  have hbt := (Below.refl w4.heap.size w4).alloc (Nat.le_refl _) (.cells #[.int .i64 t.f0, .int .i64 t.f1, .int .i64 t.f2, .int .i64 t.f3, .int .i64 t.f4, .slice T5 t.f5.length d5, .slice T6 t.f6.length d6, .slice T7 t.f7.length d7, .bool t.f8] 34)
                  have hnt := new_blk w4 (.cells #[.int .i64 t.f0, .int .i64 t.f1, .int .i64 t.f2, .int .i64 t.f3, .int .i64 t.f4, .slice T5 t.f5.length d5, .slice T6 t.f6.length d6, .slice T7 t.f7.length d7, .bool t.f8] 34)
                  have hbU := below_tr hb4 hbt
                  have t1 := (blk_cell hnt 1).trans rfl; have t2 := (blk_cell hnt 2).trans rfl; have t8 := (blk_cell hnt 8).trans rfl
                  have s1 := cell_low hbU HX1.out; have s2 := cell_low hbU HX2.out
                  have HVU := Aside0.mk (below_tr HV.out hbU)
                  go_wp2_with fail
                  obtain ⟨W1, hW1⟩ : ∃ W1, w4.alloc (.cells #[.int .i64 t.f0, .int .i64 t.f1, .int .i64 t.f2, .int .i64 t.f3, .int .i64 t.f4, .slice T5 t.f5.length d5, .slice T6 t.f6.length d6, .slice T7 t.f7.length d7, .bool t.f8] 34) = W1 := ⟨_, rfl⟩
                  rw [hW1] at t1 t2 t8 s1 s2 HVU ⊢
                  clear hW1 hb4 hKt hbt hnt hbU hy hx7 HCL
                  cases tok with
                  | false =>
                    have HS := Aside0.mk (HBN.out (by rw [HLBD.out]; rfl))
                    go_wp2_with fail
                    go_quiet (fail)
                    go_wp2
                    go_ret
                    exact ⟨by rw [HS.out]; rfl, pw_below_drewN (below_tr HB.out HVU.out) _⟩
                  | true =>
                    cases h8 : t.f8 with
                    | false =>
                      rw [h8] at t8
                      have HS := Aside0.mk (HBN.out (by rw [HLBD.out, h8]; rfl))
                      go_wp2_with fail
                      go_quiet (fail)
                      go_wp2
                      go_ret
                      exact ⟨by rw [HS.out]; rfl, pw_below_drewN (below_tr HB.out HVU.out) _⟩
                    | true =>
                      rw [h8] at t8
                      cases h1 : (t.f1 == s.f1) with
                      | false =>
                        have h1' : (t.f1 != s.f1) = true := by simp [bne, h1]
                        have HS := Aside0.mk (HBN.out (by rw [HLBD.out, h8, h1']; rfl))
                        go_wp2_with fail
                        go_quiet (fail)
                        go_wp2
                        go_ret
                        exact ⟨by rw [HS.out]; rfl, pw_below_drewN (below_tr HB.out HVU.out) _⟩
                      | true =>
                        have h1' : (t.f1 != s.f1) = false := by simp [bne, h1]
                        cases h2 : (t.f2 == s.f2) with
                        | false =>
                          have h2' : (t.f2 != s.f2) = true := by simp [bne, h2]
                          have HS := Aside0.mk (HBN.out (by rw [HLBD.out, h8, h1', h2']; rfl))
                          go_wp2_with fail
                          go_quiet (fail)
                          go_wp2
                          go_ret
                          exact ⟨by rw [HS.out]; rfl, pw_below_drewN (below_tr HB.out HVU.out) _⟩
                        | true =>
                          have h2' : (t.f2 != s.f2) = false := by simp [bne, h2]
                          have HN2 := Aside0.mk (HGN.out (by rw [HLBD.out, h8, h1', h2']; rfl))
                          go_wp2_with fail
                          go_quiet (fail)
                          go_wp2
                          exact ⟨⟨q + 1, by omega, by go_num, HN2, ⟨pw_below_drewN HVU.out _⟩⟩, by simp [intOf]; omega⟩
                · have hd2 : ¬ (q : Int) < s.f7.length := by omega
                  have hqq := HQ.out
                  rw [List.take_of_length_le (by omega)] at hqq
                  have HN2 := Aside0.mk (HGL.out hqq)
                  clear hqq
                  go_wp2
                  exact ⟨⟨k + 1, by omega, by go_num, HO2, HN2, HV⟩, by simp [intOf]; omega⟩
        · have hd : ¬ (k : Int) < l.length := by omega
          obtain rfl : k = l.length := by omega
          have HS := Aside0.mk (ref_good HE0.out (fun i hi => HO.out i hi (by omega)) HLB.out)
          go_wp2
          go_ret
          exact ⟨by rw [HS.out]; rfl, HBw.out⟩
end Go.Proofs.YtbpgoddohhiohaaDoor
