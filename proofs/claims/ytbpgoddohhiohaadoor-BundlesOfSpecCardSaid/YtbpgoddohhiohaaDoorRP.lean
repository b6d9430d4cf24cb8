/- sizarref24.Of: what it computes. -/
import Derived.Test.YtbpgoddohhiohaaDoorRO
import Derived.Test.YtbpgoddohhiohaaDoorLA
namespace Go.Proofs.YtbpgoddohhiohaaDoor
open Go.RowKit Go.Proofs.YtbpgoddohhiohaaDoorW.PrintWords
set_option linter.unusedVariables false
set_option linter.unusedSimpArgs false
def insAt (X : List S24) (n : Int) : Nat := (X.takeWhile fun e => decide (e.f0 < n)).length
def insB (X : List S24) (b : S24) : List S24 := X.take (insAt X b.f0) ++ [b] ++ X.drop (insAt X b.f0)
def rUpto (l : List S34) (taken : List S47) (st term : Int) : Nat → List S24
  | 0 => []
  | k + 1 => if oSel l taken st term k = true then insB (rUpto l taken st term k) (oBun taken st (rd_T34 l k)) else rUpto l taken st term k
theorem insAt_le (X : List S24) (n : Int) : insAt X n ≤ X.length := (List.takeWhile_sublist _).length_le
theorem insB_len (X : List S24) (b : S24) : (insB X b).length = X.length + 1 := by
  have := insAt_le X b.f0
  unfold insB
  simp
  omega
theorem insB_perm (X : List S24) (b : S24) : (insB X b).Perm (X ++ [b]) := by
  unfold insB
  have h : X = X.take (insAt X b.f0) ++ X.drop (insAt X b.f0) := (List.take_append_drop _ _).symm
  have h2 : (X ++ [b]).Perm ((X.take (insAt X b.f0) ++ X.drop (insAt X b.f0)) ++ [b]) := by rw [← h]
  refine .trans ?_ h2.symm
  rw [List.append_assoc, List.append_assoc]
  exact List.Perm.append_left _ List.perm_append_comm
theorem rUpto_len (l : List S34) (taken : List S47) (st term : Int) : ∀ k, (rUpto l taken st term k).length ≤ k
  | 0 => by simp [rUpto]
  | k + 1 => by
    have := rUpto_len l taken st term k
    unfold rUpto
    split
    · rw [insB_len]; omega
    · omega
theorem rUpto_perm (l : List S34) (taken : List S47) (st term : Int) : ∀ k, (rUpto l taken st term k).Perm (oUpto l taken st term k)
  | 0 => by simp [rUpto, oUpto]
  | k + 1 => by
    rw [oUpto_succ]
    unfold rUpto
    split
    · exact (insB_perm _ _).trans ((rUpto_perm l taken st term k).append_right _)
    · exact rUpto_perm l taken st term k
theorem insB_up (X : List S24) (b : S24) (hX : X.Pairwise (fun a b => a.f0 < b.f0)) (hn : ∀ e ∈ X, e.f0 ≠ b.f0) : (insB X b).Pairwise (fun a b => a.f0 < b.f0) := by
  have ht : ∀ e ∈ X.take (insAt X b.f0), e.f0 < b.f0 := fun e he => by
    have h1 : X.take (insAt X b.f0) = X.takeWhile fun e => decide (e.f0 < b.f0) := by
      unfold insAt
      have := List.takeWhile_prefix (fun e : S24 => decide (e.f0 < b.f0)) (l := X)
      exact (List.prefix_iff_eq_take.1 this).symm
    rw [h1] at he
    have := List.all_takeWhile (p := fun e : S24 => decide (e.f0 < b.f0)) (l := X)
    have := List.all_eq_true.1 this e he
    simpa using this
  have hd : ∀ e ∈ X.drop (insAt X b.f0), b.f0 < e.f0 := fun e he => by
    by_cases hl : insAt X b.f0 < X.length
    · obtain ⟨j, hj, rfl⟩ := List.mem_iff_getElem.1 he
      have h0 : ¬ (X[insAt X b.f0]).f0 < b.f0 := by
        have := List.takeWhile_eq_take_findIdx_not (p := fun e : S24 => decide (e.f0 < b.f0)) (xs := X)
        have hl2 : insAt X b.f0 = X.findIdx fun e => !decide (e.f0 < b.f0) := by
          unfold insAt
          rw [this, List.length_take]
          exact Nat.min_eq_left List.findIdx_le_length
        have h3 := List.findIdx_getElem (p := fun e : S24 => !decide (e.f0 < b.f0)) (xs := X) (w := by rw [← hl2]; exact hl)
        simp only [← hl2] at h3
        simpa using h3
      have hne := hn _ (List.getElem_mem hl)
      simp only [List.getElem_drop]
      rcases Nat.eq_zero_or_pos j with h1 | h1
      · subst h1; simp only [Nat.add_zero]; omega
      · have := List.pairwise_iff_getElem.1 hX (insAt X b.f0) (insAt X b.f0 + j) hl (by simp at hj; omega) (by omega)
        omega
    · rw [List.drop_eq_nil_iff.2 (by omega)] at he; cases he
  unfold insB
  rw [List.append_assoc, List.pairwise_append]
  refine ⟨hX.sublist (List.take_sublist _ _), ?_, fun a ha c hc => ?_⟩
  · rw [List.singleton_append, List.pairwise_cons]
    exact ⟨hd, hX.sublist (List.drop_sublist _ _)⟩
  · have h1 := ht a ha
    rcases List.mem_append.1 hc with h2 | h2
    · rw [List.mem_singleton.1 h2]; exact h1
    · have := hd c h2; omega
theorem rUpto_up (l : List S34) (taken : List S47) (st term : Int) : ∀ k, k ≤ l.length → (rUpto l taken st term k).Pairwise (fun a b => a.f0 < b.f0)
  | 0, _ => by simp [rUpto]
  | k + 1, hk => by
    have ih := rUpto_up l taken st term k (by omega)
    unfold rUpto
    split
    · rename_i hs
      refine insB_up _ _ ih fun e he heq => ?_
      obtain ⟨i, hi, -, rfl⟩ := oUpto_mem.1 ((rUpto_perm l taken st term k).subset he)
      have heq : (rd_T34 l i).f0 = (rd_T34 l k).f0 := heq
      unfold oSel at hs
      simp only [Bool.and_eq_true, Bool.not_eq_true', List.any_eq_false, beq_iff_eq] at hs
      refine hs.1 (rd_T34 l i) ?_ heq
      rw [rdS l i (by omega)]
      have : l[i] = (l.take k)[i]'(by simp; omega) := by simp
      rw [this]; exact List.getElem_mem _
    · exact ih
theorem bOf_ref (l : List S34) (taken : List S47) (st term : Int) : rUpto l taken st term l.length = bOf l taken st term := by
  unfold bOf
  exact (sortB_eq (rUpto_perm l taken st term l.length).symm (rUpto_up l taken st term l.length (Nat.le_refl _))).symm
theorem oBun_find (taken : List S47) (st : Int) (s : S34) : oBun taken st s = ⟨s.f0, (s.f7.find? (owns taken st)).getD (-1)⟩ := by
  unfold oBun
  congr 1
  cases hf : s.f7.find? (owns taken st) with
  | none =>
    have hany : ¬ s.f7.any (owns taken st) = true := by
      rw [List.find?_eq_none] at hf
      simp only [List.any_eq_true, not_exists, not_and]
      exact hf
    rw [if_neg hany]; rfl
  | some n =>
    have hm := List.mem_of_find?_eq_some hf
    have hp := List.find?_some hf
    have hany : s.f7.any (owns taken st) = true := List.any_eq_true.2 ⟨n, hm, hp⟩
    rw [if_pos hany]
    have hlt := List.findIdx_lt_length_of_exists (p := owns taken st) (xs := s.f7) ⟨n, hm, hp⟩
    rw [List.find?_eq_getElem?_findIdx] at hf
    unfold fIdx
    rw [if_pos hany]
    simp only [rdOf, Int.toNat_natCast, List.getD_eq_getElem?_getD]
    rw [hf]; rfl
theorem kM24 {W : World} {base : Nat} {ok : Nat → Prop} : ∀ (x : S24) (cs : List Value), k24.K W x cs → k24.M W base ok x cs := fun x cs h => by
  rw [k24_open h]; exact k24_mkM _ _ _ _
theorem R_emptyB (W : World) (base : Nat) (hb : base ≤ W.heap.size) : k24.R 24 (W.alloc (.cells #[] 24)) base (fun _ => True) (.slice (some ⟨W.heap.size, 0, none⟩) 0 0) [] :=
  ⟨fun _ _ => trivial, OwnRow.lit (size := 2) W base (Reps.none _ _) hb (by simp)⟩
theorem labOf_step (p : Int → Bool) (L : List Int) (k : Nat) (hk : k < L.length) : ((L.drop k).find? p).getD (-1) = if p (rdOf 0 L k) = true then rdOf 0 L k else ((L.drop (k + 1)).find? p).getD (-1) := by
  rw [drop_rd L 0 k hk, show L.getD k 0 = rdOf 0 L k from by simp [rdOf], List.find?_cons]
  cases p (rdOf 0 L k) <;> rfl
theorem insAt_of (X : List S24) (v : Int) (n : Nat) (hn : n ≤ X.length) (h : ∀ j, j < n → decide ((rd_T24 X j).f0 < v) = true) (hx : ¬ (n < X.length ∧ (rd_T24 X n).f0 < v)) : insAt X v = n := by
  have hrd : ∀ i (hi : i < X.length), rd_T24 X i = X[i] := fun i hi => by simp [rd_T24, List.getElem?_eq_getElem hi]
  unfold insAt
  rw [List.takeWhile_eq_take_findIdx_not, List.length_take]
  have h1 : X.findIdx (fun e => !decide (e.f0 < v)) = n := by
    rcases Nat.lt_or_ge n X.length with hl | hl
    · rw [List.findIdx_eq hl]
      refine ⟨by rw [hrd n hl] at hx; simpa [hl] using hx, fun j hj => ?_⟩
      have := h j hj
      rw [hrd j (by omega)] at this
      simp [this]
    · obtain rfl : n = X.length := by omega
      rw [List.findIdx_eq_length]
      intro e he
      obtain ⟨j, hj, rfl⟩ := List.mem_iff_getElem.1 he
      have := h j hj
      rw [hrd j hj] at this
      simp [this]
  rw [h1]; exact Nat.min_eq_left hn
theorem keepB' {w0 W W' : World} (hb : Aside0 (Below W.heap.size W W')) (h : Aside0 (Below w0.heap.size w0 W)) : Aside0 (Below w0.heap.size w0 W') := ⟨below_tr h.out hb.out⟩

set_option maxRecDepth 100000 in
set_option maxHeartbeats 16000000 in
theorem rof_calls (A : Option Addr) (c : Nat) (l : List S34) (B : Option Addr) (d : Nat) (taken : List S47) (st term : Int) (w : World) (hr : k34.C w A l.length l) (hrt : k47.C w B taken.length taken) (h10 : l.length ≤ 12) :
    Calls Tryd.prog 23 #[.slice A l.length c, .slice B taken.length d, .int .i64 st, .int .i64 term] w fun e w' => ∃ v, e = .returned v ∧ k24.R 24 w' w.heap.size (fun _ => True) v (bOf l taken st term) ∧ Below w.heap.size w w' := by
  have hmax := Kd.C_max hr
  have hmaxt := Kd.C_max hrt
  have HR := Aside0.mk hr; have HT := Aside0.mk hrt
  have H10 := Aside0.mk h10
  have HF := Aside0.mk (fun k hk W hr => first_calls A c l k W hr hk)
  have HK := Aside0.mk (fun n W hr => takes_calls B d taken st n W hr)
  clear hr hrt h10
  go_enter Tryd.func23, Tryd.ntmps23
  go_wp2
  go_loopw [9, 10] (fun xv iv wr => ∃ k : Nat, k ≤ l.length ∧ iv = .int .i64 k ∧ Aside0 (k24.R 24 wr w.heap.size (fun _ => True) xv (rUpto l taken st term k)) ∧ Aside0 (Below w.heap.size w wr)) (fun _ iv _ => l.length - (intOf iv).toNat)
  case atStart => exact ⟨0, Nat.zero_le _, rfl, ⟨Kd.R_nil _ _ _ _ _⟩, ⟨Below.refl _ _⟩⟩
  case round =>
    obtain ⟨k, hk, rfl, HX, HB⟩ := hrel
    by_cases hlt : k < l.length
    · have hd : (k : Int) < l.length := by omega
      have hp0 : (0 : Int) ≤ k := by omega
      obtain ⟨ad, A5, c5, A6, c6, A7, c7, rfl, hx0, hx1, hx2, hx3, hx4, hx5, hx6, hx7, hx8, l5, g5, l6, g6, l7, g7⟩ := at_T34 HR.out k (by omega) (by omega)
      simp only [Int.toNat_natCast] at hx0 hx1 hx2 hx3 hx4 hx5 hx6 hx7 hx8
      replace hx0 := cell_low HB.out hx0; replace hx1 := cell_low HB.out hx1; replace hx2 := cell_low HB.out hx2; replace hx3 := cell_low HB.out hx3; replace hx4 := cell_low HB.out hx4
      replace hx5 := cell_low HB.out hx5; replace hx6 := cell_low HB.out hx6; replace hx7 := cell_low HB.out hx7; replace hx8 := cell_low HB.out hx8
      have G7 := Aside0.mk (Kd.C_below g7 HB.out)
      have hm7 := Kd.C_max g7
      clear g5 g6 g7 l5 l6 l7
      have hF := HF.out k hlt
      have hup : rUpto l taken st term (k + 1) = if oSel l taken st term k = true then insB (rUpto l taken st term k) (oBun taken st (rd_T34 l k)) else rUpto l taken st term k := rfl
      have hsel : oSel l taken st term k = (!((l.take k).any fun s => s.f0 == (rd_T34 l k).f0) && ((rd_T34 l k).f2 == term && (!(rd_T34 l k).f8 && owns taken st (rd_T34 l k).f0))) := rfl
      have hxl := rUpto_len l taken st term k
      generalize ((l.take k).any fun s => s.f0 == (rd_T34 l k).f0) = fb at hF hsel
      generalize oSel l taken st term k = sel at hsel hup
      rw [oBun_find] at hup
      generalize rd_T34 l k = s at *
      obtain ⟨X, hX⟩ : ∃ X, rUpto l taken st term k = X := ⟨_, rfl⟩
      rw [hX] at hup hxl HX
      have HUP := Aside0.mk hup; have HFF := Aside0.mk hF; have HXL := Aside0.mk (Nat.le_trans hxl hk)
      clear hup hF hX hxl
      obtain ⟨b8, hb8⟩ : ∃ b8, s.f8 = b8 := ⟨_, rfl⟩
      rw [hb8] at hx8 hsel
      have HSEL := Aside0.mk hsel; clear hsel
      have hbs := (Below.refl wr.heap.size wr).alloc (Nat.le_refl _) (.cells #[.int .i64 s.f0, .int .i64 s.f1, .int .i64 s.f2, .int .i64 s.f3, .int .i64 s.f4, .slice A5 s.f5.length c5, .slice A6 s.f6.length c6, .slice A7 s.f7.length c7, .bool b8] 34)
      have HNs := Aside0.mk (new_blk wr (.cells #[.int .i64 s.f0, .int .i64 s.f1, .int .i64 s.f2, .int .i64 s.f3, .int .i64 s.f4, .slice A5 s.f5.length c5, .slice A6 s.f6.length c6, .slice A7 s.f7.length c7, .bool b8] 34))
      have HBs := Aside0.mk hbs
      have HC1 := Aside0.mk (HFF.out _ (Kd.C_below HR.out (below_tr HB.out hbs)))
      clear hbs
      go_wp2_with fail
      refine HC1.out.mono ?_
      rintro e w1 ⟨rfl, hb1⟩
      have HB1r := Aside0.mk (below_tr HBs.out hb1)
      have HB1 := Aside0.mk (below_tr HB.out (below_tr HBs.out hb1))
      have hns := blk_low hb1 HNs.out
      have HNs1 := Aside0.mk hns
      clear hb1 hx0 hx1 hx2 hx3 hx4 hx5 hx6 hx7 hx8 HC1 HNs
      have s0 := (blk_cell hns 0).trans rfl; have s2 := (blk_cell hns 2).trans rfl; have s7 := (blk_cell hns 7).trans rfl; have s8 := (blk_cell hns 8).trans rfl
      clear hns
      cases fb with
      | true =>
        have HV := Aside0.mk (show rUpto l taken st term (k + 1) = X by rw [HUP.out, HSEL.out]; rfl)
        go_wp2
        exact ⟨⟨k + 1, by omega, by go_num, ⟨by rw [HV.out]; exact Kd.R_below HX.out HB1r.out⟩, HB1⟩, by simp [intOf]; omega⟩
      | false =>
        cases ht : (s.f2 == term) with
        | false =>
          have ht2 : (s.f2 != term) = true := by simp [bne, ht]
          have HV := Aside0.mk (show rUpto l taken st term (k + 1) = X by rw [HUP.out, HSEL.out, ht]; rfl)
          go_wp2
          exact ⟨⟨k + 1, by omega, by go_num, ⟨by rw [HV.out]; exact Kd.R_below HX.out HB1r.out⟩, HB1⟩, by simp [intOf]; omega⟩
        | true =>
          have ht2 : (s.f2 != term) = false := by simp [bne, ht]
          cases b8 with
          | true =>
            have HV := Aside0.mk (show rUpto l taken st term (k + 1) = X by rw [HUP.out, HSEL.out, ht]; rfl)
            go_wp2
            exact ⟨⟨k + 1, by omega, by go_num, ⟨by rw [HV.out]; exact Kd.R_below HX.out HB1r.out⟩, HB1⟩, by simp [intOf]; omega⟩
          | false =>
            have HC2 := Aside0.mk (HK.out s.f0 w1 (Kd.C_below HT.out HB1.out))
            go_wp2_with fail
            refine HC2.out.mono ?_
            rintro e w2 ⟨rfl, hb2⟩
            have HB2r := Aside0.mk (below_tr HB1r.out hb2)
            have HB2 := Aside0.mk (below_tr HB1.out hb2)
            have hns := blk_low hb2 HNs1.out
            have HNs2 := Aside0.mk hns
            clear hb2 s0 s2 s7 s8 HC2 HNs1 ht2
            have s0 := (blk_cell hns 0).trans rfl; have s7 := (blk_cell hns 7).trans rfl
            clear hns
            cases hown : owns taken st s.f0 with
            | false =>
              have HV := Aside0.mk (show rUpto l taken st term (k + 1) = X by rw [HUP.out, HSEL.out, ht, hown]; rfl)
              go_wp2
              exact ⟨⟨k + 1, by omega, by go_num, ⟨by rw [HV.out]; exact Kd.R_below HX.out HB2r.out⟩, HB2⟩, by simp [intOf]; omega⟩
            | true =>
              have HV := Aside0.mk (show rUpto l taken st term (k + 1) = insB X ⟨s.f0, (s.f7.find? (owns taken st)).getD (-1)⟩ by rw [HUP.out, HSEL.out, ht, hown]; rfl)
              clear HUP HSEL hown ht
              have HBb := Aside0.mk ((Below.refl w2.heap.size w2).alloc (Nat.le_refl _) (.cells #[.int .i64 s.f0, .int .i64 (-1)] 24))
              have HNb := Aside0.mk (new_blk w2 (.cells #[.int .i64 s.f0, .int .i64 (-1)] 24))
              have s7a : ∀ o : Obj, (w2.alloc o).cell? ⟨wr.heap.size, 7, none⟩ = some (.slice A7 s.f7.length c7) := fun o => (blk_cell (blk_alloc HNs2.out o) 7).trans rfl
              go_wp2_with fail
              obtain ⟨wo, rfl⟩ : ∃ wo : World, wo = wr := ⟨_, rfl⟩
              clear s7a s0 s7
              go_loopw [13] (fun mv wr => ∃ m : Nat, m ≤ s.f7.length ∧ mv = .int .i64 ((m : Int) - 1) ∧ Aside0 (wr.heap[w2.heap.size]? = some (.cells #[.int .i64 s.f0, .int .i64 (((s.f7.drop m).find? (owns taken st)).getD (-1))] 24 (0, 0))) ∧ Aside0 (Below w2.heap.size w2 wr)) (fun mv _ => (intOf mv + 1).toNat)
              case atStart => exact ⟨s.f7.length, Nat.le_refl _, rfl, by simpa using HNb, HBb⟩
              case round =>
                clear HNb HBb
                obtain ⟨m, hm, rfl, HNb, HBb⟩ := hrel
                have hns := blk_low HBb.out HNs2.out
                have s7 := (blk_cell hns 7).trans rfl
                have HB3 := Aside0.mk (below_tr HB2.out HBb.out)
                have HNs3 := Aside0.mk hns
                clear hns
                rcases Nat.eq_zero_or_pos m with hm0 | hm0
                · subst hm0
                  have hz : ¬ (0 : Int) ≤ ((0 : Nat) : Int) - 1 := by omega
                  have HNb2 := Aside0.mk (show wr.heap[w2.heap.size]? = some (.cells #[.int .i64 s.f0, .int .i64 ((s.f7.find? (owns taken st)).getD (-1))] 24 (0, 0)) by simpa using HNb.out)
                  obtain ⟨lab, hlab⟩ : ∃ lab, (s.f7.find? (owns taken st)).getD (-1) = lab := ⟨_, rfl⟩
                  rw [hlab] at HNb2 HV
                  have HX3 := Aside0.mk (Kd.R_below HX.out (below_tr HB2r.out HBb.out))
                  clear hlab HNb s7 hm
                  go_wp2
                  obtain ⟨Ax, cx, rfl, hxc, hCX⟩ := Kd.R_reads HX3.out
                  have HCX := Aside0.mk hCX
                  have hmx := Kd.C_max hCX
                  have HXC := Aside0.mk hxc
                  clear hCX
                  obtain ⟨wp, rfl⟩ : ∃ wp : World, wp = wr := ⟨_, rfl⟩
                  go_loopw [14] (fun nv wr => ∃ n : Nat, n ≤ X.length ∧ nv = .int .i64 n ∧ Aside0 (∀ j, j < n → decide ((rd_T24 X j).f0 < s.f0) = true) ∧ Aside0 (Below wp.heap.size wp wr)) (fun nv _ => X.length - (intOf nv).toNat)
                  case atStart => exact ⟨0, Nat.zero_le _, rfl, ⟨fun j hj => absurd hj (Nat.not_lt_zero _)⟩, ⟨Below.refl _ _⟩⟩
                  case round =>
                    obtain ⟨n, hn, rfl, HN, HBn⟩ := hrel
                    have hnb := blk_low HBn.out HNb2.out
                    have b0 := (blk_cell hnb 0).trans rfl; have b1 := (blk_cell hnb 1).trans rfl
                    have HNb3 := Aside0.mk hnb
                    clear hnb
                    by_cases hnl : n < X.length ∧ (rd_T24 X n).f0 < s.f0
                    · obtain ⟨hn1, hn2⟩ := hnl
                      have hdn : (n : Int) < X.length := by omega
                      have hdn' : decide ((n : Int) < X.length) = true := decide_eq_true hdn
                      have hn0 : (0 : Int) ≤ n := by omega
                      obtain ⟨xd, rfl, hy0, -⟩ := at_T24 (Kd.C_below HCX.out HBn.out) n (by omega) (by omega)
                      simp only [Int.toNat_natCast] at hy0
                      have hde : decide ((rd_T24 X n).f0 < s.f0) = true := decide_eq_true hn2
                      have HN2 := Aside0.mk (show ∀ j, j < n + 1 → decide ((rd_T24 X j).f0 < s.f0) = true from fun j hj => by
                        rcases Nat.lt_or_ge j n with h1 | h1
                        · exact HN.out j h1
                        · obtain rfl : j = n := by omega
                          exact hde)
                      go_wp2_with fail
                      go_quiet (fail)
                      go_wp2
                      exact ⟨⟨n + 1, by omega, by go_num, HN2, ⟨pw_below_drewN HBn.out _⟩⟩, by simp [intOf]; omega⟩
                    · have hins : insAt X s.f0 = n := insAt_of X s.f0 n hn HN.out hnl
                      have HINS := Aside0.mk hins
                      have hS : insB X ⟨s.f0, lab⟩ = X.take n ++ [⟨s.f0, lab⟩] ++ X.drop n := by unfold insB; rw [hins]
                      rw [hS] at HV
                      clear hins hS HN
                      rcases Nat.lt_or_ge n X.length with hl | hl
                      · have hdn : (n : Int) < X.length := by omega
                        have hdn' : decide ((n : Int) < X.length) = true := decide_eq_true hdn
                        have hn0 : (0 : Int) ≤ n := by omega
                        obtain ⟨xd, rfl, hy0, -⟩ := at_T24 (Kd.C_below HCX.out HBn.out) n (by omega) (by omega)
                        simp only [Int.toNat_natCast] at hy0
                        have hde : decide ((rd_T24 X n).f0 < s.f0) = false := decide_eq_false (fun h => hnl ⟨hl, h⟩)
                        clear hnl
                        go_wp2_with fail
                        go_quiet (fail)
                        clear hy0 hde hdn' b0 b1
                        go_wp2_with fail
                        generalize hwq : wr.drewN _ = wq
                        have hq1 : Below wp.heap.size wp wq := by rw [← hwq]; exact pw_below_drewN HBn.out _
                        have hq2 : wq.heap[w2.heap.size]? = some (.cells #[.int .i64 s.f0, .int .i64 lab] 24 (0, 0)) := by rw [← hwq]; exact HNb3.out
                        clear hwq
                        have HBq := Aside0.mk (below_tr HB3.out hq1)
                        have hCq := Kd.C_below HCX.out hq1
                        have b0 := (blk_cell hq2 0).trans rfl
                        have b1 := (blk_cell hq2 1).trans rfl
                        obtain ⟨im, him, _, hsz, _⟩ := info_get info24
                        have hcut1 := cut_to (P := Tryd.prog) 28 24 .i64 Tryd.underlying28 him (some xd) X.length cx (n : Int) (by omega) (by omega) HXC.out
                        have hcut2 := cut_from (P := Tryd.prog) 28 24 .i64 Tryd.underlying28 him 2 hsz (some xd) X.length cx (n : Int) (by omega) (by omega)
                        simp only [Int.toNat_natCast] at hcut1 hcut2
                        have hcn := Kd.C_take (m := n) hCq hn
                        have hcd := Kd.C_drop (m := n) (c := cx) hCq hn HXC.out
                        rw [show (X.take n).length = n from by simp; omega] at hcn
                        rw [show (X.drop n).length = X.length - n from by simp, show k24.sz = 2 from rfl] at hcd
                        have HCn := Aside0.mk (fun W (h : Below wq.heap.size wq W) => Kd.C_below hcn h)
                        have HCd := Aside0.mk (fun W (h : Below wq.heap.size wq W) => Kd.C_below hcd h)
                        have HNL := Aside0.mk hn
                        clear hq1 hq2 hCq hcn hcd HNb3 HNb2 hsz him
                        obtain ⟨Ad, hAd⟩ : ∃ Ad, (if cx = n then (some xd) else (some xd).map (·.add (n * 2))) = Ad := ⟨_, rfl⟩
                        rw [hAd] at HCd hcut2
                        clear hAd
                        have HS := Aside0.mk (fun W (h : Below wq.heap.size wq W) => (⟨cell_low h b0, cell_low h b1, ⟨h⟩⟩ : W.cell? ⟨w2.heap.size, 0, none⟩ = some (.int .i64 s.f0) ∧ W.cell? ⟨w2.heap.size, 1, none⟩ = some (.int .i64 lab) ∧ Aside0 (Below wq.heap.size wq W)))
                        refine wp_region_held_drew (S := (fun W => W.cell? ⟨w2.heap.size, 0, none⟩ = some (.int .i64 s.f0) ∧ W.cell? ⟨w2.heap.size, 1, none⟩ = some (.int .i64 lab) ∧ Aside0 (Below wq.heap.size wq W))) (by kernel_rfl) (HS.out _ (below_drew (Below.refl _ _))) (fun hHeld => ?_)
                        obtain ⟨wd, hwd⟩ : ∃ wd, wq.drew = wd := ⟨_, rfl⟩
                        rw [hwd] at hHeld ⊢
                        clear hwd
                        (first | (refine wpAnyH_take (i := 1) rfl (by kernel_rfl) (by kernel_rfl) (by kernel_rfl) (fun _ _ _ h => h) (Or.inr ⟨by rfl, rfl⟩) (by assumption) ?_) | (refine wpAnyH_take (i := 1) (v := ?_) rfl (by kernel_rfl) (by kernel_rfl) (by kernel_rfl) (fun _ _ _ h => h) (Or.inl ⟨by rfl, ?_⟩) (by assumption) ?_; rotate_left 1; (focus (intro w hSw; (try dsimp only at hSw); go_simp; (try with_reducible rfl); done)))) <;> (try simp only [Act.put, List.getElem_toArray, List.getElem_cons_succ, List.getElem_cons_zero, List.setIfInBounds_toArray, List.set_cons_zero, List.set_cons_succ])
                        (first | (refine wpAnyH_take (i := 2) rfl (by kernel_rfl) (by kernel_rfl) (by kernel_rfl) (fun _ _ _ h => h) (Or.inr ⟨by rfl, rfl⟩) (by assumption) ?_) | (refine wpAnyH_take (i := 2) (v := ?_) rfl (by kernel_rfl) (by kernel_rfl) (by kernel_rfl) (fun _ _ _ h => h) (Or.inl ⟨by rfl, ?_⟩) (by assumption) ?_; rotate_left 1; (focus (intro w hSw; (try dsimp only at hSw); go_simp; (try with_reducible rfl); done)))) <;> (try simp only [Act.put, List.getElem_toArray, List.getElem_cons_succ, List.getElem_cons_zero, List.setIfInBounds_toArray, List.set_cons_zero, List.set_cons_succ])
                        (first | (refine wpAnyH_take (i := 3) rfl (by kernel_rfl) (by kernel_rfl) (by kernel_rfl) (fun _ _ _ h => h) (Or.inr ⟨by rfl, rfl⟩) (by assumption) ?_) | (refine wpAnyH_take (i := 3) (v := ?_) rfl (by kernel_rfl) (by kernel_rfl) (by kernel_rfl) (fun _ _ _ h => h) (Or.inl ⟨by rfl, ?_⟩) (by assumption) ?_; rotate_left 1; (focus (intro w hSw; (try dsimp only at hSw); go_simp; (try with_reducible rfl); done)))) <;> (try simp only [Act.put, List.getElem_toArray, List.getElem_cons_succ, List.getElem_cons_zero, List.setIfInBounds_toArray, List.set_cons_zero, List.set_cons_succ])
                        (first | (refine wpAnyH_take (i := 5) rfl (by kernel_rfl) (by kernel_rfl) (by kernel_rfl) (fun _ _ _ h => h) (Or.inr ⟨by rfl, rfl⟩) (by assumption) ?_) | (refine wpAnyH_take (i := 5) (v := ?_) rfl (by kernel_rfl) (by kernel_rfl) (by kernel_rfl) (fun _ _ _ h => h) (Or.inl ⟨by rfl, ?_⟩) (by assumption) ?_; rotate_left 1; (focus (intro w hSw; (try dsimp only at hSw); go_simp; (try with_reducible rfl); done)))) <;> (try simp only [Act.put, List.getElem_toArray, List.getElem_cons_succ, List.getElem_cons_zero, List.setIfInBounds_toArray, List.set_cons_zero, List.set_cons_succ])
                        (first | (refine wpAnyH_take (i := 8) rfl (by kernel_rfl) (by kernel_rfl) (by kernel_rfl) (fun _ _ _ h => h) (Or.inr ⟨by rfl, rfl⟩) (by assumption) ?_) | (refine wpAnyH_take (i := 8) (v := ?_) rfl (by kernel_rfl) (by kernel_rfl) (by kernel_rfl) (fun _ _ _ h => h) (Or.inl ⟨by rfl, ?_⟩) (by assumption) ?_; rotate_left 1; (focus (intro w hSw; (try dsimp only at hSw); go_simp; (try with_reducible rfl); done)))) <;> (try simp only [Act.put, List.getElem_toArray, List.getElem_cons_succ, List.getElem_cons_zero, List.setIfInBounds_toArray, List.set_cons_zero, List.set_cons_succ])
                        (first | (refine wpAnyH_take (i := 9) rfl (by kernel_rfl) (by kernel_rfl) (by kernel_rfl) (fun _ _ _ h => h) (Or.inr ⟨by rfl, rfl⟩) (by assumption) ?_) | (refine wpAnyH_take (i := 9) (v := ?_) rfl (by kernel_rfl) (by kernel_rfl) (by kernel_rfl) (fun _ _ _ h => h) (Or.inl ⟨by rfl, ?_⟩) (by assumption) ?_; rotate_left 1; (focus (intro w hSw; (try dsimp only at hSw); go_simp; (try with_reducible rfl); done)))) <;> (try simp only [Act.put, List.getElem_toArray, List.getElem_cons_succ, List.getElem_cons_zero, List.setIfInBounds_toArray, List.set_cons_zero, List.set_cons_succ])
                        (first | (refine wpAnyH_take (i := 10) rfl (by kernel_rfl) (by kernel_rfl) (by kernel_rfl) (fun _ _ _ h => h) (Or.inr ⟨by rfl, rfl⟩) (by assumption) ?_) | (refine wpAnyH_take (i := 10) (v := ?_) rfl (by kernel_rfl) (by kernel_rfl) (by kernel_rfl) (fun _ _ _ h => h) (Or.inl ⟨by rfl, ?_⟩) (by assumption) ?_; rotate_left 1; (focus (intro w hSw; (try dsimp only at hSw); go_simp; (try with_reducible rfl); done)))) <;> (try simp only [Act.put, List.getElem_toArray, List.getElem_cons_succ, List.getElem_cons_zero, List.setIfInBounds_toArray, List.set_cons_zero, List.set_cons_succ])
                        refine wpAnyH_ready (rs := [0, 6]) (by kernel_rfl) (by simp) ?_
                        refine AllReadyH.cons rfl (fun K hK => ?_) (AllReadyH.cons rfl (fun K hK => ?_) AllReadyH.nil)
                        · go_simp
                          refine hK.out _ _ (HS.out _ (below_tr hHeld.2.2.out ((Below.refl _ _).alloc (Nat.le_refl _) _))) (fun hHeld2 => ?_)
                          clear hK K
                          have HR0 := Aside0.mk (R_emptyB wd wq.heap.size hHeld.2.2.out.size)
                          try simp only [World.size_alloc] at HR0
                          clear hHeld
                          have hHeld := hHeld2
                          clear hHeld2
                          try simp only [Act.put, List.getElem_toArray, List.getElem_cons_succ, List.getElem_cons_zero, List.setIfInBounds_toArray, List.set_cons_zero, List.set_cons_succ]
                          refine wpAnyH_ready (rs := [4, 6]) (by kernel_rfl) (by simp) ?_
                          refine AllReadyH.cons rfl (fun K hK => ?_) (AllReadyH.cons rfl (fun K hK => ?_) AllReadyH.nil)
                          · refine Kd.R_append_rows_step k24 (w0 := wq) wq.heap.size (by rfl) (.tmp 88) (.tmp 91) 28 24 (.agg #[.int .i64 0, .int .i64 0]) 16 rfl Tryd.underlying28 info24 rfl (by decide) (by omega) (.slice (some ⟨wd.heap.size, 0, none⟩) 0 0) [] (X.take n) (some xd) n cx (fun _ => True) (fun _ => False) rfl rfl HR0.out (HCn.out _ hHeld.2.2.out) kM24 (fun _ h => h.elim) (fun _ _ => trivial) hHeld.2.2.out hHeld.2.2.out.size (by have := HXL.out; have := H10.out; have := HNL.out; simp; omega) ?_
                            rintro v4 w4 hR4 hB4 hg4 hat4
                            refine hK.out _ _ (HS.out _ hB4) (fun hHeld2 => ?_)
                            clear hK K
                            have HR4 := Aside0.mk (show k24.R 24 w4 wq.heap.size (fun _ => True) v4 (X.take n) by simpa using hR4)
                            have HG4 := Aside0.mk hg4
                            clear hR4 hB4 hat4 hg4
                            clear hHeld
                            have hHeld := hHeld2
                            clear hHeld2
                            try simp only [Act.put, List.getElem_toArray, List.getElem_cons_succ, List.getElem_cons_zero, List.setIfInBounds_toArray, List.set_cons_zero, List.set_cons_succ]
                            refine wpAnyH_ready (rs := [6]) (by kernel_rfl) (by simp) ?_
                            refine AllReadyH.cons rfl (fun K hK => ?_) AllReadyH.nil
                            have HR4b := Aside0.mk (Kd.R_below HR4.out ((Below.refl _ _).alloc (Nat.le_refl _) (.cells #[.int .i64 s.f0, .int .i64 lab] 24)))
                            go_simp
                            refine hK.out _ _ (HS.out _ (below_tr hHeld.2.2.out ((Below.refl _ _).alloc (Nat.le_refl _) _))) (fun hHeld2 => ?_)
                            clear hK K
                            have H6 := Aside0.mk (new_blk w4 (.cells #[.int .i64 s.f0, .int .i64 lab] 24))
                            try simp only [World.size_alloc] at H6
                            clear hHeld
                            have hHeld := hHeld2
                            clear hHeld2
                            try simp only [Act.put, List.getElem_toArray, List.getElem_cons_succ, List.getElem_cons_zero, List.setIfInBounds_toArray, List.set_cons_zero, List.set_cons_succ]
                            have HR4 := HR4b
                            clear HR4b
                            refine wpAnyH_ready (rs := [7]) (by kernel_rfl) (by simp) ?_
                            refine AllReadyH.cons rfl (fun K hK => ?_) AllReadyH.nil
                            refine Kd.R_append_rows_step k24 (w0 := wq) wq.heap.size (by rfl) (.tmp 92) (.tmp 94) 28 24 (.agg #[.int .i64 0, .int .i64 0]) 16 rfl Tryd.underlying28 info24 rfl (by decide) (by omega) v4 (X.take n) [⟨s.f0, lab⟩] _ 1 1 (fun _ => True) (fun _ => False) rfl rfl HR4.out (bun_C s.f0 lab H6.out) kM24 (fun _ h => h.elim) (fun _ _ => trivial) hHeld.2.2.out hHeld.2.2.out.size (by have := HXL.out; have := H10.out; have := HNL.out; simp; omega) ?_
                            rintro v7 w7 hR7 hB7 hg7 hat7
                            refine hK.out _ _ (HS.out _ hB7) (fun hHeld2 => ?_)
                            clear hK K
                            have HR7 := Aside0.mk (show k24.R 24 w7 wq.heap.size (fun _ => True) v7 (X.take n ++ [⟨s.f0, lab⟩]) by simpa using hR7)
                            have HG7 := Aside0.mk hg7
                            clear hR7 hB7 hat7 hg7
                            clear hHeld
                            have hHeld := hHeld2
                            clear hHeld2
                            try simp only [Act.put, List.getElem_toArray, List.getElem_cons_succ, List.getElem_cons_zero, List.setIfInBounds_toArray, List.set_cons_zero, List.set_cons_succ]
                            refine wpAnyH_ready (rs := [11]) (by kernel_rfl) (by simp) ?_
                            refine AllReadyH.cons rfl (fun K hK => ?_) AllReadyH.nil
                            refine Kd.R_append_rows_step k24 (w0 := wq) wq.heap.size (by rfl) (.tmp 95) (.tmp 98) 28 24 (.agg #[.int .i64 0, .int .i64 0]) 16 rfl Tryd.underlying28 info24 rfl (by decide) (by omega) v7 (X.take n ++ [⟨s.f0, lab⟩]) (X.drop n) _ _ _ (fun _ => True) (fun _ => False) rfl rfl HR7.out (HCd.out _ hHeld.2.2.out) kM24 (fun _ h => h.elim) (fun _ _ => trivial) hHeld.2.2.out hHeld.2.2.out.size (by have := HXL.out; have := H10.out; have := HNL.out; simp; omega) ?_
                            rintro v9 w9 hR9 hB9 hg9 hat9
                            refine hK.out _ _ (HS.out _ hB9) (fun hHeld2 => ?_)
                            clear hK K
                            have HR9 := Aside0.mk (show k24.R 24 w9 wq.heap.size (fun _ => True) v9 (X.take n ++ [⟨s.f0, lab⟩] ++ X.drop n) by simpa using hR9)
                            have HG9 := Aside0.mk hg9
                            clear hR9 hB9 hat9 hg9
                            clear hHeld
                            have hHeld := hHeld2
                            clear hHeld2
                            try simp only [Act.put, List.getElem_toArray, List.getElem_cons_succ, List.getElem_cons_zero, List.setIfInBounds_toArray, List.set_cons_zero, List.set_cons_succ]
                            (first | (refine wpAnyH_take (i := 12) rfl (by kernel_rfl) (by kernel_rfl) (by kernel_rfl) (fun _ _ _ h => h) (Or.inr ⟨by rfl, rfl⟩) (by assumption) ?_) | (refine wpAnyH_take (i := 12) (v := ?_) rfl (by kernel_rfl) (by kernel_rfl) (by kernel_rfl) (fun _ _ _ h => h) (Or.inl ⟨by rfl, ?_⟩) (by assumption) ?_; rotate_left 1; (focus (intro w hSw; (try dsimp only at hSw); go_simp; (try with_reducible rfl); done)))) <;> (try simp only [Act.put, List.getElem_toArray, List.getElem_cons_succ, List.getElem_cons_zero, List.setIfInBounds_toArray, List.set_cons_zero, List.set_cons_succ])
                            refine wpAnyH_done (by kernel_rfl) ?_ _
                            have HB9 := Aside0.mk hHeld.2.2.out
                            go_wp2
                            exact ⟨⟨k + 1, by omega, by go_num, ⟨by rw [HV.out]; exact Kd.R_lower HR9.out HBq.out.size⟩, ⟨below_tr HBq.out HB9.out⟩⟩, by simp [intOf]; omega⟩
                          · have HR0b := Aside0.mk (Kd.R_below HR0.out ((Below.refl _ _).alloc (Nat.le_refl _) (.cells #[.int .i64 s.f0, .int .i64 lab] 24)))
                            go_simp
                            refine hK.out _ _ (HS.out _ (below_tr hHeld.2.2.out ((Below.refl _ _).alloc (Nat.le_refl _) _))) (fun hHeld2 => ?_)
                            clear hK K
                            have H6 := Aside0.mk (new_blk (wd.alloc (.cells #[] 24)) (.cells #[.int .i64 s.f0, .int .i64 lab] 24))
                            try simp only [World.size_alloc] at H6
                            clear hHeld
                            have hHeld := hHeld2
                            clear hHeld2
                            try simp only [Act.put, List.getElem_toArray, List.getElem_cons_succ, List.getElem_cons_zero, List.setIfInBounds_toArray, List.set_cons_zero, List.set_cons_succ]
                            have HR0 := HR0b
                            clear HR0b
                            refine wpAnyH_ready (rs := [4]) (by kernel_rfl) (by simp) ?_
                            refine AllReadyH.cons rfl (fun K hK => ?_) AllReadyH.nil
                            refine Kd.R_append_rows_step k24 (w0 := wq) wq.heap.size (by rfl) (.tmp 88) (.tmp 91) 28 24 (.agg #[.int .i64 0, .int .i64 0]) 16 rfl Tryd.underlying28 info24 rfl (by decide) (by omega) (.slice (some ⟨wd.heap.size, 0, none⟩) 0 0) [] (X.take n) (some xd) n cx (fun _ => True) (fun _ => False) rfl rfl HR0.out (HCn.out _ hHeld.2.2.out) kM24 (fun _ h => h.elim) (fun _ _ => trivial) hHeld.2.2.out hHeld.2.2.out.size (by have := HXL.out; have := H10.out; have := HNL.out; simp; omega) ?_
                            rintro v4 w4 hR4 hB4 hg4 hat4
                            refine hK.out _ _ (HS.out _ hB4) (fun hHeld2 => ?_)
                            clear hK K
                            have HR4 := Aside0.mk (show k24.R 24 w4 wq.heap.size (fun _ => True) v4 (X.take n) by simpa using hR4)
                            have HG4 := Aside0.mk hg4
                            clear hR4 hB4 hat4 hg4
                            clear hHeld
                            have hHeld := hHeld2
                            clear hHeld2
                            try simp only [Act.put, List.getElem_toArray, List.getElem_cons_succ, List.getElem_cons_zero, List.setIfInBounds_toArray, List.set_cons_zero, List.set_cons_succ]
                            have H6b := Aside0.mk (blk_grown H6.out HG4.out (by simp [Value.ownBlock]))
                            have H6 := H6b
                            clear H6b
                            refine wpAnyH_ready (rs := [7]) (by kernel_rfl) (by simp) ?_
                            refine AllReadyH.cons rfl (fun K hK => ?_) AllReadyH.nil
                            refine Kd.R_append_rows_step k24 (w0 := wq) wq.heap.size (by rfl) (.tmp 92) (.tmp 94) 28 24 (.agg #[.int .i64 0, .int .i64 0]) 16 rfl Tryd.underlying28 info24 rfl (by decide) (by omega) v4 (X.take n) [⟨s.f0, lab⟩] _ 1 1 (fun _ => True) (fun _ => False) rfl rfl HR4.out (bun_C s.f0 lab H6.out) kM24 (fun _ h => h.elim) (fun _ _ => trivial) hHeld.2.2.out hHeld.2.2.out.size (by have := HXL.out; have := H10.out; have := HNL.out; simp; omega) ?_
                            rintro v7 w7 hR7 hB7 hg7 hat7
                            refine hK.out _ _ (HS.out _ hB7) (fun hHeld2 => ?_)
                            clear hK K
                            have HR7 := Aside0.mk (show k24.R 24 w7 wq.heap.size (fun _ => True) v7 (X.take n ++ [⟨s.f0, lab⟩]) by simpa using hR7)
                            have HG7 := Aside0.mk hg7
                            clear hR7 hB7 hat7 hg7
                            clear hHeld
                            have hHeld := hHeld2
                            clear hHeld2
                            try simp only [Act.put, List.getElem_toArray, List.getElem_cons_succ, List.getElem_cons_zero, List.setIfInBounds_toArray, List.set_cons_zero, List.set_cons_succ]
                            refine wpAnyH_ready (rs := [11]) (by kernel_rfl) (by simp) ?_
                            refine AllReadyH.cons rfl (fun K hK => ?_) AllReadyH.nil
                            refine Kd.R_append_rows_step k24 (w0 := wq) wq.heap.size (by rfl) (.tmp 95) (.tmp 98) 28 24 (.agg #[.int .i64 0, .int .i64 0]) 16 rfl Tryd.underlying28 info24 rfl (by decide) (by omega) v7 (X.take n ++ [⟨s.f0, lab⟩]) (X.drop n) _ _ _ (fun _ => True) (fun _ => False) rfl rfl HR7.out (HCd.out _ hHeld.2.2.out) kM24 (fun _ h => h.elim) (fun _ _ => trivial) hHeld.2.2.out hHeld.2.2.out.size (by have := HXL.out; have := H10.out; have := HNL.out; simp; omega) ?_
                            rintro v9 w9 hR9 hB9 hg9 hat9
                            refine hK.out _ _ (HS.out _ hB9) (fun hHeld2 => ?_)
                            clear hK K
                            have HR9 := Aside0.mk (show k24.R 24 w9 wq.heap.size (fun _ => True) v9 (X.take n ++ [⟨s.f0, lab⟩] ++ X.drop n) by simpa using hR9)
                            have HG9 := Aside0.mk hg9
                            clear hR9 hB9 hat9 hg9
                            clear hHeld
                            have hHeld := hHeld2
                            clear hHeld2
                            try simp only [Act.put, List.getElem_toArray, List.getElem_cons_succ, List.getElem_cons_zero, List.setIfInBounds_toArray, List.set_cons_zero, List.set_cons_succ]
                            (first | (refine wpAnyH_take (i := 12) rfl (by kernel_rfl) (by kernel_rfl) (by kernel_rfl) (fun _ _ _ h => h) (Or.inr ⟨by rfl, rfl⟩) (by assumption) ?_) | (refine wpAnyH_take (i := 12) (v := ?_) rfl (by kernel_rfl) (by kernel_rfl) (by kernel_rfl) (fun _ _ _ h => h) (Or.inl ⟨by rfl, ?_⟩) (by assumption) ?_; rotate_left 1; (focus (intro w hSw; (try dsimp only at hSw); go_simp; (try with_reducible rfl); done)))) <;> (try simp only [Act.put, List.getElem_toArray, List.getElem_cons_succ, List.getElem_cons_zero, List.setIfInBounds_toArray, List.set_cons_zero, List.set_cons_succ])
                            refine wpAnyH_done (by kernel_rfl) ?_ _
                            have HB9 := Aside0.mk hHeld.2.2.out
                            go_wp2
                            exact ⟨⟨k + 1, by omega, by go_num, ⟨by rw [HV.out]; exact Kd.R_lower HR9.out HBq.out.size⟩, ⟨below_tr HBq.out HB9.out⟩⟩, by simp [intOf]; omega⟩
                        · go_simp
                          refine hK.out _ _ (HS.out _ (below_tr hHeld.2.2.out ((Below.refl _ _).alloc (Nat.le_refl _) _))) (fun hHeld2 => ?_)
                          clear hK K
                          have H6 := Aside0.mk (new_blk wd (.cells #[.int .i64 s.f0, .int .i64 lab] 24))
                          try simp only [World.size_alloc] at H6
                          clear hHeld
                          have hHeld := hHeld2
                          clear hHeld2
                          try simp only [Act.put, List.getElem_toArray, List.getElem_cons_succ, List.getElem_cons_zero, List.setIfInBounds_toArray, List.set_cons_zero, List.set_cons_succ]
                          refine wpAnyH_ready (rs := [0]) (by kernel_rfl) (by simp) ?_
                          refine AllReadyH.cons rfl (fun K hK => ?_) AllReadyH.nil
                          have H6b := Aside0.mk (blk_alloc H6.out (.cells #[] 24))
                          go_simp
                          refine hK.out _ _ (HS.out _ (below_tr hHeld.2.2.out ((Below.refl _ _).alloc (Nat.le_refl _) _))) (fun hHeld2 => ?_)
                          clear hK K
                          have HR0 := Aside0.mk (R_emptyB (wd.alloc (.cells #[.int .i64 s.f0, .int .i64 lab] 24)) wq.heap.size hHeld.2.2.out.size)
                          try simp only [World.size_alloc] at HR0
                          clear hHeld
                          have hHeld := hHeld2
                          clear hHeld2
                          try simp only [Act.put, List.getElem_toArray, List.getElem_cons_succ, List.getElem_cons_zero, List.setIfInBounds_toArray, List.set_cons_zero, List.set_cons_succ]
                          have H6 := H6b
                          clear H6b
                          refine wpAnyH_ready (rs := [4]) (by kernel_rfl) (by simp) ?_
                          refine AllReadyH.cons rfl (fun K hK => ?_) AllReadyH.nil
                          refine Kd.R_append_rows_step k24 (w0 := wq) wq.heap.size (by rfl) (.tmp 88) (.tmp 91) 28 24 (.agg #[.int .i64 0, .int .i64 0]) 16 rfl Tryd.underlying28 info24 rfl (by decide) (by omega) (.slice (some ⟨wd.heap.size + 1, 0, none⟩) 0 0) [] (X.take n) (some xd) n cx (fun _ => True) (fun _ => False) rfl rfl HR0.out (HCn.out _ hHeld.2.2.out) kM24 (fun _ h => h.elim) (fun _ _ => trivial) hHeld.2.2.out hHeld.2.2.out.size (by have := HXL.out; have := H10.out; have := HNL.out; simp; omega) ?_
                          rintro v4 w4 hR4 hB4 hg4 hat4
                          refine hK.out _ _ (HS.out _ hB4) (fun hHeld2 => ?_)
                          clear hK K
                          have HR4 := Aside0.mk (show k24.R 24 w4 wq.heap.size (fun _ => True) v4 (X.take n) by simpa using hR4)
                          have HG4 := Aside0.mk hg4
                          clear hR4 hB4 hat4 hg4
                          clear hHeld
                          have hHeld := hHeld2
                          clear hHeld2
                          try simp only [Act.put, List.getElem_toArray, List.getElem_cons_succ, List.getElem_cons_zero, List.setIfInBounds_toArray, List.set_cons_zero, List.set_cons_succ]
                          have H6b := Aside0.mk (blk_grown H6.out HG4.out (by simp [Value.ownBlock]))
                          have H6 := H6b
                          clear H6b
                          refine wpAnyH_ready (rs := [7]) (by kernel_rfl) (by simp) ?_
                          refine AllReadyH.cons rfl (fun K hK => ?_) AllReadyH.nil
                          refine Kd.R_append_rows_step k24 (w0 := wq) wq.heap.size (by rfl) (.tmp 92) (.tmp 94) 28 24 (.agg #[.int .i64 0, .int .i64 0]) 16 rfl Tryd.underlying28 info24 rfl (by decide) (by omega) v4 (X.take n) [⟨s.f0, lab⟩] _ 1 1 (fun _ => True) (fun _ => False) rfl rfl HR4.out (bun_C s.f0 lab H6.out) kM24 (fun _ h => h.elim) (fun _ _ => trivial) hHeld.2.2.out hHeld.2.2.out.size (by have := HXL.out; have := H10.out; have := HNL.out; simp; omega) ?_
                          rintro v7 w7 hR7 hB7 hg7 hat7
                          refine hK.out _ _ (HS.out _ hB7) (fun hHeld2 => ?_)
                          clear hK K
                          have HR7 := Aside0.mk (show k24.R 24 w7 wq.heap.size (fun _ => True) v7 (X.take n ++ [⟨s.f0, lab⟩]) by simpa using hR7)
                          have HG7 := Aside0.mk hg7
                          clear hR7 hB7 hat7 hg7
                          clear hHeld
                          have hHeld := hHeld2
                          clear hHeld2
                          try simp only [Act.put, List.getElem_toArray, List.getElem_cons_succ, List.getElem_cons_zero, List.setIfInBounds_toArray, List.set_cons_zero, List.set_cons_succ]
                          refine wpAnyH_ready (rs := [11]) (by kernel_rfl) (by simp) ?_
                          refine AllReadyH.cons rfl (fun K hK => ?_) AllReadyH.nil
                          refine Kd.R_append_rows_step k24 (w0 := wq) wq.heap.size (by rfl) (.tmp 95) (.tmp 98) 28 24 (.agg #[.int .i64 0, .int .i64 0]) 16 rfl Tryd.underlying28 info24 rfl (by decide) (by omega) v7 (X.take n ++ [⟨s.f0, lab⟩]) (X.drop n) _ _ _ (fun _ => True) (fun _ => False) rfl rfl HR7.out (HCd.out _ hHeld.2.2.out) kM24 (fun _ h => h.elim) (fun _ _ => trivial) hHeld.2.2.out hHeld.2.2.out.size (by have := HXL.out; have := H10.out; have := HNL.out; simp; omega) ?_
                          rintro v9 w9 hR9 hB9 hg9 hat9
                          refine hK.out _ _ (HS.out _ hB9) (fun hHeld2 => ?_)
                          clear hK K
                          have HR9 := Aside0.mk (show k24.R 24 w9 wq.heap.size (fun _ => True) v9 (X.take n ++ [⟨s.f0, lab⟩] ++ X.drop n) by simpa using hR9)
                          have HG9 := Aside0.mk hg9
                          clear hR9 hB9 hat9 hg9
                          clear hHeld
                          have hHeld := hHeld2
                          clear hHeld2
                          try simp only [Act.put, List.getElem_toArray, List.getElem_cons_succ, List.getElem_cons_zero, List.setIfInBounds_toArray, List.set_cons_zero, List.set_cons_succ]
                          (first | (refine wpAnyH_take (i := 12) rfl (by kernel_rfl) (by kernel_rfl) (by kernel_rfl) (fun _ _ _ h => h) (Or.inr ⟨by rfl, rfl⟩) (by assumption) ?_) | (refine wpAnyH_take (i := 12) (v := ?_) rfl (by kernel_rfl) (by kernel_rfl) (by kernel_rfl) (fun _ _ _ h => h) (Or.inl ⟨by rfl, ?_⟩) (by assumption) ?_; rotate_left 1; (focus (intro w hSw; (try dsimp only at hSw); go_simp; (try with_reducible rfl); done)))) <;> (try simp only [Act.put, List.getElem_toArray, List.getElem_cons_succ, List.getElem_cons_zero, List.setIfInBounds_toArray, List.set_cons_zero, List.set_cons_succ])
                          refine wpAnyH_done (by kernel_rfl) ?_ _
                          have HB9 := Aside0.mk hHeld.2.2.out
                          go_wp2
                          exact ⟨⟨k + 1, by omega, by go_num, ⟨by rw [HV.out]; exact Kd.R_lower HR9.out HBq.out.size⟩, ⟨below_tr HBq.out HB9.out⟩⟩, by simp [intOf]; omega⟩
                      · have hdn : ¬ (n : Int) < X.length := by omega
                        have hdn' : decide ((n : Int) < X.length) = false := decide_eq_false hdn
                        have hdn2 : decide (n < X.length) = false := decide_eq_false (by omega)
                        clear hnl b0
                        go_wp2_with fail
                        go_quiet (fail)
                        clear hdn' hdn2 b1
                        go_wp2_with fail
                        generalize hwq : wr.drewN _ = wq
                        have hq1 : Below wp.heap.size wp wq := by rw [← hwq]; exact pw_below_drewN HBn.out _
                        have hq2 : wq.heap[w2.heap.size]? = some (.cells #[.int .i64 s.f0, .int .i64 lab] 24 (0, 0)) := by rw [← hwq]; exact HNb3.out
                        clear hwq
                        have HBq := Aside0.mk (below_tr HB3.out hq1)
                        have hCq := Kd.C_below HCX.out hq1
                        have b0 := (blk_cell hq2 0).trans rfl
                        have b1 := (blk_cell hq2 1).trans rfl
                        obtain ⟨im, him, _, hsz, _⟩ := info_get info24
                        have hcut1 := cut_to (P := Tryd.prog) 28 24 .i64 Tryd.underlying28 him Ax X.length cx (n : Int) (by omega) (by omega) HXC.out
                        have hcut2 := cut_from (P := Tryd.prog) 28 24 .i64 Tryd.underlying28 him 2 hsz Ax X.length cx (n : Int) (by omega) (by omega)
                        simp only [Int.toNat_natCast] at hcut1 hcut2
                        have hcn := Kd.C_take (m := n) hCq hn
                        have hcd := Kd.C_drop (m := n) (c := cx) hCq hn HXC.out
                        rw [show (X.take n).length = n from by simp; omega] at hcn
                        rw [show (X.drop n).length = 0 from by simp; omega, show k24.sz = 2 from rfl] at hcd
                        have HCn := Aside0.mk (fun W (h : Below wq.heap.size wq W) => Kd.C_below hcn h)
                        have HCd := Aside0.mk (fun W (h : Below wq.heap.size wq W) => Kd.C_below hcd h)
                        have HNL := Aside0.mk hn
                        clear hq1 hq2 hCq hcn hcd HNb3 HNb2 hsz him
                        obtain ⟨Ad, hAd⟩ : ∃ Ad, (if cx = n then Ax else Ax.map (·.add (n * 2))) = Ad := ⟨_, rfl⟩
                        rw [hAd] at HCd hcut2
                        clear hAd
                        have HS := Aside0.mk (fun W (h : Below wq.heap.size wq W) => (⟨cell_low h b0, cell_low h b1, ⟨h⟩⟩ : W.cell? ⟨w2.heap.size, 0, none⟩ = some (.int .i64 s.f0) ∧ W.cell? ⟨w2.heap.size, 1, none⟩ = some (.int .i64 lab) ∧ Aside0 (Below wq.heap.size wq W)))
                        refine wp_region_held_drew (S := (fun W => W.cell? ⟨w2.heap.size, 0, none⟩ = some (.int .i64 s.f0) ∧ W.cell? ⟨w2.heap.size, 1, none⟩ = some (.int .i64 lab) ∧ Aside0 (Below wq.heap.size wq W))) (by kernel_rfl) (HS.out _ (below_drew (Below.refl _ _))) (fun hHeld => ?_)
                        obtain ⟨wd, hwd⟩ : ∃ wd, wq.drew = wd := ⟨_, rfl⟩
                        rw [hwd] at hHeld ⊢
                        clear hwd
                        (first | (refine wpAnyH_take (i := 1) rfl (by kernel_rfl) (by kernel_rfl) (by kernel_rfl) (fun _ _ _ h => h) (Or.inr ⟨by rfl, rfl⟩) (by assumption) ?_) | (refine wpAnyH_take (i := 1) (v := ?_) rfl (by kernel_rfl) (by kernel_rfl) (by kernel_rfl) (fun _ _ _ h => h) (Or.inl ⟨by rfl, ?_⟩) (by assumption) ?_; rotate_left 1; (focus (intro w hSw; (try dsimp only at hSw); go_simp; (try with_reducible rfl); done)))) <;> (try simp only [Act.put, List.getElem_toArray, List.getElem_cons_succ, List.getElem_cons_zero, List.setIfInBounds_toArray, List.set_cons_zero, List.set_cons_succ])
                        (first | (refine wpAnyH_take (i := 2) rfl (by kernel_rfl) (by kernel_rfl) (by kernel_rfl) (fun _ _ _ h => h) (Or.inr ⟨by rfl, rfl⟩) (by assumption) ?_) | (refine wpAnyH_take (i := 2) (v := ?_) rfl (by kernel_rfl) (by kernel_rfl) (by kernel_rfl) (fun _ _ _ h => h) (Or.inl ⟨by rfl, ?_⟩) (by assumption) ?_; rotate_left 1; (focus (intro w hSw; (try dsimp only at hSw); go_simp; (try with_reducible rfl); done)))) <;> (try simp only [Act.put, List.getElem_toArray, List.getElem_cons_succ, List.getElem_cons_zero, List.setIfInBounds_toArray, List.set_cons_zero, List.set_cons_succ])
                        (first | (refine wpAnyH_take (i := 3) rfl (by kernel_rfl) (by kernel_rfl) (by kernel_rfl) (fun _ _ _ h => h) (Or.inr ⟨by rfl, rfl⟩) (by assumption) ?_) | (refine wpAnyH_take (i := 3) (v := ?_) rfl (by kernel_rfl) (by kernel_rfl) (by kernel_rfl) (fun _ _ _ h => h) (Or.inl ⟨by rfl, ?_⟩) (by assumption) ?_; rotate_left 1; (focus (intro w hSw; (try dsimp only at hSw); go_simp; (try with_reducible rfl); done)))) <;> (try simp only [Act.put, List.getElem_toArray, List.getElem_cons_succ, List.getElem_cons_zero, List.setIfInBounds_toArray, List.set_cons_zero, List.set_cons_succ])
                        (first | (refine wpAnyH_take (i := 5) rfl (by kernel_rfl) (by kernel_rfl) (by kernel_rfl) (fun _ _ _ h => h) (Or.inr ⟨by rfl, rfl⟩) (by assumption) ?_) | (refine wpAnyH_take (i := 5) (v := ?_) rfl (by kernel_rfl) (by kernel_rfl) (by kernel_rfl) (fun _ _ _ h => h) (Or.inl ⟨by rfl, ?_⟩) (by assumption) ?_; rotate_left 1; (focus (intro w hSw; (try dsimp only at hSw); go_simp; (try with_reducible rfl); done)))) <;> (try simp only [Act.put, List.getElem_toArray, List.getElem_cons_succ, List.getElem_cons_zero, List.setIfInBounds_toArray, List.set_cons_zero, List.set_cons_succ])
                        (first | (refine wpAnyH_take (i := 8) rfl (by kernel_rfl) (by kernel_rfl) (by kernel_rfl) (fun _ _ _ h => h) (Or.inr ⟨by rfl, rfl⟩) (by assumption) ?_) | (refine wpAnyH_take (i := 8) (v := ?_) rfl (by kernel_rfl) (by kernel_rfl) (by kernel_rfl) (fun _ _ _ h => h) (Or.inl ⟨by rfl, ?_⟩) (by assumption) ?_; rotate_left 1; (focus (intro w hSw; (try dsimp only at hSw); go_simp; (try with_reducible rfl); done)))) <;> (try simp only [Act.put, List.getElem_toArray, List.getElem_cons_succ, List.getElem_cons_zero, List.setIfInBounds_toArray, List.set_cons_zero, List.set_cons_succ])
                        (first | (refine wpAnyH_take (i := 9) rfl (by kernel_rfl) (by kernel_rfl) (by kernel_rfl) (fun _ _ _ h => h) (Or.inr ⟨by rfl, rfl⟩) (by assumption) ?_) | (refine wpAnyH_take (i := 9) (v := ?_) rfl (by kernel_rfl) (by kernel_rfl) (by kernel_rfl) (fun _ _ _ h => h) (Or.inl ⟨by rfl, ?_⟩) (by assumption) ?_; rotate_left 1; (focus (intro w hSw; (try dsimp only at hSw); go_simp; (try with_reducible rfl); done)))) <;> (try simp only [Act.put, List.getElem_toArray, List.getElem_cons_succ, List.getElem_cons_zero, List.setIfInBounds_toArray, List.set_cons_zero, List.set_cons_succ])
                        (first | (refine wpAnyH_take (i := 10) rfl (by kernel_rfl) (by kernel_rfl) (by kernel_rfl) (fun _ _ _ h => h) (Or.inr ⟨by rfl, rfl⟩) (by assumption) ?_) | (refine wpAnyH_take (i := 10) (v := ?_) rfl (by kernel_rfl) (by kernel_rfl) (by kernel_rfl) (fun _ _ _ h => h) (Or.inl ⟨by rfl, ?_⟩) (by assumption) ?_; rotate_left 1; (focus (intro w hSw; (try dsimp only at hSw); go_simp; (try with_reducible rfl); done)))) <;> (try simp only [Act.put, List.getElem_toArray, List.getElem_cons_succ, List.getElem_cons_zero, List.setIfInBounds_toArray, List.set_cons_zero, List.set_cons_succ])
                        refine wpAnyH_ready (rs := [0, 6]) (by kernel_rfl) (by simp) ?_
                        refine AllReadyH.cons rfl (fun K hK => ?_) (AllReadyH.cons rfl (fun K hK => ?_) AllReadyH.nil)
                        · go_simp
                          refine hK.out _ _ (HS.out _ (below_tr hHeld.2.2.out ((Below.refl _ _).alloc (Nat.le_refl _) _))) (fun hHeld2 => ?_)
                          clear hK K
                          have HR0 := Aside0.mk (R_emptyB wd wq.heap.size hHeld.2.2.out.size)
                          try simp only [World.size_alloc] at HR0
                          clear hHeld
                          have hHeld := hHeld2
                          clear hHeld2
                          try simp only [Act.put, List.getElem_toArray, List.getElem_cons_succ, List.getElem_cons_zero, List.setIfInBounds_toArray, List.set_cons_zero, List.set_cons_succ]
                          refine wpAnyH_ready (rs := [4, 6]) (by kernel_rfl) (by simp) ?_
                          refine AllReadyH.cons rfl (fun K hK => ?_) (AllReadyH.cons rfl (fun K hK => ?_) AllReadyH.nil)
                          · refine Kd.R_append_rows_step k24 (w0 := wq) wq.heap.size (by rfl) (.tmp 88) (.tmp 91) 28 24 (.agg #[.int .i64 0, .int .i64 0]) 16 rfl Tryd.underlying28 info24 rfl (by decide) (by omega) (.slice (some ⟨wd.heap.size, 0, none⟩) 0 0) [] (X.take n) Ax n cx (fun _ => True) (fun _ => False) rfl rfl HR0.out (HCn.out _ hHeld.2.2.out) kM24 (fun _ h => h.elim) (fun _ _ => trivial) hHeld.2.2.out hHeld.2.2.out.size (by have := HXL.out; have := H10.out; have := HNL.out; simp; omega) ?_
                            rintro v4 w4 hR4 hB4 hg4 hat4
                            refine hK.out _ _ (HS.out _ hB4) (fun hHeld2 => ?_)
                            clear hK K
                            have HR4 := Aside0.mk (show k24.R 24 w4 wq.heap.size (fun _ => True) v4 (X.take n) by simpa using hR4)
                            have HG4 := Aside0.mk hg4
                            clear hR4 hB4 hat4 hg4
                            clear hHeld
                            have hHeld := hHeld2
                            clear hHeld2
                            try simp only [Act.put, List.getElem_toArray, List.getElem_cons_succ, List.getElem_cons_zero, List.setIfInBounds_toArray, List.set_cons_zero, List.set_cons_succ]
                            refine wpAnyH_ready (rs := [6]) (by kernel_rfl) (by simp) ?_
                            refine AllReadyH.cons rfl (fun K hK => ?_) AllReadyH.nil
                            have HR4b := Aside0.mk (Kd.R_below HR4.out ((Below.refl _ _).alloc (Nat.le_refl _) (.cells #[.int .i64 s.f0, .int .i64 lab] 24)))
                            go_simp
                            refine hK.out _ _ (HS.out _ (below_tr hHeld.2.2.out ((Below.refl _ _).alloc (Nat.le_refl _) _))) (fun hHeld2 => ?_)
                            clear hK K
                            have H6 := Aside0.mk (new_blk w4 (.cells #[.int .i64 s.f0, .int .i64 lab] 24))
                            try simp only [World.size_alloc] at H6
                            clear hHeld
                            have hHeld := hHeld2
                            clear hHeld2
                            try simp only [Act.put, List.getElem_toArray, List.getElem_cons_succ, List.getElem_cons_zero, List.setIfInBounds_toArray, List.set_cons_zero, List.set_cons_succ]
                            have HR4 := HR4b
                            clear HR4b
                            refine wpAnyH_ready (rs := [7]) (by kernel_rfl) (by simp) ?_
                            refine AllReadyH.cons rfl (fun K hK => ?_) AllReadyH.nil
                            refine Kd.R_append_rows_step k24 (w0 := wq) wq.heap.size (by rfl) (.tmp 92) (.tmp 94) 28 24 (.agg #[.int .i64 0, .int .i64 0]) 16 rfl Tryd.underlying28 info24 rfl (by decide) (by omega) v4 (X.take n) [⟨s.f0, lab⟩] _ 1 1 (fun _ => True) (fun _ => False) rfl rfl HR4.out (bun_C s.f0 lab H6.out) kM24 (fun _ h => h.elim) (fun _ _ => trivial) hHeld.2.2.out hHeld.2.2.out.size (by have := HXL.out; have := H10.out; have := HNL.out; simp; omega) ?_
                            rintro v7 w7 hR7 hB7 hg7 hat7
                            refine hK.out _ _ (HS.out _ hB7) (fun hHeld2 => ?_)
                            clear hK K
                            have HR7 := Aside0.mk (show k24.R 24 w7 wq.heap.size (fun _ => True) v7 (X.take n ++ [⟨s.f0, lab⟩]) by simpa using hR7)
                            have HG7 := Aside0.mk hg7
                            clear hR7 hB7 hat7 hg7
                            clear hHeld
                            have hHeld := hHeld2
                            clear hHeld2
                            try simp only [Act.put, List.getElem_toArray, List.getElem_cons_succ, List.getElem_cons_zero, List.setIfInBounds_toArray, List.set_cons_zero, List.set_cons_succ]
                            refine wpAnyH_ready (rs := [11]) (by kernel_rfl) (by simp) ?_
                            refine AllReadyH.cons rfl (fun K hK => ?_) AllReadyH.nil
                            refine Kd.R_append_rows_step k24 (w0 := wq) wq.heap.size (by rfl) (.tmp 95) (.tmp 98) 28 24 (.agg #[.int .i64 0, .int .i64 0]) 16 rfl Tryd.underlying28 info24 rfl (by decide) (by omega) v7 (X.take n ++ [⟨s.f0, lab⟩]) (X.drop n) _ _ _ (fun _ => True) (fun _ => False) rfl rfl HR7.out (HCd.out _ hHeld.2.2.out) kM24 (fun _ h => h.elim) (fun _ _ => trivial) hHeld.2.2.out hHeld.2.2.out.size (by have := HXL.out; have := H10.out; have := HNL.out; simp; omega) ?_
                            rintro v9 w9 hR9 hB9 hg9 hat9
                            refine hK.out _ _ (HS.out _ hB9) (fun hHeld2 => ?_)
                            clear hK K
                            have HR9 := Aside0.mk (show k24.R 24 w9 wq.heap.size (fun _ => True) v9 (X.take n ++ [⟨s.f0, lab⟩] ++ X.drop n) by simpa using hR9)
                            have HG9 := Aside0.mk hg9
                            clear hR9 hB9 hat9 hg9
                            clear hHeld
                            have hHeld := hHeld2
                            clear hHeld2
                            try simp only [Act.put, List.getElem_toArray, List.getElem_cons_succ, List.getElem_cons_zero, List.setIfInBounds_toArray, List.set_cons_zero, List.set_cons_succ]
                            (first | (refine wpAnyH_take (i := 12) rfl (by kernel_rfl) (by kernel_rfl) (by kernel_rfl) (fun _ _ _ h => h) (Or.inr ⟨by rfl, rfl⟩) (by assumption) ?_) | (refine wpAnyH_take (i := 12) (v := ?_) rfl (by kernel_rfl) (by kernel_rfl) (by kernel_rfl) (fun _ _ _ h => h) (Or.inl ⟨by rfl, ?_⟩) (by assumption) ?_; rotate_left 1; (focus (intro w hSw; (try dsimp only at hSw); go_simp; (try with_reducible rfl); done)))) <;> (try simp only [Act.put, List.getElem_toArray, List.getElem_cons_succ, List.getElem_cons_zero, List.setIfInBounds_toArray, List.set_cons_zero, List.set_cons_succ])
                            refine wpAnyH_done (by kernel_rfl) ?_ _
                            have HB9 := Aside0.mk hHeld.2.2.out
                            go_wp2
                            exact ⟨⟨k + 1, by omega, by go_num, ⟨by rw [HV.out]; exact Kd.R_lower HR9.out HBq.out.size⟩, ⟨below_tr HBq.out HB9.out⟩⟩, by simp [intOf]; omega⟩
                          · have HR0b := Aside0.mk (Kd.R_below HR0.out ((Below.refl _ _).alloc (Nat.le_refl _) (.cells #[.int .i64 s.f0, .int .i64 lab] 24)))
                            go_simp
                            refine hK.out _ _ (HS.out _ (below_tr hHeld.2.2.out ((Below.refl _ _).alloc (Nat.le_refl _) _))) (fun hHeld2 => ?_)
                            clear hK K
                            have H6 := Aside0.mk (new_blk (wd.alloc (.cells #[] 24)) (.cells #[.int .i64 s.f0, .int .i64 lab] 24))
                            try simp only [World.size_alloc] at H6
                            clear hHeld
                            have hHeld := hHeld2
                            clear hHeld2
                            try simp only [Act.put, List.getElem_toArray, List.getElem_cons_succ, List.getElem_cons_zero, List.setIfInBounds_toArray, List.set_cons_zero, List.set_cons_succ]
                            have HR0 := HR0b
                            clear HR0b
                            refine wpAnyH_ready (rs := [4]) (by kernel_rfl) (by simp) ?_
                            refine AllReadyH.cons rfl (fun K hK => ?_) AllReadyH.nil
                            refine Kd.R_append_rows_step k24 (w0 := wq) wq.heap.size (by rfl) (.tmp 88) (.tmp 91) 28 24 (.agg #[.int .i64 0, .int .i64 0]) 16 rfl Tryd.underlying28 info24 rfl (by decide) (by omega) (.slice (some ⟨wd.heap.size, 0, none⟩) 0 0) [] (X.take n) Ax n cx (fun _ => True) (fun _ => False) rfl rfl HR0.out (HCn.out _ hHeld.2.2.out) kM24 (fun _ h => h.elim) (fun _ _ => trivial) hHeld.2.2.out hHeld.2.2.out.size (by have := HXL.out; have := H10.out; have := HNL.out; simp; omega) ?_
                            rintro v4 w4 hR4 hB4 hg4 hat4
                            refine hK.out _ _ (HS.out _ hB4) (fun hHeld2 => ?_)
                            clear hK K
                            have HR4 := Aside0.mk (show k24.R 24 w4 wq.heap.size (fun _ => True) v4 (X.take n) by simpa using hR4)
                            have HG4 := Aside0.mk hg4
                            clear hR4 hB4 hat4 hg4
                            clear hHeld
                            have hHeld := hHeld2
                            clear hHeld2
                            try simp only [Act.put, List.getElem_toArray, List.getElem_cons_succ, List.getElem_cons_zero, List.setIfInBounds_toArray, List.set_cons_zero, List.set_cons_succ]
                            have H6b := Aside0.mk (blk_grown H6.out HG4.out (by simp [Value.ownBlock]))
                            have H6 := H6b
                            clear H6b
                            refine wpAnyH_ready (rs := [7]) (by kernel_rfl) (by simp) ?_
                            refine AllReadyH.cons rfl (fun K hK => ?_) AllReadyH.nil
                            refine Kd.R_append_rows_step k24 (w0 := wq) wq.heap.size (by rfl) (.tmp 92) (.tmp 94) 28 24 (.agg #[.int .i64 0, .int .i64 0]) 16 rfl Tryd.underlying28 info24 rfl (by decide) (by omega) v4 (X.take n) [⟨s.f0, lab⟩] _ 1 1 (fun _ => True) (fun _ => False) rfl rfl HR4.out (bun_C s.f0 lab H6.out) kM24 (fun _ h => h.elim) (fun _ _ => trivial) hHeld.2.2.out hHeld.2.2.out.size (by have := HXL.out; have := H10.out; have := HNL.out; simp; omega) ?_
                            rintro v7 w7 hR7 hB7 hg7 hat7
                            refine hK.out _ _ (HS.out _ hB7) (fun hHeld2 => ?_)
                            clear hK K
                            have HR7 := Aside0.mk (show k24.R 24 w7 wq.heap.size (fun _ => True) v7 (X.take n ++ [⟨s.f0, lab⟩]) by simpa using hR7)
                            have HG7 := Aside0.mk hg7
                            clear hR7 hB7 hat7 hg7
                            clear hHeld
                            have hHeld := hHeld2
                            clear hHeld2
                            try simp only [Act.put, List.getElem_toArray, List.getElem_cons_succ, List.getElem_cons_zero, List.setIfInBounds_toArray, List.set_cons_zero, List.set_cons_succ]
                            refine wpAnyH_ready (rs := [11]) (by kernel_rfl) (by simp) ?_
                            refine AllReadyH.cons rfl (fun K hK => ?_) AllReadyH.nil
                            refine Kd.R_append_rows_step k24 (w0 := wq) wq.heap.size (by rfl) (.tmp 95) (.tmp 98) 28 24 (.agg #[.int .i64 0, .int .i64 0]) 16 rfl Tryd.underlying28 info24 rfl (by decide) (by omega) v7 (X.take n ++ [⟨s.f0, lab⟩]) (X.drop n) _ _ _ (fun _ => True) (fun _ => False) rfl rfl HR7.out (HCd.out _ hHeld.2.2.out) kM24 (fun _ h => h.elim) (fun _ _ => trivial) hHeld.2.2.out hHeld.2.2.out.size (by have := HXL.out; have := H10.out; have := HNL.out; simp; omega) ?_
                            rintro v9 w9 hR9 hB9 hg9 hat9
                            refine hK.out _ _ (HS.out _ hB9) (fun hHeld2 => ?_)
                            clear hK K
                            have HR9 := Aside0.mk (show k24.R 24 w9 wq.heap.size (fun _ => True) v9 (X.take n ++ [⟨s.f0, lab⟩] ++ X.drop n) by simpa using hR9)
                            have HG9 := Aside0.mk hg9
                            clear hR9 hB9 hat9 hg9
                            clear hHeld
                            have hHeld := hHeld2
                            clear hHeld2
                            try simp only [Act.put, List.getElem_toArray, List.getElem_cons_succ, List.getElem_cons_zero, List.setIfInBounds_toArray, List.set_cons_zero, List.set_cons_succ]
                            (first | (refine wpAnyH_take (i := 12) rfl (by kernel_rfl) (by kernel_rfl) (by kernel_rfl) (fun _ _ _ h => h) (Or.inr ⟨by rfl, rfl⟩) (by assumption) ?_) | (refine wpAnyH_take (i := 12) (v := ?_) rfl (by kernel_rfl) (by kernel_rfl) (by kernel_rfl) (fun _ _ _ h => h) (Or.inl ⟨by rfl, ?_⟩) (by assumption) ?_; rotate_left 1; (focus (intro w hSw; (try dsimp only at hSw); go_simp; (try with_reducible rfl); done)))) <;> (try simp only [Act.put, List.getElem_toArray, List.getElem_cons_succ, List.getElem_cons_zero, List.setIfInBounds_toArray, List.set_cons_zero, List.set_cons_succ])
                            refine wpAnyH_done (by kernel_rfl) ?_ _
                            have HB9 := Aside0.mk hHeld.2.2.out
                            go_wp2
                            exact ⟨⟨k + 1, by omega, by go_num, ⟨by rw [HV.out]; exact Kd.R_lower HR9.out HBq.out.size⟩, ⟨below_tr HBq.out HB9.out⟩⟩, by simp [intOf]; omega⟩
                        · go_simp
                          refine hK.out _ _ (HS.out _ (below_tr hHeld.2.2.out ((Below.refl _ _).alloc (Nat.le_refl _) _))) (fun hHeld2 => ?_)
                          clear hK K
                          have H6 := Aside0.mk (new_blk wd (.cells #[.int .i64 s.f0, .int .i64 lab] 24))
                          try simp only [World.size_alloc] at H6
                          clear hHeld
                          have hHeld := hHeld2
                          clear hHeld2
                          try simp only [Act.put, List.getElem_toArray, List.getElem_cons_succ, List.getElem_cons_zero, List.setIfInBounds_toArray, List.set_cons_zero, List.set_cons_succ]
                          refine wpAnyH_ready (rs := [0]) (by kernel_rfl) (by simp) ?_
                          refine AllReadyH.cons rfl (fun K hK => ?_) AllReadyH.nil
                          have H6b := Aside0.mk (blk_alloc H6.out (.cells #[] 24))
                          go_simp
                          refine hK.out _ _ (HS.out _ (below_tr hHeld.2.2.out ((Below.refl _ _).alloc (Nat.le_refl _) _))) (fun hHeld2 => ?_)
                          clear hK K
                          have HR0 := Aside0.mk (R_emptyB (wd.alloc (.cells #[.int .i64 s.f0, .int .i64 lab] 24)) wq.heap.size hHeld.2.2.out.size)
                          try simp only [World.size_alloc] at HR0
                          clear hHeld
                          have hHeld := hHeld2
                          clear hHeld2
                          try simp only [Act.put, List.getElem_toArray, List.getElem_cons_succ, List.getElem_cons_zero, List.setIfInBounds_toArray, List.set_cons_zero, List.set_cons_succ]
                          have H6 := H6b
                          clear H6b
                          refine wpAnyH_ready (rs := [4]) (by kernel_rfl) (by simp) ?_
                          refine AllReadyH.cons rfl (fun K hK => ?_) AllReadyH.nil
                          refine Kd.R_append_rows_step k24 (w0 := wq) wq.heap.size (by rfl) (.tmp 88) (.tmp 91) 28 24 (.agg #[.int .i64 0, .int .i64 0]) 16 rfl Tryd.underlying28 info24 rfl (by decide) (by omega) (.slice (some ⟨wd.heap.size + 1, 0, none⟩) 0 0) [] (X.take n) Ax n cx (fun _ => True) (fun _ => False) rfl rfl HR0.out (HCn.out _ hHeld.2.2.out) kM24 (fun _ h => h.elim) (fun _ _ => trivial) hHeld.2.2.out hHeld.2.2.out.size (by have := HXL.out; have := H10.out; have := HNL.out; simp; omega) ?_
                          rintro v4 w4 hR4 hB4 hg4 hat4
                          refine hK.out _ _ (HS.out _ hB4) (fun hHeld2 => ?_)
                          clear hK K
                          have HR4 := Aside0.mk (show k24.R 24 w4 wq.heap.size (fun _ => True) v4 (X.take n) by simpa using hR4)
                          have HG4 := Aside0.mk hg4
                          clear hR4 hB4 hat4 hg4
                          clear hHeld
                          have hHeld := hHeld2
                          clear hHeld2
                          try simp only [Act.put, List.getElem_toArray, List.getElem_cons_succ, List.getElem_cons_zero, List.setIfInBounds_toArray, List.set_cons_zero, List.set_cons_succ]
                          have H6b := Aside0.mk (blk_grown H6.out HG4.out (by simp [Value.ownBlock]))
                          have H6 := H6b
                          clear H6b
                          refine wpAnyH_ready (rs := [7]) (by kernel_rfl) (by simp) ?_
                          refine AllReadyH.cons rfl (fun K hK => ?_) AllReadyH.nil
                          refine Kd.R_append_rows_step k24 (w0 := wq) wq.heap.size (by rfl) (.tmp 92) (.tmp 94) 28 24 (.agg #[.int .i64 0, .int .i64 0]) 16 rfl Tryd.underlying28 info24 rfl (by decide) (by omega) v4 (X.take n) [⟨s.f0, lab⟩] _ 1 1 (fun _ => True) (fun _ => False) rfl rfl HR4.out (bun_C s.f0 lab H6.out) kM24 (fun _ h => h.elim) (fun _ _ => trivial) hHeld.2.2.out hHeld.2.2.out.size (by have := HXL.out; have := H10.out; have := HNL.out; simp; omega) ?_
                          rintro v7 w7 hR7 hB7 hg7 hat7
                          refine hK.out _ _ (HS.out _ hB7) (fun hHeld2 => ?_)
                          clear hK K
                          have HR7 := Aside0.mk (show k24.R 24 w7 wq.heap.size (fun _ => True) v7 (X.take n ++ [⟨s.f0, lab⟩]) by simpa using hR7)
                          have HG7 := Aside0.mk hg7
                          clear hR7 hB7 hat7 hg7
                          clear hHeld
                          have hHeld := hHeld2
                          clear hHeld2
                          try simp only [Act.put, List.getElem_toArray, List.getElem_cons_succ, List.getElem_cons_zero, List.setIfInBounds_toArray, List.set_cons_zero, List.set_cons_succ]
                          refine wpAnyH_ready (rs := [11]) (by kernel_rfl) (by simp) ?_
                          refine AllReadyH.cons rfl (fun K hK => ?_) AllReadyH.nil
                          refine Kd.R_append_rows_step k24 (w0 := wq) wq.heap.size (by rfl) (.tmp 95) (.tmp 98) 28 24 (.agg #[.int .i64 0, .int .i64 0]) 16 rfl Tryd.underlying28 info24 rfl (by decide) (by omega) v7 (X.take n ++ [⟨s.f0, lab⟩]) (X.drop n) _ _ _ (fun _ => True) (fun _ => False) rfl rfl HR7.out (HCd.out _ hHeld.2.2.out) kM24 (fun _ h => h.elim) (fun _ _ => trivial) hHeld.2.2.out hHeld.2.2.out.size (by have := HXL.out; have := H10.out; have := HNL.out; simp; omega) ?_
                          rintro v9 w9 hR9 hB9 hg9 hat9
                          refine hK.out _ _ (HS.out _ hB9) (fun hHeld2 => ?_)
                          clear hK K
                          have HR9 := Aside0.mk (show k24.R 24 w9 wq.heap.size (fun _ => True) v9 (X.take n ++ [⟨s.f0, lab⟩] ++ X.drop n) by simpa using hR9)
                          have HG9 := Aside0.mk hg9
                          clear hR9 hB9 hat9 hg9
                          clear hHeld
                          have hHeld := hHeld2
                          clear hHeld2
                          try simp only [Act.put, List.getElem_toArray, List.getElem_cons_succ, List.getElem_cons_zero, List.setIfInBounds_toArray, List.set_cons_zero, List.set_cons_succ]
                          (first | (refine wpAnyH_take (i := 12) rfl (by kernel_rfl) (by kernel_rfl) (by kernel_rfl) (fun _ _ _ h => h) (Or.inr ⟨by rfl, rfl⟩) (by assumption) ?_) | (refine wpAnyH_take (i := 12) (v := ?_) rfl (by kernel_rfl) (by kernel_rfl) (by kernel_rfl) (fun _ _ _ h => h) (Or.inl ⟨by rfl, ?_⟩) (by assumption) ?_; rotate_left 1; (focus (intro w hSw; (try dsimp only at hSw); go_simp; (try with_reducible rfl); done)))) <;> (try simp only [Act.put, List.getElem_toArray, List.getElem_cons_succ, List.getElem_cons_zero, List.setIfInBounds_toArray, List.set_cons_zero, List.set_cons_succ])
                          refine wpAnyH_done (by kernel_rfl) ?_ _
                          have HB9 := Aside0.mk hHeld.2.2.out
                          go_wp2
                          exact ⟨⟨k + 1, by omega, by go_num, ⟨by rw [HV.out]; exact Kd.R_lower HR9.out HBq.out.size⟩, ⟨below_tr HBq.out HB9.out⟩⟩, by simp [intOf]; omega⟩
                · obtain ⟨m', rfl⟩ : ∃ m', m = m' + 1 := ⟨m - 1, by omega⟩
                  have hz : (0 : Int) ≤ ((m' + 1 : Nat) : Int) - 1 := by omega
                  have hz1 : ((m' + 1 : Nat) : Int) - 1 = (m' : Int) := by omega
                  have hz2 : (0 : Int) ≤ (m' : Int) := by omega
                  have hz3 : (m' : Int) < s.f7.length := by omega
                  obtain ⟨a7, rfl, hx7⟩ := (Kd.reads_of_C (d := (0 : Int)) (Kd.C_below G7.out (below_tr HB2r.out HBb.out))).at_ m' (by omega) (by omega)
                  simp only [Int.toNat_natCast] at hx7
                  have hst := labOf_step (owns taken st) s.f7 m' (by omega)
                  generalize rdOf 0 s.f7 m' = lb at hx7 hst
                  have HST := Aside0.mk hst
                  have HC3 := Aside0.mk (HK.out lb wr (Kd.C_below HT.out HB3.out))
                  rw [hz1]
                  clear hst hz hz1
                  go_wp2_with fail
                  refine HC3.out.mono ?_
                  rintro e w5 ⟨rfl, hb5⟩
                  have hnb5 := blk_low hb5 HNb.out
                  have HBb5 := Aside0.mk (below_tr HBb.out hb5)
                  have s7 := (blk_cell (blk_low hb5 HNs3.out) 7).trans rfl
                  replace hx7 := cell_low hb5 hx7
                  clear hb5 HC3
                  cases hlo : owns taken st lb with
                  | false =>
                    have HLB := Aside0.mk (show ((s.f7.drop m').find? (owns taken st)).getD (-1) = ((s.f7.drop (m' + 1)).find? (owns taken st)).getD (-1) by rw [HST.out, hlo]; rfl)
                    have HNb5 := Aside0.mk hnb5
                    clear hnb5
                    go_wp2
                    exact ⟨⟨m', by omega, by go_num, ⟨by rw [HLB.out]; exact HNb5.out⟩, HBb5⟩, by first | (simp [intOf]; done) | (simp [intOf]; omega)⟩
                  | true =>
                    have HLB := Aside0.mk (show ((s.f7.drop m').find? (owns taken st)).getD (-1) = lb by rw [HST.out, hlo]; rfl)
                    have hfz := blk_frozen hnb5 1
                    have yc := (blk_cell hnb5 1).trans rfl
                    have HPT := Aside0.mk (blk_put hnb5 1 (.int .i64 lb) rfl)
                    have HNb5 := Aside0.mk hnb5
                    clear hnb5
                    go_wp2
                    exact ⟨⟨m', by omega, by go_num, ⟨by rw [HLB.out]; exact HPT.out⟩, ⟨HBb5.out.setCell (Nat.le_refl _) _⟩⟩, by first | (simp [intOf]; done) | (simp [intOf]; omega)⟩
    · have hd : ¬ (k : Int) < l.length := by omega
      obtain rfl : k = l.length := by omega
      rw [bOf_ref] at HX
      obtain ⟨Ax, cx, rfl⟩ := Kd.R_slice HX.out
      go_wp2
      go_ret
      exact ⟨_, rfl, HX.out, HB.out⟩
end Go.Proofs.YtbpgoddohhiohaaDoor
