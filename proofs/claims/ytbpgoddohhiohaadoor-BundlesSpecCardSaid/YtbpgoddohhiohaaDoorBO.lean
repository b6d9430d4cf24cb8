/- bundles.Of: what it computes. -/
import Derived.Test.YtbpgoddohhiohaaDoorSR
import Derived.Test.YtbpgoddohhiohaaDoorBA
namespace Go.Proofs.YtbpgoddohhiohaaDoor
open Go.RowKit Go.Proofs.YtbpgoddohhiohaaDoorW.PrintWords
set_option linter.unusedVariables false
set_option linter.unusedSimpArgs false

theorem ibeq_comm (a b : Int) : (a == b) = (b == a) := by rw [Bool.eq_iff_iff]; simp only [beq_iff_eq]; exact eq_comm
def SetRep (L : List (Int × Value)) (p : Int → Bool) : Prop := ∀ n, lookI L n = if p n = true then some (.bool true) else none
theorem zeroBool (w : World) : (zeroValue 4).run Tryd.prog w = .ok (.bool false) w := by kernel_rfl
theorem set_look {w : World} {b : Nat} {L : List (Int × Value)} {p : Int → Bool} (hM : MapI w b L) (hS : SetRep L p) (q : Int) :
    (Instr.lookup 53 (.map (some b)) (.int .i64 q) false).run Tryd.prog w = .ok (.bool (p q)) w := by
  have h := hM.look (P := Tryd.prog) Tryd.underlying53 Tryd.underlying3 (zeroBool w) q false
  rw [if_neg (by simp), hS q] at h
  rw [h]
  cases p q <;> rfl
theorem SetRep.add {L : List (Int × Value)} {p p' : Int → Bool} (hS : SetRep L p) (k : Int) (h : ∀ n, p' n = (p n || n == k)) : SetRep (updI L k (.bool true)) p' := fun n => by
  rw [lookI_upd, h]
  by_cases hn : n = k
  · simp [hn]
  · rw [if_neg hn, hS n]; simp [hn]
def owns (taken : List S47) (st n : Int) : Bool := taken.any fun t => t.f0 == st && t.f1 == n
def oSel (l : List S34) (taken : List S47) (st term : Int) (i : Nat) : Bool := !((l.take i).any fun s => s.f0 == (rd_T34 l i).f0) && ((rd_T34 l i).f2 == term && (!(rd_T34 l i).f8 && owns taken st (rd_T34 l i).f0))
def oBun (taken : List S47) (st : Int) (s : S34) : S24 := ⟨s.f0, if s.f7.any (owns taken st) then rdOf 0 s.f7 (fIdx (owns taken st) s.f7) else -1⟩
def oOne (l : List S34) (taken : List S47) (st term : Int) (i : Nat) : Option S24 := if oSel l taken st term i = true then some (oBun taken st (rd_T34 l i)) else none
def oUpto (l : List S34) (taken : List S47) (st term : Int) (k : Nat) : List S24 := (List.range k).filterMap (oOne l taken st term)
theorem oUpto_succ (l : List S34) (taken : List S47) (st term : Int) (k : Nat) : oUpto l taken st term (k + 1) = if oSel l taken st term k = true then oUpto l taken st term k ++ [oBun taken st (rd_T34 l k)] else oUpto l taken st term k := by
  unfold oUpto
  rw [List.range_succ, List.filterMap_append]
  by_cases h : oSel l taken st term k = true
  · rw [if_pos h]; simp [oOne, h]
  · rw [if_neg h]; simp [oOne, h]
theorem oUpto_len (l : List S34) (taken : List S47) (st term : Int) (k : Nat) : (oUpto l taken st term k).length ≤ k := by
  unfold oUpto
  have := List.length_filterMap_le (oOne l taken st term) (List.range k)
  simpa using this
def bOf (l : List S34) (taken : List S47) (st term : Int) : List S24 := sortB (oUpto l taken st term l.length)
theorem R_map {α : Type} {d : Kd α} {W w2 : World} {b base e : Nat} {M : List (Int × Value)} {v : Value} {xs : List α} (hM : MapI W b M) (hR : d.R e W base (fun _ => True) v xs) (hg : W.grownBy w2 (some b)) : d.R e w2 base (fun _ => True) v xs :=
  Kd.R_mono (Kd.R_step (Kd.R_bound hR) (fun k hk hlt => hg.block k hlt (fun e => by
    obtain ⟨_, _, _, q, hq, cells, hcc⟩ := hk
    obtain ⟨es, clock, hb, _⟩ := hM
    injection e with e
    subst e
    rw [hcc] at hb; cases hb))) (fun _ _ => trivial)

theorem of1_calls (n : Int) (bm b : Nat) (L : List (Int × Value)) (p : Int → Bool) (w : World) (hm : w.cell? ⟨bm, 0, none⟩ = some (.map (some b))) (hM : MapI w b L) (hL : SetRep L p) :
    Calls Tryd.prog 38 #[.int .i64 n, .pointer (some ⟨bm, 0, none⟩)] w fun e w' => e = .returned (.bool (p n)) ∧ Below w.heap.size w w' := by
  have hlook := set_look hM hL n
  clear hM hL
  go_enter Tryd.func38, Tryd.ntmps38
  go_wp2
  go_ret
  exact ⟨rfl, Below.refl _ _⟩

set_option maxRecDepth 100000 in
set_option maxHeartbeats 16000000 in
theorem bof_calls (A : Option Addr) (c : Nat) (l : List S34) (B : Option Addr) (d : Nat) (taken : List S47) (st term : Int) (w : World) (hr : k34.C w A l.length l) (hrt : k47.C w B taken.length taken) (h10 : l.length ≤ 12) :
    Calls Tryd.prog 22 #[.slice A l.length c, .slice B taken.length d, .int .i64 st, .int .i64 term] w fun e w' => ∃ v, e = .returned v ∧ k24.R 24 w' w.heap.size (fun _ => True) v (bOf l taken st term) ∧ Below w.heap.size w w' := by
  have hmax := Kd.C_max hr
  have hmaxt := Kd.C_max hrt
  have HR := Aside0.mk hr; have HT := Aside0.mk hrt; clear hr hrt
  have HS := Aside0.mk (show bOf l taken st term = sortB (oUpto l taken st term l.length) from rfl)
  have hmm := @run_makeMap Tryd.prog
  have hb0 := ((Below.refl _ w).alloc (Nat.le_refl _) (.map #[] 0)).alloc (by simp) (.cells #[.map (some w.heap.size)] 53)
  have hM0 := (MapI.made w).alloc (.cells #[.map (some w.heap.size)] 53)
  have hk0 : ((w.alloc (.map #[] 0)).alloc (.cells #[.map (some w.heap.size)] 53)).heap[w.heap.size + 1]? = some (.cells #[.map (some w.heap.size)] 53 (0, 0)) := by
    have := new_blk (w.alloc (.map #[] 0)) (.cells #[.map (some w.heap.size)] 53)
    rwa [World.size_alloc] at this
  have H0 := Aside0.mk hb0; have HM0 := Aside0.mk hM0; have HK0 := Aside0.mk hk0
  clear hb0 hM0 hk0
  go_enter Tryd.func22, Tryd.ntmps22
  go_wp2
  go_loopw [20] (fun i wr => ∃ (k : Nat) (L : List (Int × Value)), k ≤ taken.length ∧ i = .int .i64 k ∧ Aside0 (MapI wr w.heap.size L) ∧ Aside0 (SetRep L (owns (taken.take k) st)) ∧ Aside0 (wr.heap[w.heap.size + 1]? = some (.cells #[.map (some w.heap.size)] 53 (0, 0))) ∧ Aside0 (Below w.heap.size w wr)) (fun i _ => taken.length - (intOf i).toNat)
  case atStart => exact ⟨0, [], Nat.zero_le _, rfl, HM0, ⟨fun n => by simp [owns, lookI]⟩, HK0, H0⟩
  case round =>
    clear HM0 HK0 H0
    obtain ⟨k, L, hk, rfl, HM, HL, Hbx, HB⟩ := hrel
    by_cases hlt : k < taken.length
    · have hd : (k : Int) < taken.length := by omega
      clear hmm
      obtain ⟨ad, rfl, hx0, hx1, hx2⟩ := at_T47 (Kd.C_below HT.out HB.out) k (by omega) (by omega)
      simp only [Int.toNat_natCast] at hx0 hx1 hx2
      have how : ∀ n, owns (taken.take (k + 1)) st n = (owns (taken.take k) st n || ((rd_T47 taken k).f0 == st && (rd_T47 taken k).f1 == n)) := fun n => by
        rw [take_snoc' taken z47 k hlt, show taken.getD k z47 = rd_T47 taken k from by simp [rd_T47]]
        simp [owns]
      generalize rd_T47 taken k = t at hx0 hx1 hx2 how
      have HOW := Aside0.mk how; clear how
      have hbk := new_blk wr (.cells #[.int .i64 t.f0, .int .i64 t.f1, .int .i64 t.f2] 47)
      have hbx2 := blk_alloc Hbx.out (.cells #[.int .i64 t.f0, .int .i64 t.f1, .int .i64 t.f2] 47)
      have HMa := Aside0.mk (HM.out.alloc (.cells #[.int .i64 t.f0, .int .i64 t.f1, .int .i64 t.f2] 47))
      have HBa := Aside0.mk (HB.out.alloc HB.out.size (.cells #[.int .i64 t.f0, .int .i64 t.f1, .int .i64 t.f2] 47))
      have hzm := (blk_cell hbx2 0).trans rfl
      have Hbx2 := Aside0.mk hbx2; clear hbx2 hbk
      cases hst : (t.f0 == st) with
      | true =>
        go_wp2_with (at_mapUpdate; go_must (refine wpList_storeI rfl _ _ _ 53 rfl 3 4 Tryd.underlying53 Tryd.underlying3 w.heap.size L rfl HMa.out _ _ rfl rfl ?_; intro w2 hM2 hg2; have HM2 := Aside0.mk hM2; have HG2 := Aside0.mk hg2; clear hM2 hg2))
        go_roundw
        case rel => exact ⟨k + 1, _, by omega, by go_num, HM2, ⟨HL.out.add _ (fun n => by rw [HOW.out, hst, Bool.true_and, ibeq_comm])⟩, ⟨blk_grown Hbx2.out HG2.out (by simp)⟩, ⟨HBa.out.grown HG2.out HBa.out.size (fun j e => by cases e; exact Nat.le_refl _)⟩⟩
        case measure => simp [intOf]; omega
      | false =>
        go_wp2
        go_roundw
        case rel => exact ⟨k + 1, _, by omega, by go_num, HMa, ⟨fun n => by rw [HOW.out, hst]; simp [HL.out n]⟩, Hbx2, HBa⟩
        case measure => simp [intOf]; omega
    · have hd : ¬ (k : Int) < taken.length := by omega
      obtain rfl : k = taken.length := by omega
      have hll := HL.out
      rw [List.take_of_length_le (Nat.le_refl _)] at hll
      have HLL := Aside0.mk hll; clear hll HL
      go_wp2
      clear hmm hd
      obtain ⟨wo, rfl⟩ : ∃ wo : World, wo = wr := ⟨_, rfl⟩
      have Hb1 := Aside0.mk ((Below.refl wo.heap.size wo).alloc (Nat.le_refl _) (.map #[] 0))
      have HM1 := Aside0.mk (MapI.made wo)
      go_loopw [8, 35] (fun x i wr => ∃ (k : Nat) (M : List (Int × Value)), k ≤ l.length ∧ i = .int .i64 k ∧ Aside0 (MapI wr wo.heap.size M) ∧ Aside0 (SetRep M (fun n => (l.take k).any fun s => s.f0 == n)) ∧ Aside0 (k24.R 24 wr wo.heap.size (fun _ => True) x (oUpto l taken st term k)) ∧ Aside0 (Below wo.heap.size wo wr)) (fun _ i _ => l.length - (intOf i).toNat)
      case atStart => exact ⟨0, [], Nat.zero_le _, rfl, HM1, ⟨fun n => by simp [lookI]⟩, ⟨Kd.R_nil _ _ _ _ _⟩, Hb1⟩
      case round =>
        clear HM1 Hb1
        obtain ⟨k, M, hk, rfl, HMM, HSM, HX, HBo⟩ := hrel
        have HBw := Aside0.mk (below_tr HB.out HBo.out)
        by_cases hlt : k < l.length
        · have hd : (k : Int) < l.length := by omega
          obtain ⟨ad, A5, c5, A6, c6, A7, c7, rfl, hx0, hx1, hx2, hx3, hx4, hx5, hx6, hx7, hx8, l5, g5, l6, g6, l7, g7⟩ := at_T34 HR.out k (by omega) (by omega)
          simp only [Int.toNat_natCast] at hx0 hx1 hx2 hx3 hx4 hx5 hx6 hx7 hx8
          replace hx0 := cell_low HBw.out hx0; replace hx1 := cell_low HBw.out hx1; replace hx2 := cell_low HBw.out hx2; replace hx3 := cell_low HBw.out hx3; replace hx4 := cell_low HBw.out hx4
          replace hx5 := cell_low HBw.out hx5; replace hx6 := cell_low HBw.out hx6; replace hx7 := cell_low HBw.out hx7; replace hx8 := cell_low HBw.out hx8
          have G7 := Aside0.mk g7
          clear g5 g6 g7 l5 l6 l7
          have hsel : oSel l taken st term k = (!((l.take k).any fun s => s.f0 == (rd_T34 l k).f0) && ((rd_T34 l k).f2 == term && (!(rd_T34 l k).f8 && owns taken st (rd_T34 l k).f0))) := rfl
          have hup := oUpto_succ l taken st term k
          have hmt : ∀ n, ((l.take (k + 1)).any fun s => s.f0 == n) = (((l.take k).any fun s => s.f0 == n) || (rd_T34 l k).f0 == n) := fun n => by
            rw [take_snoc' l z34 k hlt, show l.getD k z34 = rd_T34 l k from by simp [rd_T34]]
            simp
          generalize oSel l taken st term k = sel at hsel hup
          generalize rd_T34 l k = s at hx0 hx1 hx2 hx3 hx4 hx5 hx6 hx7 hx8 hsel hup hmt G7
          generalize hmp : (fun n : Int => (l.take k).any fun s => s.f0 == n) = mp at HSM
          have hmp2 : ∀ n, ((l.take k).any fun s => s.f0 == n) = mp n := fun n => by rw [← hmp]
          have HMT := Aside0.mk (show ∀ n, ((l.take (k + 1)).any fun s => s.f0 == n) = (mp n || s.f0 == n) from fun n => by rw [hmt, hmp2])
          have HSEL := Aside0.mk (show sel = (!(mp s.f0) && (s.f2 == term && (!s.f8 && owns taken st s.f0))) by rw [hsel, hmp2])
          have HUP := Aside0.mk hup
          clear hsel hup hmt hmp hmp2
          have Hbk := Aside0.mk (new_blk wr (.cells #[.int .i64 s.f0, .int .i64 s.f1, .int .i64 s.f2, .int .i64 s.f3, .int .i64 s.f4, .slice A5 s.f5.length c5, .slice A6 s.f6.length c6, .slice A7 s.f7.length c7, .bool s.f8] 34))
          have HBa := Aside0.mk ((Below.refl wr.heap.size wr).alloc (Nat.le_refl _) (.cells #[.int .i64 s.f0, .int .i64 s.f1, .int .i64 s.f2, .int .i64 s.f3, .int .i64 s.f4, .slice A5 s.f5.length c5, .slice A6 s.f6.length c6, .slice A7 s.f7.length c7, .bool s.f8] 34))
          have HMa := Aside0.mk (HMM.out.below HBa.out)
          have hlook := set_look HMa.out HSM.out s.f0
          have hsl := blk_lt Hbk.out
          have hblt := HMM.out.lt
          cases hmf : mp s.f0 with
          | true =>
            rw [hmf] at hlook
            have HUP2 := Aside0.mk (show oUpto l taken st term (k + 1) = oUpto l taken st term k by rw [HUP.out, HSEL.out, hmf]; simp)
            go_wp2
            go_roundw
            case rel => exact ⟨k + 1, M, by omega, by go_num, HMa, ⟨fun n => by
              rw [HSM.out n]
              show _ = if ((l.take (k + 1)).any fun s => s.f0 == n) = true then _ else _
              rw [HMT.out n]
              by_cases hn : s.f0 = n
              · subst hn; rw [hmf]; rfl
              · simp [hn]⟩, ⟨by rw [HUP2.out]; exact Kd.R_below HX.out HBa.out⟩, ⟨below_tr HBo.out HBa.out⟩⟩
            case measure => simp [intOf]; omega
          | false =>
            rw [hmf] at hlook
            have HBXa := Aside0.mk (blk_alloc (blk_low HBo.out Hbx.out) (.cells #[.int .i64 s.f0, .int .i64 s.f1, .int .i64 s.f2, .int .i64 s.f3, .int .i64 s.f4, .slice A5 s.f5.length c5, .slice A6 s.f6.length c6, .slice A7 s.f7.length c7, .bool s.f8] 34))
            have HMo := Aside0.mk ((HM.out.below HBo.out).below HBa.out)
            have hwo := HM.out.lt
            have hbo := blk_lt Hbx.out
            have hown : owns taken st s.f0 = owns taken st s.f0 := rfl
            cases ht : (s.f2 == term) with
            | false =>
              have ht2 : (s.f2 != term) = true := by simp [bne, ht]
              have HUP2 := Aside0.mk (show oUpto l taken st term (k + 1) = oUpto l taken st term k by rw [HUP.out, HSEL.out]; simp [hmf, ht])
              go_wp2_with (at_mapUpdate; go_must (refine wpList_storeI rfl _ _ _ 53 rfl 3 4 Tryd.underlying53 Tryd.underlying3 wo.heap.size M rfl HMa.out _ _ rfl rfl ?_; intro w2 hM2 hg2; have HM2 := Aside0.mk hM2; have HG2 := Aside0.mk hg2; clear hM2 hg2; have hbk2 := blk_grown Hbk.out HG2.out (by simp; omega); have z0 := (blk_cell hbk2 0).trans rfl; have z2 := (blk_cell hbk2 2).trans rfl; have z7 := (blk_cell hbk2 7).trans rfl; have z8 := (blk_cell hbk2 8).trans rfl; have HK2 := Aside0.mk hbk2; have hzb := blk_grown HBXa.out HG2.out (by simp; omega); have zm := (blk_cell hzb 0).trans rfl; have HZB := Aside0.mk hzb; have HMo2 := Aside0.mk (HMo.out.grown HG2.out (by simp; omega)); have hlook2 := set_look HMo2.out HLL.out s.f0; rw [hown] at hlook2; have HX2 := Aside0.mk (R_map HMa.out (Kd.R_below HX.out HBa.out) HG2.out); have HB2 := Aside0.mk ((below_tr HBo.out HBa.out).grown HG2.out (below_tr HBo.out HBa.out).size (fun j e => by cases e; exact Nat.le_refl _)); have HB2w := Aside0.mk (below_tr HB.out HB2.out); clear hbk2 hzb; skip))
              go_roundw
              case rel => exact ⟨k + 1, _, by omega, by go_num, HM2, ⟨HSM.out.add s.f0 (fun n => by
                show ((l.take (k + 1)).any fun s => s.f0 == n) = _
                rw [HMT.out n, ibeq_comm])⟩, ⟨by rw [HUP2.out]; exact HX2.out⟩, HB2⟩
              case measure => simp [intOf]; omega
            | true =>
              have ht2 : (s.f2 != term) = false := by simp [bne, ht]
              cases h8 : s.f8 with
              | true =>
                rw [h8] at hx8 Hbk HBa HBXa HMa HMo hlook
                have HUP2 := Aside0.mk (show oUpto l taken st term (k + 1) = oUpto l taken st term k by rw [HUP.out, HSEL.out]; simp [hmf, ht, h8])
                go_wp2_with (at_mapUpdate; go_must (refine wpList_storeI rfl _ _ _ 53 rfl 3 4 Tryd.underlying53 Tryd.underlying3 wo.heap.size M rfl HMa.out _ _ rfl rfl ?_; intro w2 hM2 hg2; have HM2 := Aside0.mk hM2; have HG2 := Aside0.mk hg2; clear hM2 hg2; have hbk2 := blk_grown Hbk.out HG2.out (by simp; omega); have z0 := (blk_cell hbk2 0).trans rfl; have z2 := (blk_cell hbk2 2).trans rfl; have z7 := (blk_cell hbk2 7).trans rfl; have z8 := (blk_cell hbk2 8).trans rfl; have HK2 := Aside0.mk hbk2; have hzb := blk_grown HBXa.out HG2.out (by simp; omega); have zm := (blk_cell hzb 0).trans rfl; have HZB := Aside0.mk hzb; have HMo2 := Aside0.mk (HMo.out.grown HG2.out (by simp; omega)); have hlook2 := set_look HMo2.out HLL.out s.f0; rw [hown] at hlook2; have HX2 := Aside0.mk (R_map HMa.out (Kd.R_below HX.out HBa.out) HG2.out); have HB2 := Aside0.mk ((below_tr HBo.out HBa.out).grown HG2.out (below_tr HBo.out HBa.out).size (fun j e => by cases e; exact Nat.le_refl _)); have HB2w := Aside0.mk (below_tr HB.out HB2.out); clear hbk2 hzb; skip))
                go_roundw
                case rel => exact ⟨k + 1, _, by omega, by go_num, HM2, ⟨HSM.out.add s.f0 (fun n => by
                  show ((l.take (k + 1)).any fun s => s.f0 == n) = _
                  rw [HMT.out n, ibeq_comm])⟩, ⟨by rw [HUP2.out]; exact HX2.out⟩, HB2⟩
                case measure => simp [intOf]; omega
              | false =>
                rw [h8] at hx8 Hbk HBa HBXa HMa HMo hlook
                clear hown
                cases hown : owns taken st s.f0 with
                | false =>
                  have HUP2 := Aside0.mk (show oUpto l taken st term (k + 1) = oUpto l taken st term k by rw [HUP.out, HSEL.out]; simp [hmf, ht, h8, hown])
                  go_wp2_with (at_mapUpdate; go_must (refine wpList_storeI rfl _ _ _ 53 rfl 3 4 Tryd.underlying53 Tryd.underlying3 wo.heap.size M rfl HMa.out _ _ rfl rfl ?_; intro w2 hM2 hg2; have HM2 := Aside0.mk hM2; have HG2 := Aside0.mk hg2; clear hM2 hg2; have hbk2 := blk_grown Hbk.out HG2.out (by simp; omega); have z0 := (blk_cell hbk2 0).trans rfl; have z2 := (blk_cell hbk2 2).trans rfl; have z7 := (blk_cell hbk2 7).trans rfl; have z8 := (blk_cell hbk2 8).trans rfl; have HK2 := Aside0.mk hbk2; have hzb := blk_grown HBXa.out HG2.out (by simp; omega); have zm := (blk_cell hzb 0).trans rfl; have HZB := Aside0.mk hzb; have HMo2 := Aside0.mk (HMo.out.grown HG2.out (by simp; omega)); have hlook2 := set_look HMo2.out HLL.out s.f0; rw [hown] at hlook2; have HX2 := Aside0.mk (R_map HMa.out (Kd.R_below HX.out HBa.out) HG2.out); have HB2 := Aside0.mk ((below_tr HBo.out HBa.out).grown HG2.out (below_tr HBo.out HBa.out).size (fun j e => by cases e; exact Nat.le_refl _)); have HB2w := Aside0.mk (below_tr HB.out HB2.out); clear hbk2 hzb; skip))
                  go_roundw
                  case rel => exact ⟨k + 1, _, by omega, by go_num, HM2, ⟨HSM.out.add s.f0 (fun n => by
                    show ((l.take (k + 1)).any fun s => s.f0 == n) = _
                    rw [HMT.out n, ibeq_comm])⟩, ⟨by rw [HUP2.out]; exact HX2.out⟩, HB2⟩
                  case measure => simp [intOf]; omega
                | true =>
                  have HUP2 := Aside0.mk (show oUpto l taken st term (k + 1) = oUpto l taken st term k ++ [oBun taken st s] by rw [HUP.out, HSEL.out]; simp [hmf, ht, h8, hown])
                  obtain ⟨X, hX⟩ : ∃ X, oUpto l taken st term k = X := ⟨_, rfl⟩
                  rw [hX] at HUP2 HX
                  have hXl : X.length ≤ 12 := by rw [← hX]; exact Nat.le_trans (oUpto_len l taken st term k) (by omega)
                  have HXL := Aside0.mk hXl
                  clear hX hXl HUP
                  obtain ⟨Ax, cx, rfl⟩ := Kd.R_slice HX.out
                  go_wp2_with (at_mapUpdate; go_must (refine wpList_storeI rfl _ _ _ 53 rfl 3 4 Tryd.underlying53 Tryd.underlying3 wo.heap.size M rfl HMa.out _ _ rfl rfl ?_; intro w2 hM2 hg2; have HM2 := Aside0.mk hM2; have HG2 := Aside0.mk hg2; clear hM2 hg2; have hbk2 := blk_grown Hbk.out HG2.out (by simp; omega); have z0 := (blk_cell hbk2 0).trans rfl; have z2 := (blk_cell hbk2 2).trans rfl; have z7 := (blk_cell hbk2 7).trans rfl; have z8 := (blk_cell hbk2 8).trans rfl; have HK2 := Aside0.mk hbk2; have hzb := blk_grown HBXa.out HG2.out (by simp; omega); have zm := (blk_cell hzb 0).trans rfl; have HZB := Aside0.mk hzb; have HMo2 := Aside0.mk (HMo.out.grown HG2.out (by simp; omega)); have hlook2 := set_look HMo2.out HLL.out s.f0; rw [hown] at hlook2; have HX2 := Aside0.mk (R_map HMa.out (Kd.R_below HX.out HBa.out) HG2.out); have HB2 := Aside0.mk ((below_tr HBo.out HBa.out).grown HG2.out (below_tr HBo.out HBa.out).size (fun j e => by cases e; exact Nat.le_refl _)); have HB2w := Aside0.mk (below_tr HB.out HB2.out); clear hbk2 hzb; have z7a : ∀ o : Obj, (w2.alloc o).cell? ⟨wr.heap.size, 7, none⟩ = some (.slice A7 s.f7.length c7) := fun o => (blk_cell (blk_alloc HK2.out o) 7).trans rfl))
                  have hBb := (Below.refl w2.heap.size w2).alloc (Nat.le_refl _) (.cells #[.int .i64 s.f0, .int .i64 (-1)] 24)
                  have hCi := idx_Int (owns taken st) 38 #[] #[.pointer (some ⟨w.heap.size + 1, 0, none⟩)] (enters_of Tryd.func38 (by kernel_rfl) rfl) A7 c7 s.f7 (w2.alloc (.cells #[.int .i64 s.f0, .int .i64 (-1)] 24)) (fun W x _ hb => of1_calls x (w.heap.size + 1) w.heap.size L (owns taken st) W ((blk_cell (blk_low hb (blk_alloc HZB.out _)) 0).trans rfl) ((HMo2.out.alloc _).below hb) HLL.out) (Kd.C_below G7.out (below_tr HB2w.out hBb))
                  refine hCi.mono ?_
                  rintro e w3 ⟨rfl, hb3⟩
                  have hBn := blk_low hb3 (new_blk w2 (.cells #[.int .i64 s.f0, .int .i64 (-1)] 24))
                  have hS3 := blk_low hb3 (blk_alloc HK2.out (.cells #[.int .i64 s.f0, .int .i64 (-1)] 24))
                  have HBn := Aside0.mk hBn
                  have HB3x := Aside0.mk (below_tr hBb hb3)
                  have y7 := (blk_cell hS3 7).trans rfl
                  clear hBb hCi hb3 z7a z0 z2 z7 z8 hlook2 hlook zm
                  have HX3 := HX2; have HB3 := HB2; have HM3 := HM2
                  have HNE := Aside0.mk (show ∀ (v9 : Value) (w9 : World), some wo.heap.size ≠ (Value.slice Ax X.length cx).ownBlock from fun v9 w9 e => by
                    obtain ⟨inner, ho⟩ := Kd.R_own HX3.out
                    obtain ⟨cells, hc⟩ := own_typed ho wo.heap.size e.symm
                    obtain ⟨es, clock, hb, _⟩ := HM3.out
                    rw [hc] at hb; cases hb)
                  cases hany : s.f7.any (owns taken st) with
                  | false =>
                    have hbu : oBun taken st s = ⟨s.f0, -1⟩ := by unfold oBun; rw [hany]; simp
                    rw [hbu] at HUP2
                    rw [show fIdx (owns taken st) s.f7 = -1 by unfold fIdx; rw [hany]; simp]
                    have y0 := (blk_cell hBn 0).trans rfl; have y1 := (blk_cell hBn 1).trans rfl
                    clear hbu
                    go_wp2_with (at_builtin; go_must (refine Kd.R_append k24 (w0 := wo) wo.heap.size rfl (.tmp 76) (.tmp 78) 28 24 (.agg #[.int .i64 0, .int .i64 0]) 16 rfl Tryd.underlying28 info24 rfl (by decide) (by omega) (.slice Ax X.length cx) X ⟨s.f0, -1⟩ [.int .i64 s.f0, .int .i64 (-1)] (fun _ => True) (fun _ => False) rfl rfl (k24_mkM _ _ _ ⟨s.f0, -1⟩) (fun _ hk => hk.elim) (fun _ _ => trivial) (Kd.R_below HX3.out HB3x.out) (below_tr HB3.out HB3x.out) (below_tr HB3.out HB3x.out).size (by have := HXL.out; omega) ?_; rintro v9 w9 hR9 hB9 hg9 hat9; have HR9 := Aside0.mk hR9; have HB9 := Aside0.mk hB9; have HMz := Aside0.mk ((HM3.out.below HB3x.out).grown hg9 (HNE.out v9 w9)); clear hR9 hB9 hg9 hat9))
                    go_roundw
                    case rel => exact ⟨k + 1, _, by omega, by go_num, HMz, ⟨HSM.out.add s.f0 (fun n => by
                      show ((l.take (k + 1)).any fun s => s.f0 == n) = _
                      rw [HMT.out n, ibeq_comm])⟩, ⟨by rw [HUP2.out]; exact HR9.out⟩, HB9⟩
                    case measure => simp [intOf]; omega
                  | true =>
                    have hi0 : 0 ≤ fIdx (owns taken st) s.f7 := by have := fIdx_nonneg (owns taken st) s.f7; rw [hany] at this; simpa using this
                    have hi1 : fIdx (owns taken st) s.f7 < s.f7.length := by
                      unfold fIdx
                      rw [if_pos hany]
                      have := List.findIdx_lt_length_of_exists (p := owns taken st) (xs := s.f7) (by obtain ⟨x, hx, hp⟩ := List.any_eq_true.1 hany; exact ⟨x, hx, hp⟩)
                      omega
                    have hbu : oBun taken st s = ⟨s.f0, rdOf 0 s.f7 (fIdx (owns taken st) s.f7)⟩ := by unfold oBun; rw [hany]; simp
                    rw [hbu] at HUP2
                    generalize fIdx (owns taken st) s.f7 = i at hi0 hi1 HUP2
                    have hi2 : ¬ i < 0 := by omega
                    obtain ⟨a7, rfl, hx7'⟩ := (Kd.reads_of_C (d := (0 : Int)) (Kd.C_below G7.out (below_tr HB2w.out HB3x.out))).at_ i hi0 hi1
                    generalize rdOf 0 s.f7 i = lab at hx7' HUP2
                    have hfz := blk_frozen hBn 1
                    have hput := blk_put hBn 1 (.int .i64 lab) rfl
                    have y0 := (blk_cell hput 0).trans rfl; have y1 := (blk_cell hput 1).trans rfl
                    have yc := (blk_cell hBn 1).trans rfl
                    have HBq := Aside0.mk (HB3x.out.setCell (p := ⟨w2.heap.size, 1, none⟩) (Nat.le_refl _) (.int .i64 lab))
                    clear hput hbu
                    go_wp2_with (at_builtin; go_must (refine Kd.R_append k24 (w0 := wo) wo.heap.size rfl (.tmp 76) (.tmp 78) 28 24 (.agg #[.int .i64 0, .int .i64 0]) 16 rfl Tryd.underlying28 info24 rfl (by decide) (by omega) (.slice Ax X.length cx) X ⟨s.f0, lab⟩ [.int .i64 s.f0, .int .i64 (lab)] (fun _ => True) (fun _ => False) rfl (by rw [World.size_setCell]; rfl) (k24_mkM _ _ _ ⟨s.f0, lab⟩) (fun _ hk => hk.elim) (fun _ _ => trivial) (Kd.R_below HX3.out HBq.out) (below_tr HB3.out HBq.out) (below_tr HB3.out HBq.out).size (by have := HXL.out; omega) ?_; rintro v9 w9 hR9 hB9 hg9 hat9; have HR9 := Aside0.mk hR9; have HB9 := Aside0.mk hB9; have HMz := Aside0.mk ((HM3.out.below HBq.out).grown hg9 (HNE.out v9 w9)); clear hR9 hB9 hg9 hat9))
                    go_roundw
                    case rel => exact ⟨k + 1, _, by omega, by go_num, HMz, ⟨HSM.out.add s.f0 (fun n => by
                      show ((l.take (k + 1)).any fun s => s.f0 == n) = _
                      rw [HMT.out n, ibeq_comm])⟩, ⟨by rw [HUP2.out]; exact HR9.out⟩, HB9⟩
                    case measure => simp [intOf]; omega
        · have hd : ¬ (k : Int) < l.length := by omega
          obtain rfl : k = l.length := by omega
          have hso := Aside0.mk (sortR_calls _ (oUpto l taken st term l.length) wo.heap.size wr HX.out HBo.out.size (Nat.le_trans (oUpto_len _ _ _ _ _) h10))
          go_wp2_with fail
          refine hso.out.mono ?_
          rintro e w9 ⟨rfl, hR9, hB9⟩
          have HR9 := Aside0.mk hR9; have HB9 := Aside0.mk (hB9 wo HBo.out)
          clear hR9 hB9
          go_wp2
          go_ret
          exact ⟨_, rfl, by rw [HS.out]; exact Kd.R_lower HR9.out HB.out.size, below_then HB.out HB.out.size HB9.out⟩
end Go.Proofs.YtbpgoddohhiohaaDoor
