/- sections.check, CheckAll: what they compute. errors.errorType holds what start-up laid. -/
import Derived.Test.YtbpgoddohhiohaaDoorS
import Derived.Test.YtbpgoddohhiohaaDoorMC
import Derived.Test.YtbpgoddohhiohaaDoorE
import Derived.Test.YtbpgoddohhiohaaDoorI
import Derived.Test.YtbpgoddohhiohaaDoorK
namespace Go.Proofs.YtbpgoddohhiohaaDoor
open Go.RowKit Go.Proofs.YtbpgoddohhiohaaDoorW.PrintWords
set_option linter.unusedVariables false
set_option linter.unusedSimpArgs false

def sCheck (s : S34) : Int := if sForm s = false then 230 else mCheck s.f5

set_option maxHeartbeats 2000000 in
theorem scheck_calls (s : S34) (cs : List Value) (w : World) (hK : k34.K w s cs) :
    Calls Tryd.prog 66 #[.agg cs.toArray] w fun e w' => e = .returned (errV (sCheck s)) ∧ Below w.heap.size w w' := by
  have HF := Aside0.mk (fun W h => formed_calls s cs W h)
  have HK := Aside0.mk hK
  obtain ⟨A5, c5, A6, c6, A7, c7, rfl, l5, g5, _⟩ := k34_open hK
  have HM := Aside0.mk (fun W h => mcheck_calls A5 c5 s.f5 W h l5)
  have G5 := Aside0.mk g5
  clear hK g5 l5
  have hal := Aside0.mk (fun o => (Below.refl w.heap.size w).alloc (Nat.le_refl _) o)
  cases hf : sForm s with
  | false =>
    rw [hf] at HF
    have hs : errV (sCheck s) = .iface 99 (.agg #[.int .i64 230]) := by unfold sCheck errV; rw [if_pos hf]; rfl
    have HS := Aside0.mk hs; clear hs hf
    go_enter Tryd.func66, Tryd.ntmps66
    go_wp2_with fail
    refine (HF.out _ (k34.K_below (hal.out _) HK.out)).mono ?_
    rintro e w1 ⟨rfl, hb1⟩
    have B1 := Aside0.mk (below_tr (hal.out _) hb1); clear hb1
    go_wp2
    go_ret
    exact ⟨by rw [HS.out]; rfl, B1.out⟩
  | true =>
    rw [hf] at HF
    have hs : sCheck s = mCheck s.f5 := by unfold sCheck; rw [if_neg (by rw [hf]; simp)]
    rw [hs]
    clear hs hf
    by_cases hm : mCheck s.f5 = 0
    · rw [hm] at HM ⊢
      clear hm
      go_enter Tryd.func66, Tryd.ntmps66
      go_wp2_with fail
      refine (HF.out _ (k34.K_below (hal.out _) HK.out)).mono ?_
      rintro e w1 ⟨rfl, hb1⟩
      have B1 := Aside0.mk (below_tr (hal.out _) hb1)
      have hbk := blk_low hb1 (new_blk _ _)
      clear hb1
      have hz5 := (blk_cell hbk 5).trans rfl
      clear hbk
      go_wp2_with fail
      refine (HM.out _ (Kd.C_below G5.out B1.out)).mono ?_
      rintro e w2 ⟨rfl, hb2⟩
      have B2 := Aside0.mk (below_tr B1.out hb2); clear hb2
      go_wp2
      go_ret
      exact ⟨rfl, B2.out⟩
    · have hs : errV (mCheck s.f5) = .iface 99 (.agg #[.int .i64 (mCheck s.f5)]) := by unfold errV; rw [if_neg hm]
      have HS := Aside0.mk hs; clear hs
      have hm1 : (mCheck s.f5 != 0) = true := by simp [hm]
      have hm2 : (mCheck s.f5 == 0) = false := by simp [hm]
      clear hm
      go_enter Tryd.func66, Tryd.ntmps66
      go_wp2_with fail
      refine (HF.out _ (k34.K_below (hal.out _) HK.out)).mono ?_
      rintro e w1 ⟨rfl, hb1⟩
      have B1 := Aside0.mk (below_tr (hal.out _) hb1)
      have hbk := blk_low hb1 (new_blk _ _)
      clear hb1
      have hz5 := (blk_cell hbk 5).trans rfl
      clear hbk
      go_wp2_with fail
      refine (HM.out _ (Kd.C_below G5.out B1.out)).mono ?_
      rintro e w2 ⟨rfl, hb2⟩
      have B2 := Aside0.mk (below_tr B1.out hb2); clear hb2
      go_wp2
      go_ret
      exact ⟨by rw [HS.out]; rfl, B2.out⟩

/-- The map of labs, as a function of the ID. -/
def LabRep (w : World) (L : List (Int × Value)) (lab : Int → Option S34) : Prop := ∀ n, (lookI L n = none ∧ lab n = none) ∨ ∃ s cs, lookI L n = some (.agg cs.toArray) ∧ lab n = some s ∧ k34.K w s cs
theorem LabRep.below {w w' : World} {L : List (Int × Value)} {lab : Int → Option S34} (h : LabRep w L lab) (hb : Below w.heap.size w w') : LabRep w' L lab := fun n => by
  rcases h n with h | ⟨s, cs, h1, h2, h3⟩
  · exact .inl h
  · exact .inr ⟨s, cs, h1, h2, k34.K_below hb h3⟩
def mis (lab : Int → Option S34) (s : S34) (n : Int) : Bool := match lab n with
  | none => true
  | some x => !(x.f1 == s.f1 && x.f2 == s.f2)
theorem zero34 (w : World) : (zeroValue 34).run Tryd.prog w = .ok (.agg #[.int .i64 0, .int .i64 0, .int .i64 0, .int .i64 0, .int .i64 0, .slice none 0 0, .slice none 0 0, .slice none 0 0, .bool false]) w := by kernel_rfl

set_option maxRecDepth 100000 in
set_option maxHeartbeats 2000000 in
theorem misfit_calls (n : Int) (bm b bs : Nat) (L : List (Int × Value)) (lab : Int → Option S34) (s : S34) (w : World) (hm : w.cell? ⟨bm, 0, none⟩ = some (.map (some b))) (hM : MapI w b L) (hL : LabRep w L lab)
    (h1 : w.cell? ⟨bs, 1, none⟩ = some (.int .i64 s.f1)) (h2 : w.cell? ⟨bs, 2, none⟩ = some (.int .i64 s.f2)) :
    Calls Tryd.prog 67 #[.int .i64 n, .pointer (some ⟨bm, 0, none⟩), .pointer (some ⟨bs, 0, none⟩)] w fun e w' => e = .returned (.bool (mis lab s n)) ∧ Below w.heap.size w w' := by
  have hal := fun o => (Below.refl w.heap.size w).alloc (Nat.le_refl _) o
  have ha1 : ∀ o : Obj, (w.alloc o).cell? ⟨bs, 1, none⟩ = some (.int .i64 s.f1) := fun o => cell_low (hal o) h1
  have ha2 : ∀ o : Obj, (w.alloc o).cell? ⟨bs, 2, none⟩ = some (.int .i64 s.f2) := fun o => cell_low (hal o) h2
  have HAL := Aside0.mk hal; clear hal
  have hlook := hM.look (P := Tryd.prog) Tryd.underlying102 Tryd.underlying3 (zero34 w) n true
  rw [if_pos rfl] at hlook
  rcases hL n with ⟨hn, hl⟩ | ⟨x, cs, hn, hl, hK⟩
  · rw [hn] at hlook
    simp only [Option.getD_none, Option.isSome_none] at hlook
    have hs : mis lab s n = true := by unfold mis; rw [hl]
    have HS := Aside0.mk hs; clear hs hl hn hL hM
    go_enter Tryd.func67, Tryd.ntmps67
    go_wp2
    go_ret
    exact ⟨by rw [HS.out]; rfl, HAL.out _⟩
  · obtain ⟨A5, c5, A6, c6, A7, c7, rfl, _⟩ := k34_open hK
    rw [hn] at hlook
    simp only [Option.getD_some, Option.isSome_some] at hlook
    have hs : mis lab s n = !(x.f1 == s.f1 && x.f2 == s.f2) := by unfold mis; rw [hl]
    have HS := Aside0.mk hs; clear hs hl hn hL hM hK
    go_enter Tryd.func67, Tryd.ntmps67
    go_wp2
    all_goals
      go_ret
      refine ⟨ret_bool ?_, HAL.out _⟩
      rw [HS.out, Bool.eq_iff_iff]
      simp_all

def sErr : List S34 → Int
  | [] => 0
  | s :: r => if sCheck s ≠ 0 then sCheck s else sErr r
theorem sErr_cons (s : S34) (r : List S34) : sErr (s :: r) = if sCheck s ≠ 0 then sCheck s else sErr r := rfl
def labF (l : List S34) (n : Int) : Option S34 := l.foldl (fun a s => if s.f8 && s.f0 == n then some s else a) none
theorem labF_snoc (l : List S34) (s : S34) (n : Int) : labF (l ++ [s]) n = if s.f8 && s.f0 == n then some s else labF l n := by simp [labF]
def sOrd (lab : Int → Option S34) : List S34 → Int → Bool
  | [], _ => true
  | s :: r, last => !(decide (s.f0 ≤ last) || s.f7.any (mis lab s)) && sOrd lab r s.f0
theorem sOrd_cons (lab : Int → Option S34) (s : S34) (r : List S34) (last : Int) : sOrd lab (s :: r) last = (!(decide (s.f0 ≤ last) || s.f7.any (mis lab s)) && sOrd lab r s.f0) := rfl
def sAll (l : List S34) : Int := if sErr l ≠ 0 then sErr l else if sOrd (labF l) l (-1) = true then 0 else 230
theorem take_snoc' {α : Type} (l : List α) (z : α) (k : Nat) (h : k < l.length) : l.take (k + 1) = l.take k ++ [l.getD k z] := by
  rw [List.take_succ_eq_append_getElem h]; simp [List.getElem?_eq_getElem h]

set_option maxRecDepth 100000 in
set_option maxHeartbeats 8000000 in
theorem scheckAll_calls (A : Option Addr) (c : Nat) (l : List S34) (w : World) (hr : k34.C w A l.length l) (hc : l.length ≤ c) :
    Calls Tryd.prog 54 #[.slice A l.length c] w fun e w' => e = .returned (errV (sAll l)) ∧ Below w.heap.size w w' := by
  have hmax := Kd.C_max hr
  have HR := Aside0.mk hr; clear hr
  have hmm := @run_makeMap Tryd.prog
  have hb0 := ((Below.refl _ w).alloc (Nat.le_refl _) (.map #[] 0)).alloc (by simp) (.cells #[.map (some w.heap.size)] 102)
  have hM0 := (MapI.made w).alloc (.cells #[.map (some w.heap.size)] 102)
  have hk0 : ((w.alloc (.map #[] 0)).alloc (.cells #[.map (some w.heap.size)] 102)).heap[w.heap.size + 1]? = some (.cells #[.map (some w.heap.size)] 102 (0, 0)) := by
    have := new_blk (w.alloc (.map #[] 0)) (.cells #[.map (some w.heap.size)] 102)
    rwa [World.size_alloc] at this
  have H0 := Aside0.mk hb0; have HM0 := Aside0.mk hM0; have HK0 := Aside0.mk hk0
  clear hb0 hM0 hk0
  go_enter Tryd.func54, Tryd.ntmps54
  go_wp2
  clear hmm
  go_loopw [14] (fun i wr => ∃ (k : Nat) (L : List (Int × Value)), k ≤ l.length ∧ i = .int .i64 k ∧ Aside0 (sErr (l.drop k) = sErr l) ∧ Aside0 (MapI wr w.heap.size L) ∧ Aside0 (LabRep w L (labF (l.take k))) ∧ Aside0 (wr.heap[w.heap.size + 1]? = some (.cells #[.map (some w.heap.size)] 102 (0, 0))) ∧ Aside0 (Below w.heap.size w wr)) (fun i _ => l.length - (intOf i).toNat)
  case atStart => exact ⟨0, [], Nat.zero_le _, rfl, ⟨rfl⟩, HM0, ⟨fun n => .inl ⟨rfl, rfl⟩⟩, HK0, H0⟩
  case round =>
    clear HM0 HK0 H0
    obtain ⟨k, L, hk, rfl, HE, HM, HL, Hbx, HB⟩ := hrel
    by_cases hlt : k < l.length
    · have hd : (k : Int) < l.length := by omega
      have hee := HE.out
      rw [drop_rd _ z34 k hlt, sErr_cons, show l.getD k z34 = rd_T34 l k from by simp [rd_T34]] at hee
      have HE2 := Aside0.mk hee; clear hee HE
      obtain ⟨ad, A5, c5, A6, c6, A7, c7, rfl, hx0, hx1, hx2, hx3, hx4, hx5, hx6, hx7, hx8, l5, g5, l6, g6, l7, g7⟩ := at_T34 HR.out k (by omega) (by omega)
      have hK := k34_mk w (rd_T34 l k) l5 g5 l6 g6 l7 g7
      simp only [Int.toNat_natCast] at hx0 hx1 hx2 hx3 hx4 hx5 hx6 hx7 hx8
      replace hx0 := cell_low HB.out hx0; replace hx1 := cell_low HB.out hx1; replace hx2 := cell_low HB.out hx2; replace hx3 := cell_low HB.out hx3; replace hx4 := cell_low HB.out hx4
      replace hx5 := cell_low HB.out hx5; replace hx6 := cell_low HB.out hx6; replace hx7 := cell_low HB.out hx7; replace hx8 := cell_low HB.out hx8
      have HK := Aside0.mk hK; clear hK
      have G7 := Aside0.mk g7; have L7 := Aside0.mk l7
      clear g5 g6 g7 l5 l6 l7
      have hcall := Aside0.mk (fun (W : World) (h : k34.K W (rd_T34 l k) [.int .i64 (rd_T34 l k).f0, .int .i64 (rd_T34 l k).f1, .int .i64 (rd_T34 l k).f2, .int .i64 (rd_T34 l k).f3, .int .i64 (rd_T34 l k).f4, .slice A5 (rd_T34 l k).f5.length c5, .slice A6 (rd_T34 l k).f6.length c6, .slice A7 (rd_T34 l k).f7.length c7, .bool (rd_T34 l k).f8]) => scheck_calls (rd_T34 l k) _ W h)
      have hbk := Aside0.mk (new_blk wr (.cells #[.int .i64 (rd_T34 l k).f0, .int .i64 (rd_T34 l k).f1, .int .i64 (rd_T34 l k).f2, .int .i64 (rd_T34 l k).f3, .int .i64 (rd_T34 l k).f4, .slice A5 (rd_T34 l k).f5.length c5, .slice A6 (rd_T34 l k).f6.length c6, .slice A7 (rd_T34 l k).f7.length c7, .bool (rd_T34 l k).f8] 34))
      by_cases h0 : sCheck (rd_T34 l k) = 0
      · rw [h0, show errV 0 = .nilIface from rfl] at hcall
        have HE3 := Aside0.mk (show sErr (l.drop (k + 1)) = sErr l by have := HE2.out; rwa [h0, if_neg (by simp)] at this)
        clear HE2 h0
        cases hf8 : (rd_T34 l k).f8 with
        | false =>
          rw [hf8] at hbk hx8 HK hcall
          go_wp2_with fail
          refine (hcall.out _ (k34.K_below (HB.out.alloc HB.out.size _) HK.out)).mono ?_
          rintro e w1 ⟨rfl, hb1⟩
          have hbk1 := blk_low hb1 hbk.out
          have hz8 := (blk_cell hbk1 8).trans rfl
          clear hbk1
          have HB1 := Aside0.mk (below_tr (HB.out.alloc HB.out.size _) hb1)
          have HM1 := Aside0.mk ((HM.out.alloc _).below hb1)
          have Hx1 := Aside0.mk (blk_low hb1 (blk_alloc Hbx.out _))
          clear hb1 HB HM Hbx
          go_wp2
          go_roundw
          case rel => exact ⟨k + 1, L, by omega, by go_num, HE3, HM1, ⟨fun n => by
            rw [take_snoc' l z34 k hlt, labF_snoc, show l.getD k z34 = rd_T34 l k from by simp [rd_T34], hf8]
            simp only [Bool.false_and, Bool.false_eq_true, if_false]
            exact HL.out n⟩, Hx1, HB1⟩
          case measure => simp [intOf]; omega
        | true =>
          rw [hf8] at hbk hx8 HK hcall
          go_wp2_with fail
          refine (hcall.out _ (k34.K_below (HB.out.alloc HB.out.size _) HK.out)).mono ?_
          rintro e w1 ⟨rfl, hb1⟩
          have hbk1 := blk_low hb1 hbk.out
          have hz0 := (blk_cell hbk1 0).trans rfl; have hz1 := (blk_cell hbk1 1).trans rfl; have hz2 := (blk_cell hbk1 2).trans rfl; have hz3 := (blk_cell hbk1 3).trans rfl; have hz4 := (blk_cell hbk1 4).trans rfl; have hz5 := (blk_cell hbk1 5).trans rfl; have hz6 := (blk_cell hbk1 6).trans rfl; have hz7 := (blk_cell hbk1 7).trans rfl; have hz8 := (blk_cell hbk1 8).trans rfl
          clear hbk1
          have HB1 := Aside0.mk (below_tr (HB.out.alloc HB.out.size _) hb1)
          have HM1 := Aside0.mk ((HM.out.alloc _).below hb1)
          have hx1' := blk_low hb1 (blk_alloc Hbx.out _)
          have hzm := (blk_cell hx1' 0).trans rfl
          have Hx1 := Aside0.mk hx1'
          clear hb1 HB HM Hbx hx1'
          go_wp2_with (at_mapUpdate; refine wpList_storeI rfl _ _ _ 102 rfl 3 34 Tryd.underlying102 Tryd.underlying3 w.heap.size L rfl HM1.out _ _ rfl rfl ?_; intro w2 hM2 hg2; have HM2 := Aside0.mk hM2; have HG2 := Aside0.mk hg2; clear hM2 hg2)
          go_roundw
          case rel => exact ⟨k + 1, _, by omega, by go_num, HE3, HM2, ⟨fun n => by
            rw [take_snoc' l z34 k hlt, labF_snoc, show l.getD k z34 = rd_T34 l k from by simp [rd_T34], hf8, lookI_upd]
            by_cases hn : n = (rd_T34 l k).f0
            · rw [if_pos hn, if_pos (by simp [hn])]
              exact .inr ⟨_, _, rfl, rfl, HK.out⟩
            · rw [if_neg hn, if_neg (by simp [Ne.symm hn])]
              exact HL.out n⟩, ⟨blk_grown Hx1.out HG2.out (by simp)⟩, ⟨HB1.out.grown HG2.out HB1.out.size (fun j e => by cases e; exact Nat.le_refl _)⟩⟩
          case measure => simp [intOf]; omega
      · have hs : sAll l = sCheck (rd_T34 l k) := by
          have hee := HE2.out
          rw [if_pos h0] at hee
          unfold sAll
          rw [← hee, if_pos h0]
        have he : errV (sCheck (rd_T34 l k)) = .iface 99 (.agg #[.int .i64 (sCheck (rd_T34 l k))]) := by unfold errV; rw [if_neg h0]
        have HS := Aside0.mk (show errV (sAll l) = .iface 99 (.agg #[.int .i64 (sCheck (rd_T34 l k))]) by rw [hs]; exact he)
        rw [he] at hcall
        clear HE2 h0 hs he
        go_wp2_with fail
        refine (hcall.out _ (k34.K_below (HB.out.alloc HB.out.size _) HK.out)).mono ?_
        rintro e w1 ⟨rfl, hb1⟩
        have HB1 := Aside0.mk (below_tr (HB.out.alloc HB.out.size _) hb1)
        clear hb1
        go_wp2
        go_ret
        exact ⟨by rw [HS.out]; rfl, HB1.out⟩
    · have hd : ¬ (k : Int) < l.length := by omega
      obtain rfl : k = l.length := by omega
      have hee := HE.out
      have hll := HL.out
      rw [List.drop_of_length_le (Nat.le_refl _)] at hee
      rw [List.take_of_length_le (Nat.le_refl _)] at hll
      have hsa : sAll l = if sOrd (labF l) l (-1) = true then 0 else 230 := by
        unfold sAll
        rw [← hee, if_neg (by simp [sErr])]
      have HSA := Aside0.mk hsa; have HLL := Aside0.mk hll
      clear hee hll hsa HE HL
      go_wp2
      obtain ⟨wo, rfl⟩ : ∃ wo : World, wo = wr := ⟨_, rfl⟩
      go_loopw [7, 32] (fun va i wr => ∃ (j : Nat) (last : Int), j ≤ l.length ∧ va = .int .i64 last ∧ i = .int .i64 j ∧ Aside0 (sOrd (labF l) (l.drop j) last = sOrd (labF l) l (-1)) ∧ Aside0 (MapI wr w.heap.size L) ∧ Aside0 (wr.heap[w.heap.size + 1]? = some (.cells #[.map (some w.heap.size)] 102 (0, 0))) ∧ Aside0 (Below w.heap.size w wr)) (fun _ i _ => l.length - (intOf i).toNat)
      case atStart => exact ⟨0, -1, Nat.zero_le _, rfl, rfl, ⟨rfl⟩, HM, Hbx, HB⟩
      case round =>
        clear HM Hbx HB hd
        obtain ⟨j, last, hj, rfl, rfl, HO, HM, Hbx, HB⟩ := hrel
        by_cases hlj : j < l.length
        · have hd : (j : Int) < l.length := by omega
          have hoo := HO.out
          rw [drop_rd _ z34 j hlj, sOrd_cons, show l.getD j z34 = rd_T34 l j from by simp [rd_T34]] at hoo
          have HO2 := Aside0.mk hoo; clear hoo HO
          obtain ⟨ad, A5, c5, A6, c6, A7, c7, rfl, hx0, hx1, hx2, hx3, hx4, hx5, hx6, hx7, hx8, l5, g5, l6, g6, l7, g7⟩ := at_T34 HR.out j (by omega) (by omega)
          simp only [Int.toNat_natCast] at hx0 hx1 hx2 hx3 hx4 hx5 hx6 hx7 hx8
          replace hx0 := cell_low HB.out hx0; replace hx1 := cell_low HB.out hx1; replace hx2 := cell_low HB.out hx2; replace hx3 := cell_low HB.out hx3; replace hx4 := cell_low HB.out hx4
          replace hx5 := cell_low HB.out hx5; replace hx6 := cell_low HB.out hx6; replace hx7 := cell_low HB.out hx7; replace hx8 := cell_low HB.out hx8
          have G7 := Aside0.mk g7
          clear g5 g6 g7 l5 l6 l7
          have hal := HB.out.alloc HB.out.size (.cells #[.int .i64 (rd_T34 l j).f0, .int .i64 (rd_T34 l j).f1, .int .i64 (rd_T34 l j).f2, .int .i64 (rd_T34 l j).f3, .int .i64 (rd_T34 l j).f4, .slice A5 (rd_T34 l j).f5.length c5, .slice A6 (rd_T34 l j).f6.length c6, .slice A7 (rd_T34 l j).f7.length c7, .bool (rd_T34 l j).f8] 34)
          have hbk := new_blk wr (.cells #[.int .i64 (rd_T34 l j).f0, .int .i64 (rd_T34 l j).f1, .int .i64 (rd_T34 l j).f2, .int .i64 (rd_T34 l j).f3, .int .i64 (rd_T34 l j).f4, .slice A5 (rd_T34 l j).f5.length c5, .slice A6 (rd_T34 l j).f6.length c6, .slice A7 (rd_T34 l j).f7.length c7, .bool (rd_T34 l j).f8] 34)
          have HAL := Aside0.mk hal
          by_cases hle : (rd_T34 l j).f0 ≤ last
          · have hs : errV (sAll l) = .iface 99 (.agg #[.int .i64 230]) := by
              rw [HSA.out, ← HO2.out]; simp [hle, errV]
            have HS := Aside0.mk hs; clear hs HO2 hal hbk
            go_wp2
            go_ret
            exact ⟨by rw [HS.out]; rfl, HAL.out⟩
          · have hcall := has_Int (mis (labF l) (rd_T34 l j)) 67 #[] #[.pointer (some ⟨w.heap.size + 1, 0, none⟩), .pointer (some ⟨wr.heap.size, 0, none⟩)] (enters_of Tryd.func67 (by kernel_rfl) rfl) A7 c7 (rd_T34 l j).f7 (wr.alloc (.cells #[.int .i64 (rd_T34 l j).f0, .int .i64 (rd_T34 l j).f1, .int .i64 (rd_T34 l j).f2, .int .i64 (rd_T34 l j).f3, .int .i64 (rd_T34 l j).f4, .slice A5 (rd_T34 l j).f5.length c5, .slice A6 (rd_T34 l j).f6.length c6, .slice A7 (rd_T34 l j).f7.length c7, .bool (rd_T34 l j).f8] 34)) (fun W x _ hb => by
              have hbw := below_tr hal hb
              have hb3 := blk_low hb (blk_alloc Hbx.out (.cells #[.int .i64 (rd_T34 l j).f0, .int .i64 (rd_T34 l j).f1, .int .i64 (rd_T34 l j).f2, .int .i64 (rd_T34 l j).f3, .int .i64 (rd_T34 l j).f4, .slice A5 (rd_T34 l j).f5.length c5, .slice A6 (rd_T34 l j).f6.length c6, .slice A7 (rd_T34 l j).f7.length c7, .bool (rd_T34 l j).f8] 34))
              have hb4 := blk_low hb hbk
              exact misfit_calls x (w.heap.size + 1) w.heap.size wr.heap.size L (labF l) (rd_T34 l j) W ((blk_cell hb3 0).trans rfl) ((HM.out.alloc _).below hb) (LabRep.below HLL.out hbw) ((blk_cell hb4 1).trans rfl) ((blk_cell hb4 2).trans rfl)) (Kd.C_below G7.out hal)
            have HC := Aside0.mk hcall
            have Hbk := Aside0.mk hbk
            clear hcall hal hbk
            cases hany : (rd_T34 l j).f7.any (mis (labF l) (rd_T34 l j)) with
            | true =>
              rw [hany] at HC
              have hs : errV (sAll l) = .iface 99 (.agg #[.int .i64 230]) := by
                rw [HSA.out, ← HO2.out]; simp [hany, errV]
              have HS := Aside0.mk hs; clear hs HO2 hany
              go_wp2_with (go_at_call 68; refine HC.out.mono ?_; rintro e w1 ⟨rfl, hb1⟩; have HB1 := Aside0.mk (below_tr HAL.out hb1); clear hb1)
              go_ret
              exact ⟨by rw [HS.out]; rfl, HB1.out⟩
            | false =>
              rw [hany] at HC
              have HO3 := Aside0.mk (show sOrd (labF l) (l.drop (j + 1)) (rd_T34 l j).f0 = sOrd (labF l) l (-1) by rw [← HO2.out]; simp [hany, hle])
              clear HO2 hany
              go_wp2_with (go_at_call 68; refine HC.out.mono ?_; rintro e w1 ⟨rfl, hb1⟩; have HB1 := Aside0.mk (below_tr HAL.out hb1); have hbk1 := blk_low hb1 Hbk.out; have hz0 := (blk_cell hbk1 0).trans rfl; have HM1 := Aside0.mk ((HM.out.alloc _).below hb1); have Hx1 := Aside0.mk (blk_low hb1 (blk_alloc Hbx.out _)); clear hb1 hbk1 HM Hbx)
              go_roundw
              case rel => exact ⟨j + 1, _, by omega, rfl, by go_num, HO3, HM1, Hx1, HB1⟩
              case measure => simp [intOf]; omega
        · have hd : ¬ (j : Int) < l.length := by omega
          have hoo := HO.out
          rw [List.drop_of_length_le (by omega)] at hoo
          have hs : errV (sAll l) = .nilIface := by rw [HSA.out, ← hoo]; rfl
          have HS := Aside0.mk hs; clear hs hoo HO
          go_wp2
          go_ret
          exact ⟨by rw [HS.out]; rfl, HB.out⟩

set_option maxHeartbeats 2000000 in
theorem sAll_calls (A : Option Addr) (c : Nat) (l : List S34) (w : World) (hE : ErrT w) (hr : k34.C w A l.length l) (hc : l.length ≤ c) :
    Calls Tryd.prog 32 #[.slice A l.length c] w fun e w' => e = .returned (.int .i64 (sAll l)) ∧ Below w.heap.size w w' := by
  have h1 := Aside0.mk (scheckAll_calls A c l w hr hc)
  have h2 := Aside0.mk (fun W h => code_calls (sAll l) W h)
  have HE := Aside0.mk hE
  clear hE hr hc
  generalize errV (sAll l) = ev at h1 h2
  go_enter Tryd.func32, Tryd.ntmps32
  go_wp2_with fail
  refine h1.out.mono ?_
  rintro e w1 ⟨rfl, hb1⟩
  have B1 := Aside0.mk hb1; clear hb1
  go_wp2_with fail
  refine (h2.out _ (HE.out.below B1.out)).mono ?_
  rintro e w2 ⟨rfl, hb2⟩
  have B2 := Aside0.mk (below_tr B1.out hb2); clear hb2
  go_wp2
  go_ret
  exact ⟨rfl, B2.out⟩
end Go.Proofs.YtbpgoddohhiohaaDoor
