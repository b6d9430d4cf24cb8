/- sizarref22: Valid, Overlap, Check, Clash: what they compute. -/
import Derived.Test.YtbpgoddohhiohaaDoorML
import Derived.Deep.RegionHeld3
import Derived.Deep.DeepMust
import Derived.StillTailTactics
namespace Go.Proofs.YtbpgoddohhiohaaDoor
open Go.RowKit Go.Proofs.YtbpgoddohhiohaaDoorW.PrintWords
set_option linter.unusedVariables false
set_option linter.unusedSimpArgs false
def rOver (a b : S65) : Bool := decide (a.f0 = b.f0) && (decide (a.f1 < b.f2) && (decide (b.f1 < a.f2) && (decide (a.f3 ≤ b.f4) && decide (b.f3 ≤ a.f4))))
theorem rOver_eq {a b : S65} (ha : mValid a = true) (hb : mValid b = true) : rOver a b = mOver a b := by
  simp only [mValid, Bool.and_eq_true, decide_eq_true_eq] at ha hb
  rw [Bool.eq_iff_iff]
  simp only [rOver, mOver, Bool.and_eq_true, decide_eq_true_eq]
  omega
theorem rvalid_calls (m : S65) (w : World) :
    Calls Tryd.prog 70 #[.agg #[.int .i64 m.f0, .int .i64 m.f1, .int .i64 m.f2, .int .i64 m.f3, .int .i64 m.f4]] w fun e w' => e = .returned (.bool (mValid m)) ∧ Below w.heap.size w w' := by
  obtain ⟨a, b, c, d, e⟩ := m
  go_enter Tryd.func70, Tryd.ntmps70
  go_wp2
  all_goals
    go_ret
    refine ⟨ret_bool ?_, (Below.refl _ _).alloc (Nat.le_refl _) _⟩
    rw [Bool.eq_iff_iff]
    simp only [mValid, Bool.and_eq_true, decide_eq_true_eq]
    first | omega | (simp; omega)
theorem rover_calls (a b : S65) (w : World) :
    Calls Tryd.prog 58 #[.agg #[.int .i64 a.f0, .int .i64 a.f1, .int .i64 a.f2, .int .i64 a.f3, .int .i64 a.f4], .agg #[.int .i64 b.f0, .int .i64 b.f1, .int .i64 b.f2, .int .i64 b.f3, .int .i64 b.f4]] w fun e w' => e = .returned (.bool (rOver a b)) ∧ Below w.heap.size w w' := by
  obtain ⟨a, b, c, d, e⟩ := a
  obtain ⟨p, q, r, s, t⟩ := b
  go_enter Tryd.func58, Tryd.ntmps58
  go_wp2
  all_goals
    go_ret
    refine ⟨ret_bool ?_, ((Below.refl _ _).alloc (Nat.le_refl _) _).alloc (by simp) _⟩
    rw [Bool.eq_iff_iff]
    simp only [rOver, Bool.and_eq_true, decide_eq_true_eq]
    first | omega | (simp; omega)
theorem rdM (l : List S65) (i : Nat) (hi : i < l.length) : rd_T65 l (i : Int) = l[i] := by simp [rd_T65, List.getElem?_eq_getElem hi]
theorem prs_any (l : List S65) (p : S65 → S65 → Bool) : (prsUp l l.length).any (fun q => p q.1 q.2) = true ↔ ∃ k i, k < i ∧ i < l.length ∧ p (rd_T65 l k) (rd_T65 l i) = true := by
  unfold prsUp
  rw [List.any_eq_true]
  constructor
  · rintro ⟨q, hq, hp⟩
    obtain ⟨k, hk, hq⟩ := List.mem_flatMap.1 hq
    obtain ⟨b, hb, rfl⟩ := List.mem_map.1 hq
    obtain ⟨j, hj, rfl⟩ := List.mem_iff_getElem.1 hb
    simp only [List.length_drop] at hj
    refine ⟨k, k + 1 + j, by omega, by omega, ?_⟩
    simp only [List.getElem_drop] at hp
    rw [rdM l (k + 1 + j) (by omega)]
    exact hp
  · rintro ⟨k, i, hki, hi, hp⟩
    refine ⟨(rd_T65 l k, rd_T65 l i), List.mem_flatMap.2 ⟨k, List.mem_range.2 (by omega), List.mem_map.2 ⟨rd_T65 l i, ?_, rfl⟩⟩, hp⟩
    rw [show rd_T65 l i = l[i] from by simp [rd_T65, List.getElem?_eq_getElem hi]]
    rw [List.mem_iff_getElem]
    exact ⟨i - (k + 1), by simp; omega, by simp only [List.getElem_drop]; congr 1; omega⟩
theorem all_rd (l : List S65) (h : ∀ j, j < l.length → mValid (rd_T65 l j) = true) : l.all mValid = true := by
  rw [List.all_eq_true]
  intro x hx
  obtain ⟨j, hj, rfl⟩ := List.mem_iff_getElem.1 hx
  have := h j hj
  rwa [show rd_T65 l j = l[j] from by simp [rd_T65, List.getElem?_eq_getElem hj]] at this
theorem rd_all {l : List S65} (h : l.all mValid = true) (j : Nat) (hj : j < l.length) : mValid (rd_T65 l j) = true := by
  rw [show rd_T65 l j = l[j] from by simp [rd_T65, List.getElem?_eq_getElem hj]]
  exact List.all_eq_true.1 h _ (List.getElem_mem hj)
theorem mCheck_bad {l : List S65} (i : Nat) (hi : i < l.length) (h : mValid (rd_T65 l i) = false) : mCheck l = 220 := by
  unfold mCheck
  split
  · rfl
  · rw [if_pos]
    rw [Bool.eq_false_iff]
    intro ha
    rw [rd_all ha i hi] at h; cases h
theorem mCheck_hit {l : List S65} (k i : Nat) (hk : k < i) (hi : i < l.length) (h : rOver (rd_T65 l k) (rd_T65 l i) = true) : mCheck l = 220 := by
  unfold mCheck
  split
  · rfl
  · by_cases ha : l.all mValid = false
    · rw [if_pos ha]
    · rw [if_neg ha, if_pos]
      have ha' : l.all mValid = true := by cases hq : l.all mValid with
        | true => rfl
        | false => exact absurd hq ha
      rw [prs_any l mOver]
      exact ⟨k, i, hk, hi, by rw [← rOver_eq (rd_all ha' k (by omega)) (rd_all ha' i hi)]; exact h⟩
theorem mCheck_good {l : List S65} (h16 : ¬ 16 < l.length) (hv : ∀ j, j < l.length → mValid (rd_T65 l j) = true) (ho : ∀ k i, k < i → i < l.length → rOver (rd_T65 l k) (rd_T65 l i) = false) : mCheck l = 0 := by
  unfold mCheck
  rw [if_neg h16, if_neg (by rw [all_rd l hv]; simp), if_neg]
  rw [prs_any l mOver]
  rintro ⟨k, i, hk, hi, hp⟩
  rw [← rOver_eq (hv k (by omega)) (hv i hi), ho k i hk hi] at hp
  cases hp
set_option maxRecDepth 100000 in
set_option maxHeartbeats 4000000 in
theorem rcheck22_calls (A : Option Addr) (c : Nat) (l : List S65) (w : World) (hr : k65.C w A l.length l) :
    Calls Tryd.prog 57 #[.slice A l.length c] w fun e w' => e = .returned (.int .i64 (mCheck l)) ∧ Below w.heap.size w w' := by
  have hmax := Kd.C_max hr
  have HR := Aside0.mk hr; clear hr
  by_cases h16 : 16 < l.length
  · have h16' : (16 : Int) < l.length := by omega
    have HS := Aside0.mk (show mCheck l = 220 by unfold mCheck; rw [if_pos h16])
    go_enter Tryd.func57, Tryd.ntmps57
    go_wp2
    go_ret
    exact ⟨by rw [HS.out]; rfl, Below.refl _ _⟩
  · have h16' : ¬ (16 : Int) < l.length := by omega
    have H16 := Aside0.mk h16; clear h16
    go_enter Tryd.func57, Tryd.ntmps57
    go_wp2
    go_loopw [3] (fun i wr => ∃ k : Nat, k ≤ l.length ∧ i = .int .i64 k ∧ Aside0 (∀ j, j < k → mValid (rd_T65 l j) = true) ∧ Aside0 (∀ a b, a < b → b < k → rOver (rd_T65 l a) (rd_T65 l b) = false) ∧ Aside0 (Below w.heap.size w wr)) (fun i _ => l.length - (intOf i).toNat)
    case atStart => exact ⟨0, Nat.zero_le _, rfl, ⟨fun j hj => absurd hj (Nat.not_lt_zero _)⟩, ⟨fun a b _ hb => absurd hb (Nat.not_lt_zero _)⟩, ⟨Below.refl _ _⟩⟩
    case round =>
      obtain ⟨k, hk, rfl, hV, hO, hB⟩ := hrel
      by_cases hlt : k < l.length
      · have hd : (k : Int) < l.length := by omega
        have hp0 : (0 : Int) ≤ k := by omega
        obtain ⟨ad, rfl, hx0, hx1, hx2, hx3, hx4⟩ := at_T65 (Kd.C_below HR.out hB.out) k (by omega) (by omega)
        simp only [Int.toNat_natCast] at hx0 hx1 hx2 hx3 hx4
        have hcall := rvalid_calls (rd_T65 l k) wr
        cases hv : mValid (rd_T65 l k) with
        | false =>
          rw [hv] at hcall
          have HS := Aside0.mk (mCheck_bad k hlt hv)
          go_wp2_with fail
          refine hcall.mono ?_
          rintro e w1 ⟨rfl, hb1⟩
          have HB1 := Aside0.mk (below_tr hB.out hb1); clear hb1
          go_wp2
          go_ret
          exact ⟨by rw [HS.out]; rfl, HB1.out⟩
        | true =>
          rw [hv] at hcall
          have HV2 := Aside0.mk (show ∀ j, j < k + 1 → mValid (rd_T65 l j) = true from fun j hj => by
            rcases Nat.lt_or_ge j k with h | h
            · exact hV.out j h
            · obtain rfl : j = k := by omega
              exact hv)
          go_wp2_with fail
          refine hcall.mono ?_
          rintro e w1 ⟨rfl, hb1⟩
          have HB1 := Aside0.mk (below_tr hB.out hb1); clear hb1 hx0 hx1 hx2 hx3 hx4 hv
          go_wp2
          go_loopw [4] (fun i wr => ∃ q : Nat, q ≤ k ∧ i = .int .i64 q ∧ Aside0 (∀ a, a < q → rOver (rd_T65 l a) (rd_T65 l k) = false) ∧ Aside0 (Below w.heap.size w wr)) (fun i _ => k - (intOf i).toNat)
          case atStart => exact ⟨0, Nat.zero_le _, rfl, ⟨fun j hj => absurd hj (Nat.not_lt_zero _)⟩, HB1⟩
          case round =>
            obtain ⟨q, hq, rfl, hQ, hB2⟩ := hrel
            by_cases hql : q < k
            · have hd2 : (q : Int) < k := by omega
              have hd3 : (q : Int) < l.length := by omega
              have hq0 : (0 : Int) ≤ q := by omega
              obtain ⟨ad', had, hy0, hy1, hy2, hy3, hy4⟩ := at_T65 (Kd.C_below HR.out hB2.out) q (by omega) (by omega)
              injection had with had
              subst had
              obtain ⟨ad', had, hx0, hx1, hx2, hx3, hx4⟩ := at_T65 (Kd.C_below HR.out hB2.out) k (by omega) (by omega)
              injection had with had
              subst had
              simp only [Int.toNat_natCast] at hx0 hx1 hx2 hx3 hx4 hy0 hy1 hy2 hy3 hy4
              have hbd := below_drew (Below.refl wr.heap.size wr)
              have hcall2 := rover_calls (rd_T65 l q) (rd_T65 l k) wr.drew
              have HBd := Aside0.mk (below_tr hB2.out hbd)
              cases ho : rOver (rd_T65 l q) (rd_T65 l k) with
              | true =>
                rw [ho] at hcall2
                have HS := Aside0.mk (mCheck_hit q k hql hlt ho)
                clear hbd
                go_wp2_with fail
                go_still_tail 8, (by kernel_rfl)
                go_wp2_with fail
                refine hcall2.mono ?_
                rintro e w2 ⟨rfl, hb2⟩
                have HB2 := Aside0.mk (below_tr HBd.out hb2); clear hb2
                go_wp2
                go_ret
                exact ⟨by rw [HS.out]; rfl, HB2.out⟩
              | false =>
                rw [ho] at hcall2
                have HO2 := Aside0.mk (show ∀ a, a < q + 1 → rOver (rd_T65 l a) (rd_T65 l k) = false from fun a ha => by
                  rcases Nat.lt_or_ge a q with h | h
                  · exact hQ.out a h
                  · obtain rfl : a = q := by omega
                    exact ho)
                clear hbd
                go_wp2_with fail
                go_still_tail 8, (by kernel_rfl)
                go_wp2_with fail
                refine hcall2.mono ?_
                rintro e w2 ⟨rfl, hb2⟩
                have HB2 := Aside0.mk (below_tr HBd.out hb2); clear hb2
                go_wp2
                exact ⟨⟨q + 1, by omega, by go_num, HO2, HB2⟩, by simp [intOf]; omega⟩
            · have hd2 : ¬ (q : Int) < k := by omega
              obtain rfl : q = k := by omega
              go_wp2
              exact ⟨⟨q + 1, by omega, by go_num, HV2, ⟨fun a b hab hb => by
                rcases Nat.lt_or_ge b q with h | h
                · exact hO.out a b hab h
                · obtain rfl : b = q := by omega
                  exact hQ.out a hab⟩, hB2⟩, by simp [intOf]; omega⟩
      · have hd : ¬ (k : Int) < l.length := by omega
        obtain rfl : k = l.length := by omega
        have HS := Aside0.mk (mCheck_good H16.out hV.out hO.out)
        go_wp2
        go_ret
        exact ⟨by rw [HS.out]; rfl, hB.out⟩
theorem mCheck_valid {l : List S65} (h : mCheck l = 0) (j : Nat) (hj : j < l.length) : mValid (rd_T65 l j) = true := by
  cases hv : mValid (rd_T65 l j) with
  | true => rfl
  | false => rw [mCheck_bad j hj hv] at h; cases h
theorem mHit_iff (a b : List S65) : mHit a b = true ↔ ∃ i k, i < a.length ∧ k < b.length ∧ mOver (rd_T65 a i) (rd_T65 b k) = true := by
  unfold mHit
  rw [List.any_eq_true]
  constructor
  · rintro ⟨m, hm, h⟩
    obtain ⟨x, hx, h⟩ := List.any_eq_true.1 h
    obtain ⟨i, hi, rfl⟩ := List.mem_iff_getElem.1 hm
    obtain ⟨k, hk, rfl⟩ := List.mem_iff_getElem.1 hx
    exact ⟨i, k, hi, hk, by rw [rdM a i hi, rdM b k hk]; exact h⟩
  · rintro ⟨i, k, hi, hk, h⟩
    rw [rdM a i hi, rdM b k hk] at h
    exact ⟨_, List.getElem_mem hi, List.any_eq_true.2 ⟨_, List.getElem_mem hk, h⟩⟩
set_option maxRecDepth 100000 in
set_option maxHeartbeats 4000000 in
theorem rclash22_calls (A : Option Addr) (c : Nat) (a : List S65) (B : Option Addr) (d : Nat) (b : List S65) (w : World) (hra : k65.C w A a.length a) (hrb : k65.C w B b.length b) :
    Calls Tryd.prog 36 #[.slice A a.length c, .slice B b.length d] w fun e w' => e = .returned (.tuple #[.bool (mClash a b).1, .int .i64 (mClash a b).2]) ∧ Below w.heap.size w w' := by
  have hmax := Kd.C_max hra
  have hmaxb := Kd.C_max hrb
  have HA := Aside0.mk hra; have HBB := Aside0.mk hrb
  have H1 := Aside0.mk (rcheck22_calls A c a w hra)
  have H2 := Aside0.mk (fun W h => rcheck22_calls B d b W h)
  clear hra hrb
  by_cases ha : mCheck a = 0
  · have VA := Aside0.mk (mCheck_valid ha)
    rw [ha] at H1
    by_cases hb : mCheck b = 0
    · have VB := Aside0.mk (mCheck_valid hb)
      have HS := Aside0.mk (show mClash a b = (mHit a b, 0) by unfold mClash; rw [if_neg (by simp [ha]), if_neg (by simp [hb])])
      rw [hb] at H2
      clear ha hb
      go_enter Tryd.func36, Tryd.ntmps36
      go_wp2_with fail
      refine H1.out.mono ?_
      rintro e w1 ⟨rfl, hb1⟩
      have HB1 := Aside0.mk hb1; clear hb1
      go_wp2_with fail
      refine (H2.out _ (Kd.C_below HBB.out HB1.out)).mono ?_
      rintro e w2 ⟨rfl, hb2⟩
      have HB2 := Aside0.mk (below_tr HB1.out hb2); clear hb2
      go_wp2
      go_loopw [8] (fun i wr => ∃ k : Nat, k ≤ a.length ∧ i = .int .i64 k ∧ Aside0 (∀ j q, j < k → q < b.length → mOver (rd_T65 a j) (rd_T65 b q) = false) ∧ Aside0 (Below w.heap.size w wr)) (fun i _ => a.length - (intOf i).toNat)
      case atStart => exact ⟨0, Nat.zero_le _, rfl, ⟨fun j q hj => absurd hj (Nat.not_lt_zero _)⟩, HB2⟩
      case round =>
        obtain ⟨k, hk, rfl, hV, hB⟩ := hrel
        by_cases hlt : k < a.length
        · have hd : (k : Int) < a.length := by omega
          have hp0 : (0 : Int) ≤ k := by omega
          go_wp2
          go_loopw [9] (fun i wr => ∃ q : Nat, q ≤ b.length ∧ i = .int .i64 q ∧ Aside0 (∀ j, j < q → mOver (rd_T65 a k) (rd_T65 b j) = false) ∧ Aside0 (Below w.heap.size w wr)) (fun i _ => b.length - (intOf i).toNat)
          case atStart => exact ⟨0, Nat.zero_le _, rfl, ⟨fun j hj => absurd hj (Nat.not_lt_zero _)⟩, hB⟩
          case round =>
            obtain ⟨q, hq, rfl, hQ, hB3⟩ := hrel
            by_cases hql : q < b.length
            · have hd2 : (q : Int) < b.length := by omega
              have hq0 : (0 : Int) ≤ q := by omega
              obtain ⟨ad, rfl, hx0, hx1, hx2, hx3, hx4⟩ := at_T65 (Kd.C_below HA.out hB3.out) k (by omega) (by omega)
              obtain ⟨bd, rfl, hy0, hy1, hy2, hy3, hy4⟩ := at_T65 (Kd.C_below HBB.out hB3.out) q (by omega) (by omega)
              simp only [Int.toNat_natCast] at hx0 hx1 hx2 hx3 hx4 hy0 hy1 hy2 hy3 hy4
              have hcall2 := rover_calls (rd_T65 a k) (rd_T65 b q) wr.drew
              rw [rOver_eq (VA.out k hlt) (VB.out q hql)] at hcall2
              have HBd := Aside0.mk (below_tr hB3.out (below_drew (Below.refl wr.heap.size wr)))
              cases ho : mOver (rd_T65 a k) (rd_T65 b q) with
              | true =>
                rw [ho] at hcall2
                have HS2 := Aside0.mk (show mClash a b = (true, 0) by rw [HS.out, (mHit_iff a b).2 ⟨k, q, hlt, hql, ho⟩])
                go_wp2_with fail
                go_still_tail 8, (by kernel_rfl)
                go_wp2_with fail
                refine hcall2.mono ?_
                rintro e w5 ⟨rfl, hb5⟩
                have HB5 := Aside0.mk (below_tr HBd.out hb5); clear hb5
                go_wp2
                go_ret2
                exact ⟨by rw [HS2.out]; rfl, HB5.out⟩
              | false =>
                rw [ho] at hcall2
                have HO2 := Aside0.mk (show ∀ j, j < q + 1 → mOver (rd_T65 a k) (rd_T65 b j) = false from fun j hj => by
                  rcases Nat.lt_or_ge j q with h | h
                  · exact hQ.out j h
                  · obtain rfl : j = q := by omega
                    exact ho)
                go_wp2_with fail
                go_still_tail 8, (by kernel_rfl)
                go_wp2_with fail
                refine hcall2.mono ?_
                rintro e w5 ⟨rfl, hb5⟩
                have HB5 := Aside0.mk (below_tr HBd.out hb5); clear hb5
                go_wp2
                exact ⟨⟨q + 1, by omega, by go_num, HO2, HB5⟩, by simp [intOf]; omega⟩
            · have hd2 : ¬ (q : Int) < b.length := by omega
              go_wp2
              exact ⟨⟨k + 1, by omega, by go_num, ⟨fun j p hj hp => by
                rcases Nat.lt_or_ge j k with h | h
                · exact hV.out j p h hp
                · obtain rfl : j = k := by omega
                  exact hQ.out p (by omega)⟩, hB3⟩, by simp [intOf]; omega⟩
        · have hd : ¬ (k : Int) < a.length := by omega
          have HS2 := Aside0.mk (show mClash a b = (false, 0) by
            rw [HS.out]
            cases hh : mHit a b with
            | false => rfl
            | true =>
              obtain ⟨i, q, hi, hq, ho⟩ := (mHit_iff a b).1 hh
              rw [hV.out i q (by omega) hq] at ho
              cases ho)
          go_wp2
          go_ret2
          exact ⟨by rw [HS2.out]; rfl, hB.out⟩
    · have HS := Aside0.mk (show mClash a b = (false, mCheck b) by unfold mClash; rw [if_neg (by simp [ha]), if_pos hb])
      have hb1 : (mCheck b != 0) = true := by simp [hb]
      have hb2 : (mCheck b == 0) = false := by simp [hb]
      clear ha hb
      go_enter Tryd.func36, Tryd.ntmps36
      go_wp2_with fail
      refine H1.out.mono ?_
      rintro e w1 ⟨rfl, hb1⟩
      have HB1 := Aside0.mk hb1; clear hb1
      go_wp2_with fail
      refine (H2.out _ (Kd.C_below HBB.out HB1.out)).mono ?_
      rintro e w2 ⟨rfl, hb2⟩
      have HB2 := Aside0.mk (below_tr HB1.out hb2); clear hb2
      go_wp2
      go_ret2
      exact ⟨by rw [HS.out]; rfl, HB2.out⟩
  · have HS := Aside0.mk (show mClash a b = (false, mCheck a) by unfold mClash; rw [if_pos ha])
    have hb1 : (mCheck a != 0) = true := by simp [ha]
    have hb2 : (mCheck a == 0) = false := by simp [ha]
    clear ha
    go_enter Tryd.func36, Tryd.ntmps36
    go_wp2_with fail
    refine H1.out.mono ?_
    rintro e w1 ⟨rfl, hb3⟩
    have HB1 := Aside0.mk hb3; clear hb3
    go_wp2
    go_ret2
    exact ⟨by rw [HS.out]; rfl, HB1.out⟩
end Go.Proofs.YtbpgoddohhiohaaDoor
