/- sizarref24: first, takes: what they compute. -/
import Derived.Test.YtbpgoddohhiohaaDoorPK
import Derived.Deep.DeepMust
import Derived.Deep.RegionHeld3
import Derived.IntWalk
namespace Go.Proofs.YtbpgoddohhiohaaDoor
open Go.RowKit Go.Proofs.YtbpgoddohhiohaaDoorW.PrintWords
set_option linter.unusedVariables false
set_option linter.unusedSimpArgs false
theorem rdS (l : List S34) (i : Nat) (hi : i < l.length) : rd_T34 l (i : Int) = l[i] := by simp [rd_T34, List.getElem?_eq_getElem hi]
theorem take_hit {α : Type} (l : List α) (p : α → Bool) (z : α) (q k : Nat) (hq : q < k) (hk : k ≤ l.length) (h : p (l.getD q z) = true) : (l.take k).any p = true := by
  refine List.any_eq_true.2 ⟨l.getD q z, ?_, h⟩
  have hl : q < l.length := by omega
  rw [List.getD_eq_getElem?_getD, List.getElem?_eq_getElem hl]
  show l[q] ∈ l.take k
  have : l[q] = (l.take k)[q]'(by simp; omega) := by simp
  rw [this]; exact List.getElem_mem _
theorem take_no {α : Type} (l : List α) (p : α → Bool) (z : α) (k : Nat) (hk : k ≤ l.length) (h : ∀ q, q < k → p (l.getD q z) = false) : (l.take k).any p = false := by
  rw [Bool.eq_false_iff]
  intro ha
  obtain ⟨x, hx, hp⟩ := List.any_eq_true.1 ha
  obtain ⟨q, hq, rfl⟩ := List.mem_iff_getElem.1 hx
  have hq' : q < k := by simp at hq; omega
  have := h q hq'
  rw [List.getD_eq_getElem?_getD, List.getElem?_eq_getElem (by omega)] at this
  simp only [List.getElem_take] at hp
  rw [Option.getD_some, hp] at this
  cases this
set_option maxRecDepth 100000 in
set_option maxHeartbeats 4000000 in
theorem first_calls (A : Option Addr) (c : Nat) (l : List S34) (at' : Nat) (w : World) (hr : k34.C w A l.length l) (hat : at' < l.length) :
    Calls Tryd.prog 42 #[.slice A l.length c, .int .i64 at'] w fun e w' => e = .returned (.bool (!((l.take at').any fun s => s.f0 == (rd_T34 l at').f0))) ∧ Below w.heap.size w w' := by
  have hmax := Kd.C_max hr
  have HR := Aside0.mk hr; clear hr
  have hat1 : (at' : Int) < l.length := by omega
  have hat0 : (0 : Int) ≤ at' := by omega
  go_enter Tryd.func42, Tryd.ntmps42
  go_wp2
  go_loopw [5] (fun i wr => ∃ k : Nat, k ≤ at' ∧ i = .int .i64 k ∧ Aside0 (∀ j, j < k → ((rd_T34 l j).f0 == (rd_T34 l at').f0) = false) ∧ Aside0 (Below w.heap.size w wr)) (fun i _ => at' - (intOf i).toNat)
  case atStart => exact ⟨0, Nat.zero_le _, rfl, ⟨fun j hj => absurd hj (Nat.not_lt_zero _)⟩, ⟨Below.refl _ _⟩⟩
  case round =>
    obtain ⟨k, hk, rfl, hV, hB⟩ := hrel
    by_cases hlt : k < at'
    · have hd : (k : Int) < at' := by omega
      have hd2 : (k : Int) < l.length := by omega
      have hp0 : (0 : Int) ≤ k := by omega
      obtain ⟨ad, A5, c5, A6, c6, A7, c7, rfl, hx0, -, -, -, -, -, -, -, -, -⟩ := at_T34 HR.out k (by omega) (by omega)
      obtain ⟨ad', B5, d5, B6, d6, B7, d7, had, hy0, -, -, -, -, -, -, -, -, -⟩ := at_T34 HR.out at' (by omega) (by omega)
      injection had with had
      subst had
      simp only [Int.toNat_natCast] at hx0 hy0
      replace hx0 := cell_low hB.out hx0; replace hy0 := cell_low hB.out hy0
      have HIT := Aside0.mk (fun h => take_hit l (fun s => s.f0 == (rd_T34 l at').f0) z34 k at' hlt (by omega) h)
      have HNX := Aside0.mk (show ((rd_T34 l k).f0 == (rd_T34 l at').f0) = false → ∀ j, j < k + 1 → ((rd_T34 l j).f0 == (rd_T34 l at').f0) = false from fun h j hj => by
        rcases Nat.lt_or_ge j k with h1 | h1
        · exact hV.out j h1
        · obtain rfl : j = k := by omega
          exact h)
      have HEQ := Aside0.mk (show (l.getD k z34) = rd_T34 l k from by simp [rd_T34])
      rw [HEQ.out] at HIT
      cases he : ((rd_T34 l k).f0 == (rd_T34 l at').f0) with
      | true =>
        have HS := Aside0.mk (HIT.out he)
        go_wp2_with fail
        go_quiet (fail)
        go_wp2
        go_ret
        exact ⟨by rw [HS.out]; rfl, pw_below_drewN hB.out _⟩
      | false =>
        have HV := Aside0.mk (HNX.out he)
        go_wp2_with fail
        go_quiet (fail)
        go_wp2
        exact ⟨⟨k + 1, by omega, by go_num, HV, ⟨pw_below_drewN hB.out _⟩⟩, by simp [intOf]; omega⟩
    · have hd : ¬ (k : Int) < at' := by omega
      obtain rfl : k = at' := by omega
      have HS := Aside0.mk (take_no l (fun s => s.f0 == (rd_T34 l k).f0) z34 k (by omega) (fun q hq => by
        rw [show (l.getD q z34) = rd_T34 l q from by simp [rd_T34]]; exact hV.out q hq))
      go_wp2
      go_ret
      exact ⟨by rw [HS.out]; rfl, hB.out⟩
set_option maxRecDepth 100000 in
set_option maxHeartbeats 4000000 in
theorem takes_calls (B : Option Addr) (d : Nat) (taken : List S47) (st n : Int) (w : World) (hr : k47.C w B taken.length taken) :
    Calls Tryd.prog 43 #[.slice B taken.length d, .int .i64 st, .int .i64 n] w fun e w' => e = .returned (.bool (owns taken st n)) ∧ Below w.heap.size w w' := by
  have hmax := Kd.C_max hr
  have HR := Aside0.mk hr; clear hr
  go_enter Tryd.func43, Tryd.ntmps43
  go_wp2
  go_loopw [7] (fun i wr => ∃ k : Nat, k ≤ taken.length ∧ i = .int .i64 k ∧ Aside0 (∀ j, j < k → ((rd_T47 taken j).f0 == st && (rd_T47 taken j).f1 == n) = false) ∧ Aside0 (Below w.heap.size w wr)) (fun i _ => taken.length - (intOf i).toNat)
  case atStart => exact ⟨0, Nat.zero_le _, rfl, ⟨fun j hj => absurd hj (Nat.not_lt_zero _)⟩, ⟨Below.refl _ _⟩⟩
  case round =>
    obtain ⟨k, hk, rfl, hV, hB⟩ := hrel
    by_cases hlt : k < taken.length
    · have hd : (k : Int) < taken.length := by omega
      have hp0 : (0 : Int) ≤ k := by omega
      obtain ⟨ad, rfl, hx0, hx1, hx2⟩ := at_T47 (Kd.C_below HR.out hB.out) k (by omega) (by omega)
      simp only [Int.toNat_natCast] at hx0 hx1 hx2
      have HIT := Aside0.mk (fun h => take_hit taken (fun t => t.f0 == st && t.f1 == n) z47 k taken.length hlt (Nat.le_refl _) h)
      rw [show (taken.getD k z47) = rd_T47 taken k from by simp [rd_T47], List.take_of_length_le (Nat.le_refl _)] at HIT
      have HNX := Aside0.mk (show ((rd_T47 taken k).f0 == st && (rd_T47 taken k).f1 == n) = false → ∀ j, j < k + 1 → ((rd_T47 taken j).f0 == st && (rd_T47 taken j).f1 == n) = false from fun h j hj => by
        rcases Nat.lt_or_ge j k with h1 | h1
        · exact hV.out j h1
        · obtain rfl : j = k := by omega
          exact h)
      generalize rd_T47 taken k = t at hx0 hx1 hx2 HIT HNX
      cases h0 : (t.f0 == st) with
      | false =>
        have HV := Aside0.mk (HNX.out (by rw [h0]; rfl))
        go_wp2
        exact ⟨⟨k + 1, by omega, by go_num, HV, hB⟩, by simp [intOf]; omega⟩
      | true =>
        cases h1 : (t.f1 == n) with
        | false =>
          have HV := Aside0.mk (HNX.out (by rw [h0, h1]; rfl))
          go_wp2
          exact ⟨⟨k + 1, by omega, by go_num, HV, hB⟩, by simp [intOf]; omega⟩
        | true =>
          have HS := Aside0.mk (show owns taken st n = true from HIT.out (by rw [h0, h1]; rfl))
          go_wp2
          go_ret
          exact ⟨by rw [HS.out]; rfl, hB.out⟩
    · have hd : ¬ (k : Int) < taken.length := by omega
      obtain rfl : k = taken.length := by omega
      have hs := take_no taken (fun t => t.f0 == st && t.f1 == n) z47 taken.length (Nat.le_refl _) (fun q hq => by
        rw [show (taken.getD q z47) = rd_T47 taken q from by simp [rd_T47]]; exact hV.out q hq)
      rw [List.take_of_length_le (Nat.le_refl _)] at hs
      have HS := Aside0.mk (show owns taken st n = false from hs)
      clear hs
      go_wp2
      go_ret
      exact ⟨by rw [HS.out]; rfl, hB.out⟩
end Go.Proofs.YtbpgoddohhiohaaDoor
