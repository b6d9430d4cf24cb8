/- sizarref24.Same, sizarref24.Few: what they compute. -/
import Derived.Test.YtbpgoddohhiohaaDoorSV
namespace Go.Proofs.YtbpgoddohhiohaaDoor
open Go.RowKit Go.Proofs.YtbpgoddohhiohaaDoorW.PrintWords
set_option linter.unusedVariables false
set_option linter.unusedSimpArgs false
attribute [local go_sem high] eqA24
def sSame (a b : List S24) : Bool := decide (a.length = b.length) && (List.range a.length).all fun j => bEq (a.getD j z24) (b.getD j z24)
theorem bEq_iff (a b : S24) : bEq a b = true ↔ a = b := by
  cases a; cases b; simp [bEq]
theorem sSame_iff (a b : List S24) : sSame a b = true ↔ a = b := by
  constructor
  · intro h
    simp only [sSame, Bool.and_eq_true, decide_eq_true_eq, List.all_eq_true, List.mem_range, bEq_iff] at h
    apply List.ext_getElem h.1
    intro j h1 h2
    have := h.2 j h1
    simpa [h1, h2] using this
  · rintro rfl
    simp [sSame, bEq_iff]

set_option maxHeartbeats 2000000 in
theorem same_calls (A : Option Addr) (c : Nat) (a : List S24) (B : Option Addr) (d : Nat) (b : List S24) (w : World) (hra : k24.C w A a.length a) (hrb : k24.C w B b.length b) :
    Calls Tryd.prog 12 #[.slice A a.length c, .slice B b.length d] w fun e w' => e = .returned (.bool (sSame a b)) ∧ Below w.heap.size w w' := by
  have hmax := Kd.C_max hra
  have hmax2 := Kd.C_max hrb
  have HA := Aside0.mk hra; have HB := Aside0.mk hrb; clear hra hrb
  by_cases hl : a.length = b.length
  · have hl1 : ((a.length : Int) == b.length) = true := by simp [hl]
    have hl2 : ((a.length : Int) != b.length) = false := by simp [hl]
    have HL := Aside0.mk hl; clear hl
    go_enter Tryd.func12, Tryd.ntmps12
    go_wp2
    go_loopw [5] (fun i wr => ∃ k : Nat, k ≤ a.length ∧ i = .int .i64 k ∧ Aside0 (∀ j, j < k → bEq (a.getD j z24) (b.getD j z24) = true) ∧ Aside0 (Below w.heap.size w wr)) (fun i _ => a.length - (intOf i).toNat)
    case atStart => exact ⟨0, Nat.zero_le _, rfl, ⟨fun j hj => absurd hj (Nat.not_lt_zero _)⟩, ⟨Below.refl _ _⟩⟩
    case round =>
      obtain ⟨k, hk, rfl, hV, hB⟩ := hrel
      by_cases hlt : k < a.length
      · have hd : (k : Int) < a.length := by omega
        have hd2 : (k : Int) < b.length := by have := HL.out; omega
        have hp0 : (0 : Int) ≤ k := by omega
        obtain ⟨ad, rfl, hx0, hx1⟩ := at_T24 (Kd.C_below HA.out hB.out) k (by omega) (by omega)
        obtain ⟨bd, rfl, hy0, hy1⟩ := at_T24 (Kd.C_below HB.out hB.out) k (by omega) (by omega)
        simp only [Int.toNat_natCast] at hx0 hx1 hy0 hy1
        have hq : bEq (a.getD k z24) (b.getD k z24) = ((rd_T24 a k).f0 == (rd_T24 b k).f0 && (rd_T24 a k).f1 == (rd_T24 b k).f1) := by simp [rd_T24, bEq]
        have HQ := Aside0.mk hq; clear hq
        cases hv : ((rd_T24 a k).f0 == (rd_T24 b k).f0 && (rd_T24 a k).f1 == (rd_T24 b k).f1) with
        | true =>
          have HV := Aside0.mk hv
          go_wp2
          go_quiet (fail)
          go_wp2
          exact ⟨⟨k + 1, by omega, by go_num, ⟨fun j hj => by
            rcases Nat.lt_or_ge j k with h | h
            · exact hV.out j h
            · obtain rfl : j = k := by omega
              rw [HQ.out]; exact HV.out⟩, ⟨pw_below_drewN hB.out _⟩⟩, by simp [intOf]; omega⟩
        | false =>
          have HS := Aside0.mk (show sSame a b = false by
            rw [Bool.eq_false_iff]
            intro h
            simp only [sSame, Bool.and_eq_true, List.all_eq_true, List.mem_range] at h
            have := h.2 k hlt
            rw [HQ.out, hv] at this
            cases this)
          go_wp2
          go_quiet (fail)
          go_wp2
          go_ret
          exact ⟨by rw [HS.out]; rfl, pw_below_drewN hB.out _⟩
      · have hd : ¬ (k : Int) < a.length := by omega
        have HS := Aside0.mk (show sSame a b = true by
          simp only [sSame, HL.out, decide_true, Bool.true_and, List.all_eq_true, List.mem_range]
          intro j hj
          exact hV.out j (by have := HL.out; omega))
        go_wp2
        go_ret
        exact ⟨by rw [HS.out]; rfl, hB.out⟩
  · have hl1 : ((a.length : Int) == b.length) = false := by rw [Bool.eq_false_iff]; intro h; simp at h; omega
    have hl2 : ((a.length : Int) != b.length) = true := by simp [bne, hl1]
    have HS := Aside0.mk (show sSame a b = false by simp [sSame, hl])
    clear hl
    go_enter Tryd.func12, Tryd.ntmps12
    go_wp2
    go_ret
    exact ⟨by rw [HS.out]; rfl, Below.refl _ _⟩
end Go.Proofs.YtbpgoddohhiohaaDoor
