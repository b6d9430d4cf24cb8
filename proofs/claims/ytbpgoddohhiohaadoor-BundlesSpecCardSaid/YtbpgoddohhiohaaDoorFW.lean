/- sizarref24.Few: what it computes. -/
import Derived.Test.YtbpgoddohhiohaaDoorA
import Derived.Deep.DeepMust
namespace Go.Proofs.YtbpgoddohhiohaaDoor
open Go.RowKit Go.Proofs.YtbpgoddohhiohaaDoorW.PrintWords
set_option linter.unusedVariables false
set_option linter.unusedSimpArgs false
def fewS (s : S34) : Bool := !(decide (20 < s.f5.length) || (decide (12 < s.f6.length) || decide (10 < s.f7.length)))
def sFew (l : List S34) (n : Nat) : Bool := !(decide (10 < l.length) || decide (40 < n)) && l.all fewS

set_option maxHeartbeats 2000000 in
theorem few_calls (A : Option Addr) (c : Nat) (l : List S34) (B : Option Addr) (n d : Nat) (w : World) (hr : k34.C w A l.length l) :
    Calls Tryd.prog 11 #[.slice A l.length c, .slice B n d] w fun e w' => e = .returned (.bool (sFew l n)) ∧ w' = w := by
  have hmax := Kd.C_max hr
  have HR := Aside0.mk hr; clear hr
  by_cases h1 : 10 < l.length
  · have h1' : (10 : Int) < l.length := by omega
    have HS := Aside0.mk (show sFew l n = false by simp [sFew, h1])
    go_enter Tryd.func11, Tryd.ntmps11
    go_wp2
    go_ret
    exact ⟨by rw [HS.out]; rfl, rfl⟩
  · by_cases h2 : 40 < n
    · have h1' : ¬ (10 : Int) < l.length := by omega
      have h2' : (40 : Int) < n := by omega
      have HS := Aside0.mk (show sFew l n = false by simp [sFew, h2])
      go_enter Tryd.func11, Tryd.ntmps11
      go_wp2
      go_ret
      exact ⟨by rw [HS.out]; rfl, rfl⟩
    · have h1' : ¬ (10 : Int) < l.length := by omega
      have h2' : ¬ (40 : Int) < n := by omega
      have HS := Aside0.mk (show sFew l n = l.all fewS by simp [sFew, h1, h2])
      clear h1 h2
      go_enter Tryd.func11, Tryd.ntmps11
      go_wp2
      clear h1' h2'
      go_loop [5] (fun i => ∃ k : Nat, k ≤ l.length ∧ i = .int .i64 k ∧ Aside0 (∀ j, j < k → fewS (rd_T34 l j) = true)) (fun i => l.length - (intOf i).toNat)
      case atStart => exact ⟨0, Nat.zero_le _, rfl, ⟨fun j hj => absurd hj (Nat.not_lt_zero _)⟩⟩
      case round =>
        obtain ⟨k, hk, rfl, hV⟩ := hrel
        by_cases hlt : k < l.length
        · have hd : (k : Int) < l.length := by omega
          have hp0 : (0 : Int) ≤ k := by omega
          obtain ⟨ad, A5, c5, A6, c6, A7, c7, rfl, hx0, hx1, hx2, hx3, hx4, hx5, hx6, hx7, hx8, l5, g5, l6, g6, l7, g7⟩ := at_T34 HR.out k (by omega) (by omega)
          simp only [Int.toNat_natCast] at hx0 hx1 hx2 hx3 hx4 hx5 hx6 hx7 hx8
          clear hx0 hx1 hx2 hx3 hx4 hx8 l5 g5 l6 g6 l7 g7
          have hfs : fewS (rd_T34 l k) = !(decide (20 < (rd_T34 l k).f5.length) || (decide (12 < (rd_T34 l k).f6.length) || decide (10 < (rd_T34 l k).f7.length))) := rfl
          have hbad : fewS (rd_T34 l k) = false → sFew l n = false := fun h => by
            rw [HS.out, Bool.eq_false_iff]
            intro ha
            have h2 := List.all_eq_true.1 ha _ (List.getElem_mem hlt)
            rw [show l[k] = rd_T34 l k from by simp [rd_T34, List.getElem?_eq_getElem hlt], h] at h2
            cases h2
          have hgood : fewS (rd_T34 l k) = true → (∀ j, j < k + 1 → fewS (rd_T34 l j) = true) := fun h j hj => by
            rcases Nat.lt_or_ge j k with h1 | h1
            · exact hV.out j h1
            · obtain rfl : j = k := by omega
              exact h
          have HBAD := Aside0.mk hbad; have HGOOD := Aside0.mk hgood; have HFS := Aside0.mk hfs
          clear hbad hgood hfs
          generalize fewS (rd_T34 l k) = fb at HBAD HGOOD HFS
          generalize (rd_T34 l k).f5.length = n5 at hx5 HFS
          generalize (rd_T34 l k).f6.length = n6 at hx6 HFS
          generalize (rd_T34 l k).f7.length = n7 at hx7 HFS
          by_cases h5 : 20 < n5
          · have h5' : (20 : Int) < n5 := by omega
            have HB := Aside0.mk (HBAD.out (by rw [HFS.out]; simp [h5]))
            go_wp2
            go_ret
            exact ⟨by rw [HB.out]; rfl, rfl⟩
          · have h5' : ¬ (20 : Int) < n5 := by omega
            by_cases h6 : 12 < n6
            · have h6' : (12 : Int) < n6 := by omega
              have HB := Aside0.mk (HBAD.out (by rw [HFS.out]; simp [h6]))
              go_wp2
              go_ret
              exact ⟨by rw [HB.out]; rfl, rfl⟩
            · have h6' : ¬ (12 : Int) < n6 := by omega
              by_cases h7 : 10 < n7
              · have h7' : (10 : Int) < n7 := by omega
                have HB := Aside0.mk (HBAD.out (by rw [HFS.out]; simp [h7]))
                go_wp2
                go_ret
                exact ⟨by rw [HB.out]; rfl, rfl⟩
              · have h7' : ¬ (10 : Int) < n7 := by omega
                have HB := Aside0.mk (HGOOD.out (by rw [HFS.out]; simp; omega))
                go_wp2
                exact ⟨⟨k + 1, by omega, by go_num, HB⟩, by simp [intOf]; omega⟩
        · have hd : ¬ (k : Int) < l.length := by omega
          have HS2 := Aside0.mk (show sFew l n = true by
            rw [HS.out, List.all_eq_true]
            intro x hx
            obtain ⟨j, hj, rfl⟩ := List.mem_iff_getElem.1 hx
            have := hV.out j (by omega)
            rwa [show rd_T34 l j = l[j] from by simp [rd_T34, List.getElem?_eq_getElem hj]] at this)
          go_wp2
          go_ret
          exact ⟨by rw [HS2.out]; rfl, rfl⟩
end Go.Proofs.YtbpgoddohhiohaaDoor
