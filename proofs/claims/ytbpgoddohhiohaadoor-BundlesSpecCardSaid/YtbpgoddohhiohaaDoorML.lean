/- meeting.Clash: what it computes. No condition but how the slices lie in memory. -/
import Derived.Test.YtbpgoddohhiohaaDoorMC
import Derived.Test.YtbpgoddohhiohaaDoorI
namespace Go.Proofs.YtbpgoddohhiohaaDoor
open Go.RowKit Go.Proofs.YtbpgoddohhiohaaDoorW.PrintWords
set_option linter.unusedVariables false
set_option linter.unusedSimpArgs false

def mHit (a b : List S65) : Bool := a.any fun m => b.any (mOver m)
def mClash (a b : List S65) : Bool × Int := if mCheck a ≠ 0 then (false, mCheck a) else if mCheck b ≠ 0 then (false, mCheck b) else (mHit a b, 0)

set_option maxHeartbeats 2000000 in
theorem mclash_calls (A : Option Addr) (c : Nat) (a : List S65) (B : Option Addr) (d : Nat) (b : List S65) (w : World) (hra : k65.C w A a.length a) (hca : a.length ≤ c) (hrb : k65.C w B b.length b) (hcb : b.length ≤ d) :
    Calls Tryd.prog 25 #[.slice A a.length c, .slice B b.length d] w fun e w' => e = .returned (.tuple #[.bool (mClash a b).1, .int .i64 (mClash a b).2]) ∧ Below w.heap.size w w' := by
  have hmax := Kd.C_max hra
  have HA := Aside0.mk hra; clear hra
  have HD := Aside0.mk hrb; clear hrb
  have h1 := Aside0.mk (fun W h => mcheck_calls A c a W h hca)
  have h2 := Aside0.mk (fun W h => mcheck_calls B d b W h hcb)
  by_cases ea : mCheck a = 0
  · by_cases eb : mCheck b = 0
    · have hs : mClash a b = (mHit a b, 0) := by unfold mClash; rw [if_neg (by simp [ea]), if_neg (by simp [eb])]
      have HS := Aside0.mk hs; clear hs
      rw [ea] at h1; rw [eb] at h2
      clear ea eb
      go_enter Tryd.func25, Tryd.ntmps25
      go_wp2_with fail
      refine (h1.out _ HA.out).mono ?_
      rintro e w1 ⟨rfl, hb1⟩
      have B1 := Aside0.mk hb1; clear hb1
      go_wp2_with fail
      refine (h2.out _ (Kd.C_below HD.out B1.out)).mono ?_
      rintro e w2 ⟨rfl, hb2⟩
      have B2 := Aside0.mk (below_tr B1.out hb2); clear hb2
      go_wp2
      go_loopw [22] (fun i wr => ∃ k : Nat, k ≤ a.length ∧ i = .int .i64 k ∧ Aside0 (∀ j, j < k → b.any (mOver (rd_T65 a j)) = false) ∧ Aside0 (Below w.heap.size w wr)) (fun i _ => a.length - (intOf i).toNat)
      case atStart => exact ⟨0, Nat.zero_le _, rfl, ⟨fun j hj => absurd hj (Nat.not_lt_zero _)⟩, B2⟩
      case round =>
        obtain ⟨k, hk, rfl, hV, hB⟩ := hrel
        by_cases hlt : k < a.length
        · have hd : (k : Int) < a.length := by omega
          obtain ⟨ad, rfl, hx0, hx1, hx2, hx3, hx4⟩ := at_T65 (Kd.C_below HA.out hB.out) k (by omega) (by omega)
          simp only [Int.toNat_natCast] at hx0 hx1 hx2 hx3 hx4
          have hmem : rd_T65 a k ∈ a := by
            rw [show rd_T65 a k = a[k] from by simp [rd_T65, List.getElem?_eq_getElem hlt]]
            exact List.getElem_mem hlt
          have HM := Aside0.mk hmem; clear hmem
          have hcall := Aside0.mk (fun W h => has_Meeting (mOver (rd_T65 a k)) 49 #[.agg #[.int .i64 (rd_T65 a k).f0, .int .i64 (rd_T65 a k).f1, .int .i64 (rd_T65 a k).f2, .int .i64 (rd_T65 a k).f3, .int .i64 (rd_T65 a k).f4]] #[] (enters_of Tryd.func49 (by kernel_rfl) rfl) B d b W (fun W2 x cs _ _ hK => by
            obtain rfl := k65_open hK
            exact over_calls _ _ _) h)
          cases hv : b.any (mOver (rd_T65 a k)) with
          | true =>
            rw [hv] at hcall
            have hm : mHit a b = true := List.any_eq_true.2 ⟨_, HM.out, hv⟩
            have HH := Aside0.mk hm; clear hm hv
            go_wp2_with fail
            refine (hcall.out _ (Kd.C_below HD.out (hB.out.alloc hB.out.size _))).mono ?_
            rintro e w3 ⟨rfl, hb3⟩
            have B3 := Aside0.mk (below_tr (hB.out.alloc hB.out.size _) hb3); clear hb3
            go_wp2
            go_ret2
            exact ⟨by rw [HS.out, HH.out]; rfl, B3.out⟩
          | false =>
            rw [hv] at hcall
            have HH := Aside0.mk hv; clear hv
            go_wp2_with fail
            refine (hcall.out _ (Kd.C_below HD.out (hB.out.alloc hB.out.size _))).mono ?_
            rintro e w3 ⟨rfl, hb3⟩
            have B3 := Aside0.mk (below_tr (hB.out.alloc hB.out.size _) hb3); clear hb3
            go_wp2
            go_roundw
            case rel => exact ⟨k + 1, by omega, by go_num, ⟨fun j hj => by
              rcases Nat.lt_or_ge j k with h | h
              · exact hV.out j h
              · obtain rfl : j = k := by omega
                exact HH.out⟩, B3⟩
            case measure => simp [intOf]; omega
        · have hd : ¬ (k : Int) < a.length := by omega
          have hm : mHit a b = false := by
            unfold mHit
            rw [List.any_eq_false]
            intro x hx
            obtain ⟨j, hj, rfl⟩ := List.mem_iff_getElem.1 hx
            have := hV.out j (by omega)
            rw [show rd_T65 a j = a[j] from by simp [rd_T65, List.getElem?_eq_getElem hj]] at this
            rw [this]; simp
          have HH := Aside0.mk hm; clear hm
          go_wp2
          go_ret2
          exact ⟨by rw [HS.out, HH.out]; rfl, hB.out⟩
    · have hs : mClash a b = (false, mCheck b) := by unfold mClash; rw [if_neg (by simp [ea]), if_pos (by simp [eb])]
      have eb' : (mCheck b != 0) = true := by simp [eb]
      have eb2 : (mCheck b == 0) = false := by simp [eb]
      rw [hs]
      rw [ea] at h1
      clear ea hs
      go_enter Tryd.func25, Tryd.ntmps25
      go_wp2_with fail
      refine (h1.out _ HA.out).mono ?_
      rintro e w1 ⟨rfl, hb1⟩
      have B1 := Aside0.mk hb1; clear hb1
      go_wp2_with fail
      refine (h2.out _ (Kd.C_below HD.out B1.out)).mono ?_
      rintro e w2 ⟨rfl, hb2⟩
      have B2 := Aside0.mk (below_tr B1.out hb2); clear hb2
      go_wp2
      go_ret2
      exact ⟨rfl, B2.out⟩
  · have hs : mClash a b = (false, mCheck a) := by unfold mClash; rw [if_pos (by simp [ea])]
    have ea' : (mCheck a != 0) = true := by simp [ea]
    have ea2 : (mCheck a == 0) = false := by simp [ea]
    rw [hs]
    clear hs
    go_enter Tryd.func25, Tryd.ntmps25
    go_wp2_with fail
    refine (h1.out _ HA.out).mono ?_
    rintro e w1 ⟨rfl, hb1⟩
    have B1 := Aside0.mk hb1; clear hb1
    go_wp2
    go_ret2
    exact ⟨rfl, B1.out⟩
end Go.Proofs.YtbpgoddohhiohaaDoor
