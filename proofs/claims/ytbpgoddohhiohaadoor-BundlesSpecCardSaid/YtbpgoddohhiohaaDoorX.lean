/- slices.Index and slices.Contains at int and at api.Bundle; '==' of bundles and of meetings. -/
import Derived.Test.YtbpgoddohhiohaaDoorI
import Derived.Test.YtbpgoddohhiohaaDoorWEqStruct
import Derived.BigQuiet
import Derived.Deep.QuietTactic
namespace Go.Proofs.YtbpgoddohhiohaaDoor
open Go.RowKit Go.Proofs.YtbpgoddohhiohaaDoorW.PrintWords
set_option linter.unusedVariables false
set_option linter.unusedSimpArgs false

theorem eqA24 (d : Nat) (w : World) (x0 y0 x1 y1 : Int) : (Op.equalIn (d + 2) 24 (.agg #[.int .i64 x0, .int .i64 x1]) (.agg #[.int .i64 y0, .int .i64 y1])).run Tryd.prog w = .ok (x0 == y0 && (x1 == y1)) w := by
  refine eqA_of Tryd.underlying24 (by kernel_rfl) ?_
  refine eqf_cons (by rfl) (by go_simp; rfl) (by go_simp; rfl) (by go_simp) ?_
  exact eqf_last (by rfl) (by go_simp; rfl) (by go_simp; rfl) (by go_simp)
def bEq (a b : S24) : Bool := a.f0 == b.f0 && a.f1 == b.f1
attribute [local go_sem high] eqA24

set_option maxHeartbeats 2000000 in
theorem index_Bundle (A : Option Addr) (c : Nat) (l : List S24) (b0 b1 : Int) (w : World) (hr : k24.C w A l.length l) :
    Calls Tryd.prog 51 #[.slice A l.length c, .agg #[.int .i64 b0, .int .i64 b1]] w fun e w' => e = .returned (.int .i64 (fIdx (bEq ⟨b0, b1⟩) l)) ∧ Below w.heap.size w w' := by
  have hmax := Kd.C_max hr
  have HR := Aside0.mk hr; clear hr
  go_enter Tryd.func51, Tryd.ntmps51
  go_wp2
  go_loopw [8] (fun i wr => ∃ k : Nat, k ≤ l.length ∧ i = .int .i64 k ∧ Aside0 (∀ j, j < k → bEq ⟨b0, b1⟩ (l.getD j z24) = false) ∧ Aside0 (Below w.heap.size w wr) ∧ Aside0 (wr.heap[w.heap.size]? = some (.cells #[.int .i64 b0, .int .i64 b1] 24 (0, 0)))) (fun i _ => l.length - (intOf i).toNat)
  case atStart => exact ⟨0, Nat.zero_le _, rfl, ⟨fun j hj => absurd hj (Nat.not_lt_zero _)⟩, ⟨(Below.refl _ _).alloc (Nat.le_refl _) _⟩, ⟨new_blk _ _⟩⟩
  case round =>
    obtain ⟨k, hk, rfl, hV, hB, hX⟩ := hrel
    by_cases hlt : k < l.length
    · have hd : (k : Int) < l.length := by omega
      have hp0 : (0 : Int) ≤ k := by omega
      obtain ⟨ad, rfl, hx0, hx1⟩ := at_T24 (Kd.C_below HR.out hB.out) k (by omega) (by omega)
      simp only [Int.toNat_natCast] at hx0 hx1
      have hq : l.getD k z24 = rd_T24 l k := by simp [rd_T24]
      have HQ := Aside0.mk hq; clear hq
      have hz0 := (blk_cell hX.out 0).trans rfl; have hz1 := (blk_cell hX.out 1).trans rfl
      cases hv : bEq ⟨b0, b1⟩ (rd_T24 l k) with
      | true =>
        have hs := fIdx_hit (bEq ⟨b0, b1⟩) l z24 k hlt hV.out (by rw [HQ.out]; exact hv)
        have HS := Aside0.mk hs; clear hs
        have hv2 : (b0 == (rd_T24 l k).f0 && b1 == (rd_T24 l k).f1) = true := hv
        clear hv
        go_wp2
        go_quiet (fail)
        go_wp2
        go_ret
        exact ⟨by rw [HS.out]; rfl, pw_below_drewN hB.out _⟩
      | false =>
        have HV := Aside0.mk hv
        have hv2 : (b0 == (rd_T24 l k).f0 && b1 == (rd_T24 l k).f1) = false := hv
        clear hv
        go_wp2
        go_quiet (fail)
        go_wp2
        exact ⟨⟨k + 1, by omega, by go_num, ⟨fun j hj => by
          rcases Nat.lt_or_ge j k with h | h
          · exact hV.out j h
          · obtain rfl : j = k := by omega
            rw [HQ.out]; exact HV.out⟩, ⟨pw_below_drewN hB.out _⟩, ⟨hX.out⟩⟩, by simp [intOf]; omega⟩
    · have hd : ¬ (k : Int) < l.length := by omega
      have hs := fIdx_miss (bEq ⟨b0, b1⟩) l z24 (fun j hj => hV.out j (by omega))
      have HS := Aside0.mk hs; clear hs
      go_wp2
      go_ret
      exact ⟨by rw [HS.out]; rfl, hB.out⟩

set_option maxHeartbeats 2000000 in
theorem contains_Bundle (A : Option Addr) (c : Nat) (l : List S24) (b0 b1 : Int) (w : World) (hr : k24.C w A l.length l) :
    Calls Tryd.prog 27 #[.slice A l.length c, .agg #[.int .i64 b0, .int .i64 b1]] w fun e w' => e = .returned (.bool (l.any (bEq ⟨b0, b1⟩))) ∧ Below w.heap.size w w' := by
  have hb0 := (Below.refl w.heap.size w).alloc (Nat.le_refl _) (.cells #[.int .i64 b0, .int .i64 b1] 24)
  have hcall := Aside0.mk (index_Bundle A c l b0 b1 _ (Kd.C_below hr hb0))
  clear hr
  have HB := Aside0.mk hb0; clear hb0
  have HN := Aside0.mk (fIdx_nonneg (bEq ⟨b0, b1⟩) l)
  go_enter Tryd.func27, Tryd.ntmps27
  go_wp2_with (go_at_call 51; refine hcall.out.mono ?_; rintro e w1 ⟨rfl, hb1⟩)
  all_goals
    go_ret
    exact ⟨by rw [← HN.out]; rfl, below_tr HB.out hb1⟩

set_option maxHeartbeats 2000000 in
theorem index_Int (A : Option Addr) (c : Nat) (l : List Int) (v : Int) (w : World) (hr : (Kd.int .i64).C w A l.length l) :
    Calls Tryd.prog 55 #[.slice A l.length c, .int .i64 v] w fun e w' => e = .returned (.int .i64 (fIdx (fun x => v == x) l)) ∧ Below w.heap.size w w' := by
  have hmax := Kd.C_max hr
  have HR := Aside0.mk hr; clear hr
  go_enter Tryd.func55, Tryd.ntmps55
  go_wp2
  go_loopw [8] (fun i wr => ∃ k : Nat, k ≤ l.length ∧ i = .int .i64 k ∧ Aside0 (∀ j, j < k → (v == l.getD j 0) = false) ∧ Aside0 (Below w.heap.size w wr)) (fun i _ => l.length - (intOf i).toNat)
  case atStart => exact ⟨0, Nat.zero_le _, rfl, ⟨fun j hj => absurd hj (Nat.not_lt_zero _)⟩, ⟨Below.refl _ _⟩⟩
  case round =>
    obtain ⟨k, hk, rfl, hV, hB⟩ := hrel
    by_cases hlt : k < l.length
    · have hd : (k : Int) < l.length := by omega
      obtain ⟨ad, rfl, hx0⟩ := (Kd.reads_of_C (d := (0 : Int)) (Kd.C_below HR.out hB.out)).at_ k (by omega) (by omega)
      simp only [Int.toNat_natCast] at hx0
      have hq : l.getD k 0 = rdOf 0 l k := by simp [rdOf]
      have HQ := Aside0.mk hq; clear hq
      cases hv : (v == rdOf 0 l k) with
      | true =>
        have hs := fIdx_hit (fun x => v == x) l 0 k hlt hV.out (by rw [HQ.out]; exact hv)
        have HS := Aside0.mk hs; clear hs
        go_wp2
        go_ret
        exact ⟨by rw [HS.out]; rfl, hB.out⟩
      | false =>
        have HV := Aside0.mk hv
        go_wp2
        exact ⟨⟨k + 1, by omega, by go_num, ⟨fun j hj => by
          rcases Nat.lt_or_ge j k with h | h
          · exact hV.out j h
          · obtain rfl : j = k := by omega
            rw [HQ.out]; exact HV.out⟩, hB⟩, by simp [intOf]; omega⟩
    · have hd : ¬ (k : Int) < l.length := by omega
      have hs := fIdx_miss (fun x => v == x) l 0 (fun j hj => hV.out j (by omega))
      have HS := Aside0.mk hs; clear hs
      go_wp2
      go_ret
      exact ⟨by rw [HS.out]; rfl, hB.out⟩

set_option maxHeartbeats 2000000 in
theorem contains_Int (A : Option Addr) (c : Nat) (l : List Int) (v : Int) (w : World) (hr : (Kd.int .i64).C w A l.length l) :
    Calls Tryd.prog 33 #[.slice A l.length c, .int .i64 v] w fun e w' => e = .returned (.bool (l.any fun x => v == x)) ∧ Below w.heap.size w w' := by
  have hcall := Aside0.mk (index_Int A c l v w hr)
  clear hr
  have HN := Aside0.mk (fIdx_nonneg (fun x => v == x) l)
  go_enter Tryd.func33, Tryd.ntmps33
  go_wp2_with (go_at_call 55; refine hcall.out.mono ?_; rintro e w1 ⟨rfl, hb1⟩)
  all_goals
    go_ret
    exact ⟨by rw [← HN.out]; rfl, hb1⟩
end Go.Proofs.YtbpgoddohhiohaaDoor
