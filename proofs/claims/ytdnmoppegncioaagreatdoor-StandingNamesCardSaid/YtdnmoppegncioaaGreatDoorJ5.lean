/- sizarref05: size, common, Check. -/
import Derived.Test.YtdnmoppegncioaaGreatDoorJP
namespace Go.Proofs.YtdnmoppegncioaaGreatDoor
open Go.RowKit Go.Proofs.YtdnmoppegncioaaGreatDoorW.PrintWords
set_option linter.unusedVariables false
set_option linter.unusedSimpArgs false

theorem rsize_calls (n : Int) (h1 : -9223372036854775808 ≤ n) (h2 : n ≤ 9223372036854775807) (W : World) : Calls Tryz.prog 49 #[.int .i64 n] W fun e w' => e = .returned (.int .u64 n.natAbs) ∧ w' = W := by
  go_enter Tryz.func49, Tryz.ntmps49
  go_wp2
  all_goals
    go_ret
    refine ⟨?_, rfl⟩
  · exact ret_u64 (size_wrap n h1 (by assumption))
  · exact ret_u64 (by have h0 : 0 ≤ n := by assumption
                      omega)
theorem rcommon_calls (a b : Nat) (ha : a < 18446744073709551616) (hb : b < 18446744073709551616) (W : World) : Calls Tryz.prog 48 #[.int .u64 a, .int .u64 b] W fun e w' => e = .returned (.int .u64 (Nat.gcd a b)) ∧ ∃ m, w' = W.drewN m := by
  go_enter Tryz.func48, Tryz.ntmps48
  go_wp2
  go_loopw [0, 1] (fun i j wr => ∃ x y : Nat, i = .int .u64 x ∧ j = .int .u64 y ∧ x < 18446744073709551616 ∧ y < 18446744073709551616 ∧ Nat.gcd y x = Nat.gcd b a ∧ ∃ m, wr = W.drewN m) (fun _ j _ => (intOf j).toNat)
  case atStart => exact ⟨a, b, rfl, rfl, ha, hb, rfl, 0, rfl⟩
  case round =>
    obtain ⟨x, y, rfl, rfl, hx, hy, hg, mm, rfl⟩ := hrel
    by_cases hlt : 0 < y
    · have hyp : (y : Int) ≠ 0 := by omega
      have hd : (0 : Int) < (y : Int) := by omega
      have hgr : Nat.gcd (x % y) y = Nat.gcd b a := by rw [← Nat.gcd_rec]; exact hg
      have hlt2 := Nat.mod_lt x hlt
      have hm : ((x % y : Nat) : Int) = (x : Int).tmod y := rfl
      go_wp2
      go_quiet (fail)
      go_wp2
      exact ⟨⟨y, x % y, rfl, rfl, hy, by omega, hgr, mm + nq, World.drewN_drewN _ _ _⟩, by simp [intOf]; omega⟩
    · obtain rfl : y = 0 := by omega
      have hgx : x = Nat.gcd b a := by rw [← hg]; simp
      go_wp2
      go_ret
      exact ⟨ret_u64 (by rw [hgx, Nat.gcd_comm]), _, rfl⟩
theorem rcheck_calls (r : S28) (h1 : I64 r.f0) (W : World) : Calls Tryz.prog 37 #[.agg #[.int .i64 r.f0, .int .i64 r.f1]] W fun e w' => e = .returned (.int .i64 (errR r)) ∧ Below W.heap.size W w' := by
  have hcm := fun (V : World) (h2 : r.f1 ≤ 1073741824) (h3 : 1 ≤ r.f1) => rcommon_calls r.f0.natAbs r.f1.natAbs (by have := h1.1; have := h1.2; omega) (by omega) V
  have HC := Aside0.mk hcm; clear hcm
  have HS0 := Aside0.mk (fun V => rsize_calls r.f0 h1.1 h1.2 V)
  have HS1 := Aside0.mk (fun V (h2 : r.f1 ≤ 1073741824) (h3 : 1 ≤ r.f1) => rsize_calls r.f1 (by omega) (by omega) V)
  have HONE := Aside0.mk (@errR_one r)
  have HNOT := Aside0.mk (@errR_not r)
  have HBAD := Aside0.mk (@errR_bad r)
  go_enter Tryz.func37, Tryz.ntmps37
  have hA : Below W.heap.size W (W.alloc (.cells #[.int .i64 r.f0, .int .i64 r.f1] 28)) := (Below.refl _ _).alloc (Nat.le_refl _) _
  have HA := Aside0.mk hA; clear hA
  by_cases g1 : 1 ≤ r.f1
  · have d1 : decide (r.f1 < 1) = false := decide_eq_false (by omega)
    by_cases g2 : r.f1 ≤ 1073741824
    · have d2 : decide (1073741824 < r.f1) = false := decide_eq_false (by omega)
      by_cases g3 : -1073741824 ≤ r.f0
      · have d3 : decide (r.f0 < -1073741824) = false := decide_eq_false (by omega)
        by_cases g4 : r.f0 ≤ 1073741824
        · have d4 : decide (1073741824 < r.f0) = false := decide_eq_false (by omega)
          go_wp2
          go_quiet ((first | (go_at_call_of 49 (Value.int .i64 r.f0); exact Calls.quiet_of_same (HS0.out _)) | (go_at_call_of 49 (Value.int .i64 r.f1); exact Calls.quiet_of_same (HS1.out _ g2 g1)) | (go_at_call 48; exact Calls.quiet_of (HC.out _ g2 g1))))
          go_wp2
          · go_ret
            refine ⟨ret_i64 (HNOT.out ?_).symm, pw_below_drewN HA.out _⟩
            rename_i hh; intro h0; rw [h0] at hh; simp at hh
          · go_ret
            refine ⟨ret_i64 (HONE.out g1 g2 g3 g4 ?_).symm, pw_below_drewN HA.out _⟩
            rename_i hh; simp at hh; omega
        · have d4 : decide (1073741824 < r.f0) = true := decide_eq_true (by omega)
          go_wp2
          go_quiet (fail)
          go_wp2
          go_ret
          exact ⟨ret_i64 (HBAD.out (by omega)).symm, pw_below_drewN HA.out _⟩
      · have d3 : decide (r.f0 < -1073741824) = true := decide_eq_true (by omega)
        go_wp2
        go_quiet (fail)
        go_wp2
        go_ret
        exact ⟨ret_i64 (HBAD.out (by omega)).symm, pw_below_drewN HA.out _⟩
    · have d2 : decide (1073741824 < r.f1) = true := decide_eq_true (by omega)
      go_wp2
      go_quiet (fail)
      go_wp2
      go_ret
      exact ⟨ret_i64 (HBAD.out (by omega)).symm, pw_below_drewN HA.out _⟩
  · have d1 : decide (r.f1 < 1) = true := decide_eq_true (by omega)
    go_wp2
    go_quiet (fail)
    go_wp2
    go_ret
    exact ⟨ret_i64 (HBAD.out (by omega)).symm, pw_below_drewN HA.out _⟩
end Go.Proofs.YtdnmoppegncioaaGreatDoor
