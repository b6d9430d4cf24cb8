/- ratio: size, common, Check, Compare. -/
import Derived.Test.YtdnmoppegncioaaGreatDoorJA
import Derived.Test.YtdnmoppegncioaaGreatDoorG1
import Derived.BigQuiet
import Derived.Laws.EntriesVeiled
import Derived.Shelf.Abstract
import Derived.Deep.QuietTactic
namespace Go.Proofs.YtdnmoppegncioaaGreatDoor
open Go.RowKit Go.Proofs.YtdnmoppegncioaaGreatDoorW.PrintWords
set_option linter.unusedVariables false
set_option linter.unusedSimpArgs false

theorem ret_u64 {a b : Int} (h : a = b) : Ending.returned (.int .u64 a) = Ending.returned (.int .u64 b) := by rw [h]
theorem wrap_u64 (n : Int) (h0 : 0 ≤ n) (h : n < 18446744073709551616) : IntKind.u64.wrap n = n := by
  simp [IntKind.wrap, IntKind.signed, IntKind.bits]; omega
theorem size_wrap (n : Int) (h1 : -9223372036854775808 ≤ n) (h2 : n < 0) : IntKind.u64.wrap (-IntKind.u64.wrap n) = (n.natAbs : Int) := by
  simp only [IntKind.wrap, IntKind.signed, IntKind.bits]; simp; omega
theorem size_calls (n : Int) (h1 : -9223372036854775808 ≤ n) (h2 : n ≤ 9223372036854775807) (W : World) : Calls Tryz.prog 40 #[.int .i64 n] W fun e w' => e = .returned (.int .u64 n.natAbs) ∧ w' = W := by
  go_enter Tryz.func40, Tryz.ntmps40
  go_wp2
  all_goals
    go_ret
    refine ⟨?_, rfl⟩
  · exact ret_u64 (size_wrap n h1 (by assumption))
  · exact ret_u64 (by have h0 : 0 ≤ n := by assumption
                      omega)

theorem step_calls (g : Nat) (y x : Nat) (hy : y < 18446744073709551616) (hx : x < 18446744073709551616) (W : World) (h : W.heap[g]? = some (.cells #[.func (.func 39) #[] #[.pointer (some ⟨g, 0, none⟩)]] 80 (0, 0))) :
    Calls Tryz.prog 39 #[.int .u64 x, .int .u64 y, .pointer (some ⟨g, 0, none⟩)] W fun e w' => e = .returned (.int .u64 (Nat.gcd y x)) ∧ ∃ m, w' = W.drewN m := by
  induction y using Nat.strongRecOn generalizing x W with
  | _ y ih =>
  have HI := Aside0.mk ih; clear ih
  go_enter Tryz.func39, Tryz.ntmps39
  by_cases h0 : y = 0
  · subst h0
    go_wp2
    go_ret
    exact ⟨by simp, 0, rfl⟩
  · have hyp : (y : Int) ≠ 0 := by omega
    have hcall := fun m => HI.out (x % y) (Nat.mod_lt _ (by omega)) y (by have := Nat.mod_lt x (show y > 0 by omega); omega) hy (W.drewN m) h
    have hl : W.cell? ⟨g, 0, none⟩ = some (.func (.func 39) #[] #[.pointer (some ⟨g, 0, none⟩)]) := blk_cell h 0
    have hm : ((x % y : Nat) : Int) = (x : Int).tmod y := rfl
    rw [hm] at hcall
    have HC := Aside0.mk hcall; clear hcall
    go_wp2
    go_quiet ((exact Calls.quiet_of (HC.out _)))
    go_wp2
    go_ret
    exact ⟨ret_u64 (by rw [Nat.gcd_rec y x]), _, rfl⟩

theorem common_calls (a b : Int) (h1 : -9223372036854775808 ≤ a) (h2 : a ≤ 9223372036854775807) (h3 : -9223372036854775808 ≤ b) (h4 : b ≤ 9223372036854775807) (W : World) :
    Calls Tryz.prog 30 #[.int .i64 a, .int .i64 b] W fun e w' => e = .returned (.int .u64 (Nat.gcd a.natAbs b.natAbs)) ∧ Below W.heap.size W w' := by
  have hsa := fun (V : World) => size_calls a h1 h2 V
  have hsb := fun (V : World) => size_calls b h3 h4 V
  have hst := fun (V : World) (h : V.heap[W.heap.size]? = some (.cells #[.func (.func 39) #[] #[.pointer (some ⟨W.heap.size, 0, none⟩)]] 80 (0, 0))) => step_calls W.heap.size b.natAbs a.natAbs (by omega) (by omega) V h
  have HA := Aside0.mk hsa; clear hsa
  have HB := Aside0.mk hsb; clear hsb
  have HS := Aside0.mk hst; clear hst
  go_enter Tryz.func30, Tryz.ntmps30
  go_wp2
  go_quiet ((first | (go_at_call_of 40 (Value.int .i64 a); exact Calls.quiet_of_same (HA.out _)) | (go_at_call_of 40 (Value.int .i64 b); exact Calls.quiet_of_same (HB.out _)) | (go_at_call 39; exact Calls.quiet_of (HS.out _ (new_blk W _)))))
  go_wp2
  go_ret
  exact ⟨ret_u64 (by rw [Nat.gcd_comm]), pw_below_drewN ((Below.refl _ _).alloc (Nat.le_refl _) _) _⟩

/-- Is a fraction valid? -/
def okR (r : S28) : Bool := fRatio r.f0 r.f1
def errR (r : S28) : Int := if okR r then 0 else 50
theorem errR_one {r : S28} (g1 : 1 ≤ r.f1) (g2 : r.f1 ≤ 1073741824) (g3 : -1073741824 ≤ r.f0) (g4 : r.f0 ≤ 1073741824) (g5 : Nat.gcd r.f0.natAbs r.f1.natAbs = 1) : errR r = 0 := by
  unfold errR okR fRatio fMost
  rw [decide_eq_true g1, decide_eq_true g2, decide_eq_true g3, decide_eq_true g4, g5]
  rfl
theorem errR_not {r : S28} (g5 : Nat.gcd r.f0.natAbs r.f1.natAbs ≠ 1) : errR r = 50 := by
  unfold errR okR fRatio
  rw [beq_eq_false_iff_ne.2 g5, Bool.and_false]
  rfl
theorem errR_bad {r : S28} (h : ¬ (1 ≤ r.f1 ∧ r.f1 ≤ 1073741824 ∧ -1073741824 ≤ r.f0 ∧ r.f0 ≤ 1073741824)) : errR r = 50 := by
  unfold errR
  rw [if_neg]
  intro hk
  simp only [okR, fRatio, fMost, Bool.and_eq_true] at hk
  exact h ⟨of_decide_eq_true hk.1.1.1.1, of_decide_eq_true hk.1.1.1.2, of_decide_eq_true hk.1.1.2, of_decide_eq_true hk.1.2⟩
theorem check_calls (r : S28) (h1 : -9223372036854775808 ≤ r.f0 ∧ r.f0 ≤ 9223372036854775807) (W : World) : Calls Tryz.prog 17 #[.agg #[.int .i64 r.f0, .int .i64 r.f1]] W fun e w' => e = .returned (.int .i64 (errR r)) ∧ Below W.heap.size W w' := by
  have hcm := fun (V : World) (h2 : r.f1 ≤ 1073741824) (h3 : 1 ≤ r.f1) => common_calls r.f0 r.f1 h1.1 h1.2 (by omega) (by omega) V
  have HC := Aside0.mk hcm; clear hcm
  have HONE := Aside0.mk (@errR_one r)
  have HNOT := Aside0.mk (@errR_not r)
  have HBAD := Aside0.mk (@errR_bad r)
  go_enter Tryz.func17, Tryz.ntmps17
  have hA : Below W.heap.size W (W.alloc (.cells #[.int .i64 r.f0, .int .i64 r.f1] 28)) := (Below.refl _ _).alloc (Nat.le_refl _) _
  have HA := Aside0.mk hA; clear hA
  by_cases g1 : 1 ≤ r.f1
  · by_cases g2 : r.f1 ≤ 1073741824
    · by_cases g3 : -1073741824 ≤ r.f0
      · by_cases g4 : r.f0 ≤ 1073741824
        · go_wp2_with (go_at_call 30; refine (HC.out _ g2 g1).mono ?_; rintro e w1 ⟨rfl, hb1⟩)
          all_goals
            go_ret
            refine ⟨ret_i64 ?_, below_tr HA.out hb1⟩
          · refine (HNOT.out ?_).symm
            rename_i hh
            rcases hh with hh | hh
            · omega
            · intro h0; rw [h0] at hh; simp at hh
          · refine (HONE.out g1 g2 g3 g4 ?_).symm
            rename_i hh
            have hh2 := hh.2
            simp at hh2
            omega
        · go_wp2
          all_goals
            go_ret
            first | exact ⟨ret_i64 (HBAD.out (by omega)).symm, HA.out⟩ | (exfalso; simp_all; omega)
      · go_wp2
        all_goals
            go_ret
            first | exact ⟨ret_i64 (HBAD.out (by omega)).symm, HA.out⟩ | (exfalso; simp_all; omega)
    · go_wp2
      all_goals
            go_ret
            first | exact ⟨ret_i64 (HBAD.out (by omega)).symm, HA.out⟩ | (exfalso; simp_all; omega)
  · go_wp2
    all_goals
            go_ret
            first | exact ⟨ret_i64 (HBAD.out (by omega)).symm, HA.out⟩ | (exfalso; simp_all; omega)
end Go.Proofs.YtdnmoppegncioaaGreatDoor
