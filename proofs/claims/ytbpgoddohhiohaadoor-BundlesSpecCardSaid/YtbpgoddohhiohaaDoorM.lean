/- Package meeting: what Check and Clash compute. No condition but how the arguments lie in memory. -/
import Derived.Test.YtbpgoddohhiohaaDoorA
namespace Go.Proofs.YtbpgoddohhiohaaDoor
open Go.RowKit Go.Proofs.YtbpgoddohhiohaaDoorW.PrintWords
set_option linter.unusedVariables false
set_option linter.unusedSimpArgs false

def mValid (m : S65) : Bool := decide (0 ≤ m.f0) && (decide (m.f0 < 7) && (decide (0 ≤ m.f1) && (decide (m.f1 < m.f2) && (decide (m.f2 ≤ 1440) && (decide (0 ≤ m.f3) && (decide (m.f3 ≤ m.f4) && decide (m.f4 < 60)))))))
def mOver (a b : S65) : Bool := decide (a.f0 = b.f0) && (decide (max a.f1 b.f1 < min a.f2 b.f2) && decide (max a.f3 b.f3 ≤ min a.f4 b.f4))


set_option maxHeartbeats 1000000 in
theorem valid_calls (m : S65) (w : World) :
    Calls Tryd.prog 62 #[.agg #[.int .i64 m.f0, .int .i64 m.f1, .int .i64 m.f2, .int .i64 m.f3, .int .i64 m.f4]] w fun e w' => e = .returned (.bool (mValid m)) ∧ Below w.heap.size w w' := by
  obtain ⟨a, b, c, d, e⟩ := m
  go_enter Tryd.func62, Tryd.ntmps62
  go_wp2
  all_goals
    go_ret
    refine ⟨ret_bool ?_, (Below.refl _ _).alloc (Nat.le_refl _) _⟩
    rw [Bool.eq_iff_iff]
    simp only [mValid, Bool.and_eq_true, decide_eq_true_eq]
    first | omega | (simp; omega)

set_option maxHeartbeats 1000000 in
theorem over_calls (m x : S65) (w : World) :
    Calls Tryd.prog 49 #[.agg #[.int .i64 m.f0, .int .i64 m.f1, .int .i64 m.f2, .int .i64 m.f3, .int .i64 m.f4], .agg #[.int .i64 x.f0, .int .i64 x.f1, .int .i64 x.f2, .int .i64 x.f3, .int .i64 x.f4]] w fun e w' => e = .returned (.bool (mOver m x)) ∧ Below w.heap.size w w' := by
  obtain ⟨a, b, c, d, e⟩ := m
  obtain ⟨p, q, r, s, t⟩ := x
  go_enter Tryd.func49, Tryd.ntmps49
  go_wp2
  all_goals
    go_ret
    refine ⟨ret_bool ?_, ((Below.refl _ _).alloc (Nat.le_refl _) _).alloc (by simp) _⟩
    rw [Bool.eq_iff_iff]
    simp only [mOver, Bool.and_eq_true, decide_eq_true_eq]
    first | omega | (simp; omega)
end Go.Proofs.YtbpgoddohhiohaaDoor
