/- standing.Of at arguments that are not valid. (Printed by gen_kr.py.) -/
import Derived.Test.YtdnmoppegncioaaGreatDoorKQ
namespace Go.Proofs.YtdnmoppegncioaaGreatDoor
open Go.RowKit Go.Proofs.YtdnmoppegncioaaGreatDoorW.PrintWords
set_option linter.unusedVariables false
set_option linter.unusedSimpArgs false
/-- Are the arguments of standing.Of not valid? -/
def ofBad (kind st ob t : Int) : Bool := !(kind == 2 || (kind == 3 || kind == 4)) || (decide (st < 0) || (decide (20000 ≤ st) || (decide (t < 0) || (decide (1024 ≤ t) || (kind == 3 && !amt ob)))))
set_option maxRecDepth 100000 in
set_option maxHeartbeats 8000000 in
theorem sof_bad (D1 D2 D3 D4 : Option Addr) (n1 n2 n3 n4 e1 e2 e3 e4 : Nat) (kind st ob t kn : Int) (w : World) (h : ofBad kind st ob t = true) :
    Calls Tryz.prog 20 #[.agg #[.slice D1 n1 e1, .slice D2 n2 e2, .slice D3 n3 e3, .slice D4 n4 e4], .int .i64 kind, .int .i64 st, .int .i64 ob, .int .i64 t, .int .i64 kn] w fun e w' => e = .returned (.tuple #[.int .i64 0, .slice none 0 0, .int .i64 1]) ∧ Below w.heap.size w w' := by
  have ham := fun V => amount_calls ob V
  unfold ofBad at h
  have HB := Aside0.mk ((Below.refl w.heap.size w).alloc (Nat.le_refl _) (.cells #[.slice D1 n1 e1, .slice D2 n2 e2, .slice D3 n3 e3, .slice D4 n4 e4] 58))
  by_cases k2 : kind = 2
  · subst k2
    by_cases c0 : st < 0
    · have d0 : decide (st < 0) = true := decide_eq_true c0
      clear h ham
      go_enter Tryz.func20, Tryz.ntmps20
      go_wp2
      exact bodyPost_ret (v := .tuple #[.int .i64 0, .slice none 0 0, .int .i64 1]) (by simp [results, Tryz.f20, go_sem]) rfl ⟨rfl, HB.out⟩
    · have d0 : decide (st < 0) = false := decide_eq_false c0
      by_cases c1 : 20000 ≤ st
      · have d1 : decide (20000 ≤ st) = true := decide_eq_true c1
        clear h ham
        go_enter Tryz.func20, Tryz.ntmps20
        go_wp2
        exact bodyPost_ret (v := .tuple #[.int .i64 0, .slice none 0 0, .int .i64 1]) (by simp [results, Tryz.f20, go_sem]) rfl ⟨rfl, HB.out⟩
      · have d1 : decide (20000 ≤ st) = false := decide_eq_false c1
        by_cases c2 : t < 0
        · have d2 : decide (t < 0) = true := decide_eq_true c2
          clear h ham
          go_enter Tryz.func20, Tryz.ntmps20
          go_wp2
          exact bodyPost_ret (v := .tuple #[.int .i64 0, .slice none 0 0, .int .i64 1]) (by simp [results, Tryz.f20, go_sem]) rfl ⟨rfl, HB.out⟩
        · have d2 : decide (t < 0) = false := decide_eq_false c2
          by_cases c3 : 1024 ≤ t
          · have d3 : decide (1024 ≤ t) = true := decide_eq_true c3
            clear h ham
            go_enter Tryz.func20, Tryz.ntmps20
            go_wp2
            exact bodyPost_ret (v := .tuple #[.int .i64 0, .slice none 0 0, .int .i64 1]) (by simp [results, Tryz.f20, go_sem]) rfl ⟨rfl, HB.out⟩
          · have d3 : decide (1024 ≤ t) = false := decide_eq_false c3
            exfalso; simp [d0, d1, d2, d3] at h
  · have j2 : (kind == 2) = false := by simp [k2]
    have i2 : (kind != 2) = true := by simp [k2]
    clear k2
    by_cases k3 : kind = 3
    · subst k3
      by_cases c0 : st < 0
      · have d0 : decide (st < 0) = true := decide_eq_true c0
        clear h ham
        go_enter Tryz.func20, Tryz.ntmps20
        go_wp2
        exact bodyPost_ret (v := .tuple #[.int .i64 0, .slice none 0 0, .int .i64 1]) (by simp [results, Tryz.f20, go_sem]) rfl ⟨rfl, HB.out⟩
      · have d0 : decide (st < 0) = false := decide_eq_false c0
        by_cases c1 : 20000 ≤ st
        · have d1 : decide (20000 ≤ st) = true := decide_eq_true c1
          clear h ham
          go_enter Tryz.func20, Tryz.ntmps20
          go_wp2
          exact bodyPost_ret (v := .tuple #[.int .i64 0, .slice none 0 0, .int .i64 1]) (by simp [results, Tryz.f20, go_sem]) rfl ⟨rfl, HB.out⟩
        · have d1 : decide (20000 ≤ st) = false := decide_eq_false c1
          by_cases c2 : t < 0
          · have d2 : decide (t < 0) = true := decide_eq_true c2
            clear h ham
            go_enter Tryz.func20, Tryz.ntmps20
            go_wp2
            exact bodyPost_ret (v := .tuple #[.int .i64 0, .slice none 0 0, .int .i64 1]) (by simp [results, Tryz.f20, go_sem]) rfl ⟨rfl, HB.out⟩
          · have d2 : decide (t < 0) = false := decide_eq_false c2
            by_cases c3 : 1024 ≤ t
            · have d3 : decide (1024 ≤ t) = true := decide_eq_true c3
              clear h ham
              go_enter Tryz.func20, Tryz.ntmps20
              go_wp2
              exact bodyPost_ret (v := .tuple #[.int .i64 0, .slice none 0 0, .int .i64 1]) (by simp [results, Tryz.f20, go_sem]) rfl ⟨rfl, HB.out⟩
            · have d3 : decide (1024 ≤ t) = false := decide_eq_false c3
              have ha : amt ob = false := by simpa [d0, d1, d2, d3] using h
              rw [ha] at ham
              have HAM := Aside0.mk ham
              clear h ham ha
              go_enter Tryz.func20, Tryz.ntmps20
              go_wp2_with fail
              refine (HAM.out _).mono ?_
              rintro e w0 ⟨rfl, rfl⟩
              go_wp2
              exact bodyPost_ret (v := .tuple #[.int .i64 0, .slice none 0 0, .int .i64 1]) (by simp [results, Tryz.f20, go_sem]) rfl ⟨rfl, HB.out⟩
    · have j3 : (kind == 3) = false := by simp [k3]
      have i3 : (kind != 3) = true := by simp [k3]
      clear k3
      by_cases k4 : kind = 4
      · subst k4
        by_cases c0 : st < 0
        · have d0 : decide (st < 0) = true := decide_eq_true c0
          clear h ham
          go_enter Tryz.func20, Tryz.ntmps20
          go_wp2
          exact bodyPost_ret (v := .tuple #[.int .i64 0, .slice none 0 0, .int .i64 1]) (by simp [results, Tryz.f20, go_sem]) rfl ⟨rfl, HB.out⟩
        · have d0 : decide (st < 0) = false := decide_eq_false c0
          by_cases c1 : 20000 ≤ st
          · have d1 : decide (20000 ≤ st) = true := decide_eq_true c1
            clear h ham
            go_enter Tryz.func20, Tryz.ntmps20
            go_wp2
            exact bodyPost_ret (v := .tuple #[.int .i64 0, .slice none 0 0, .int .i64 1]) (by simp [results, Tryz.f20, go_sem]) rfl ⟨rfl, HB.out⟩
          · have d1 : decide (20000 ≤ st) = false := decide_eq_false c1
            by_cases c2 : t < 0
            · have d2 : decide (t < 0) = true := decide_eq_true c2
              clear h ham
              go_enter Tryz.func20, Tryz.ntmps20
              go_wp2
              exact bodyPost_ret (v := .tuple #[.int .i64 0, .slice none 0 0, .int .i64 1]) (by simp [results, Tryz.f20, go_sem]) rfl ⟨rfl, HB.out⟩
            · have d2 : decide (t < 0) = false := decide_eq_false c2
              by_cases c3 : 1024 ≤ t
              · have d3 : decide (1024 ≤ t) = true := decide_eq_true c3
                clear h ham
                go_enter Tryz.func20, Tryz.ntmps20
                go_wp2
                exact bodyPost_ret (v := .tuple #[.int .i64 0, .slice none 0 0, .int .i64 1]) (by simp [results, Tryz.f20, go_sem]) rfl ⟨rfl, HB.out⟩
              · have d3 : decide (1024 ≤ t) = false := decide_eq_false c3
                exfalso; simp [d0, d1, d2, d3] at h
      · have j4 : (kind == 4) = false := by simp [k4]
        have i4 : (kind != 4) = true := by simp [k4]
        clear k4
        clear h ham
        go_enter Tryz.func20, Tryz.ntmps20
        go_wp2
        exact bodyPost_ret (v := .tuple #[.int .i64 0, .slice none 0 0, .int .i64 1]) (by simp [results, Tryz.f20, go_sem]) rfl ⟨rfl, HB.out⟩
end Go.Proofs.YtdnmoppegncioaaGreatDoor
