/- average.within, fits, check: what they compute. (Printed by gen_kb.py.) No condition. -/
import Derived.Test.YtdnmoppegncioaaGreatDoorKI
namespace Go.Proofs.YtdnmoppegncioaaGreatDoor
open Go.RowKit Go.Proofs.YtdnmoppegncioaaGreatDoorW.PrintWords
set_option linter.unusedVariables false
set_option linter.unusedSimpArgs false
/-- Is a number between two others? -/
def inR (n lo hi : Int) : Bool := decide (lo ≤ n) && decide (n ≤ hi)
theorem awithin_calls (n lo hi : Int) (W : World) : Calls Tryz.prog 97 #[.int .i64 n, .int .i64 lo, .int .i64 hi] W fun e w' => e = .returned (.bool (inR n lo hi)) ∧ w' = W := by
  cases h1 : decide (lo ≤ n) with
  | false =>
    have hs : inR n lo hi = false := by unfold inR; rw [h1]; rfl
    rw [hs]
    go_enter Tryz.func97, Tryz.ntmps97
    go_wp2
    go_ret
    exact ⟨rfl, rfl⟩
  | true =>
    have hs : inR n lo hi = decide (n ≤ hi) := by unfold inR; rw [h1]; rfl
    rw [hs]
    go_enter Tryz.func97, Tryz.ntmps97
    go_wp2
    go_ret
    exact ⟨rfl, rfl⟩
abbrev attV (a : S141) : Array Value := #[.int .i64 a.f0, .int .i64 a.f1, .int .i64 a.f2, .int .i64 a.f3, .int .i64 a.f4]
/-- Is an attempt valid? -/
def fitsA (a : S141) : Bool := inR a.f0 0 4095 && (inR a.f1 0 1023 && (inR a.f2 0 12 && (inR a.f3 0 6 && inR a.f4 0 60)))
set_option maxHeartbeats 2000000 in
theorem fits_calls (a : S141) (w : World) : Calls Tryz.prog 79 #[.agg (attV a)] w fun e w' => e = .returned (.bool (fitsA a)) ∧ Below w.heap.size w w' := by
  obtain ⟨a0, a1, a2, a3, a4⟩ := a
  simp only [attV, fitsA]
  have HB := Aside0.mk ((Below.refl w.heap.size w).alloc (Nat.le_refl _) (.cells #[.int .i64 a0, .int .i64 a1, .int .i64 a2, .int .i64 a3, .int .i64 a4] 141))
  have h0 := fun W => awithin_calls a0 0 4095 W
  have h1 := fun W => awithin_calls a1 0 1023 W
  have h2 := fun W => awithin_calls a2 0 12 W
  have h3 := fun W => awithin_calls a3 0 6 W
  have h4 := fun W => awithin_calls a4 0 60 W
  generalize inR a0 0 4095 = b0 at *
  generalize inR a1 0 1023 = b1 at *
  generalize inR a2 0 12 = b2 at *
  generalize inR a3 0 6 = b3 at *
  generalize inR a4 0 60 = b4 at *
  have H0 := Aside0.mk h0; clear h0
  have H1 := Aside0.mk h1; clear h1
  have H2 := Aside0.mk h2; clear h2
  have H3 := Aside0.mk h3; clear h3
  have H4 := Aside0.mk h4; clear h4
  cases b0 with
  | false =>
    go_enter Tryz.func79, Tryz.ntmps79
    go_wp2_with (go_at_call 97; (first | with_reducible refine (H0.out _).mono ?_ | with_reducible refine (H1.out _).mono ?_ | with_reducible refine (H2.out _).mono ?_ | with_reducible refine (H3.out _).mono ?_ | with_reducible refine (H4.out _).mono ?_); rintro e w1 ⟨rfl, rfl⟩)
    go_ret
    exact ⟨rfl, HB.out⟩
  | true =>
    cases b1 with
    | false =>
      go_enter Tryz.func79, Tryz.ntmps79
      go_wp2_with (go_at_call 97; (first | with_reducible refine (H0.out _).mono ?_ | with_reducible refine (H1.out _).mono ?_ | with_reducible refine (H2.out _).mono ?_ | with_reducible refine (H3.out _).mono ?_ | with_reducible refine (H4.out _).mono ?_); rintro e w1 ⟨rfl, rfl⟩)
      go_ret
      exact ⟨rfl, HB.out⟩
    | true =>
      cases b2 with
      | false =>
        go_enter Tryz.func79, Tryz.ntmps79
        go_wp2_with (go_at_call 97; (first | with_reducible refine (H0.out _).mono ?_ | with_reducible refine (H1.out _).mono ?_ | with_reducible refine (H2.out _).mono ?_ | with_reducible refine (H3.out _).mono ?_ | with_reducible refine (H4.out _).mono ?_); rintro e w1 ⟨rfl, rfl⟩)
        go_ret
        exact ⟨rfl, HB.out⟩
      | true =>
        cases b3 with
        | false =>
          go_enter Tryz.func79, Tryz.ntmps79
          go_wp2_with (go_at_call 97; (first | with_reducible refine (H0.out _).mono ?_ | with_reducible refine (H1.out _).mono ?_ | with_reducible refine (H2.out _).mono ?_ | with_reducible refine (H3.out _).mono ?_ | with_reducible refine (H4.out _).mono ?_); rintro e w1 ⟨rfl, rfl⟩)
          go_ret
          exact ⟨rfl, HB.out⟩
        | true =>
          go_enter Tryz.func79, Tryz.ntmps79
          go_wp2_with (go_at_call 97; (first | with_reducible refine (H0.out _).mono ?_ | with_reducible refine (H1.out _).mono ?_ | with_reducible refine (H2.out _).mono ?_ | with_reducible refine (H3.out _).mono ?_ | with_reducible refine (H4.out _).mono ?_); rintro e w1 ⟨rfl, rfl⟩)
          go_ret
          exact ⟨rfl, HB.out⟩
theorem acheck1_calls (a : S141) (w : World) : Calls Tryz.prog 78 #[.agg (attV a)] w fun e w' => e = .returned (.bool (!fitsA a)) ∧ Below w.heap.size w w' := by
  have h := fun W => fits_calls a W
  obtain ⟨a0, a1, a2, a3, a4⟩ := a
  simp only [attV] at *
  generalize fitsA ⟨a0, a1, a2, a3, a4⟩ = b at *
  have HB := Aside0.mk ((Below.refl w.heap.size w).alloc (Nat.le_refl _) (.cells #[.int .i64 a0, .int .i64 a1, .int .i64 a2, .int .i64 a3, .int .i64 a4] 141))
  have H := Aside0.mk h; clear h
  go_enter Tryz.func78, Tryz.ntmps78
  go_wp2_with (go_at_call 79; refine (H.out _).mono ?_; rintro e w1 ⟨rfl, hb1⟩)
  all_goals
    go_ret
    exact ⟨rfl, below_tr HB.out hb1⟩
/-- average.check's answer. -/
def aCheck (l : List S141) : Int := if l.any (fun a => !fitsA a) then 150 else 0
theorem acheck_calls (A : Option Addr) (c : Nat) (l : List S141) (w : World) (hr : k141.C w A l.length l) : Calls Tryz.prog 57 #[.slice A l.length c] w fun e w' => e = .returned (.int .i64 (aCheck l)) ∧ Below w.heap.size w w' := by
  have H := Aside0.mk (has_Attempt (fun a => !fitsA a) 78 #[] #[] (enters_of Tryz.func78 (by kernel_rfl) rfl) A c l w (fun W x cs hx hb hK => by
    obtain rfl := k141_open hK
    exact acheck1_calls x W) hr)
  have HS := Aside0.mk (show aCheck l = if l.any (fun a => !fitsA a) then 150 else 0 from rfl)
  generalize l.any (fun a => !fitsA a) = b at H HS
  clear hr
  cases b with
  | false =>
    go_enter Tryz.func57, Tryz.ntmps57
    go_wp2_with (go_at_call 77; refine H.out.mono ?_; rintro e w1 ⟨rfl, hb1⟩)
    all_goals
      go_ret
      exact ⟨by rw [HS.out]; rfl, hb1⟩
  | true =>
    go_enter Tryz.func57, Tryz.ntmps57
    go_wp2_with (go_at_call 77; refine H.out.mono ?_; rintro e w1 ⟨rfl, hb1⟩)
    all_goals
      go_ret
      exact ⟨by rw [HS.out]; rfl, hb1⟩
end Go.Proofs.YtdnmoppegncioaaGreatDoor
