/- sizarref21.Fee. -/
import Derived.Test.YtdnmoppegncioaaGreatDoorJW
namespace Go.Proofs.YtdnmoppegncioaaGreatDoor
open Go.RowKit Go.Proofs.YtdnmoppegncioaaGreatDoorW.PrintWords
set_option linter.unusedVariables false
set_option linter.unusedSimpArgs false
set_option maxHeartbeats 8000000 in
theorem rfee_calls (s : S26) (A0 : Option Addr) (c0 : Nat) (A1 : Option Addr) (c1 : Nat) (A2 : Option Addr) (c2 : Nat) (v3 : Value) (n : Int) (w : World) (hs : SysAt w s A0 A1 A2) :
    Calls Tryz.prog 14 #[.agg #[.slice A0 s.f0.length c0, .slice A1 s.f1.length c1, .slice A2 s.f2.length c2, v3], .int .i64 n] w fun e w' => e = .returned (.tuple #[.int .i64 (feeN s n), .int .i64 (feeE s n)]) ∧ Below w.heap.size w w' := by
  have k1 := Aside0.mk (fun V (hb : Below w.heap.size w V) => r21check_calls s A0 c0 A1 c1 A2 c2 v3 V (hs.below hb))
  have hmax := Kd.C_max hs.2.1
  have HB := Aside0.mk ((Below.refl w.heap.size w).alloc (Nat.le_refl _) (.cells #[.slice A0 s.f0.length c0, .slice A1 s.f1.length c1, .slice A2 s.f2.length c2, v3] 26))
  have HS := Aside0.mk (new_blk w (.cells #[.slice A0 s.f0.length c0, .slice A1 s.f1.length c1, .slice A2 s.f2.length c2, v3] 26))
  have HL := Aside0.mk hs.2.1; clear hs
  cases q1 : okS s with
  | false =>
    have r1 : feeN s n = 0 := by simp [feeN, q1]
    have r2 : feeE s n = 1 := by simp [feeE, q1]
    rw [r1, r2]
    simp only [q1, Bool.false_eq_true, if_false] at k1
    go_enter Tryz.func14, Tryz.ntmps14
    go_wp2_with fail
    refine (k1.out _ HB.out).mono ?_
    rintro e v1 ⟨rfl, hb1⟩
    have HV1 := Aside0.mk (below_tr HB.out hb1)
    have z1 := (blk_cell (blk_low hb1 HS.out) 1).trans rfl
    clear hb1
    go_wp2
    exact bodyPost_ret (v := .tuple #[.int .i64 0, .int .i64 1]) (by simp [results, Tryz.f14, go_sem]) rfl ⟨rfl, HV1.out⟩
  | true =>
    simp only [q1, if_true] at k1
    by_cases g1 : n < 0
    · have d1 : decide (n < 0) = true := decide_eq_true g1
      have q2 : amt n = false := by simp [amt]; omega
      have r1 : feeN s n = 0 := by simp [feeN, q2]
      have r2 : feeE s n = 1 := by simp [feeE, q2]
      rw [r1, r2]
      go_enter Tryz.func14, Tryz.ntmps14
      go_wp2_with fail
      refine (k1.out _ HB.out).mono ?_
      rintro e v1 ⟨rfl, hb1⟩
      have HV1 := Aside0.mk (below_tr HB.out hb1)
      have z1 := (blk_cell (blk_low hb1 HS.out) 1).trans rfl
      clear hb1
      go_wp2
      exact bodyPost_ret (v := .tuple #[.int .i64 0, .int .i64 1]) (by simp [results, Tryz.f14, go_sem]) rfl ⟨rfl, HV1.out⟩
    · have d1 : decide (n < 0) = false := decide_eq_false g1
      by_cases g2 : 10000 < n
      · have d2 : decide (10000 < n) = true := decide_eq_true g2
        have q2 : amt n = false := by simp [amt]; omega
        have r1 : feeN s n = 0 := by simp [feeN, q2]
        have r2 : feeE s n = 1 := by simp [feeE, q2]
        rw [r1, r2]
        go_enter Tryz.func14, Tryz.ntmps14
        go_wp2_with fail
        refine (k1.out _ HB.out).mono ?_
        rintro e v1 ⟨rfl, hb1⟩
        have HV1 := Aside0.mk (below_tr HB.out hb1)
        have z1 := (blk_cell (blk_low hb1 HS.out) 1).trans rfl
        clear hb1
        go_wp2
        exact bodyPost_ret (v := .tuple #[.int .i64 0, .int .i64 1]) (by simp [results, Tryz.f14, go_sem]) rfl ⟨rfl, HV1.out⟩
      · have d2 : decide (10000 < n) = false := decide_eq_false g2
        have q2 : amt n = true := by simp [amt]; omega
        have r1 : feeN s n = fLast (fun f : S38 => decide (f.f1 ≤ n)) s.f1 := by simp [feeN, q1, q2]
        have r2 : feeE s n = 0 := by simp [feeE, q1, q2]
        rw [r1, r2]
        clear r1 r2 q2
        have HE := Aside0.mk (show fLast (fun f : S38 => decide (f.f1 ≤ n)) (s.f1.take s.f1.length) = fLast (fun f : S38 => decide (f.f1 ≤ n)) s.f1 by rw [List.take_length])
        go_enter Tryz.func14, Tryz.ntmps14
        go_wp2_with fail
        refine (k1.out _ HB.out).mono ?_
        rintro e v1 ⟨rfl, hb1⟩
        have HV1 := Aside0.mk (below_tr HB.out hb1)
        have z1 := (blk_cell (blk_low hb1 HS.out) 1).trans rfl
        clear hb1
        go_wp2
        go_loopw [6, 7] (fun a i wr => ∃ k : Nat, k ≤ s.f1.length ∧ i = .int .i64 k ∧ a = .int .i64 (fLast (fun f : S38 => decide (f.f1 ≤ n)) (s.f1.take k)) ∧ wr = v1) (fun _ i _ => s.f1.length - (intOf i).toNat)
        case atStart => exact ⟨0, Nat.zero_le _, rfl, rfl, rfl⟩
        case round =>
          obtain ⟨k, hk, rfl, rfl, rfl⟩ := hrel
          by_cases hlt : k < s.f1.length
          · have hd : (k : Int) < s.f1.length := by omega
            have hT := fLast_take (fun f : S38 => decide (f.f1 ≤ n)) s.f1 z38 k hlt
            rw [show s.f1.getD k z38 = rd_T38 s.f1 k by simp [rd_T38]] at hT
            obtain ⟨ad, rfl, hx0, hx1⟩ := at_T38 (Kd.C_below HL.out HV1.out) k (by omega) (by omega)
            simp only [Int.toNat_natCast] at hx0 hx1
            clear hx0
            generalize rd_T38 s.f1 k = x at *
            by_cases g3 : x.f1 ≤ n
            · have d3 : decide (x.f1 ≤ n) = true := decide_eq_true g3
              rw [d3, if_pos rfl] at hT
              have HT := Aside0.mk hT; clear hT
              go_wp2
              go_roundw
              case rel => exact ⟨k + 1, by omega, by go_num, by rw [HT.out]; go_num, by first | rfl | trivial⟩
              case measure => simp [intOf]; omega
            · have d3 : decide (x.f1 ≤ n) = false := decide_eq_false g3
              rw [d3, if_neg Bool.false_ne_true] at hT
              have HT := Aside0.mk hT; clear hT
              go_wp2
              go_roundw
              case rel => exact ⟨k + 1, by omega, by go_num, by rw [HT.out], by first | rfl | trivial⟩
              case measure => simp [intOf]; omega
          · have hd : ¬ (k : Int) < s.f1.length := by omega
            obtain rfl : k = s.f1.length := by omega
            go_wp2
            exact bodyPost_ret (v := .tuple #[.int .i64 (fLast (fun f : S38 => decide (f.f1 ≤ n)) (s.f1.take s.f1.length)), .int .i64 0]) (by simp [results, Tryz.f14, go_sem]) rfl ⟨by rw [HE.out], HV1.out⟩
end Go.Proofs.YtdnmoppegncioaaGreatDoor
