/- standing.of, Class, Honour, Fee. -/
import Derived.Test.YtdnmoppegncioaaGreatDoorJO
namespace Go.Proofs.YtdnmoppegncioaaGreatDoor
open Go.RowKit Go.Proofs.YtdnmoppegncioaaGreatDoorW.PrintWords
set_option linter.unusedVariables false
set_option linter.unusedSimpArgs false

/-- What is known of a system that lies in a world. -/
def SysAt (W : World) (s : S26) (A0 A1 A2 : Option Addr) : Prop := k42.C W A0 s.f0.length s.f0 ∧ k38.C W A1 s.f1.length s.f1 ∧ k42.C W A2 s.f2.length s.f2 ∧ (∀ x ∈ s.f0, I64 x.f2.f0) ∧ (∀ x ∈ s.f2, I64 x.f2.f0) ∧ s.f0.length + s.f2.length ≤ 9223372036854775807
theorem SysAt.below {W W' : World} {s : S26} {A0 A1 A2 : Option Addr} (h : SysAt W s A0 A1 A2) (hb : Below W.heap.size W W') : SysAt W' s A0 A1 A2 := ⟨Kd.C_below h.1 hb, Kd.C_below h.2.1 hb, Kd.C_below h.2.2.1 hb, h.2.2.2⟩
/-- standing.of's answers. -/
def ofN (s : S26) (l : List S42) (earned : Int) (mean : S28) : Int := if okS s && amt earned && okR mean then fLast (holdsC earned mean) l else 0
def ofE (s : S26) (earned : Int) (mean : S28) : Int := if okS s && amt earned then (if okR mean then 0 else 50) else 1
set_option maxHeartbeats 4000000 in
theorem of_calls (s : S26) (A0 : Option Addr) (c0 : Nat) (A1 : Option Addr) (c1 : Nat) (A2 : Option Addr) (c2 : Nat) (v3 : Value) (A : Option Addr) (c : Nat) (l : List S42) (earned : Int) (mean : S28) (w : World) (hs : SysAt w s A0 A1 A2) (hl : k42.C w A l.length l) (hI : ∀ x ∈ l, I64 x.f2.f0) (hm : I64 mean.f0) :
    Calls Tryz.prog 21 #[.agg #[.slice A0 s.f0.length c0, .slice A1 s.f1.length c1, .slice A2 s.f2.length c2, v3], .slice A l.length c, .int .i64 earned, .agg #[.int .i64 mean.f0, .int .i64 mean.f1]] w fun e w' => e = .returned (.tuple #[.int .i64 (ofN s l earned mean), .int .i64 (ofE s earned mean)]) ∧ Below w.heap.size w w' := by
  have k1 := Aside0.mk (fun V (hb : Below w.heap.size w V) => scheck_calls s A0 c0 A1 c1 A2 c2 v3 V (Kd.C_below hs.1 hb) (Kd.C_below hs.2.1 hb) (Kd.C_below hs.2.2.1 hb) hs.2.2.2.1 hs.2.2.2.2.1 hs.2.2.2.2.2)
  have k2 := Aside0.mk (fun V => amount_calls earned V)
  have k3 := Aside0.mk (fun V => check_calls mean hm V)
  have b1 := (Below.refl w.heap.size w).alloc (Nat.le_refl _) (.cells #[.slice A0 s.f0.length c0, .slice A1 s.f1.length c1, .slice A2 s.f2.length c2, v3] 26)
  generalize hw1 : w.alloc (.cells #[.slice A0 s.f0.length c0, .slice A1 s.f1.length c1, .slice A2 s.f2.length c2, v3] 26) = w1 at b1
  have n0 := new_blk w (.cells #[.slice A0 s.f0.length c0, .slice A1 s.f1.length c1, .slice A2 s.f2.length c2, v3] 26)
  rw [hw1] at n0
  have s1 : w1.heap.size = w.heap.size + 1 := by rw [← hw1]; simp
  have b2 := (Below.refl w1.heap.size w1).alloc (Nat.le_refl _) (.cells #[.int .i64 earned] 3)
  generalize hw2 : w1.alloc (.cells #[.int .i64 earned] 3) = w2 at b2
  have n1 := new_blk w1 (.cells #[.int .i64 earned] 3)
  rw [hw2] at n1
  have s2 : w2.heap.size = w.heap.size + 1 + 1 := by rw [← hw2, ← s1]; simp
  have b3 := (Below.refl w2.heap.size w2).alloc (Nat.le_refl _) (.cells #[.int .i64 mean.f0, .int .i64 mean.f1] 28)
  have n2 := new_blk w2 (.cells #[.int .i64 mean.f0, .int .i64 mean.f1] 28)
  have m0 := blk_low b3 (blk_low b2 n0)
  have m1 := blk_low b3 n1
  have HB := Aside0.mk (below_tr (below_tr b1 b2) b3)
  rw [s1] at m1; rw [s2] at n2
  subst hw2; subst hw1
  have HS := Aside0.mk (And.intro m0 (And.intro m1 n2))
  clear b1 b2 b3 n0 n1 n2 m0 m1 s1 s2
  have HL := Aside0.mk (And.intro hl (And.intro hI hm)); clear hl hI hm hs
  cases q1 : okS s with
  | false =>
    have r1 : ofN s l earned mean = 0 := by simp [ofN, q1]
    have r2 : ofE s earned mean = 1 := by simp [ofE, q1]
    rw [r1, r2]
    simp only [q1, Bool.false_eq_true, if_false] at k1
    go_enter Tryz.func21, Tryz.ntmps21
    go_wp2_with fail
    refine (k1.out _ HB.out).mono ?_
    rintro e v1 ⟨rfl, hb1⟩
    have HV1 := Aside0.mk (below_tr HB.out hb1)
    have z0 := (blk_cell (blk_low hb1 HS.out.2.1) 0).trans rfl
    have z1 := (blk_cell (blk_low hb1 HS.out.2.2) 0).trans rfl
    have z2 := (blk_cell (blk_low hb1 HS.out.2.2) 1).trans rfl
    clear hb1
    go_wp2
    exact bodyPost_ret (v := .tuple #[.int .i64 0, .int .i64 1]) (by simp [results, Tryz.f21, go_sem]) rfl ⟨rfl, HV1.out⟩
  | true =>
    simp only [q1, if_true] at k1
    cases q2 : amt earned with
    | false =>
      have r1 : ofN s l earned mean = 0 := by simp [ofN, q2]
      have r2 : ofE s earned mean = 1 := by simp [ofE, q2]
      rw [r1, r2]; rw [q2] at k2
      go_enter Tryz.func21, Tryz.ntmps21
      go_wp2_with fail
      refine (k1.out _ HB.out).mono ?_
      rintro e v1 ⟨rfl, hb1⟩
      have HV1 := Aside0.mk (below_tr HB.out hb1)
      have z0 := (blk_cell (blk_low hb1 HS.out.2.1) 0).trans rfl
      have z1 := (blk_cell (blk_low hb1 HS.out.2.2) 0).trans rfl
      have z2 := (blk_cell (blk_low hb1 HS.out.2.2) 1).trans rfl
      clear hb1
      go_wp2_with fail
      refine (k2.out _).mono ?_
      rintro e v2 ⟨rfl, rfl⟩
      go_wp2
      exact bodyPost_ret (v := .tuple #[.int .i64 0, .int .i64 1]) (by simp [results, Tryz.f21, go_sem]) rfl ⟨rfl, HV1.out⟩
    | true =>
      rw [q2] at k2
      cases q3 : okR mean with
      | false =>
        have r1 : ofN s l earned mean = 0 := by simp [ofN, q3]
        have r2 : ofE s earned mean = 50 := by simp [ofE, q1, q2, q3]
        rw [r1, r2]
        simp only [errR, q3, Bool.false_eq_true, if_false] at k3
        go_enter Tryz.func21, Tryz.ntmps21
        go_wp2_with fail
        refine (k1.out _ HB.out).mono ?_
        rintro e v1 ⟨rfl, hb1⟩
        have HV1 := Aside0.mk (below_tr HB.out hb1)
        have z0 := (blk_cell (blk_low hb1 HS.out.2.1) 0).trans rfl
        have z1 := (blk_cell (blk_low hb1 HS.out.2.2) 0).trans rfl
        have z2 := (blk_cell (blk_low hb1 HS.out.2.2) 1).trans rfl
        clear hb1
        go_wp2_with fail
        refine (k2.out _).mono ?_
        rintro e v2 ⟨rfl, rfl⟩
        go_wp2_with fail
        refine (k3.out _).mono ?_
        rintro e v2 ⟨rfl, hb2⟩
        have HV2 := Aside0.mk (below_tr HV1.out hb2); clear hb2
        go_wp2
        exact bodyPost_ret (v := .tuple #[.int .i64 0, .int .i64 50]) (by simp [results, Tryz.f21, go_sem]) rfl ⟨rfl, HV2.out⟩
      | true =>
        have r1 : ofN s l earned mean = fLast (holdsC earned mean) l := by simp [ofN, q1, q2, q3]
        have r2 : ofE s earned mean = 0 := by simp [ofE, q1, q2, q3]
        rw [r1, r2]
        simp only [errR, q3, if_true] at k3
        go_enter Tryz.func21, Tryz.ntmps21
        go_wp2_with fail
        refine (k1.out _ HB.out).mono ?_
        rintro e v1 ⟨rfl, hb1⟩
        have HV1 := Aside0.mk (below_tr HB.out hb1)
        have z0 := (blk_cell (blk_low hb1 HS.out.2.1) 0).trans rfl
        have z1 := (blk_cell (blk_low hb1 HS.out.2.2) 0).trans rfl
        have z2 := (blk_cell (blk_low hb1 HS.out.2.2) 1).trans rfl
        have HZ := Aside0.mk (And.intro z0 (And.intro z1 z2))
        clear hb1
        go_wp2_with fail
        refine (k2.out _).mono ?_
        rintro e v2 ⟨rfl, rfl⟩
        go_wp2_with fail
        refine (k3.out _).mono ?_
        rintro e v2 ⟨rfl, hb2⟩
        have HV2 := Aside0.mk (below_tr HV1.out hb2)
        have HY := Aside0.mk (And.intro (cell_low hb2 HZ.out.1) (And.intro (cell_low hb2 HZ.out.2.1) (cell_low hb2 HZ.out.2.2)))
        clear hb2 z0 z1 z2
        go_wp2_with fail
        refine (last_Class (holdsC earned mean) 36 #[] #[.pointer (some ⟨w.heap.size + 1 + 1, 0, none⟩), .pointer (some ⟨w.heap.size + 1, 0, none⟩)] (enters_of Tryz.func36 (by kernel_rfl) rfl) A c l v2 (fun W x hx hb => of1_calls x (HL.out.2.1 x hx) mean HL.out.2.2 earned _ _ W (cell_low hb HY.out.2.1) (cell_low hb HY.out.2.2) (cell_low hb HY.out.1)) (Kd.C_below HL.out.1 HV2.out)).mono ?_
        rintro e v3 ⟨rfl, hb3⟩
        have HV3 := Aside0.mk (below_tr HV2.out hb3); clear hb3
        go_wp2
        exact bodyPost_ret (v := .tuple #[.int .i64 (fLast (holdsC earned mean) l), .int .i64 0]) (by simp [results, Tryz.f21, go_sem]) rfl ⟨rfl, HV3.out⟩
theorem class_calls (s : S26) (A0 : Option Addr) (c0 : Nat) (A1 : Option Addr) (c1 : Nat) (A2 : Option Addr) (c2 : Nat) (v3 : Value) (earned : Int) (mean : S28) (w : World) (hs : SysAt w s A0 A1 A2) (hm : I64 mean.f0) :
    Calls Tryz.prog 9 #[.agg #[.slice A0 s.f0.length c0, .slice A1 s.f1.length c1, .slice A2 s.f2.length c2, v3], .int .i64 earned, .agg #[.int .i64 mean.f0, .int .i64 mean.f1]] w fun e w' => e = .returned (.tuple #[.int .i64 (ofN s s.f0 earned mean), .int .i64 (ofE s earned mean)]) ∧ Below w.heap.size w w' := by
  have k1 := Aside0.mk (fun V (hb : Below w.heap.size w V) => of_calls s A0 c0 A1 c1 A2 c2 v3 A0 c0 s.f0 earned mean V (hs.below hb) (hs.below hb).1 hs.2.2.2.1 hm)
  have HB := Aside0.mk (below_tr ((Below.refl w.heap.size w).alloc (Nat.le_refl _) (.cells #[.slice A0 s.f0.length c0, .slice A1 s.f1.length c1, .slice A2 s.f2.length c2, v3] 26)) ((Below.refl _ _).alloc (Nat.le_refl _) (.cells #[.int .i64 mean.f0, .int .i64 mean.f1] 28)))
  generalize ofN s s.f0 earned mean = X at *
  generalize ofE s earned mean = Y at *
  clear hs
  go_enter Tryz.func9, Tryz.ntmps9
  go_wp2_with fail
  refine (k1.out _ HB.out).mono ?_
  rintro e v1 ⟨rfl, hb1⟩
  have HV1 := Aside0.mk (below_tr HB.out hb1); clear hb1
  go_wp2
  exact bodyPost_ret (v := .tuple #[.int .i64 X, .int .i64 Y]) (by simp [results, Tryz.f9, go_sem]) rfl ⟨rfl, HV1.out⟩
theorem honour_calls (s : S26) (A0 : Option Addr) (c0 : Nat) (A1 : Option Addr) (c1 : Nat) (A2 : Option Addr) (c2 : Nat) (v3 : Value) (earned : Int) (mean : S28) (w : World) (hs : SysAt w s A0 A1 A2) (hm : I64 mean.f0) :
    Calls Tryz.prog 11 #[.agg #[.slice A0 s.f0.length c0, .slice A1 s.f1.length c1, .slice A2 s.f2.length c2, v3], .int .i64 earned, .agg #[.int .i64 mean.f0, .int .i64 mean.f1]] w fun e w' => e = .returned (.tuple #[.int .i64 (ofN s s.f2 earned mean), .int .i64 (ofE s earned mean)]) ∧ Below w.heap.size w w' := by
  have k1 := Aside0.mk (fun V (hb : Below w.heap.size w V) => of_calls s A0 c0 A1 c1 A2 c2 v3 A2 c2 s.f2 earned mean V (hs.below hb) (hs.below hb).2.2.1 hs.2.2.2.2.1 hm)
  have HB := Aside0.mk (below_tr ((Below.refl w.heap.size w).alloc (Nat.le_refl _) (.cells #[.slice A0 s.f0.length c0, .slice A1 s.f1.length c1, .slice A2 s.f2.length c2, v3] 26)) ((Below.refl _ _).alloc (Nat.le_refl _) (.cells #[.int .i64 mean.f0, .int .i64 mean.f1] 28)))
  generalize ofN s s.f2 earned mean = X at *
  generalize ofE s earned mean = Y at *
  clear hs
  go_enter Tryz.func11, Tryz.ntmps11
  go_wp2_with fail
  refine (k1.out _ HB.out).mono ?_
  rintro e v1 ⟨rfl, hb1⟩
  have HV1 := Aside0.mk (below_tr HB.out hb1); clear hb1
  go_wp2
  exact bodyPost_ret (v := .tuple #[.int .i64 X, .int .i64 Y]) (by simp [results, Tryz.f11, go_sem]) rfl ⟨rfl, HV1.out⟩
/-- standing.Fee's answers. -/
def feeN (s : S26) (n : Int) : Int := if okS s && amt n then fLast (fun f : S38 => decide (f.f1 ≤ n)) s.f1 else 0
def feeE (s : S26) (n : Int) : Int := if okS s && amt n then 0 else 1
theorem fee_calls (s : S26) (A0 : Option Addr) (c0 : Nat) (A1 : Option Addr) (c1 : Nat) (A2 : Option Addr) (c2 : Nat) (v3 : Value) (n : Int) (w : World) (hs : SysAt w s A0 A1 A2) :
    Calls Tryz.prog 13 #[.agg #[.slice A0 s.f0.length c0, .slice A1 s.f1.length c1, .slice A2 s.f2.length c2, v3], .int .i64 n] w fun e w' => e = .returned (.tuple #[.int .i64 (feeN s n), .int .i64 (feeE s n)]) ∧ Below w.heap.size w w' := by
  have k1 := Aside0.mk (fun V (hb : Below w.heap.size w V) => scheck_calls s A0 c0 A1 c1 A2 c2 v3 V (Kd.C_below hs.1 hb) (Kd.C_below hs.2.1 hb) (Kd.C_below hs.2.2.1 hb) hs.2.2.2.1 hs.2.2.2.2.1 hs.2.2.2.2.2)
  have k2 := Aside0.mk (fun V => amount_calls n V)
  have b1 := (Below.refl w.heap.size w).alloc (Nat.le_refl _) (.cells #[.slice A0 s.f0.length c0, .slice A1 s.f1.length c1, .slice A2 s.f2.length c2, v3] 26)
  generalize hw1 : w.alloc (.cells #[.slice A0 s.f0.length c0, .slice A1 s.f1.length c1, .slice A2 s.f2.length c2, v3] 26) = w1 at b1
  have n0 := new_blk w (.cells #[.slice A0 s.f0.length c0, .slice A1 s.f1.length c1, .slice A2 s.f2.length c2, v3] 26)
  rw [hw1] at n0
  have s1 : w1.heap.size = w.heap.size + 1 := by rw [← hw1]; simp
  have b2 := (Below.refl w1.heap.size w1).alloc (Nat.le_refl _) (.cells #[.int .i64 n] 3)
  have n1 := new_blk w1 (.cells #[.int .i64 n] 3)
  have m0 := blk_low b2 n0
  have HB := Aside0.mk (below_tr b1 b2)
  rw [s1] at n1
  subst hw1
  have HS := Aside0.mk (And.intro m0 n1)
  clear b1 b2 n0 n1 m0 s1
  have HL := Aside0.mk hs; clear hs
  cases q1 : okS s with
  | false =>
    have r1 : feeN s n = 0 := by simp [feeN, q1]
    have r2 : feeE s n = 1 := by simp [feeE, q1]
    rw [r1, r2]
    simp only [q1, Bool.false_eq_true, if_false] at k1
    go_enter Tryz.func13, Tryz.ntmps13
    go_wp2_with fail
    refine (k1.out _ HB.out).mono ?_
    rintro e v1 ⟨rfl, hb1⟩
    have HV1 := Aside0.mk (below_tr HB.out hb1)
    have z0 := (blk_cell (blk_low hb1 HS.out.2) 0).trans rfl
    have z1 := (blk_cell (blk_low hb1 HS.out.1) 1).trans rfl
    clear hb1
    go_wp2
    exact bodyPost_ret (v := .tuple #[.int .i64 0, .int .i64 1]) (by simp [results, Tryz.f13, go_sem]) rfl ⟨rfl, HV1.out⟩
  | true =>
    simp only [q1, if_true] at k1
    cases q2 : amt n with
    | false =>
      have r1 : feeN s n = 0 := by simp [feeN, q2]
      have r2 : feeE s n = 1 := by simp [feeE, q2]
      rw [r1, r2]; rw [q2] at k2
      go_enter Tryz.func13, Tryz.ntmps13
      go_wp2_with fail
      refine (k1.out _ HB.out).mono ?_
      rintro e v1 ⟨rfl, hb1⟩
      have HV1 := Aside0.mk (below_tr HB.out hb1)
      have z0 := (blk_cell (blk_low hb1 HS.out.2) 0).trans rfl
      have z1 := (blk_cell (blk_low hb1 HS.out.1) 1).trans rfl
      clear hb1
      go_wp2_with fail
      refine (k2.out _).mono ?_
      rintro e v2 ⟨rfl, rfl⟩
      go_wp2
      exact bodyPost_ret (v := .tuple #[.int .i64 0, .int .i64 1]) (by simp [results, Tryz.f13, go_sem]) rfl ⟨rfl, HV1.out⟩
    | true =>
      rw [q2] at k2
      have r1 : feeN s n = fLast (fun f : S38 => decide (f.f1 ≤ n)) s.f1 := by simp [feeN, q1, q2]
      have r2 : feeE s n = 0 := by simp [feeE, q1, q2]
      rw [r1, r2]
      go_enter Tryz.func13, Tryz.ntmps13
      go_wp2_with fail
      refine (k1.out _ HB.out).mono ?_
      rintro e v1 ⟨rfl, hb1⟩
      have HV1 := Aside0.mk (below_tr HB.out hb1)
      have z0 := (blk_cell (blk_low hb1 HS.out.2) 0).trans rfl
      have z1 := (blk_cell (blk_low hb1 HS.out.1) 1).trans rfl
      have HZ := Aside0.mk z0
      clear hb1
      go_wp2_with fail
      refine (k2.out _).mono ?_
      rintro e v2 ⟨rfl, rfl⟩
      go_wp2_with fail
      refine (last_Fee (fun f : S38 => decide (f.f1 ≤ n)) 25 #[] #[.pointer (some ⟨w.heap.size + 1, 0, none⟩)] (enters_of Tryz.func25 (by kernel_rfl) rfl) A1 c1 s.f1 _ (fun W x hx hb => fee1_calls x n _ W (cell_low hb HZ.out)) (Kd.C_below HL.out.2.1 HV1.out)).mono ?_
      rintro e v3 ⟨rfl, hb3⟩
      have HV3 := Aside0.mk (below_tr HV1.out hb3); clear hb3
      go_wp2
      exact bodyPost_ret (v := .tuple #[.int .i64 (fLast (fun f : S38 => decide (f.f1 ≤ n)) s.f1), .int .i64 0]) (by simp [results, Tryz.f13, go_sem]) rfl ⟨rfl, HV3.out⟩
end Go.Proofs.YtdnmoppegncioaaGreatDoor
