/- sizarref21.Class, Honour. -/
import Derived.Test.YtdnmoppegncioaaGreatDoorJY
namespace Go.Proofs.YtdnmoppegncioaaGreatDoor
open Go.RowKit Go.Proofs.YtdnmoppegncioaaGreatDoorW.PrintWords
set_option linter.unusedVariables false
set_option linter.unusedSimpArgs false
theorem rclass_calls (s : S26) (A0 : Option Addr) (c0 : Nat) (A1 : Option Addr) (c1 : Nat) (A2 : Option Addr) (c2 : Nat) (v3 : Value) (earned : Int) (mean : S28) (w : World) (hs : SysAt w s A0 A1 A2) (hm : I64 mean.f0) :
    Calls Tryz.prog 10 #[.agg #[.slice A0 s.f0.length c0, .slice A1 s.f1.length c1, .slice A2 s.f2.length c2, v3], .int .i64 earned, .agg #[.int .i64 mean.f0, .int .i64 mean.f1]] w fun e w' => e = .returned (.tuple #[.int .i64 (rN s s.f0 earned mean), .int .i64 (ofE s earned mean)]) ∧ Below w.heap.size w w' := by
  have k1 := Aside0.mk (fun V (hb : Below w.heap.size w V) => rlast_calls s A0 c0 A1 c1 A2 c2 v3 A0 c0 s.f0 earned mean V (hs.below hb) (hs.below hb).1 hs.2.2.2.1 hm)
  have HB := Aside0.mk (below_tr ((Below.refl w.heap.size w).alloc (Nat.le_refl _) (.cells #[.slice A0 s.f0.length c0, .slice A1 s.f1.length c1, .slice A2 s.f2.length c2, v3] 26)) ((Below.refl _ _).alloc (Nat.le_refl _) (.cells #[.int .i64 mean.f0, .int .i64 mean.f1] 28)))
  generalize rN s s.f0 earned mean = X at *
  generalize ofE s earned mean = Y at *
  clear hs
  go_enter Tryz.func10, Tryz.ntmps10
  go_wp2_with fail
  refine (k1.out _ HB.out).mono ?_
  rintro e v1 ⟨rfl, hb1⟩
  have HV1 := Aside0.mk (below_tr HB.out hb1); clear hb1
  go_wp2
  exact bodyPost_ret (v := .tuple #[.int .i64 X, .int .i64 Y]) (by simp [results, Tryz.f10, go_sem]) rfl ⟨rfl, HV1.out⟩
theorem rhonour_calls (s : S26) (A0 : Option Addr) (c0 : Nat) (A1 : Option Addr) (c1 : Nat) (A2 : Option Addr) (c2 : Nat) (v3 : Value) (earned : Int) (mean : S28) (w : World) (hs : SysAt w s A0 A1 A2) (hm : I64 mean.f0) :
    Calls Tryz.prog 12 #[.agg #[.slice A0 s.f0.length c0, .slice A1 s.f1.length c1, .slice A2 s.f2.length c2, v3], .int .i64 earned, .agg #[.int .i64 mean.f0, .int .i64 mean.f1]] w fun e w' => e = .returned (.tuple #[.int .i64 (rN s s.f2 earned mean), .int .i64 (ofE s earned mean)]) ∧ Below w.heap.size w w' := by
  have k1 := Aside0.mk (fun V (hb : Below w.heap.size w V) => rlast_calls s A0 c0 A1 c1 A2 c2 v3 A2 c2 s.f2 earned mean V (hs.below hb) (hs.below hb).2.2.1 hs.2.2.2.2.1 hm)
  have HB := Aside0.mk (below_tr ((Below.refl w.heap.size w).alloc (Nat.le_refl _) (.cells #[.slice A0 s.f0.length c0, .slice A1 s.f1.length c1, .slice A2 s.f2.length c2, v3] 26)) ((Below.refl _ _).alloc (Nat.le_refl _) (.cells #[.int .i64 mean.f0, .int .i64 mean.f1] 28)))
  generalize rN s s.f2 earned mean = X at *
  generalize ofE s earned mean = Y at *
  clear hs
  go_enter Tryz.func12, Tryz.ntmps12
  go_wp2_with fail
  refine (k1.out _ HB.out).mono ?_
  rintro e v1 ⟨rfl, hb1⟩
  have HV1 := Aside0.mk (below_tr HB.out hb1); clear hb1
  go_wp2
  exact bodyPost_ret (v := .tuple #[.int .i64 X, .int .i64 Y]) (by simp [results, Tryz.f12, go_sem]) rfl ⟨rfl, HV1.out⟩
end Go.Proofs.YtdnmoppegncioaaGreatDoor
