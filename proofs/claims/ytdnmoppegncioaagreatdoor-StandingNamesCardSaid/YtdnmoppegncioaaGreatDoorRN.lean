/- The row and the card of StandingNames. (Printed by gen_row2.py.) -/
import Derived.Test.YtdnmoppegncioaaGreatDoorLN
import Derived.Test.YtdnmoppegncioaaGreatDoorTQ
import Derived.Test.YtdnmoppegncioaaGreatDoorRows
import Derived.Test.YtdnmoppegncioaaGreatDoorTie
import Derived.Test.YtdnmoppegncioaaGreatDoorCards
import Derived.ChangeSame
import Derived.ChangeVars
import Derived.JoinedOf
import Derived.RowKit
import Derived.RowKitTokens
import Derived.LaidLaws
import Derived.LaidMore
import Derived.LaidOnce
import Derived.Stop.Joined
import Derived.WalkKit
import Derived.ProofKit
import Derived.OpenShut
import Derived.ChangeOld
import Derived.Below
import Derived.Carry
import Derived.ChangeMaps5
import Derived.SevenTiedAt
import Derived.SizedLaws
namespace Go.Proofs.YtdnmoppegncioaaGreatDoor
open Go Go.ChangeShapes Go.WideShapes Go.ChangeAt Go.RowKit Go.Proofs.YtdnmoppegncioaaGreatDoorW.PrintWords
set_option linter.unusedVariables false
set_option linter.unusedSimpArgs false

private theorem own : ownKnob Tryz.prog.godebug = none := by kernel_rfl
private theorem laidOut : laidOutB Tryz.prog = true := by kernel_rfl
private abbrev laidRow : List (String × DataW Unit) := [("sizar/rules.kinds", Rows.laid_sizar_rules_kinds)]
private theorem door_met (os : Os) (args : Array Value) : laidMetH Tryz.prog laidRow ((World.doorLaid Tryz.prog 23 os).forCall (fun _ _ => 0) ⟨#[], args, []⟩).memory :=
  laidMetH_of_parts3 (fuel := 8) (laidMet_of_run' 8 (by kernel_rfl) (by kernel_rfl)) (by kernel_rfl) (by kernel_rfl)

set_option maxRecDepth 100000 in
theorem names21_lifted (os : Os) (started : os.Started) (H : Type) (enc : TypeId × Value → H) :
    ReturnsInHanded {} Tryz.checked os 6 .any (fun w args => (Rows.standingNamesSpec.pre enc Tryz.prog Tryz.f6 [] false w args ∧ laidMetH Tryz.prog laidRow w) ∧ sizedMet enc Tryz.prog Tryz.f6 (OpenSpec.ofChange Rows.standingNamesSpec) false w args)
      (Rows.standingNamesSpec.post enc Tryz.prog Tryz.f6 false true false false) := by
  refine returnsInHanded_of_change_and (C := Tryz.checked) (X := fun w _ => laidMetH Tryz.prog laidRow w) (fun _ _ _ hh h => h.of_heap hh) own started (by kernel_rfl) Tryz.func6
    (ChangeSpec.witness_shaped (enc := enc) (C := Tryz.checked) (os := os) (X := fun w _ => laidMetH Tryz.prog laidRow w) false (World.doorLaid Tryz.prog 23 os) #[.agg #[.slice none 0 0, .slice none 0 0, .slice none 0 0, .slice none 0 0], .string ByteArray.empty, .agg #[.int .i64 0, .int .i64 0, .int .i64 0, .int .i64 0], .int .i64 0, .agg #[.int .i64 0, .int .i64 0]] 8 rfl (World.shaped_of_RefB (by kernel_rfl) (by kernel_rfl)) (by kernel_rfl) (by kernel_rfl) (by kernel_rfl) (door_met os _)) ?_
  intro W base args ds gs before hval0 hW _ hsz hL _
  have hval : ∀ (j : Nat) t v, Tryz.f6.params[j]? = some t → args[j]? = some v → Value.okWide Tryz.prog W .any base t v := hval0
  have hW' := hW
  obtain ⟨p, q, hA0, hV0, rfl, hfz, hnd⟩ := hW
  have hA : DataW.TrodAll enc Tryz.prog W 0 (fun _ => true) true Tryz.f6.params.toList args.toList ds p := hA0
  have hV : DataW.TrodVars enc Tryz.prog W (fun _ => true) [] gs q := hV0
  rw [Tryz.params6] at hA hval hsz
  obtain ⟨v0, vs0, d0, ds0, p0, q0, hargs, rfl, rfl, h0, r0⟩ := trodAll_cons hA
  obtain ⟨v1, vs1, d1, ds1, p1, q1, rfl, rfl, rfl, h1, r1⟩ := trodAll_cons r0
  obtain ⟨v2, vs2, d2, ds2, p2, q2, rfl, rfl, rfl, h2, r2⟩ := trodAll_cons r1
  obtain ⟨v3, vs3, d3, ds3, p3, q3, rfl, rfl, rfl, h3, r3⟩ := trodAll_cons r2
  obtain ⟨v4, vs4, d4, ds4, p4, q4, rfl, rfl, rfl, h4, r4⟩ := trodAll_cons r3
  obtain ⟨rfl, rfl, rfl⟩ := trodAll_nil r4
  obtain rfl : args = #[v0, v1, v2, v3, v4] := by cases args; simp_all
  obtain ⟨rfl, rfl⟩ := trodVars_none hV
  obtain ⟨cs0, rfl, -⟩ := okWide_struct Tryz.underlying26 (hval 0 26 v0 rfl rfl)
  obtain ⟨s0, hy0, hb0⟩ := argB_struct oSystem h0 (weights_at hsz 0 rfl rfl)
  obtain ⟨A00, c00, A01, c01, A02, c02, A03, c03, rfl, hs0, hC0, hl0⟩ := sys_of hy0 hb0
  have lt0 : ∀ x ∈ p0, x.block < W.heap.size := by obtain ⟨m, hm⟩ := h0; exact DataW.trod_lt m _ _ _ hm
  have g1 := h1
  obtain ⟨a1, rfl, rfl, rfl, wn1⟩ := Go.ChangeMaps.open_string Tryz.underlying9 (hval 1 9 v1 rfl rfl) h1
  have hr1 : a1.size ≤ 140737488351232 := by
    obtain ⟨f, hf⟩ := g1
    obtain ⟨y, hy, hz⟩ := oStr.2 (cs := [.string a1]) hf (weights_at hsz 1 rfl rfl)
    have e : [Value.string a1] = [Value.string y] := hy
    injection e with e
    injection e with e
    rw [e]; exact hz
  obtain ⟨cs2, rfl, -⟩ := okWide_struct Tryz.underlying46 (hval 2 46 v2 rfl rfl)
  obtain ⟨y2, hy2, hb2⟩ := argB_struct oClause h2 (weights_at hsz 2 rfl rfl)
  obtain rfl : cs2 = #[.int .i64 y2.f0, .int .i64 y2.f1, .int .i64 y2.f2, .int .i64 y2.f3] := by have := k46_open hy2; cases cs2; simp at this; rw [this]
  have lt2 : ∀ x ∈ p2, x.block < W.heap.size := by obtain ⟨m, hm⟩ := h2; exact DataW.trod_lt m _ _ _ hm
  obtain ⟨a3, rfl, rfl, rfl, wn3⟩ := open_int Tryz.underlying3 (hval 3 3 v3 rfl rfl) h3
  have hr3 : I64 a3 := by have := wn3; simp only [Lit.wf, Bool.and_eq_true, decide_eq_true_eq] at this; exact this
  obtain ⟨cs4, rfl, -⟩ := okWide_struct Tryz.underlying28 (hval 4 28 v4 rfl rfl)
  obtain ⟨y4, hy4, hb4⟩ := argB_struct oRatio h4 (weights_at hsz 4 rfl rfl)
  obtain rfl : cs4 = #[.int .i64 y4.f0, .int .i64 y4.f1] := by have := k28_open hy4; cases cs4; simp at this; rw [this]
  have lt4 : ∀ x ∈ p4, x.block < W.heap.size := by obtain ⟨m, hm⟩ := h4; exact DataW.trod_lt m _ _ _ hm
  refine (names_calls s0 A00 c00 A01 c01 A02 c02 A03 c03 a1 y2 a3 y4 W hs0 hC0 hl0 hb4.1 (fun x hx => (hb0.2.2.1.1 x hx).1) hr1).mono fun e W' ⟨he, bel⟩ => ?_
  subst he
  exact ⟨_, rfl, _, _, _, [], _, [], hW', trodAll_mk1 (shut_bool Tryz.underlying4 _), (trodAll_cons_mk (Below.trod laidOut (by kernel_rfl) (of_decide_eq_true (by kernel_rfl)) h0 bel lt0) (trodAll_cons_mk (Go.ChangeMaps.shut_string Tryz.underlying9 wn1) (trodAll_cons_mk (Below.trod laidOut (by kernel_rfl) (of_decide_eq_true (by kernel_rfl)) h2 bel lt2) (trodAll_cons_mk (shut_int Tryz.underlying3 wn3) (trodAll_cons_mk (Below.trod laidOut (by kernel_rfl) (of_decide_eq_true (by kernel_rfl)) h4 bel lt4) trodAll_mk0))))), rfl, bel.frame _, fun h => by cases h⟩

theorem names21_holds : Rows.StandingNamesSaid :=
  OpenClaim.holds_of_wide 6 Tryz.f6 rfl rfl rfl rfl rfl rfl rfl ⟨rfl, rfl, rfl, rfl, rfl⟩ rfl rfl rfl rfl rfl (by kernel_rfl) Tryz.func6 (by kernel_rfl)
    (of_decide_eq_true (by kernel_rfl)) (by unfold Func.isWrapper; rw [if_neg (of_decide_eq_false (by kernel_rfl))]; exact ⟨rfl, rfl⟩)
    (fun os started H enc _ => names21_lifted os started H enc)

theorem names21_card : Rows.StandingNamesCardSaid :=
  Claim7.holds_tied_plain_at .later [] [.funcs] true (true, "82300a43750bf73944aa30b1a841f4eff4e980a9186ac696309a8919813d05da") false
    names21_holds (fun _ h => by cases h) (by kernel_rfl) (fun _ h => by cases h) standingNames_row_tie rfl ⟨rfl, rfl⟩ (by kernel_rfl) rfl
    (fun f fn hf hfn => by
      obtain rfl : f = 6 := Option.some.inj ((show Tryz.prog.funcNamed "sizar/sizarlaw21.StandingNames" = some 6 by kernel_rfl).symm.trans hf) |>.symm
      obtain rfl : fn = Tryz.f6 := (Option.some.inj (Tryz.func6.symm.trans hfn)).symm
      exact ⟨by kernel_rfl, fun j t ht => by
        rw [Tryz.params6] at ht
        have hw : ∀ t ∈ [26, 9, 46, 3, 28], Tryz.prog.wantsStandIn t = false := by
          intro t ht
          simp only [List.mem_cons, List.not_mem_nil, or_false] at ht
          rcases ht with rfl | rfl | rfl | rfl | rfl
          · kernel_rfl
          · kernel_rfl
          · kernel_rfl
          · kernel_rfl
          · kernel_rfl
        exact hw t (List.mem_of_getElem? (by simpa using ht))⟩)
    (by kernel_rfl)
#print axioms names21_card
end Go.Proofs.YtdnmoppegncioaaGreatDoor
