/- sizarlaw21.sane: the chapter's examples hold. (Printed by gen_sa.py.) -/
import Derived.Test.YtdnmoppegncioaaGreatDoorKU
import Derived.Test.YtdnmoppegncioaaGreatDoorKR
namespace Go.Proofs.YtdnmoppegncioaaGreatDoor
open Go.RowKit Go.Proofs.YtdnmoppegncioaaGreatDoorW.PrintWords
set_option linter.unusedVariables false
set_option linter.unusedSimpArgs false
theorem lit_C {α : Type} {d : Kd α} {w' : World} {g : Nat} {ps : List α} {inner : List Value} {e : Nat} (hb : w'.heap[g]? = some (.cells inner.toArray e (0, 0))) (hr : Reps (d.K w') d.sz ps inner) (hm : ps.length ≤ 9223372036854775807) : d.C w' (some ⟨g, 0, none⟩) ps.length ps := by
  have ho : w'.ownsRow 0 e d.sz (.slice (some ⟨g, 0, none⟩) ps.length ps.length) ps.length inner := ⟨hr.1, .inr ⟨g, ps.length, inner.toArray, rfl, Nat.zero_le _, hb, Nat.le_refl _, by simpa [maxLen] using hm, by simp [hr.1], by rw [← hr.1]; simp⟩⟩
  obtain ⟨A, c, he, hrow⟩ := own_reads_row ho hr rfl
  injection he with h1 h2 h3
  rw [h1]
  exact hrow
def nilS : ByteArray := ⟨#[]⟩
def sanC : List S42 := [⟨⟨#[]⟩, 0, ⟨0, 1⟩⟩, ⟨⟨#[]⟩, 60, ⟨0, 1⟩⟩, ⟨⟨#[]⟩, 30, ⟨0, 1⟩⟩]
def sanF : List S38 := [⟨⟨#[]⟩, 0⟩, ⟨⟨#[]⟩, 12⟩]
def sanH : List S42 := [⟨⟨#[]⟩, 0, ⟨19, 2⟩⟩]
def sanS : S26 := ⟨sanC, sanF, sanH, []⟩
def zerS : S26 := ⟨[], [], [], []⟩
def badS : S26 := ⟨[], [⟨⟨#[]⟩, -1⟩], [], []⟩
theorem zer_at (W : World) : SysAt W zerS none none none := ⟨Kd.C_nil _ _, Kd.C_nil _ _, Kd.C_nil _ _, by intro x hx; simp [zerS] at hx, by intro x hx; simp [zerS] at hx, by decide⟩
theorem sanC_C {g : Nat} {w' : World} (hb : w'.heap[g]? = some (.cells #[.string ⟨#[]⟩, .int .i64 0, .int .i64 0, .int .i64 1, .string ⟨#[]⟩, .int .i64 60, .int .i64 0, .int .i64 1, .string ⟨#[]⟩, .int .i64 30, .int .i64 0, .int .i64 1] 42 (0, 0))) : k42.C w' (some ⟨g, 0, none⟩) 3 sanC :=
  lit_C (ps := sanC) (inner := [.string ⟨#[]⟩, .int .i64 0, .int .i64 0, .int .i64 1, .string ⟨#[]⟩, .int .i64 60, .int .i64 0, .int .i64 1, .string ⟨#[]⟩, .int .i64 30, .int .i64 0, .int .i64 1]) hb ⟨rfl, fun j p hj => by
    match j, hj with
    | 0, hj => injection hj with hj; subst hj; exact k42_mk _ _
    | 1, hj => injection hj with hj; subst hj; exact k42_mk _ _
    | 2, hj => injection hj with hj; subst hj; exact k42_mk _ _⟩ (by decide)
theorem sanF_C {g : Nat} {w' : World} (hb : w'.heap[g]? = some (.cells #[.string ⟨#[]⟩, .int .i64 0, .string ⟨#[]⟩, .int .i64 12] 38 (0, 0))) : k38.C w' (some ⟨g, 0, none⟩) 2 sanF :=
  lit_C (ps := sanF) (inner := [.string ⟨#[]⟩, .int .i64 0, .string ⟨#[]⟩, .int .i64 12]) hb ⟨rfl, fun j p hj => by
    match j, hj with
    | 0, hj => injection hj with hj; subst hj; exact k38_mk _ _
    | 1, hj => injection hj with hj; subst hj; exact k38_mk _ _⟩ (by decide)
theorem sanH_C {g : Nat} {w' : World} (hb : w'.heap[g]? = some (.cells #[.string ⟨#[]⟩, .int .i64 0, .int .i64 19, .int .i64 2] 42 (0, 0))) : k42.C w' (some ⟨g, 0, none⟩) 1 sanH :=
  lit_C (ps := sanH) (inner := [.string ⟨#[]⟩, .int .i64 0, .int .i64 19, .int .i64 2]) hb ⟨rfl, fun j p hj => by
    match j, hj with
    | 0, hj => injection hj with hj; subst hj; exact k42_mk _ _⟩ (by decide)
theorem badF_C {g : Nat} {w' : World} (hb : w'.heap[g]? = some (.cells #[.string ⟨#[]⟩, .int .i64 (-1)] 38 (0, 0))) : k38.C w' (some ⟨g, 0, none⟩) 1 badS.f1 :=
  lit_C (ps := badS.f1) (inner := [.string ⟨#[]⟩, .int .i64 (-1)]) hb ⟨rfl, fun j p hj => by
    match j, hj with
    | 0, hj => injection hj with hj; subst hj; exact k38_mk _ _⟩ (by decide)
theorem sanI : (∀ x ∈ sanS.f0, I64 x.f2.f0) ∧ (∀ x ∈ sanS.f2, I64 x.f2.f0) := by
  refine ⟨fun x hx => ?_, fun x hx => ?_⟩
  · simp only [sanS, sanC, List.mem_cons, List.not_mem_nil, or_false] at hx
    rcases hx with rfl | rfl | rfl <;> (unfold I64; decide)
  · simp only [sanS, sanH, List.mem_cons, List.not_mem_nil, or_false] at hx
    rcases hx with rfl; unfold I64; decide
set_option maxHeartbeats 2000000 in
theorem sof_none (w : World) : Calls Tryz.prog 20 #[.agg #[.slice none 0 0, .slice none 0 0, .slice none 0 0, .slice none 0 0], .int .i64 2, .int .i64 3, .int .i64 0, .int .i64 5, .int .i64 100] w fun e w' => ∃ A n c, e = .returned (.tuple #[.int .i64 0, .slice A n c, .int .i64 0]) ∧ Below w.heap.size w w' := by
  have h := sof_class none none none none 0 0 0 0 0 0 0 0 3 0 5 100 zerS none none none none 0 0 0 0 0 [] [] [⟨⟨4, 0, 0⟩, 5, 6⟩] [⟨⟨12, 0, 0⟩, 0, 1⟩] [] w (by decide) (by decide) (zer_at w)
    (fun V hV => bsys_of none none none none 0 0 0 0 0 0 0 0 5 100 none none none none 0 0 0 0 0 0 0 0 false _ V (fun U hU => look_sys_no none none none none 0 0 0 0 0 0 0 [] none 0 [] 4 0 0 5 100 52 #[] #[] U (by decide) (Kd.C_nil _ _) (by kernel_rfl)))
    (fun V hV => rof_nil 3 5 100 V (by decide) (by decide))
    (fun V A c hV hr => rcounted_nil 3 5 100 A c V (by decide) (by decide) hr)
    (by kernel_rfl) (by kernel_rfl) (by decide) (by decide)
  refine h.mono ?_
  rintro e w' ⟨rv, he, hR, hb⟩
  obtain ⟨A, c, rfl⟩ := Kd.R_slice hR
  refine ⟨A, 2, c, he.trans ?_, hb⟩
  have h1 : ofN zerS zerS.f0 (capE (earnS [])) ⟨meanA [], meanB []⟩ = 0 := by kernel_rfl
  have h2 : ofE zerS (capE (earnS [])) ⟨meanA [], meanB []⟩ = 0 := by kernel_rfl
  rw [h1, h2]
  rfl
set_option maxRecDepth 100000 in
set_option maxHeartbeats 32000000 in
theorem sane_calls (w : World) : Calls Tryz.prog 7 #[] w fun e w' => e = .returned (.bool true) ∧ Below w.heap.size w w' := by
  obtain ⟨W1, h1⟩ : ∃ W1, W1 = w.alloc (.cells #[.int .i64 0, .int .i64 1] 28) := ⟨_, rfl⟩
  obtain ⟨W2, h2⟩ : ∃ W2, W2 = W1.alloc (.cells #[.string ⟨#[]⟩, .int .i64 0, .int .i64 0, .int .i64 1, .string ⟨#[]⟩, .int .i64 60, .int .i64 0, .int .i64 1, .string ⟨#[]⟩, .int .i64 30, .int .i64 0, .int .i64 1] 42) := ⟨_, rfl⟩
  obtain ⟨W3, h3⟩ : ∃ W3, W3 = W2.alloc (.cells #[.string ⟨#[]⟩, .int .i64 0, .string ⟨#[]⟩, .int .i64 12] 38) := ⟨_, rfl⟩
  obtain ⟨W4, h4⟩ : ∃ W4, W4 = W3.alloc (.cells #[.string ⟨#[]⟩, .int .i64 0, .int .i64 19, .int .i64 2] 42) := ⟨_, rfl⟩
  obtain ⟨W5, h5⟩ : ∃ W5, W5 = W4.alloc (.cells #[.slice (some ⟨w.heap.size + 1, 0, none⟩) 3 3, .slice (some ⟨w.heap.size + 1 + 1, 0, none⟩) 2 2, .slice (some ⟨w.heap.size + 1 + 1 + 1, 0, none⟩) 1 1, .slice none 0 0] 26) := ⟨_, rfl⟩
  have p1 := nb (W := w) rfl (.cells #[.int .i64 0, .int .i64 1] 28); rw [← h1] at p1
  have p2 := nb p1.2 (.cells #[.string ⟨#[]⟩, .int .i64 0, .int .i64 0, .int .i64 1, .string ⟨#[]⟩, .int .i64 60, .int .i64 0, .int .i64 1, .string ⟨#[]⟩, .int .i64 30, .int .i64 0, .int .i64 1] 42); rw [← h2] at p2
  have p3 := nb p2.2 (.cells #[.string ⟨#[]⟩, .int .i64 0, .string ⟨#[]⟩, .int .i64 12] 38); rw [← h3] at p3
  have p4 := nb p3.2 (.cells #[.string ⟨#[]⟩, .int .i64 0, .int .i64 19, .int .i64 2] 42); rw [← h4] at p4
  have p5 := nb p4.2 (.cells #[.slice (some ⟨w.heap.size + 1, 0, none⟩) 3 3, .slice (some ⟨w.heap.size + 1 + 1, 0, none⟩) 2 2, .slice (some ⟨w.heap.size + 1 + 1 + 1, 0, none⟩) 1 1, .slice none 0 0] 26); rw [← h5] at p5
  have q1 : W5.heap[w.heap.size]? = some (.cells #[.int .i64 0, .int .i64 1] 28 (0, 0)) := by rw [h5, h4, h3, h2] ; exact blk_alloc (blk_alloc (blk_alloc (blk_alloc (p1.1) _) _) _) _
  have q2 : W5.heap[w.heap.size + 1]? = some (.cells #[.string ⟨#[]⟩, .int .i64 0, .int .i64 0, .int .i64 1, .string ⟨#[]⟩, .int .i64 60, .int .i64 0, .int .i64 1, .string ⟨#[]⟩, .int .i64 30, .int .i64 0, .int .i64 1] 42 (0, 0)) := by rw [h5, h4, h3] ; exact blk_alloc (blk_alloc (blk_alloc (p2.1) _) _) _
  have q3 : W5.heap[w.heap.size + 1 + 1]? = some (.cells #[.string ⟨#[]⟩, .int .i64 0, .string ⟨#[]⟩, .int .i64 12] 38 (0, 0)) := by rw [h5, h4] ; exact blk_alloc (blk_alloc (p3.1) _) _
  have q4 : W5.heap[w.heap.size + 1 + 1 + 1]? = some (.cells #[.string ⟨#[]⟩, .int .i64 0, .int .i64 19, .int .i64 2] 42 (0, 0)) := by rw [h5] ; exact blk_alloc (p4.1) _
  have q5 : W5.heap[w.heap.size + 1 + 1 + 1 + 1]? = some (.cells #[.slice (some ⟨w.heap.size + 1, 0, none⟩) 3 3, .slice (some ⟨w.heap.size + 1 + 1, 0, none⟩) 2 2, .slice (some ⟨w.heap.size + 1 + 1 + 1, 0, none⟩) 1 1, .slice none 0 0] 26 (0, 0)) := by exact p5.1
  have HB5 := Aside0.mk (show Below w.heap.size w W5 by rw [h5, h4, h3, h2, h1]; exact (((((Below.refl _ w).alloc (Nat.le_refl _) _).alloc (by simp) _).alloc (by simp; omega) _).alloc (by simp; omega) _).alloc (by simp; omega) _)
  have HSY := Aside0.mk (show SysAt W5 sanS (some ⟨w.heap.size + 1, 0, none⟩) (some ⟨w.heap.size + 1 + 1, 0, none⟩) (some ⟨w.heap.size + 1 + 1 + 1, 0, none⟩) from ⟨sanC_C q2, sanF_C q3, sanH_C q4, sanI.1, sanI.2, by decide⟩)
  have HR5 := Aside0.mk q1; have HS5 := Aside0.mk q5
  clear q1 q2 q3 q4 q5 p1 p2 p3 p4 p5
  have v0 : ofN sanS sanS.f0 60 ⟨0, 1⟩ = 3 := by kernel_rfl
  have u0 : ofE sanS 60 ⟨0, 1⟩ = 0 := by kernel_rfl
  have v1 : ofN sanS sanS.f0 29 ⟨0, 1⟩ = 1 := by kernel_rfl
  have u1 : ofE sanS 29 ⟨0, 1⟩ = 0 := by kernel_rfl
  have v2 : ofN zerS zerS.f0 0 ⟨0, 1⟩ = 0 := by kernel_rfl
  have u2 : ofE zerS 0 ⟨0, 1⟩ = 0 := by kernel_rfl
  have v3 : ofN sanS sanS.f0 (-1) ⟨0, 1⟩ = 0 := by kernel_rfl
  have u3 : ofE sanS (-1) ⟨0, 1⟩ = 1 := by kernel_rfl
  have v4 : ofN zerS zerS.f0 0 ⟨1, 0⟩ = 0 := by kernel_rfl
  have u4 : ofE zerS 0 ⟨1, 0⟩ = 50 := by kernel_rfl
  have v5 : feeN sanS 12 = 2 := by kernel_rfl
  have u5 : feeE sanS 12 = 0 := by kernel_rfl
  have v6 : ofN sanS sanS.f2 0 ⟨10, 1⟩ = 1 := by kernel_rfl
  have u6 : ofE sanS 0 ⟨10, 1⟩ = 0 := by kernel_rfl
  have v7 : ofN sanS sanS.f2 500 ⟨9, 1⟩ = 0 := by kernel_rfl
  have u7 : ofE sanS 500 ⟨9, 1⟩ = 0 := by kernel_rfl
  have V0 := Aside0.mk v0; have U0 := Aside0.mk u0; clear v0 u0
  have V1 := Aside0.mk v1; have U1 := Aside0.mk u1; clear v1 u1
  have V2 := Aside0.mk v2; have U2 := Aside0.mk u2; clear v2 u2
  have V3 := Aside0.mk v3; have U3 := Aside0.mk u3; clear v3 u3
  have V4 := Aside0.mk v4; have U4 := Aside0.mk u4; clear v4 u4
  have V5 := Aside0.mk v5; have U5 := Aside0.mk u5; clear v5 u5
  have V6 := Aside0.mk v6; have U6 := Aside0.mk u6; clear v6 u6
  have V7 := Aside0.mk v7; have U7 := Aside0.mk u7; clear v7 u7
  go_enter Tryz.func7, Tryz.ntmps7
  go_wp2_with fail
  (try rw [← h1])
  (try rw [← h2])
  (try rw [← h3])
  (try rw [← h4])
  (try rw [← h5])
  clear h1 h2 h3 h4 h5 W1 W2 W3 W4
  refine (class_calls sanS (some ⟨w.heap.size + 1, 0, none⟩) 3 (some ⟨w.heap.size + 1 + 1, 0, none⟩) 2 (some ⟨w.heap.size + 1 + 1 + 1, 0, none⟩) 1 (.slice none 0 0) 60 ⟨0, 1⟩ _ HSY.out (by unfold I64; decide)).mono ?_
  rintro e z0 ⟨rfl, hb⟩
  rw [V0.out, U0.out]; clear V0 U0
  have HB := Aside0.mk hb
  clear hb
  have hr := blk_low HB.out HR5.out; have hs := blk_low HB.out HS5.out
  have x0 := (blk_cell hr 0).trans rfl; have x1 := (blk_cell hr 1).trans rfl; have y0 := (blk_cell hs 0).trans rfl; have y1 := (blk_cell hs 1).trans rfl; have y2 := (blk_cell hs 2).trans rfl; have y3 := (blk_cell hs 3).trans rfl
  clear hr hs
  go_wp2_with fail
  refine (class_calls sanS (some ⟨w.heap.size + 1, 0, none⟩) 3 (some ⟨w.heap.size + 1 + 1, 0, none⟩) 2 (some ⟨w.heap.size + 1 + 1 + 1, 0, none⟩) 1 (.slice none 0 0) 29 ⟨0, 1⟩ _ (HSY.out.below HB.out) (by unfold I64; decide)).mono ?_
  rintro e z1 ⟨rfl, hb⟩
  rw [V1.out, U1.out]; clear V1 U1
  have HB := Aside0.mk (below_tr HB.out hb); clear x0 x1 y0 y1 y2 y3
  clear hb
  have hr := blk_low HB.out HR5.out; have hs := blk_low HB.out HS5.out
  have x0 := (blk_cell hr 0).trans rfl; have x1 := (blk_cell hr 1).trans rfl; have y0 := (blk_cell hs 0).trans rfl; have y1 := (blk_cell hs 1).trans rfl; have y2 := (blk_cell hs 2).trans rfl; have y3 := (blk_cell hs 3).trans rfl
  clear hr hs
  go_wp2_with fail
  refine (class_calls zerS none 0 none 0 none 0 (.slice none 0 0) 0 ⟨0, 1⟩ _ (zer_at _) (by unfold I64; decide)).mono ?_
  rintro e z2 ⟨rfl, hb⟩
  rw [V2.out, U2.out]; clear V2 U2
  have HB := Aside0.mk (below_tr HB.out hb); clear x0 x1 y0 y1 y2 y3
  clear hb
  have hr := blk_low HB.out HR5.out; have hs := blk_low HB.out HS5.out
  have x0 := (blk_cell hr 0).trans rfl; have x1 := (blk_cell hr 1).trans rfl; have y0 := (blk_cell hs 0).trans rfl; have y1 := (blk_cell hs 1).trans rfl; have y2 := (blk_cell hs 2).trans rfl; have y3 := (blk_cell hs 3).trans rfl
  clear hr hs
  go_wp2_with fail
  refine (class_calls sanS (some ⟨w.heap.size + 1, 0, none⟩) 3 (some ⟨w.heap.size + 1 + 1, 0, none⟩) 2 (some ⟨w.heap.size + 1 + 1 + 1, 0, none⟩) 1 (.slice none 0 0) (-1) ⟨0, 1⟩ _ (HSY.out.below HB.out) (by unfold I64; decide)).mono ?_
  rintro e z3 ⟨rfl, hb⟩
  rw [V3.out, U3.out]; clear V3 U3
  have HB := Aside0.mk (below_tr HB.out hb); clear x0 x1 y0 y1 y2 y3
  clear hb
  have hr := blk_low HB.out HR5.out; have hs := blk_low HB.out HS5.out
  have x0 := (blk_cell hr 0).trans rfl; have x1 := (blk_cell hr 1).trans rfl; have y0 := (blk_cell hs 0).trans rfl; have y1 := (blk_cell hs 1).trans rfl; have y2 := (blk_cell hs 2).trans rfl; have y3 := (blk_cell hs 3).trans rfl
  clear hr hs
  go_wp2_with fail
  refine (class_calls zerS none 0 none 0 none 0 (.slice none 0 0) 0 ⟨1, 0⟩ _ (zer_at _) (by unfold I64; decide)).mono ?_
  rintro e z4 ⟨rfl, hb⟩
  rw [V4.out, U4.out]; clear V4 U4
  have HB := Aside0.mk (below_tr HB.out hb); clear x0 x1 y0 y1 y2 y3
  clear hb
  have hr := blk_low HB.out HR5.out; have hs := blk_low HB.out HS5.out
  have x0 := (blk_cell hr 0).trans rfl; have x1 := (blk_cell hr 1).trans rfl; have y0 := (blk_cell hs 0).trans rfl; have y1 := (blk_cell hs 1).trans rfl; have y2 := (blk_cell hs 2).trans rfl; have y3 := (blk_cell hs 3).trans rfl
  clear hr hs
  go_wp2_with fail
  refine (fee_calls sanS (some ⟨w.heap.size + 1, 0, none⟩) 3 (some ⟨w.heap.size + 1 + 1, 0, none⟩) 2 (some ⟨w.heap.size + 1 + 1 + 1, 0, none⟩) 1 (.slice none 0 0) 12 _ (HSY.out.below HB.out)).mono ?_
  rintro e z5 ⟨rfl, hb⟩
  rw [V5.out, U5.out]; clear V5 U5
  have HB := Aside0.mk (below_tr HB.out hb); clear x0 x1 y0 y1 y2 y3
  clear hb
  have hr := blk_low HB.out HR5.out; have hs := blk_low HB.out HS5.out
  have x0 := (blk_cell hr 0).trans rfl; have x1 := (blk_cell hr 1).trans rfl; have y0 := (blk_cell hs 0).trans rfl; have y1 := (blk_cell hs 1).trans rfl; have y2 := (blk_cell hs 2).trans rfl; have y3 := (blk_cell hs 3).trans rfl
  clear hr hs
  go_wp2_with fail
  refine (honour_calls sanS (some ⟨w.heap.size + 1, 0, none⟩) 3 (some ⟨w.heap.size + 1 + 1, 0, none⟩) 2 (some ⟨w.heap.size + 1 + 1 + 1, 0, none⟩) 1 (.slice none 0 0) 0 ⟨10, 1⟩ _ (HSY.out.below HB.out) (by unfold I64; decide)).mono ?_
  rintro e z6 ⟨rfl, hb⟩
  rw [V6.out, U6.out]; clear V6 U6
  have HB := Aside0.mk (below_tr HB.out hb); clear x0 x1 y0 y1 y2 y3
  clear hb
  have hr := blk_low HB.out HR5.out; have hs := blk_low HB.out HS5.out
  have x0 := (blk_cell hr 0).trans rfl; have x1 := (blk_cell hr 1).trans rfl; have y0 := (blk_cell hs 0).trans rfl; have y1 := (blk_cell hs 1).trans rfl; have y2 := (blk_cell hs 2).trans rfl; have y3 := (blk_cell hs 3).trans rfl
  clear hr hs
  go_wp2_with fail
  refine (honour_calls sanS (some ⟨w.heap.size + 1, 0, none⟩) 3 (some ⟨w.heap.size + 1 + 1, 0, none⟩) 2 (some ⟨w.heap.size + 1 + 1 + 1, 0, none⟩) 1 (.slice none 0 0) 500 ⟨9, 1⟩ _ (HSY.out.below HB.out) (by unfold I64; decide)).mono ?_
  rintro e z7 ⟨rfl, hb⟩
  rw [V7.out, U7.out]; clear V7 U7
  have HB := Aside0.mk (below_tr HB.out hb); clear x0 x1 y0 y1 y2 y3
  clear hb
  have hr := blk_low HB.out HR5.out; have hs := blk_low HB.out HS5.out
  have x0 := (blk_cell hr 0).trans rfl; have x1 := (blk_cell hr 1).trans rfl; have y0 := (blk_cell hs 0).trans rfl; have y1 := (blk_cell hs 1).trans rfl; have y2 := (blk_cell hs 2).trans rfl; have y3 := (blk_cell hs 3).trans rfl
  clear hr hs
  go_wp2_with fail
  refine (sof_bad none none none none 0 0 0 0 0 0 0 0 1 3 0 5 100 _ (by kernel_rfl)).mono ?_
  rintro e z8 ⟨rfl, hb⟩
  have HB := Aside0.mk (below_tr HB.out hb); clear hb x0 x1 y0 y1 y2 y3
  go_wp2_with fail
  refine (sof_none _).mono ?_
  rintro e z9 ⟨A9, n9, c9, rfl, hb⟩
  have HB := Aside0.mk (below_tr HB.out hb); clear hb
  have hr := blk_low HB.out HR5.out; have hs := blk_low HB.out HS5.out
  have y0 := (blk_cell hs 0).trans rfl; have y1 := (blk_cell hs 1).trans rfl; have y2 := (blk_cell hs 2).trans rfl; have y3 := (blk_cell hs 3).trans rfl
  clear hr hs
  have k1 := Aside0.mk (fun W => scheck_calls zerS none 0 none 0 none 0 (.slice none 0 0) W (zer_at W).1 (zer_at W).2.1 (zer_at W).2.2.1 (zer_at W).2.2.2.1 (zer_at W).2.2.2.2.1 (zer_at W).2.2.2.2.2)
  have o1 : okS zerS = true := by kernel_rfl
  rw [o1] at k1; clear o1
  go_wp2_with fail
  refine (k1.out _).mono ?_
  rintro e z10 ⟨rfl, hb⟩
  have hs := blk_low (below_tr HB.out hb) HS5.out
  have HB := Aside0.mk (below_tr HB.out hb); clear hb y0 y1 y2 y3 k1
  have y0 := (blk_cell hs 0).trans rfl; have y1 := (blk_cell hs 1).trans rfl; have y2 := (blk_cell hs 2).trans rfl; have y3 := (blk_cell hs 3).trans rfl
  clear hs
  have hsy := HSY.out.below HB.out
  have k2 := Aside0.mk (scheck_calls sanS (some ⟨w.heap.size + 1, 0, none⟩) 3 (some ⟨w.heap.size + 1 + 1, 0, none⟩) 2 (some ⟨w.heap.size + 1 + 1 + 1, 0, none⟩) 1 (.slice none 0 0) z10 hsy.1 hsy.2.1 hsy.2.2.1 hsy.2.2.2.1 hsy.2.2.2.2.1 hsy.2.2.2.2.2)
  have o1 : okS sanS = true := by kernel_rfl
  rw [o1] at k2; clear o1 hsy
  go_wp2_with fail
  refine k2.out.mono ?_
  rintro e z11 ⟨rfl, hb⟩
  have HB := Aside0.mk (below_tr HB.out hb); clear hb y0 y1 y2 y3 k2
  have k3 := Aside0.mk (scheck_calls badS none 0 (some ⟨z11.heap.size, 0, none⟩) 1 none 0 (.slice none 0 0) (z11.alloc (.cells #[.string ⟨#[]⟩, .int .i64 (-1)] 38)) (Kd.C_nil _ _) (badF_C (new_blk _ _)) (Kd.C_nil _ _) (by intro x hx; simp [badS] at hx) (by intro x hx; simp [badS] at hx) (by decide))
  have o1 : okS badS = false := by kernel_rfl
  rw [o1] at k3; clear o1
  go_wp2_with fail
  refine k3.out.mono ?_
  rintro e z12 ⟨rfl, hb⟩
  have HB := Aside0.mk (below_tr (HB.out.alloc HB.out.size (.cells #[.string ⟨#[]⟩, .int .i64 (-1)] 38)) hb); clear hb k3
  go_wp2
  go_ret
  exact ⟨rfl, below_tr HB5.out HB.out⟩
end Go.Proofs.YtdnmoppegncioaaGreatDoor
