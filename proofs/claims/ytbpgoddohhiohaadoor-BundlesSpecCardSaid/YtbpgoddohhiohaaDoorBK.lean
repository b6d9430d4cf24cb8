/- bundles.Clash: what it computes. -/
import Derived.Test.YtbpgoddohhiohaaDoorBM
import Derived.Scope
namespace Go.Proofs.YtbpgoddohhiohaaDoor
open Go.RowKit Go.Shelf Go.Proofs.YtbpgoddohhiohaaDoorW.PrintWords
set_option linter.unusedVariables false
set_option linter.unusedSimpArgs false
attribute [local go_sem] Oper.semAt_some

theorem wpIn_scope' {n : Nat} {P : Program} {Q : Exit → Act → World → Prop} {a : Act} {w : World} {c : Code} (hQ : ∀ l a w, Q (.goto l) a w → False) (h : c.wpIn Fence.wide n P Q a w) : (Code.scope c).wpIn Fence.wide n P Q a w :=
  wpIn_wide.2 (wp_scope_straight (wpIn_wide.1 (wpIn_mono h (fun e a w hq => by cases e <;> first | exact hq | exact hQ _ _ _ hq))))
def cStep (x y : S34) : Option Bool := if x.f2 = y.f2 then (if (mClash x.f5 y.f5).1 = true then some true else none) else some false
def cRow (q : List S34) (x : S34) : Option Bool := q.findSome? (cStep x)
theorem fs_prefix {α β : Type} {f : α → Option β} {a b : List α} {v : β} (h : a <+: b) (ha : a.findSome? f = some v) : b.findSome? f = some v := by
  obtain ⟨r, rfl⟩ := h
  rw [List.findSome?_append, ha]; rfl
theorem fs_none {α β γ : Type} {f : α → Option β} (g : γ → α) (pre : List γ) (hp : ∀ x ∈ pre, f (g x) = none) : (pre.map g).findSome? f = none := by
  rw [List.findSome?_eq_none_iff]
  intro x hx
  obtain ⟨y, hy, rfl⟩ := List.mem_map.1 hx
  exact hp y hy
theorem fs_snoc {α β γ : Type} {f : α → Option β} (g : γ → α) (pre : List γ) (x : γ) (hp : ∀ x ∈ pre, f (g x) = none) : ((pre ++ [x]).map g).findSome? f = f (g x) := by
  rw [List.map_append, List.findSome?_append, fs_none g pre hp]
  simp [List.findSome?]
theorem all_snoc {γ : Type} {p : γ → Prop} {pre : List γ} {x : γ} (h : ∀ y ∈ pre, p y) (hx : p x) : ∀ y ∈ pre ++ [x], p y := fun y hy => by
  rcases List.mem_append.1 hy with h1 | h1
  · exact h y h1
  · rw [List.mem_singleton.1 h1]; exact hx
def bClash (l : List S34) (a0 a1 b0 b1 : Int) : Bool × Int := if bCheck l a0 a1 ≠ 0 then (false, bCheck l a0 a1) else if bCheck l b0 b1 ≠ 0 then (false, bCheck l b0 b1) else (((bParts l a0 a1).findSome? (cRow (bParts l b0 b1))).getD false, 0)

set_option maxRecDepth 100000 in
set_option maxHeartbeats 8000000 in
theorem bclash_calls (A : Option Addr) (c : Nat) (l : List S34) (a0 a1 b0 b1 : Int) (w : World) (hE : ErrT w) (hr : k34.C w A l.length l) (hc : l.length ≤ c) :
    Calls Tryd.prog 20 #[.slice A l.length c, .agg #[.int .i64 a0, .int .i64 a1], .agg #[.int .i64 b0, .int .i64 b1]] w fun e w' => e = .returned (.tuple #[.bool (bClash l a0 a1 b0 b1).1, .int .i64 (bClash l a0 a1 b0 b1).2]) ∧ Below w.heap.size w w' := by
  have hw1 := (Below.refl w.heap.size w).alloc (Nat.le_refl _) (.cells #[.slice A l.length c] 22)
  have hw2 := hw1.alloc (by simp) (.cells #[.int .i64 a0, .int .i64 a1] 24)
  have hw3 := hw2.alloc (by simp; omega) (.cells #[.int .i64 b0, .int .i64 b1] 24)
  have hw4 := hw3.alloc (by simp; omega) (.cells #[.bool false] 4)
  have hk3 := blk_alloc (blk_alloc (blk_alloc (new_blk w (.cells #[.slice A l.length c] 22)) (.cells #[.int .i64 a0, .int .i64 a1] 24)) (.cells #[.int .i64 b0, .int .i64 b1] 24)) (.cells #[.bool false] 4)
  have hk4 := blk_alloc (blk_alloc (new_blk (w.alloc (.cells #[.slice A l.length c] 22)) (.cells #[.int .i64 a0, .int .i64 a1] 24)) (.cells #[.int .i64 b0, .int .i64 b1] 24)) (.cells #[.bool false] 4)
  have hk5 := blk_alloc (new_blk ((w.alloc (.cells #[.slice A l.length c] 22)).alloc (.cells #[.int .i64 a0, .int .i64 a1] 24)) (.cells #[.int .i64 b0, .int .i64 b1] 24)) (.cells #[.bool false] 4)
  have hk6 := new_blk (((w.alloc (.cells #[.slice A l.length c] 22)).alloc (.cells #[.int .i64 a0, .int .i64 a1] 24)).alloc (.cells #[.int .i64 b0, .int .i64 b1] 24)) (.cells #[.bool false] 4)
  simp only [World.size_alloc] at hk4 hk5 hk6
  have HR := Aside0.mk hr; have HE := Aside0.mk hE; have HW := Aside0.mk hw4
  have HK3 := Aside0.mk hk3; have HK4 := Aside0.mk hk4; have HK5 := Aside0.mk hk5; have HK6 := Aside0.mk hk6
  clear hw1 hw2 hw3 hw4 hk3 hk4 hk5 hk6 hr hE
  have hcall := fun b0 b1 W hE hr => (callsIn_wide (n := 9 - 1)).2 (bcheck_calls A c l b0 b1 W hE hr hc)
  refine (callsIn_wide (n := 9)).1 (callsIn_of_wp_marks Tryd.func20 rfl trivial ?_ rfl)
  simp only [Tryd.ntmps20, List.size_toArray, List.length_cons, List.length_nil, Nat.reduceAdd, Nat.reduceSub, Array.replicate_succ, Array.replicate_zero, List.push_toArray, List.append_toArray, List.nil_append, List.cons_append]
  have y3 := (blk_cell HK3.out 0).trans rfl; have y40 := (blk_cell HK4.out 0).trans rfl; have y41 := (blk_cell HK4.out 1).trans rfl
  gi_wp2_with fail
  refine wpIn_scope' (fun _ _ _ h => h) ?_
  gi_wp2_with fail
  refine ⟨trivial, ?_⟩
  refine (hcall a0 a1 _ (HE.out.below HW.out) (Kd.C_below HR.out HW.out)).mono ?_
  rintro e w1 ⟨rfl, hb1⟩
  have HB1 := Aside0.mk (below_tr HW.out hb1)
  have J3 := Aside0.mk (blk_low hb1 HK3.out); have J4 := Aside0.mk (blk_low hb1 HK4.out); have J5 := Aside0.mk (blk_low hb1 HK5.out); have J6 := Aside0.mk (blk_low hb1 HK6.out)
  clear hb1 HK3 HK4 HK5 HK6 y3 y40 y41
  by_cases h0 : bCheck l a0 a1 = 0
  · rw [h0]
    have y3 := (blk_cell J3.out 0).trans rfl; have y50 := (blk_cell J5.out 0).trans rfl; have y51 := (blk_cell J5.out 1).trans rfl
    gi_wp2_with fail
    refine ⟨trivial, ?_⟩
    refine (hcall b0 b1 _ (HE.out.below HB1.out) (Kd.C_below HR.out HB1.out)).mono ?_
    rintro e w2 ⟨rfl, hb2⟩
    have HB2 := Aside0.mk (below_tr HB1.out hb2)
    have I3 := Aside0.mk (blk_low hb2 J3.out); have I4 := Aside0.mk (blk_low hb2 J4.out); have I5 := Aside0.mk (blk_low hb2 J5.out); have I6 := Aside0.mk (blk_low hb2 J6.out)
    clear hb2 y3 y50 y51 J3 J4 J5 J6
    by_cases h1 : bCheck l b0 b1 = 0
    · have HS := Aside0.mk (show bClash l a0 a1 b0 b1 = (((bParts l a0 a1).findSome? (cRow (bParts l b0 b1))).getD false, 0) by unfold bClash; rw [if_neg (by simp [h0]), if_neg (by simp [h1])])
      rw [h1]
      clear h0 h1 hcall
      have y3 := (blk_cell I3.out 0).trans rfl; have y40 := (blk_cell I4.out 0).trans rfl; have y41 := (blk_cell I4.out 1).trans rfl
      gi_wp2_with fail
      refine wpIn_label ?_
      gi_wp2_with fail
      refine ⟨trivial, ?_⟩
      refine ((callsIn_wide (n := 9 - 1)).2 (parts_calls A l.length c a0 a1 w2)).mono ?_
      rintro e w3 ⟨rfl, rfl⟩
      clear y3 y40 y41
      gi_wp2_with fail
      obtain ⟨W0, hW0⟩ : ∃ W0, (w2.alloc (.cells #[.slice A l.length c] 22)).alloc (.cells #[.int .i64 a0, .int .i64 a1] 24) = W0 := ⟨_, rfl⟩
      have hB0 : Below w.heap.size w W0 := by rw [← hW0]; exact (HB2.out.alloc HB2.out.size _).alloc (Nat.le_trans HB2.out.size (by simp)) _
      have h03 : W0.heap[w.heap.size]? = some (.cells #[.slice A l.length c] 22 (0, 0)) := by rw [← hW0]; exact blk_alloc (blk_alloc I3.out _) _
      have h05 : W0.heap[w.heap.size + 1 + 1]? = some (.cells #[.int .i64 b0, .int .i64 b1] 24 (0, 0)) := by rw [← hW0]; exact blk_alloc (blk_alloc I5.out _) _
      have h06 : W0.heap[w.heap.size + 1 + 1 + 1]? = some (.cells #[.bool false] 4 (0, 0)) := by rw [← hW0]; exact blk_alloc (blk_alloc I6.out _) _
      have hsl0 : W0.heap[w2.heap.size]? = some (.cells #[.slice A l.length c] 22 (0, 0)) := by rw [← hW0]; exact blk_alloc (new_blk _ _) _
      have hbd0 : W0.heap[w2.heap.size + 1]? = some (.cells #[.int .i64 a0, .int .i64 a1] 24 (0, 0)) := by
        rw [← hW0]; have := new_blk (w2.alloc (.cells #[.slice A l.length c] 22)) (.cells #[.int .i64 a0, .int .i64 a1] 24); rwa [World.size_alloc] at this
      have hn6 : w2.heap.size ≠ w.heap.size + 1 + 1 + 1 := fun e => by have := blk_lt I6.out; omega
      have hl60 := blk_lt h06
      rw [hW0]
      clear hW0 I3 I4 I5 I6
      refine wpIn_rangeFunc_ownH (F := Fence.wide) rfl (by omega) (gf := 52) (lb := #[.pointer (some ⟨w2.heap.size + 1, 0, none⟩), .pointer (some ⟨w2.heap.size, 0, none⟩)]) rfl trivial (enters_of Tryd.func52 (by kernel_rfl) rfl)
        (parts_stops (9 - 1) (by omega) w2.heap.size (w2.heap.size + 1) A c l a0 a1 w W0 hB0 hsl0 ((blk_cell hbd0 0).trans rfl) ((blk_cell hbd0 1).trans rfl) HR.out hc) KpS.trans (kpS_b hB0.size) (Below.refl _ _) (fun _ => rfl)
        (fun pre W => (∀ x ∈ pre, cRow (bParts l b0 b1) x.1.1 = none) ∧ W.heap[w.heap.size]? = some (.cells #[.slice A l.length c] 22 (0, 0)) ∧ W.heap[w.heap.size + 1 + 1]? = some (.cells #[.int .i64 b0, .int .i64 b1] 24 (0, 0)) ∧ W.heap[w.heap.size + 1 + 1 + 1]? = some (.cells #[.bool false] 4 (0, 0)) ∧ W.heap[w2.heap.size]? = some (.cells #[.slice A l.length c] 22 (0, 0)) ∧ Below w.heap.size w W)
        (fun cd pre W => (cd = .exit 0 ∧ True) ∧ ∃ v, ((pre.map (·.1.1)).findSome? (cRow (bParts l b0 b1)) = some v) ∧ W.heap[w.heap.size + 1 + 1 + 1]? = some (.cells #[.bool v] 4 (0, 0)) ∧ Below w.heap.size w W)
        (OwnFrom.and (ownFrom_pure _ _) (OwnFrom.and (ownFrom_blk _) (OwnFrom.and (ownFrom_blk _) (OwnFrom.and (ownFrom_blk _) (OwnFrom.and (ownFrom_blk _) (ownFrom_below (Nat.le_refl _) hB0.size))))))
        (fun cd => OwnFrom.and (ownFrom_pure _ _) (ownFrom_ex fun v => OwnFrom.and (ownFrom_pure _ _) (OwnFrom.and (ownFrom_blk _) (ownFrom_below (Nat.le_refl _) hB0.size))))
        ⟨fun x hx => (by cases hx), h03, h05, h06, hsl0, hB0⟩
        (fun x a' W => ∃ g8 : Nat, W.heap[g8]? = some (.cells x.1.2.toArray 34 (0, 0)) ∧ a' = { tmps := #[.slice A l.length c, .agg #[.int .i64 a0, .int .i64 a1], .agg #[.int .i64 b0, .int .i64 b1], .pointer (some ⟨w.heap.size, 0, none⟩), .pointer (some ⟨w.heap.size + 1, 0, none⟩), .pointer (some ⟨w.heap.size + 1 + 1, 0, none⟩), .pointer (some ⟨w.heap.size + 1 + 1 + 1, 0, none⟩), .int .i64 0, .pointer (some ⟨g8, 0, none⟩), undef, .slice A l.length c, .agg #[.int .i64 a0, .int .i64 a1], .int .i64 0, .int .i64 0, .bool false, undef, .slice A l.length c, .agg #[.int .i64 b0, .int .i64 b1], .int .i64 0, .int .i64 0, .bool false, undef, .slice A l.length c, .agg #[.int .i64 a0, .int .i64 a1], .func (.func 52) #[] #[.pointer (some ⟨w2.heap.size + 1, 0, none⟩), .pointer (some ⟨w2.heap.size, 0, none⟩)], .agg x.1.2.toArray, undef, undef, undef, undef, undef, undef, undef, undef, undef, undef, undef, undef, undef, undef, undef, undef, undef, undef, undef], defers := [] })
        (fun x a' => ownFrom_ex fun g8 => OwnFrom.and (ownFrom_blk _) (ownFrom_pure _ _)) ?assign ?body ?done ?stop
      case assign =>
        rintro lp pre ⟨⟨s, cs⟩, hK, hid⟩ W K ⟨hp, j3, j5, j6, js, hb⟩ hK2
        dsimp only at hK hid
        obtain ⟨A5, c5, A6, c6, A7, c7, rfl, -⟩ := k34_open hK
        dsimp only
        gi_wp2
        refine hK2 _ _ (keepsFrom_below ((Below.refl _ W).alloc (Nat.le_refl _) _)) (KpS.of_below ((Below.refl _ W).alloc (Nat.le_refl _) _) hb.size) ⟨hp, blk_alloc j3 _, blk_alloc j5 _, blk_alloc j6 _, blk_alloc js _, hb.alloc hb.size _⟩ ⟨W.heap.size, new_blk _ _, rfl⟩
      case body =>
        rintro lp pre ⟨⟨s, cs⟩, hK, hid⟩ a' W hlp ⟨r, hr2⟩ ⟨hp, j3, j5, j6, js, hb⟩ ⟨g8, h8, rfl⟩ hlen
        dsimp only at hK h8
        have HKx := Aside0.mk hK
        obtain ⟨A5, c5, A6, c6, A7, c7, rfl, l5, g5, -⟩ := k34_open hK
        have z3 := (blk_cell j3 0).trans rfl; have z50 := (blk_cell j5 0).trans rfl; have z51 := (blk_cell j5 1).trans rfl
        gi_wp2_with fail
        refine ⟨trivial, ?_⟩
        refine (CallsIn.inRound lp ((callsIn_wide (n := 6)).2 (parts_calls A l.length c b0 b1 W))).mono ?_
        rintro e v0 ⟨rfl, rfl⟩
        clear z3 z50 z51
        gi_wp2_with fail
        have hbV : Below W.heap.size W ((W.alloc (.cells #[.slice A l.length c] 22)).alloc (.cells #[.int .i64 b0, .int .i64 b1] 24)) := ((Below.refl _ W).alloc (Nat.le_refl _) _).alloc (by simp) _
        have hsV := blk_alloc (new_blk W (.cells #[.slice A l.length c] 22)) (.cells #[.int .i64 b0, .int .i64 b1] 24)
        have hdV := new_blk (W.alloc (.cells #[.slice A l.length c] 22)) (.cells #[.int .i64 b0, .int .i64 b1] 24)
        rw [World.size_alloc] at hdV
        obtain ⟨V0, hV0⟩ : ∃ V0, (W.alloc (.cells #[.slice A l.length c] 22)).alloc (.cells #[.int .i64 b0, .int .i64 b1] 24) = V0 := ⟨_, rfl⟩
        rw [hV0] at hbV hsV hdV
        rw [hV0]
        clear hV0
        have hr3 : V0.heap[lp]? = some (.loop r) := blk_low hbV hr2
        have hbw0 := below_tr hb hbV
        have hl6 := blk_lt j6
        have hn8 : g8 ≠ w.heap.size + 1 + 1 + 1 := fun e => by rw [e, j6] at h8; injection h8 with h8; injection h8 with _ h8; revert h8; decide
        refine wpIn_rangeFunc_ownN (l₀ := lp) (r₀ := r) rfl hr3 (by omega) (gf := 52) (lb := #[.pointer (some ⟨W.heap.size + 1, 0, none⟩), .pointer (some ⟨W.heap.size, 0, none⟩)]) rfl trivial (enters_of Tryd.func52 (by kernel_rfl) rfl)
          ((parts_stops 6 (by omega) W.heap.size (W.heap.size + 1) A c l b0 b1 w V0 hbw0 hsV ((blk_cell hdV 0).trans rfl) ((blk_cell hdV 1).trans rfl) HR.out hc).inRound lp) KpS.trans (kpS_b hbw0.size) (Below.refl _ _) (fun _ => rfl)
          (fun pre' V => (∀ y ∈ pre', cStep s y.1.1 = none) ∧ V.heap[w.heap.size]? = some (.cells #[.slice A l.length c] 22 (0, 0)) ∧ V.heap[w.heap.size + 1 + 1]? = some (.cells #[.int .i64 b0, .int .i64 b1] 24 (0, 0)) ∧ V.heap[w.heap.size + 1 + 1 + 1]? = some (.cells #[.bool false] 4 (0, 0)) ∧ V.heap[w2.heap.size]? = some (.cells #[.slice A l.length c] 22 (0, 0)) ∧ V.heap[g8]? = some (.cells #[.int .i64 s.f0, .int .i64 s.f1, .int .i64 s.f2, .int .i64 s.f3, .int .i64 s.f4, .slice A5 s.f5.length c5, .slice A6 s.f6.length c6, .slice A7 s.f7.length c7, .bool s.f8] 34 (0, 0)) ∧ Below w.heap.size w V ∧ Below w.heap.size W V ∧ KeepsFrom W0.heap.size W V)
          (fun cd pre' V => (cd = .exit 0 ∧ True) ∧ ∃ v, ((pre'.map (·.1.1)).findSome? (cStep s) = some v) ∧ V.heap[w.heap.size + 1 + 1 + 1]? = some (.cells #[.bool v] 4 (0, 0)) ∧ Below w.heap.size w V ∧ KeepsFrom W0.heap.size W V)
          (OwnFrom.and (ownFrom_pure _ _) (OwnFrom.and (ownFrom_blk _) (OwnFrom.and (ownFrom_blk _) (OwnFrom.and (ownFrom_blk _) (OwnFrom.and (ownFrom_blk _) (OwnFrom.and (ownFrom_blk _) (OwnFrom.and (ownFrom_below (Nat.le_refl _) hbw0.size) (OwnFrom.and (ownFrom_below hb.size hbw0.size) (ownFrom_keepsFrom hbV.size)))))))))
          (fun cd => OwnFrom.and (ownFrom_pure _ _) (ownFrom_ex fun v => OwnFrom.and (ownFrom_pure _ _) (OwnFrom.and (ownFrom_blk _) (OwnFrom.and (ownFrom_below (Nat.le_refl _) hbw0.size) (ownFrom_keepsFrom hbV.size)))))
          ⟨fun y hy => (by cases hy), blk_low hbV j3, blk_low hbV j5, blk_low hbV j6, blk_low hbV js, blk_low hbV h8, hbw0, hbV.mono hb.size, keepsFrom_below hbV⟩
          (fun y a'' V => ∃ g9 : Nat, V.heap[g9]? = some (.cells y.1.2.toArray 34 (0, 0)) ∧ a'' = { tmps := #[.slice A l.length c, .agg #[.int .i64 a0, .int .i64 a1], .agg #[.int .i64 b0, .int .i64 b1], .pointer (some ⟨w.heap.size, 0, none⟩), .pointer (some ⟨w.heap.size + 1, 0, none⟩), .pointer (some ⟨w.heap.size + 1 + 1, 0, none⟩), .pointer (some ⟨w.heap.size + 1 + 1 + 1, 0, none⟩), .int .i64 0, .pointer (some ⟨g8, 0, none⟩), .pointer (some ⟨g9, 0, none⟩), .slice A l.length c, .agg #[.int .i64 a0, .int .i64 a1], .int .i64 0, .int .i64 0, .bool false, undef, .slice A l.length c, .agg #[.int .i64 b0, .int .i64 b1], .int .i64 0, .int .i64 0, .bool false, undef, .slice A l.length c, .agg #[.int .i64 a0, .int .i64 a1], .func (.func 52) #[] #[.pointer (some ⟨w2.heap.size + 1, 0, none⟩), .pointer (some ⟨w2.heap.size, 0, none⟩)], .agg #[.int .i64 s.f0, .int .i64 s.f1, .int .i64 s.f2, .int .i64 s.f3, .int .i64 s.f4, .slice A5 s.f5.length c5, .slice A6 s.f6.length c6, .slice A7 s.f7.length c7, .bool s.f8], .slice A l.length c, .agg #[.int .i64 b0, .int .i64 b1], .func (.func 52) #[] #[.pointer (some ⟨W.heap.size + 1, 0, none⟩), .pointer (some ⟨W.heap.size, 0, none⟩)], .agg y.1.2.toArray, undef, undef, undef, undef, undef, undef, undef, undef, undef, undef, undef, undef, undef, undef, undef], defers := [] })
          (fun y a'' => ownFrom_ex fun g9 => OwnFrom.and (ownFrom_blk _) (ownFrom_pure _ _)) ?assign2 ?body2 ?done2 ?stop2
        case assign2 =>
          rintro l2 pre' ⟨⟨y, cy⟩, hKy, hidy⟩ V K ⟨hp2, k3, k5, k6, ks, k8, hbw, hbW, hkf⟩ hK2
          dsimp only at hKy hidy
          obtain ⟨B5, d5, B6, d6, B7, d7, rfl, -⟩ := k34_open hKy
          dsimp only
          gi_wp2
          have hbn := (Below.refl _ V).alloc (Nat.le_refl _) (.cells #[.int .i64 y.f0, .int .i64 y.f1, .int .i64 y.f2, .int .i64 y.f3, .int .i64 y.f4, .slice B5 y.f5.length d5, .slice B6 y.f6.length d6, .slice B7 y.f7.length d7, .bool y.f8] 34)
          refine hK2 _ _ (keepsFrom_below hbn) (KpS.of_below hbn hbw.size) ⟨hp2, blk_alloc k3 _, blk_alloc k5 _, blk_alloc k6 _, blk_alloc ks _, blk_alloc k8 _, hbw.alloc hbw.size _, hbW.trans (hbn.mono hbw.size), hkf.trans (keepsFrom_below hbn)⟩ ⟨V.heap.size, new_blk _ _, rfl⟩
        case body2 =>
          rintro l2 pre' ⟨⟨y, cy⟩, hKy, hidy⟩ a'' V hl2 ⟨r2, hr4⟩ ⟨hp2, k3, k5, k6, ks, k8, hbw, hbW, hkf⟩ ⟨g9, h9, rfl⟩ hlen2
          dsimp only at hKy h9
          obtain ⟨B5, d5, B6, d6, B7, d7, rfl, m5, n5, -⟩ := k34_open hKy
          have x2 := (blk_cell k8 2).trans rfl; have x5 := (blk_cell k8 5).trans rfl
          have y2 := (blk_cell h9 2).trans rfl; have y5 := (blk_cell h9 5).trans rfl
          have hfz := blk_frozen k6 0; have hcz := (blk_cell k6 0).trans rfl
          have HC := Aside0.mk (CallsIn.inRound l2 (CallsIn.inRound lp ((callsIn_wide (n := 4)).2 (mclash_calls A5 c5 s.f5 B5 d5 y.f5 V (Kd.C_below g5 hbw) l5 (Kd.C_below n5 hbw) m5))))
          have HX := Aside0.mk (show V.heap[w.heap.size + 1 + 1 + 1]? = some (.cells #[.bool false] 4 (0, 0)) from k6)
          have hbsz := hb.size; have hne1 : W.heap.size ≠ w.heap.size + 1 + 1 + 1 := by omega
          by_cases ht : s.f2 = y.f2
          · have ht1 : (s.f2 == y.f2) = true := by simp [ht]
            have ht2 : (s.f2 != y.f2) = false := by simp [ht]
            have HT := Aside0.mk (show cStep s y = (if (mClash s.f5 y.f5).1 = true then some true else none) by unfold cStep; rw [if_pos ht])
            clear ht
            gi_wp2_with fail
            refine ⟨trivial, ?_⟩
            refine HC.out.mono ?_
            rintro e V1 ⟨rfl, hbv⟩
            have q6 := blk_low hbv HX.out
            have hfz1 := blk_frozen q6 0; have hcz1 := (blk_cell q6 0).trans rfl
            clear hfz hcz x2 x5 y2 y5
            cases hcl : (mClash s.f5 y.f5).1 with
            | true =>
              have HT2 := Aside0.mk (show cStep s y = some true by rw [HT.out, if_pos hcl])
              gi_wp2
              refine ⟨(keepsFrom_below hbv).trans ((KeepsOthers.setCell _ _ _).from _), ⟨rfl, trivial⟩, true, ?_, blk_put q6 0 (.bool true) rfl, (below_tr hbw hbv).setCell (by simp; omega) _, hkf.trans ((keepsFrom_below hbv).trans ((KeepsOthers.setCell _ _ _).from _))⟩
              rw [fs_snoc _ _ _ hp2]
              exact HT2.out
            | false =>
              have HT2 := Aside0.mk (show cStep s y = none by rw [HT.out, if_neg (by simp [hcl])])
              gi_wp2
              have hne3 : w.heap.size ≠ w.heap.size + 1 + 1 + 1 := by omega
              have hne5 : w.heap.size + 1 + 1 ≠ w.heap.size + 1 + 1 + 1 := by omega
              refine ⟨(keepsFrom_below hbv).trans ((KeepsOthers.setCell _ _ _).from _), ⟨(hbv.mono hbw.size).setCell (by simp; omega) _, fun c' e' f' hi => (Below.heap_setCell _ _ _ _ hne1).trans (blk_low hbv hi)⟩, all_snoc hp2 HT2.out, blk_far (blk_low hbv k3) hne3 _, blk_far (blk_low hbv k5) hne5 _, blk_put q6 0 (.bool false) rfl, blk_far (blk_low hbv ks) hn6 _, blk_far (blk_low hbv k8) hn8 _, (below_tr hbw hbv).setCell (by simp; omega) _, (hbW.trans (hbv.mono hbw.size)).setCell (by simp; omega) _, hkf.trans ((keepsFrom_below hbv).trans ((KeepsOthers.setCell _ _ _).from _))⟩
          · have ht1 : (s.f2 == y.f2) = false := by simp [ht]
            have ht2 : (s.f2 != y.f2) = true := by simp [ht]
            have HT := Aside0.mk (show cStep s y = some false by unfold cStep; rw [if_neg ht])
            clear ht
            gi_wp2
            refine ⟨KeepsFrom.refl _ _, ⟨rfl, trivial⟩, false, ?_, k6, hbw, hkf⟩
            rw [fs_snoc _ _ _ hp2]
            exact HT.out
        case done2 =>
          rintro ys' V hys' ⟨hp2, k3, k5, k6, ks, k8, hbw, hbW, hkf⟩
          gi_wp2
          refine ⟨hkf, ⟨hbW, fun c' e' f' hi => ?_⟩, all_snoc hp ?_, k3, k5, k6, ks, hbw⟩
          · rw [js] at hi; rw [← hi]; exact ks
          · unfold cRow
            rw [← hys']
            exact fs_none _ _ hp2
        case stop2 =>
          rintro cd pre' V hpre' ⟨⟨rfl, -⟩, v, hv, k6, hbw, hkf⟩
          gi_wp2
          refine ⟨hkf, ⟨rfl, trivial⟩, v, ?_, k6, hbw⟩
          rw [fs_snoc _ _ _ hp]
          exact fs_prefix hpre' hv
      case done =>
        rintro D ys W hD hys ⟨hp, j3, j5, j6, js, hb⟩ hK
        have HS2 := Aside0.mk (show bClash l a0 a1 b0 b1 = (false, 0) by rw [HS.out, ← hys, fs_none _ _ hp]; rfl)
        have hcz := (blk_cell j6 0).trans rfl
        have hfz := blk_frozen j6 0
        gi_wp2
        have hK' := (KeepsOthers.setCell W ⟨w.heap.size + 1 + 1 + 1, 0, none⟩ (.bool false)).same D _ hK rfl
        refine ⟨by simp, .inl ⟨_, _, rfl, run_takeDeferred hK', ?_⟩⟩
        have hb2 := blk_put j6 0 (.bool false) rfl
        have hc5 := cell_kept ((blk_cell hb2 0).trans rfl) (grownBy_putObj' _ D (.deferred none)) (fun r e => by cases e; exact ⟨_, hK', rfl⟩)
        exact ⟨.tuple #[.bool false, .int .i64 0], by simp [results, Tryd.f20, go_sem, hc5], by rw [HS2.out], (hb.setCell (by simp; omega) _).trans (belowK_b (w := w) (Nat.le_refl _) _ D _ _ (Nat.le_trans hB0.size hD) hK' rfl rfl)⟩
      case stop =>
        rintro D cd pre W hD hpre ⟨⟨rfl, -⟩, v, hv, j6, hb⟩ hK
        have HS2 := Aside0.mk (show bClash l a0 a1 b0 b1 = (v, 0) by rw [HS.out, fs_prefix hpre hv]; rfl)
        have hcz := (blk_cell j6 0).trans rfl
        have hfz := blk_frozen j6 0
        gi_wp2
        have hK' := (KeepsOthers.setCell W ⟨w.heap.size + 1 + 1 + 1, 0, none⟩ (.bool v)).same D _ hK rfl
        refine ⟨by simp, .inl ⟨_, _, rfl, run_takeDeferred hK', ?_⟩⟩
        have hb2 := blk_put j6 0 (.bool v) rfl
        have hc5 := cell_kept ((blk_cell hb2 0).trans rfl) (grownBy_putObj' _ D (.deferred none)) (fun r e => by cases e; exact ⟨_, hK', rfl⟩)
        exact ⟨.tuple #[.bool v, .int .i64 0], by simp [results, Tryd.f20, go_sem, hc5], by rw [HS2.out], (hb.setCell (by simp; omega) _).trans (belowK_b (w := w) (Nat.le_refl _) _ D _ _ (Nat.le_trans hB0.size hD) hK' rfl rfl)⟩
    · have HS := Aside0.mk (show bClash l a0 a1 b0 b1 = (false, bCheck l b0 b1) by unfold bClash; rw [if_neg (by simp [h0]), if_pos h1])
      have h01 : (bCheck l b0 b1 != 0) = true := by simp [h1]
      have h02 : (bCheck l b0 b1 == 0) = false := by simp [h1]
      have hfz := blk_frozen I6.out 0
      have hcz := (blk_cell I6.out 0).trans rfl
      clear h0 h1
      gi_wp2
      have hbb := blk_put I6.out 0 (.bool false) rfl
      have hcc := (blk_cell hbb 0).trans rfl
      exact ⟨.tuple #[.bool false, .int .i64 (bCheck l b0 b1)], by simp [results, Tryd.f20, go_sem, hcc], by rw [HS.out], HB2.out.setCell (by simp; omega) _⟩
  · have HS := Aside0.mk (show bClash l a0 a1 b0 b1 = (false, bCheck l a0 a1) by unfold bClash; rw [if_pos h0])
    have h01 : (bCheck l a0 a1 != 0) = true := by simp [h0]
    have h02 : (bCheck l a0 a1 == 0) = false := by simp [h0]
    have hfz := blk_frozen J6.out 0
    have hcz := (blk_cell J6.out 0).trans rfl
    clear h0
    gi_wp2
    have hbb := blk_put J6.out 0 (.bool false) rfl
    have hcc := (blk_cell hbb 0).trans rfl
    exact ⟨.tuple #[.bool false, .int .i64 (bCheck l a0 a1)], by simp [results, Tryd.f20, go_sem, hcc], by rw [HS.out], HB1.out.setCell (by simp; omega) _⟩
end Go.Proofs.YtbpgoddohhiohaaDoor
