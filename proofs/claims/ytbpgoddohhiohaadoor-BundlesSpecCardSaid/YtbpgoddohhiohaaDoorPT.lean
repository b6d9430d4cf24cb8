/- The iterator bundles.parts: what it yields. No condition but how the slice lies in memory. -/
import Derived.Test.YtbpgoddohhiohaaDoorP
import Derived.Test.YtbpgoddohhiohaaDoorF
import Derived.Deep.DeepMust
namespace Go.Proofs.YtbpgoddohhiohaaDoor
open Go.RowKit Go.Shelf Go.Proofs.YtbpgoddohhiohaaDoorW.PrintWords
set_option linter.unusedVariables false
set_option linter.unusedSimpArgs false
attribute [local go_sem] Oper.semAt_some

def pQ (l : List S34) (id : Int) : List S34 := if (sFind l id).2 = true ∧ id ≠ -1 then [(sFind l id).1] else []
def bParts (l : List S34) (b0 b1 : Int) : List S34 := pQ l b0 ++ pQ l b1
/-- What a round keeps: what lies below n₀, and the block Bs. -/
structure KpS (n₀ Bs : Nat) (W W' : World) : Prop where
  below : Below n₀ W W'
  cells : ∀ (c : Array Value) (e : TypeId) (f : Nat × Nat), W.heap[Bs]? = some (Obj.cells c e f) → W'.heap[Bs]? = some (Obj.cells c e f)
theorem KpS.trans {n₀ Bs : Nat} {A B C : World} (h : KpS n₀ Bs A B) (k : KpS n₀ Bs B C) : KpS n₀ Bs A C := ⟨h.below.trans k.below, fun c e f hi => k.cells c e f (h.cells c e f hi)⟩
theorem kpS_b {n₀ Bs : Nat} {w : World} (hn : n₀ ≤ w.heap.size) (W : World) (l : Nat) (o o' : Obj) (hl : w.heap.size ≤ l) (h : W.heap[l]? = some o) (hc : o.isCells = false) (hw : o.isWalk = false) : KpS n₀ Bs W (W.putObj l o') :=
  ⟨belowK_b hn W l o o' hl h hc hw, fun c e f hi => by
    by_cases hil : Bs = l
    · subst hil
      rw [h] at hi
      injection hi with hi
      subst hi
      simp [Obj.isCells] at hc
    · rw [World.putObj_heap_other hil]
      exact hi⟩
theorem KpS.of_below {n₀ Bs : Nat} {W W' : World} (h : Below W.heap.size W W') (hn : n₀ ≤ W.heap.size) : KpS n₀ Bs W W' :=
  ⟨h.mono hn, fun c e f hi => (h.block Bs (Array.getElem?_eq_some_iff.1 hi).1).trans hi⟩
abbrev SecAt (w : World) (l : List S34) : Type := { p : S34 × List Value // k34.K w p.1 p.2 ∧ ∃ id, p.1 = (sFind l id).1 }

theorem parts_meet (w : World) (l : List S34) (hL : ∀ id, (sFind l id).1.f5.length ≤ 100000) (pre : List (SecAt w l)) : (pre.flatMap (·.1.1.f5)).length ≤ pre.length * 100000 := by
  induction pre with
  | nil => simp
  | cons x r ih =>
    obtain ⟨id, hid⟩ := x.2.2
    have := hL id
    rw [← hid] at this
    simp only [List.flatMap_cons, List.length_append, List.length_cons]
    omega
theorem bParts_len (l : List S34) (b0 b1 : Int) : (bParts l b0 b1).length ≤ 2 := by
  have h : ∀ id, (pQ l id).length ≤ 1 := fun id => by unfold pQ; split <;> simp
  have := h b0; have := h b1
  simp only [bParts, List.length_append]; omega

theorem parts_calls (A : Option Addr) (n c : Nat) (b0 b1 : Int) (w : World) :
    Calls Tryd.prog 30 #[.slice A n c, .agg #[.int .i64 b0, .int .i64 b1]] w fun e w' => e = .returned (.func (.func 52) #[] #[.pointer (some ⟨w.heap.size + 1, 0, none⟩), .pointer (some ⟨w.heap.size, 0, none⟩)]) ∧ w' = (w.alloc (.cells #[.slice A n c] 22)).alloc (.cells #[.int .i64 b0, .int .i64 b1] 24) := by
  go_enter Tryd.func30, Tryd.ntmps30
  go_wp2
  go_ret
  exact ⟨rfl, rfl⟩

set_option maxRecDepth 100000 in
set_option maxHeartbeats 4000000 in
theorem parts_stops (n : Nat) (hn : 1 ≤ n) (Bs Bb : Nat) (A : Option Addr) (cap : Nat) (l : List S34) (b0 b1 : Int) (w0 w : World) (hw : Below w0.heap.size w0 w) (hBs : w.heap[Bs]? = some (.cells #[.slice A l.length cap] 22 (0, 0))) (hb0 : w.cell? ⟨Bb, 0, none⟩ = some (.int .i64 b0)) (hb1 : w.cell? ⟨Bb, 1, none⟩ = some (.int .i64 b1)) (hr : k34.C w0 A l.length l) (hc : l.length ≤ cap) :
    SeqStopsK Fence.wide n Tryd.prog 52 #[.pointer (some ⟨Bb, 0, none⟩), .pointer (some ⟨Bs, 0, none⟩)] (fun x : SecAt w0 l => #[.agg x.1.2.toArray]) (KpS w0.heap.size Bs) (fun ys => ys.map (·.1.1) = bParts l b0 b1) (fun pre => pre.map (·.1.1) <+: bParts l b0 b1) (bParts l b0 b1).length w := fun lp J Jx W hW hJ hJx hY h0 => by
  have hBs' : W.heap[Bs]? = some (.cells #[.slice A l.length cap] 22 (0, 0)) := blk_low hW hBs
  have hb0' := cell_low hW hb0
  have hb1' := cell_low hW hb1
  refine callsIn_of_wp Tryd.func52 rfl trivial ?_ rfl
  simp only [Tryd.ntmps52, List.size_toArray, List.length_cons, List.length_nil, Nat.reduceAdd, Nat.reduceSub, Array.replicate_succ, Array.replicate_zero, List.push_toArray, List.append_toArray, List.nil_append, List.cons_append]
  gi_wp2
  clear hb0' hb1'
  gi_loopw [13] (fun i wr => ∃ k : Nat, k ≤ 2 ∧ i = .int .i64 k ∧ (∃ pre : List (SecAt w0 l), pre.map (·.1.1) = (if k = 0 then [] else if k = 1 then pQ l b0 else bParts l b0 b1) ∧ J pre wr) ∧ Below w0.heap.size w0 wr ∧ wr.heap[Bs]? = some (.cells #[.slice A l.length cap] 22 (0, 0))) (fun i _ => 2 - (intOf i).toNat)
  case atStart => exact ⟨0, Nat.zero_le _, rfl, ⟨[], rfl, h0⟩, below_tr hw hW, hBs'⟩
  case round =>
    obtain ⟨k, hk, rfl, ⟨pre, hpre, hJs⟩, hB, hBk⟩ := hrel
    rcases (by omega : k = 0 ∨ k = 1 ∨ k = 2) with rfl | rfl | rfl
    · rw [show ((0 : Nat) : Int) = 0 from rfl]
      have hix : ∀ W, (Instr.index 83 (.agg #[.int .i64 b0, .int .i64 b1]) (.int .i64 0)).run Tryd.prog W = .ok (.int .i64 b0) W := fun W => by kernel_rfl
      have hsl : wr.cell? ⟨Bs, 0, none⟩ = some (.slice A l.length cap) := (blk_cell hBk 0).trans rfl
      have hcall := (callsIn_wide (n := n - 1)).2 (find0_calls A cap l b0 w0 wr hB hr hc)
      have HB := Aside0.mk hB; have HBk := Aside0.mk hBk; have HJ := Aside0.mk hJs; have HP := Aside0.mk (show pre.map (·.1.1) = [] from hpre)
      have HQ := Aside0.mk (show pQ l b0 = if (sFind l b0).2 = true ∧ b0 ≠ -1 then [(sFind l b0).1] else [] from rfl)
      clear hB hBk hJs hpre hc hr hBs hb0 hb1
      have HI := Aside0.mk (show ∃ id, (sFind l b0).1 = (sFind l id).1 from ⟨_, rfl⟩)
      generalize sFind l b0 = sf at hcall HQ HI
      obtain ⟨s, ok⟩ := sf
      dsimp only at hcall HQ HI
      gi_wp2_with fail
      refine ⟨trivial, ?_⟩
      refine hcall.mono ?_
      rintro e w1 ⟨cs, rfl, hK, hbw⟩
      have HK := Aside0.mk hK
      obtain ⟨A5, c5, A6, c6, A7, c7, rfl, -⟩ := k34_open hK
      have hJ1 := fun o => hJ _ _ _ none (hJ _ _ _ none HJ.out (grown_of_below hbw none) (fun r e => by cases e)) (World.grownBy_alloc _ o none) (fun r e => by cases e)
      have HB1 := Aside0.mk (fun o => ((HB.out.trans (hbw.mono HB.out.size)).alloc (Nat.le_trans HB.out.size hbw.size) o))
      have HBk1 := Aside0.mk (fun o => blk_alloc (blk_low hbw HBk.out) o)
      have HJ1 := Aside0.mk hJ1
      clear hK hbw hJ1
      cases ok with
      | false =>
        have hs : pQ l b0 = [] := by rw [HQ.out, if_neg (by simp)]
        have HS := Aside0.mk hs; clear hs
        gi_wp2
        refine ⟨fun f hf => (by cases hf), ?_⟩
        gi_wp2
        go_roundw
        case rel => exact ⟨1, by omega, by go_num, ⟨pre, by rw [HP.out]; rw [if_neg (by omega), if_pos rfl, HS.out], HJ1.out _⟩, HB1.out _, HBk1.out _⟩
        case measure => first | (simp [intOf]; done) | decide | omega
      | true =>
        by_cases hid : b0 = -1
        · have hs : pQ l b0 = [] := by rw [HQ.out, if_neg (by simp [hid])]
          have HS := Aside0.mk hs; clear hs
          have hid2 : (b0 == -1) = true := by simp [hid]
          have hid3 : (b0 != -1) = false := by simp [hid]
          clear hid
          gi_wp2
          refine ⟨fun f hf => (by cases hf), ?_⟩
          gi_wp2
          go_roundw
          case rel => exact ⟨1, by omega, by go_num, ⟨pre, by rw [HP.out]; rw [if_neg (by omega), if_pos rfl, HS.out], HJ1.out _⟩, HB1.out _, HBk1.out _⟩
          case measure => first | (simp [intOf]; done) | decide | omega
        · have hs : pQ l b0 = [s] := by rw [HQ.out, if_pos ⟨rfl, hid⟩]
          have HS := Aside0.mk hs; clear hs
          have hid2 : (b0 == -1) = false := by simp [hid]
          have hid3 : (b0 != -1) = true := by simp [hid]
          clear hid
          have hpx : (pre ++ [(⟨(s, _), HK.out, HI.out⟩ : SecAt w0 l)]).map (·.1.1) = [] ++ pQ l b0 := by rw [List.map_append, HP.out, HS.out]; rfl
          have hlen : pre.length < (bParts l b0 b1).length := by
            have h1 := congrArg List.length HP.out; have h2 := HS.out
            simp only [List.length_map] at h1
            simp only [bParts, List.length_append, h1, List.length_nil]
            rw [h2]; simp only [List.length_cons, List.length_nil]; omega
          have HPX := Aside0.mk hpx; clear hpx
          obtain ⟨fn, tmps, assign, body, hy, hR⟩ := hY pre ⟨(s, _), HK.out, HI.out⟩ _ (HJ1.out (.cells #[.int .i64 s.f0, .int .i64 s.f1, .int .i64 s.f2, .int .i64 s.f3, .int .i64 s.f4, .slice A5 s.f5.length c5, .slice A6 s.f6.length c6, .slice A7 s.f7.length c7, .bool s.f8] 34)) hlen
          dsimp only at hy
          clear hY hlen hsl hcall
          gi_wp2
          refine hR.mono ?_
          rintro e W3 (⟨rfl, hJ3, hk3⟩ | ⟨rfl, hJx3⟩)
          · gi_wp2
            go_roundw
            case rel => exact ⟨1, by omega, by go_num, ⟨_, by rw [HPX.out]; rw [if_neg (by omega), if_pos rfl]; rfl, hJ3⟩, (HB1.out _).trans hk3.below, hk3.cells _ _ _ (HBk1.out _)⟩
            case measure => first | (simp [intOf]; done) | decide | omega
          · gi_wp2
            refine bodyPost_ret (results_none rfl _ _ _) rfl ?_
            exact ⟨⟨_, rfl⟩, .inr ⟨_, by rw [HPX.out]; exact List.prefix_append _ _, hJx3⟩⟩
    · rw [show ((1 : Nat) : Int) = 1 from rfl]
      have hix : ∀ W, (Instr.index 83 (.agg #[.int .i64 b0, .int .i64 b1]) (.int .i64 1)).run Tryd.prog W = .ok (.int .i64 b1) W := fun W => by kernel_rfl
      have hsl : wr.cell? ⟨Bs, 0, none⟩ = some (.slice A l.length cap) := (blk_cell hBk 0).trans rfl
      have hcall := (callsIn_wide (n := n - 1)).2 (find0_calls A cap l b1 w0 wr hB hr hc)
      have HB := Aside0.mk hB; have HBk := Aside0.mk hBk; have HJ := Aside0.mk hJs; have HP := Aside0.mk (show pre.map (·.1.1) = (pQ l b0) from hpre)
      have HQ := Aside0.mk (show pQ l b1 = if (sFind l b1).2 = true ∧ b1 ≠ -1 then [(sFind l b1).1] else [] from rfl)
      clear hB hBk hJs hpre hc hr hBs hb0 hb1
      have HI := Aside0.mk (show ∃ id, (sFind l b1).1 = (sFind l id).1 from ⟨_, rfl⟩)
      generalize sFind l b1 = sf at hcall HQ HI
      obtain ⟨s, ok⟩ := sf
      dsimp only at hcall HQ HI
      gi_wp2_with fail
      refine ⟨trivial, ?_⟩
      refine hcall.mono ?_
      rintro e w1 ⟨cs, rfl, hK, hbw⟩
      have HK := Aside0.mk hK
      obtain ⟨A5, c5, A6, c6, A7, c7, rfl, -⟩ := k34_open hK
      have hJ1 := fun o => hJ _ _ _ none (hJ _ _ _ none HJ.out (grown_of_below hbw none) (fun r e => by cases e)) (World.grownBy_alloc _ o none) (fun r e => by cases e)
      have HB1 := Aside0.mk (fun o => ((HB.out.trans (hbw.mono HB.out.size)).alloc (Nat.le_trans HB.out.size hbw.size) o))
      have HBk1 := Aside0.mk (fun o => blk_alloc (blk_low hbw HBk.out) o)
      have HJ1 := Aside0.mk hJ1
      clear hK hbw hJ1
      cases ok with
      | false =>
        have hs : pQ l b1 = [] := by rw [HQ.out, if_neg (by simp)]
        have HS := Aside0.mk hs; clear hs
        gi_wp2
        refine ⟨fun f hf => (by cases hf), ?_⟩
        gi_wp2
        go_roundw
        case rel => exact ⟨2, by omega, by go_num, ⟨pre, by rw [HP.out]; rw [if_neg (by omega), if_neg (by omega)]; simp [bParts, HS.out], HJ1.out _⟩, HB1.out _, HBk1.out _⟩
        case measure => first | (simp [intOf]; done) | decide | omega
      | true =>
        by_cases hid : b1 = -1
        · have hs : pQ l b1 = [] := by rw [HQ.out, if_neg (by simp [hid])]
          have HS := Aside0.mk hs; clear hs
          have hid2 : (b1 == -1) = true := by simp [hid]
          have hid3 : (b1 != -1) = false := by simp [hid]
          clear hid
          gi_wp2
          refine ⟨fun f hf => (by cases hf), ?_⟩
          gi_wp2
          go_roundw
          case rel => exact ⟨2, by omega, by go_num, ⟨pre, by rw [HP.out]; rw [if_neg (by omega), if_neg (by omega)]; simp [bParts, HS.out], HJ1.out _⟩, HB1.out _, HBk1.out _⟩
          case measure => first | (simp [intOf]; done) | decide | omega
        · have hs : pQ l b1 = [s] := by rw [HQ.out, if_pos ⟨rfl, hid⟩]
          have HS := Aside0.mk hs; clear hs
          have hid2 : (b1 == -1) = false := by simp [hid]
          have hid3 : (b1 != -1) = true := by simp [hid]
          clear hid
          have hpx : (pre ++ [(⟨(s, _), HK.out, HI.out⟩ : SecAt w0 l)]).map (·.1.1) = (pQ l b0) ++ pQ l b1 := by rw [List.map_append, HP.out, HS.out]; rfl
          have hlen : pre.length < (bParts l b0 b1).length := by
            have h1 := congrArg List.length HP.out; have h2 := HS.out
            simp only [List.length_map] at h1
            simp only [bParts, List.length_append, h1, h1]
            rw [h2]; simp only [List.length_cons, List.length_nil]; omega
          have HPX := Aside0.mk hpx; clear hpx
          obtain ⟨fn, tmps, assign, body, hy, hR⟩ := hY pre ⟨(s, _), HK.out, HI.out⟩ _ (HJ1.out (.cells #[.int .i64 s.f0, .int .i64 s.f1, .int .i64 s.f2, .int .i64 s.f3, .int .i64 s.f4, .slice A5 s.f5.length c5, .slice A6 s.f6.length c6, .slice A7 s.f7.length c7, .bool s.f8] 34)) hlen
          dsimp only at hy
          clear hY hlen hsl hcall
          gi_wp2
          refine hR.mono ?_
          rintro e W3 (⟨rfl, hJ3, hk3⟩ | ⟨rfl, hJx3⟩)
          · gi_wp2
            go_roundw
            case rel => exact ⟨2, by omega, by go_num, ⟨_, by rw [HPX.out]; rw [if_neg (by omega), if_neg (by omega)]; rfl, hJ3⟩, (HB1.out _).trans hk3.below, hk3.cells _ _ _ (HBk1.out _)⟩
            case measure => first | (simp [intOf]; done) | decide | omega
          · gi_wp2
            refine bodyPost_ret (results_none rfl _ _ _) rfl ?_
            exact ⟨⟨_, rfl⟩, .inr ⟨_, by rw [HPX.out]; exact List.prefix_refl _, hJx3⟩⟩
    · gi_wp2
      go_end0
      exact ⟨⟨_, rfl⟩, .inl ⟨pre, hpre, hJs⟩⟩
end Go.Proofs.YtbpgoddohhiohaaDoor
