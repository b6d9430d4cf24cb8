/- The iterator meeting.pairs: what it yields. No condition but how the slice lies in memory. -/
import Derived.RangeFuncNested
import Derived.RangeFuncBound
import Derived.RangeFuncCalls
import Derived.RangeFuncLeaves
import Derived.Shelf.Abstract
import Derived.Shelf.RegionOpen
import Derived.WalkKit
import Derived.OwnWalkIn
import Derived.TacticsInMore
import Derived.LoopNIn
import Derived.LoopIn
import Derived.Test.YtbpgoddohhiohaaDoorM
namespace Go.Proofs.YtbpgoddohhiohaaDoor
open Go.RowKit Go.Shelf Go.Proofs.YtbpgoddohhiohaaDoorW.PrintWords
set_option linter.unusedVariables false
set_option linter.unusedSimpArgs false
attribute [local go_sem] Oper.semAt_some

abbrev encM (m : S65) : Value := .agg #[.int .i64 m.f0, .int .i64 m.f1, .int .i64 m.f2, .int .i64 m.f3, .int .i64 m.f4]
def prsUp (l : List S65) (k : Nat) : List (S65 × S65) := (List.range k).flatMap fun i => (l.drop (i + 1)).map fun b => (rd_T65 l i, b)
def prsIn (l : List S65) (k j : Nat) : List (S65 × S65) := prsUp l k ++ ((l.drop (k + 1)).take j).map fun b => (rd_T65 l k, b)
theorem prsUp_succ (l : List S65) (k : Nat) : prsUp l (k + 1) = prsUp l k ++ (l.drop (k + 1)).map fun b => (rd_T65 l k, b) := by
  simp [prsUp, List.range_succ]
theorem prsIn_zero (l : List S65) (k : Nat) : prsIn l k 0 = prsUp l k := by simp [prsIn]
theorem prsIn_all (l : List S65) (k j : Nat) (hj : (l.drop (k + 1)).length ≤ j) : prsIn l k j = prsUp l (k + 1) := by
  rw [prsIn, List.take_of_length_le hj, prsUp_succ]
theorem prsIn_succ (l : List S65) (k j : Nat) (hj : j < (l.drop (k + 1)).length) : prsIn l k (j + 1) = prsIn l k j ++ [(rd_T65 l k, rd_T65 (l.drop (k + 1)) j)] := by
  unfold prsIn
  rw [List.take_succ_eq_append_getElem hj, List.map_append, List.append_assoc]
  simp [rd_T65, List.getElem?_eq_getElem hj]
theorem prsUp_prefix (l : List S65) (k n : Nat) (h : k ≤ n) : prsUp l k <+: prsUp l n := by
  induction n with
  | zero => obtain rfl : k = 0 := by omega
            exact List.prefix_refl _
  | succ n ih =>
    rcases Nat.lt_or_ge n k with h1 | h1
    · obtain rfl : k = n + 1 := by omega
      exact List.prefix_refl _
    · rw [prsUp_succ]
      exact (ih h1).trans (List.prefix_append _ _)
theorem prsIn_prefix (l : List S65) (k j n : Nat) (h : k < n) : prsIn l k j <+: prsUp l n := by
  refine List.IsPrefix.trans ?_ (prsUp_prefix l (k + 1) n h)
  rw [prsUp_succ]
  unfold prsIn
  exact (List.prefix_append_right_inj _).2 (List.IsPrefix.map _ (List.take_prefix _ _))
theorem prefix_lt {α : Type} {a b : List α} {x : α} (h : a ++ [x] <+: b) : a.length < b.length := by
  have := h.length_le
  simp at this
  omega

/-- What a round keeps that leaves all cells alone. -/
structure KpC (n₀ : Nat) (W W' : World) : Prop where
  below : Below n₀ W W'
  cells : ∀ (i : Nat) (c : Array Value) (e : TypeId) (f : Nat × Nat), W.heap[i]? = some (Obj.cells c e f) → W'.heap[i]? = some (Obj.cells c e f)
theorem KpC.trans {n₀ : Nat} {A B C : World} (h : KpC n₀ A B) (k : KpC n₀ B C) : KpC n₀ A C := ⟨h.below.trans k.below, fun i c e f hi => k.cells i c e f (h.cells i c e f hi)⟩
theorem kpC_b {n₀ : Nat} {w : World} (hn : n₀ ≤ w.heap.size) (W : World) (l : Nat) (o o' : Obj) (hl : w.heap.size ≤ l) (h : W.heap[l]? = some o) (hc : o.isCells = false) (hw : o.isWalk = false) : KpC n₀ W (W.putObj l o') :=
  ⟨belowK_b hn W l o o' hl h hc hw, fun i c e f hi => by
    by_cases hil : i = l
    · subst hil
      rw [h] at hi
      injection hi with hi
      subst hi
      simp [Obj.isCells] at hc
    · rw [World.putObj_heap_other hil]
      exact hi⟩
theorem KpC.of_below {n₀ : Nat} {W W' : World} (h : Below W.heap.size W W') (hn : n₀ ≤ W.heap.size) : KpC n₀ W W' :=
  ⟨h.mono hn, fun i c e f hi => (h.block i (Array.getElem?_eq_some_iff.1 hi).1).trans hi⟩
theorem KpC.cell {n₀ : Nat} {W W' : World} (h : KpC n₀ W W') {a : Addr} {v : Value} (hc : W.cell? a = some v) : W'.cell? a = some v := by
  unfold World.cell? at hc ⊢
  cases ho : W.heap[a.block]? with
  | none => rw [ho] at hc; simp at hc
  | some o =>
    rw [ho] at hc
    cases o with
    | cells c e f => rw [h.cells _ _ _ _ ho]; exact hc
    | _ => simp at hc

set_option maxRecDepth 100000 in
set_option maxHeartbeats 2000000 in
theorem pairs_stops (n : Nat) (hn : 1 ≤ n) (Bs : Nat) (A : Option Addr) (cap : Nat) (xs : List S65) (w : World) (hBs : w.cell? ⟨Bs, 0, none⟩ = some (.slice A xs.length cap)) (hr : k65.C w A xs.length xs) (hc : xs.length ≤ cap) :
    SeqStopsK Fence.wide n Tryd.prog 81 #[.pointer (some ⟨Bs, 0, none⟩)] (fun x : S65 × S65 => #[encM x.1, encM x.2]) (KpC w.heap.size) (fun ys => ys = prsUp xs xs.length) (fun pre => pre <+: prsUp xs xs.length) (prsUp xs xs.length).length w := fun l J Jx W hW hJ hJx hY h0 => by
  have hBs' := cell_low hW hBs
  have hmax := Kd.C_max hr
  refine callsIn_of_wp Tryd.func81 rfl trivial ?_ rfl
  simp only [Tryd.ntmps81, List.size_toArray, List.length_cons, List.length_nil, Nat.reduceAdd, Nat.reduceSub, Array.replicate_succ, Array.replicate_zero, List.push_toArray, List.append_toArray, List.nil_append, List.cons_append]
  gi_wp2
  gi_loopw [9] (fun i wr => ∃ k : Nat, k ≤ xs.length ∧ i = .int .i64 k ∧ J (prsUp xs k) wr ∧ Below w.heap.size w wr) (fun i _ => xs.length - (intOf i).toNat)
  case atStart => exact ⟨0, Nat.zero_le _, rfl, h0, hW⟩
  case round =>
    obtain ⟨k, hk, rfl, hJs, hnx⟩ := hrel
    by_cases hlt : k < xs.length
    · have hC := Kd.C_below hr hnx
      obtain ⟨ad, rfl, hx0, hx1, hx2, hx3, hx4⟩ := at_T65 hC k (by omega) (by omega)
      have hC2 := Kd.C_drop (c := cap) (m := k + 1) hr hlt hc
      obtain ⟨im, him, _, hsz, _⟩ := info_get info65
      have hcut := cut_from (P := Tryd.prog) 30 65 .i64 Tryd.underlying30 him 5 hsz (some ad) xs.length cap ((k : Int) + 1) (by omega) (by omega)
      have h5 : k65.sz = 5 := rfl
      rw [h5] at hC2
      simp only [show ((k : Int) + 1).toNat = k + 1 from by omega] at hcut
      rw [show xs.length - (k + 1) = (xs.drop (k + 1)).length from by simp] at hcut
      generalize hA' : (if cap = k + 1 then some ad else Option.map (fun x => x.add ((k + 1) * 5)) (some ad)) = A' at hcut hC2
      clear hA'
      have hBr : wr.cell? ⟨Bs, 0, none⟩ = some (.slice (some ad) xs.length cap) := cell_low hnx hBs
      obtain ⟨ys, hys⟩ : ∃ ys, ys = xs.drop (k + 1) := ⟨_, rfl⟩
      have HY : Aside0 (∀ p : List S65 → Prop, p (xs.drop (k + 1)) → p ys) := ⟨fun p hp => hys ▸ hp⟩
      rw [← hys] at hcut hC2
      clear hys
      have hcut' : ∀ W : World, (Instr.slice 30 (.slice (some ad) xs.length cap) (some (.int .i64 (wrap64 ((k : Int) + 1)))) none none).run Tryd.prog W = .ok (.slice A' ys.length (cap - (k + 1))) W := by
        rw [show wrap64 ((k : Int) + 1) = (k : Int) + 1 from by unfold wrap64; omega]
        exact hcut
      have hmy := Kd.C_max hC2
      have HC2 := Aside0.mk hC2; clear hC2
      have hp0 : 0 ≤ (k : Int) := by omega
      have hp1 : (k : Int) < xs.length := by omega
      simp only [Int.toNat_natCast] at hx0 hx1 hx2 hx3 hx4
      have hBra : ∀ o : Obj, (wr.alloc o).cell? ⟨Bs, 0, none⟩ = some (.slice (some ad) xs.length cap) := fun o => cell_low ((Below.refl _ _).alloc (Nat.le_refl _) o) hBr
      have hGs : wr.heap.size ≥ w.heap.size := hnx.size
      gi_wp2
      obtain ⟨wo, rfl⟩ : ∃ wo : World, wo = wr := ⟨_, rfl⟩
      obtain ⟨w1, hw1⟩ : ∃ w1, w1 = wo.alloc (.cells #[.int .i64 (rd_T65 xs k).f0, .int .i64 (rd_T65 xs k).f1, .int .i64 (rd_T65 xs k).f2, .int .i64 (rd_T65 xs k).f3, .int .i64 (rd_T65 xs k).f4] 65) := ⟨_, rfl⟩
      rw [← hw1]
      have hbx : w1.heap[wo.heap.size]? = some (.cells #[.int .i64 (rd_T65 xs k).f0, .int .i64 (rd_T65 xs k).f1, .int .i64 (rd_T65 xs k).f2, .int .i64 (rd_T65 xs k).f3, .int .i64 (rd_T65 xs k).f4] 65 (0, 0)) := by rw [hw1]; exact World.alloc_heap_new _ _
      have hJ1 : J (prsIn xs k 0) w1 := by rw [prsIn_zero, hw1]; exact hJ _ _ _ none hJs (World.grownBy_alloc _ _ _) (fun r e => by cases e)
      have hb1 : Below w.heap.size w w1 := by rw [hw1]; exact hnx.alloc hnx.size _
      clear hw1 hx0 hx1 hx2 hx3 hx4 hC hcut hcut' hBr hBra
      gi_loopw [19] (fun i wr => ∃ j : Nat, j ≤ ys.length ∧ i = .int .i64 j ∧ J (prsIn xs k j) wr ∧ Below w.heap.size w wr ∧ wr.heap[wo.heap.size]? = some (.cells #[.int .i64 (rd_T65 xs k).f0, .int .i64 (rd_T65 xs k).f1, .int .i64 (rd_T65 xs k).f2, .int .i64 (rd_T65 xs k).f3, .int .i64 (rd_T65 xs k).f4] 65 (0, 0))) (fun i _ => ys.length - (intOf i).toNat)
      case atStart => exact ⟨0, Nat.zero_le _, rfl, hJ1, hb1, hbx⟩
      case round =>
        obtain ⟨j, hj, rfl, hJq, hnq, hbq⟩ := hrel
        by_cases hlj : j < ys.length
        · have hC3 := Kd.C_below HC2.out hnq
          obtain ⟨ad2, rfl, hx0, hx1, hx2, hx3, hx4⟩ := at_T65 hC3 j (by omega) (by omega)
          simp only [Int.toNat_natCast] at hx0 hx1 hx2 hx3 hx4
          have hs := HY.out (fun ys => j < ys.length → prsIn xs k (j + 1) = prsIn xs k j ++ [(rd_T65 xs k, rd_T65 ys j)]) (prsIn_succ xs k j) hlj
          have hpl := prefix_lt (hs ▸ prsIn_prefix xs k (j + 1) xs.length hlt)
          have hal : ∀ o : Obj, Below wr.heap.size wr (wr.alloc o) := fun o => (Below.refl _ _).alloc (Nat.le_refl _) o
          have hz0 : ∀ o : Obj, (wr.alloc o).cell? ⟨wo.heap.size, 0, none⟩ = some (.int .i64 (rd_T65 xs k).f0) := fun o => cell_low (hal o) ((blk_cell hbq 0).trans rfl)
          have hz1 : ∀ o : Obj, (wr.alloc o).cell? ⟨wo.heap.size, 1, none⟩ = some (.int .i64 (rd_T65 xs k).f1) := fun o => cell_low (hal o) ((blk_cell hbq 1).trans rfl)
          have hz2 : ∀ o : Obj, (wr.alloc o).cell? ⟨wo.heap.size, 2, none⟩ = some (.int .i64 (rd_T65 xs k).f2) := fun o => cell_low (hal o) ((blk_cell hbq 2).trans rfl)
          have hz3 : ∀ o : Obj, (wr.alloc o).cell? ⟨wo.heap.size, 3, none⟩ = some (.int .i64 (rd_T65 xs k).f3) := fun o => cell_low (hal o) ((blk_cell hbq 3).trans rfl)
          have hz4 : ∀ o : Obj, (wr.alloc o).cell? ⟨wo.heap.size, 4, none⟩ = some (.int .i64 (rd_T65 xs k).f4) := fun o => cell_low (hal o) ((blk_cell hbq 4).trans rfl)
          obtain ⟨fn, tmps, assign, body, hy, hR⟩ := hY (prsIn xs k j) (rd_T65 xs k, rd_T65 ys j) (wr.alloc (.cells #[.int .i64 (rd_T65 ys j).f0, .int .i64 (rd_T65 ys j).f1, .int .i64 (rd_T65 ys j).f2, .int .i64 (rd_T65 ys j).f3, .int .i64 (rd_T65 ys j).f4] 65)) (hJ _ _ _ none hJq (World.grownBy_alloc _ _ _) (fun r e => by cases e)) hpl
          dsimp only [encM] at hy
          have HE := Aside0.mk hs; clear hs
          have hd0 : (j : Int) < ys.length := by omega
          clear hY hpl
          gi_wp2
          refine hR.mono ?_
          rintro e W3 (⟨rfl, hJ3, hk3⟩ | ⟨rfl, hJx3⟩)
          · gi_wp2
            go_roundw
            case rel => exact ⟨j + 1, by omega, by go_num, by rw [HE.out]; exact hJ3, (hnq.alloc hnq.size _).trans hk3.below, hk3.cells _ _ _ _ (by rw [(hal _).block _ (Array.getElem?_eq_some_iff.1 hbq).1]; exact hbq)⟩
            case measure => simp [intOf]; omega
          · gi_wp2
            refine bodyPost_ret (results_none rfl _ _ _) rfl ?_
            exact ⟨⟨_, rfl⟩, .inr ⟨_, by rw [← HE.out]; exact prsIn_prefix xs k (j + 1) xs.length hlt, hJx3⟩⟩
        · have HE := Aside0.mk (HY.out (fun ys => ys.length ≤ j → prsIn xs k j = prsUp xs (k + 1)) (prsIn_all xs k j) (by omega))
          have hd0 : ¬ (j : Int) < ys.length := by omega
          gi_wp2
          exact ⟨⟨k + 1, by omega, by go_num, by rw [← HE.out]; exact hJq, hnq⟩, by simp [intOf]; omega⟩
    · obtain rfl : k = xs.length := by omega
      gi_wp2
      go_end0
      exact ⟨⟨_, rfl⟩, .inl ⟨_, rfl, hJs⟩⟩
end Go.Proofs.YtbpgoddohhiohaaDoor
