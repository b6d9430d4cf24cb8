/- '==' of keys; facts.of: the iterator over the facts of a key that are known at a time: what it yields. No condition but how the slice lies in memory. -/
import Derived.Test.YtdnmoppegncioaaGreatDoorKF
import Derived.Test.YtdnmoppegncioaaGreatDoorWEqStruct
import Derived.BigQuiet
import Derived.Deep.QuietTactic
import Derived.Deep.RegionWith
import Derived.LoopIn
import Derived.LoopNIn
import Derived.OwnWalkIn
import Derived.RangeFuncBound
import Derived.RangeFuncCalls
import Derived.RangeFuncLeaves
import Derived.RangeFuncNested
import Derived.Shelf.Abstract
import Derived.Shelf.RegionOpen
import Derived.TacticsInMore
import Derived.WalkKit
import Derived.Deep.DeepMust
namespace Go.Proofs.YtdnmoppegncioaaGreatDoor
open Go.RowKit Go.Shelf Go.Proofs.YtdnmoppegncioaaGreatDoorW.PrintWords
set_option linter.unusedVariables false
set_option linter.unusedSimpArgs false
attribute [local go_sem] Oper.semAt_some
/-- A guard that hangs on an operation that was not wanted does not hold. -/
theorem yld_undef : @Go.yielded.match_1 (fun _ => Option Bool) (some undef) (fun b => some b) (fun _ => none) = none := rfl
attribute [local go_sem] yld_undef
theorem eqA99 (d : Nat) (w : World) (x0 y0 x1 y1 x2 y2 : Int) : (Op.equalIn (d + 2) 99 (.agg #[.int .i64 x0, .int .i64 x1, .int .i64 x2]) (.agg #[.int .i64 y0, .int .i64 y1, .int .i64 y2])).run Tryz.prog w = .ok (x0 == y0 && (x1 == y1 && (x2 == y2))) w := by
  refine eqA_of Tryz.underlying99 (by kernel_rfl) ?_
  refine eqf_cons (by rfl) (by go_simp; rfl) (by go_simp; rfl) (by go_simp) ?_
  refine eqf_cons (by rfl) (by go_simp; rfl) (by go_simp; rfl) (by go_simp) ?_
  exact eqf_last (by rfl) (by go_simp; rfl) (by go_simp; rfl) (by go_simp)
attribute [local go_sem high] eqA99
/-- What a round keeps: what lies below n₀, and the blocks Bs. -/
structure KpL (n₀ : Nat) (Bs : List Nat) (W W' : World) : Prop where
  below : Below n₀ W W'
  cells : ∀ b ∈ Bs, ∀ (c : Array Value) (e : TypeId) (f : Nat × Nat), W.heap[b]? = some (Obj.cells c e f) → W'.heap[b]? = some (Obj.cells c e f)
theorem KpL.trans {n₀ : Nat} {Bs : List Nat} {A B C : World} (h : KpL n₀ Bs A B) (k : KpL n₀ Bs B C) : KpL n₀ Bs A C := ⟨h.below.trans k.below, fun b hb c e f hi => k.cells b hb c e f (h.cells b hb c e f hi)⟩
theorem kpL_b {n₀ : Nat} {Bs : List Nat} {w : World} (hn : n₀ ≤ w.heap.size) (W : World) (l : Nat) (o o' : Obj) (hl : w.heap.size ≤ l) (h : W.heap[l]? = some o) (hc : o.isCells = false) (hw : o.isWalk = false) : KpL n₀ Bs W (W.putObj l o') :=
  ⟨belowK_b hn W l o o' hl h hc hw, fun b _ c e f hi => by
    by_cases hil : b = l
    · subst hil
      rw [h] at hi
      injection hi with hi
      subst hi
      simp [Obj.isCells] at hc
    · rw [World.putObj_heap_other hil]
      exact hi⟩
theorem KpL.of_below {n₀ : Nat} {Bs : List Nat} {W W' : World} (h : Below W.heap.size W W') (hn : n₀ ≤ W.heap.size) : KpL n₀ Bs W W' :=
  ⟨h.mono hn, fun b _ c e f hi => (h.block b (Array.getElem?_eq_some_iff.1 hi).1).trans hi⟩
theorem ownFrom_blk {β : Type} {B g : Nat} {cs : β → Array Value} {t : TypeId} (f : Nat × Nat) : OwnFrom B (fun (s : β) (W : World) => W.heap[g]? = some (Obj.cells (cs s) t f)) := fun s W W' row hs hg hr => by
  refine (hg.block g (Array.getElem?_eq_some_iff.1 hs).1 (fun e => ?_)).trans hs
  obtain ⟨_, o, ho, hc⟩ := hr g e.symm
  rw [hs] at ho
  injection ho with ho
  subst ho
  simp [Obj.isCells] at hc
theorem ownFrom_ex {β γ : Type} {B : Nat} {I : γ → β → World → Prop} (h : ∀ x, OwnFrom B (I x)) : OwnFrom B (fun s W => ∃ x, I x s W) := fun s W W' row ⟨x, hs⟩ hg hr => ⟨x, h x s W W' row hs hg hr⟩
theorem keepsFrom_below {B : Nat} {W W' : World} (h : Below W.heap.size W W') : KeepsFrom B W W' := ⟨h.size, fun k o _ hk _ => (h.block k (Array.getElem?_eq_some_iff.1 hk).1).trans hk⟩
/-! Stores of a fact's eight cells. -/
theorem blk_put8 {w : World} {g : Nat} {t : TypeId} {a0 a1 a2 a3 a4 a5 a6 a7 : Value} (h : w.heap[g]? = some (Obj.cells #[a0, a1, a2, a3, a4, a5, a6, a7] t (0, 0))) (v0 v1 v2 v3 v4 v5 v6 v7 : Value) : ((((((((w.setCell ⟨g, 0, none⟩ v0).setCell ⟨g, 1, none⟩ v1).setCell ⟨g, 2, none⟩ v2).setCell ⟨g, 3, none⟩ v3).setCell ⟨g, 4, none⟩ v4).setCell ⟨g, 5, none⟩ v5).setCell ⟨g, 6, none⟩ v6).setCell ⟨g, 7, none⟩ v7).heap[g]? = some (Obj.cells #[v0, v1, v2, v3, v4, v5, v6, v7] t (0, 0)) := (blk_put (cs' := #[v0, v1, v2, v3, v4, v5, v6, v7]) (blk_put (cs' := #[v0, v1, v2, v3, v4, v5, v6, a7]) (blk_put (cs' := #[v0, v1, v2, v3, v4, v5, a6, a7]) (blk_put (cs' := #[v0, v1, v2, v3, v4, a5, a6, a7]) (blk_put (cs' := #[v0, v1, v2, v3, a4, a5, a6, a7]) (blk_put (cs' := #[v0, v1, v2, a3, a4, a5, a6, a7]) (blk_put (cs' := #[v0, v1, a2, a3, a4, a5, a6, a7]) (blk_put (cs' := #[v0, a1, a2, a3, a4, a5, a6, a7]) h 0 v0 rfl) 1 v1 rfl) 2 v2 rfl) 3 v3 rfl) 4 v4 rfl) 5 v5 rfl) 6 v6 rfl) 7 v7 rfl)
theorem below_put8 {B : Nat} {w0 w : World} {g : Nat} (hb : Below B w0 w) (hg : B ≤ g) (v0 v1 v2 v3 v4 v5 v6 v7 : Value) : Below B w0 ((((((((w.setCell ⟨g, 0, none⟩ v0).setCell ⟨g, 1, none⟩ v1).setCell ⟨g, 2, none⟩ v2).setCell ⟨g, 3, none⟩ v3).setCell ⟨g, 4, none⟩ v4).setCell ⟨g, 5, none⟩ v5).setCell ⟨g, 6, none⟩ v6).setCell ⟨g, 7, none⟩ v7) := ((((((((hb.setCell (p := ⟨g, 0, none⟩) hg v0).setCell (p := ⟨g, 1, none⟩) hg v1).setCell (p := ⟨g, 2, none⟩) hg v2).setCell (p := ⟨g, 3, none⟩) hg v3).setCell (p := ⟨g, 4, none⟩) hg v4).setCell (p := ⟨g, 5, none⟩) hg v5).setCell (p := ⟨g, 6, none⟩) hg v6).setCell (p := ⟨g, 7, none⟩) hg v7)
theorem far_put8 {w : World} {g k : Nat} (hne : k ≠ g) (v0 v1 v2 v3 v4 v5 v6 v7 : Value) : ((((((((w.setCell ⟨g, 0, none⟩ v0).setCell ⟨g, 1, none⟩ v1).setCell ⟨g, 2, none⟩ v2).setCell ⟨g, 3, none⟩ v3).setCell ⟨g, 4, none⟩ v4).setCell ⟨g, 5, none⟩ v5).setCell ⟨g, 6, none⟩ v6).setCell ⟨g, 7, none⟩ v7).heap[k]? = w.heap[k]? := by
  rw [Below.heap_setCell _ _ _ _ hne, Below.heap_setCell _ _ _ _ hne, Below.heap_setCell _ _ _ _ hne, Below.heap_setCell _ _ _ _ hne, Below.heap_setCell _ _ _ _ hne, Below.heap_setCell _ _ _ _ hne, Below.heap_setCell _ _ _ _ hne, Below.heap_setCell _ _ _ _ hne]
theorem keepsFrom_set {B : Nat} {w0 w : World} (h : KeepsFrom B w0 w) (p : Addr) (v : Value) : KeepsFrom B w0 (w.setCell p v) := h.trans ((KeepsOthers.setCell _ _ _).from _)
theorem keepsFrom_put8 {B : Nat} {w0 w : World} (h : KeepsFrom B w0 w) (g : Nat) (v0 v1 v2 v3 v4 v5 v6 v7 : Value) : KeepsFrom B w0 ((((((((w.setCell ⟨g, 0, none⟩ v0).setCell ⟨g, 1, none⟩ v1).setCell ⟨g, 2, none⟩ v2).setCell ⟨g, 3, none⟩ v3).setCell ⟨g, 4, none⟩ v4).setCell ⟨g, 5, none⟩ v5).setCell ⟨g, 6, none⟩ v6).setCell ⟨g, 7, none⟩ v7) := (keepsFrom_set (keepsFrom_set (keepsFrom_set (keepsFrom_set (keepsFrom_set (keepsFrom_set (keepsFrom_set (keepsFrom_set h ⟨g, 0, none⟩ v0) ⟨g, 1, none⟩ v1) ⟨g, 2, none⟩ v2) ⟨g, 3, none⟩ v3) ⟨g, 4, none⟩ v4) ⟨g, 5, none⟩ v5) ⟨g, 6, none⟩ v6) ⟨g, 7, none⟩ v7)
theorem nb {W : World} {m : Nat} (h : W.heap.size = m) (o : Obj) : (W.alloc o).heap[m]? = some o ∧ (W.alloc o).heap.size = m + 1 := by subst h; exact ⟨new_blk W o, World.size_alloc _ _⟩
/-- Is a fact about a key, and known? -/
def fHas (k0 k1 k2 kn : Int) (f : S151) : Bool := (f.f0.f0 == k0 && (f.f0.f1 == k1 && f.f0.f2 == k2)) && decide (f.f3 ≤ kn)
def fOf (l : List S151) (k0 k1 k2 kn : Int) : List S151 := l.filter (fHas k0 k1 k2 kn)
theorem fOf_take (l : List S151) (k0 k1 k2 kn : Int) (k : Nat) (hk : k < l.length) : fOf (l.take (k + 1)) k0 k1 k2 kn = if fHas k0 k1 k2 kn (rd_T151 l k) then fOf (l.take k) k0 k1 k2 kn ++ [rd_T151 l k] else fOf (l.take k) k0 k1 k2 kn := by
  unfold fOf
  rw [List.take_succ_eq_append_getElem hk, List.filter_append, show rd_T151 l k = l[k] from by simp [rd_T151, List.getElem?_eq_getElem hk]]
  cases h : fHas k0 k1 k2 kn l[k] <;> simp [h]
theorem fOf_len (l : List S151) (k0 k1 k2 kn : Int) (k : Nat) : (fOf (l.take k) k0 k1 k2 kn).length ≤ k := Nat.le_trans (List.length_filter_le _ _) (by simp; omega)
theorem fOf_pre (l : List S151) (k0 k1 k2 kn : Int) (k : Nat) : fOf (l.take k) k0 k1 k2 kn <+: fOf l k0 k1 k2 kn := by
  unfold fOf
  exact (List.take_prefix k l).filter _
theorem fof_calls (A : Option Addr) (n c : Nat) (k0 k1 k2 kn : Int) (w : World) :
    Calls Tryz.prog 81 #[.slice A n c, .agg #[.int .i64 k0, .int .i64 k1, .int .i64 k2], .int .i64 kn] w fun e w' => e = .returned (.func (.func 99) #[] #[.pointer (some ⟨w.heap.size, 0, none⟩), .pointer (some ⟨w.heap.size + 1, 0, none⟩), .pointer (some ⟨w.heap.size + 1 + 1, 0, none⟩)]) ∧ w' = ((w.alloc (.cells #[.slice A n c] 56)).alloc (.cells #[.int .i64 k0, .int .i64 k1, .int .i64 k2] 99)).alloc (.cells #[.int .i64 kn] 3) := by
  go_enter Tryz.func81, Tryz.ntmps81
  go_wp2
  go_ret
  exact ⟨rfl, rfl⟩
set_option maxRecDepth 100000 in
set_option maxHeartbeats 4000000 in
theorem fof_stops (n : Nat) (hn : 1 ≤ n) (Bl Bk Bn : Nat) (A : Option Addr) (cap : Nat) (l : List S151) (k0 k1 k2 kn : Int) (w0 w : World) (hw : Below w0.heap.size w0 w)
    (hBl : w.heap[Bl]? = some (.cells #[.slice A l.length cap] 56 (0, 0))) (hBk : w.heap[Bk]? = some (.cells #[.int .i64 k0, .int .i64 k1, .int .i64 k2] 99 (0, 0))) (hBn : w.heap[Bn]? = some (.cells #[.int .i64 kn] 3 (0, 0))) (hr : k151.C w0 A l.length l) :
    SeqStopsK Fence.wide n Tryz.prog 99 #[.pointer (some ⟨Bl, 0, none⟩), .pointer (some ⟨Bk, 0, none⟩), .pointer (some ⟨Bn, 0, none⟩)] (fun x : S151 => #[.agg (factV x)]) (KpL w0.heap.size [Bk, Bn]) (fun ys => ys = fOf l k0 k1 k2 kn) (fun pre => pre <+: fOf l k0 k1 k2 kn) l.length w := fun lp J Jx W hW hJ hJx hY h0 => by
  have hBl' := blk_low hW hBl; have hBk' := blk_low hW hBk; have hBn' := blk_low hW hBn
  have hmax := Kd.C_max hr
  have c0 := (blk_cell hBl' 0).trans rfl
  have HR := Aside0.mk hr
  have HW := Aside0.mk (below_tr hw hW); have HBK := Aside0.mk hBk'; have HBN := Aside0.mk hBn'; have HJ := Aside0.mk hJ; have HY := Aside0.mk hY
  clear hr hBl hBk hBn hBl' hBk' hBn' hw hW hJ hJx hY
  refine callsIn_of_wp Tryz.func99 rfl trivial ?_ rfl
  simp only [Tryz.ntmps99, List.size_toArray, List.length_cons, List.length_nil, Nat.reduceAdd, Nat.reduceSub, Array.replicate_succ, Array.replicate_zero, List.push_toArray, List.append_toArray, List.nil_append, List.cons_append]
  gi_wp2
  clear c0
  gi_loopw [9] (fun i wr => ∃ k : Nat, k ≤ l.length ∧ i = .int .i64 k ∧ Aside0 (J (fOf (l.take k) k0 k1 k2 kn) wr) ∧ Aside0 (Below w0.heap.size w0 wr) ∧ Aside0 (wr.heap[Bk]? = some (.cells #[.int .i64 k0, .int .i64 k1, .int .i64 k2] 99 (0, 0))) ∧ Aside0 (wr.heap[Bn]? = some (.cells #[.int .i64 kn] 3 (0, 0)))) (fun i _ => l.length - (intOf i).toNat)
  case atStart => exact ⟨0, Nat.zero_le _, rfl, ⟨h0⟩, HW, HBK, HBN⟩
  case round =>
    clear h0
    obtain ⟨k, hk, rfl, hJs, hB, hK, hN⟩ := hrel
    by_cases hlt : k < l.length
    · have hd : (k : Int) < l.length := by omega
      have hp0 : (0 : Int) ≤ k := by omega
      obtain ⟨ad, rfl, hx0, hx1, hx2, hx3, hx4, hx5, hx6, hx7⟩ := at_T151 (Kd.C_below HR.out hB.out) k (by omega) (by omega)
      simp only [Int.toNat_natCast] at hx0 hx1 hx2 hx3 hx4 hx5 hx6 hx7
      have HT := Aside0.mk (fOf_take l k0 k1 k2 kn k hlt)
      have HP := Aside0.mk (fOf_pre l k0 k1 k2 kn (k + 1))
      have HLN := Aside0.mk (Nat.lt_of_le_of_lt (fOf_len l k0 k1 k2 kn k) hlt)
      generalize rd_T151 l k = x at hx0 hx1 hx2 hx3 hx4 hx5 hx6 hx7 HT
      generalize fOf (l.take k) k0 k1 k2 kn = pre at hJs HT HLN
      generalize hq : fOf (l.take (k + 1)) k0 k1 k2 kn = post at HT HP
      have HQ := Aside0.mk hq; clear hq
      have hy0 : ∀ o : Obj, (wr.alloc o).cell? ⟨Bk, 0, none⟩ = some (.int .i64 k0) := fun o => (blk_cell (blk_alloc hK.out o) 0).trans rfl
      have hy1 : ∀ o : Obj, (wr.alloc o).cell? ⟨Bk, 1, none⟩ = some (.int .i64 k1) := fun o => (blk_cell (blk_alloc hK.out o) 1).trans rfl
      have hy2 : ∀ o : Obj, (wr.alloc o).cell? ⟨Bk, 2, none⟩ = some (.int .i64 k2) := fun o => (blk_cell (blk_alloc hK.out o) 2).trans rfl
      have hz0 : ∀ o : Obj, (wr.alloc o).cell? ⟨Bn, 0, none⟩ = some (.int .i64 kn) := fun o => (blk_cell (blk_alloc hN.out o) 0).trans rfl
      have HJ1 := Aside0.mk (fun o => HJ.out _ _ _ none hJs.out (World.grownBy_alloc wr o none) (fun r e => by cases e))
      have HB1 := Aside0.mk (fun o => hB.out.alloc hB.out.size o)
      have HK1 := Aside0.mk (fun o => blk_alloc hK.out o); have HN1 := Aside0.mk (fun o => blk_alloc hN.out o)
      cases hv : (x.f0.f0 == k0 && (x.f0.f1 == k1 && x.f0.f2 == k2)) with
      | false =>
        have HS := Aside0.mk (show post = pre by rw [HT.out]; simp [fHas, hv])
        clear HT
        gi_wp2
        refine ⟨fun f hf => (by cases hf), ?_⟩
        gi_wp2
        go_roundw
        case rel => exact ⟨k + 1, by omega, by go_num, ⟨by rw [HQ.out, HS.out]; exact HJ1.out _⟩, ⟨HB1.out _⟩, ⟨HK1.out _⟩, ⟨HN1.out _⟩⟩
        case measure => first | (simp [intOf]; omega; done) | omega
      | true =>
        cases hu : decide (x.f3 ≤ kn) with
        | false =>
          have HS := Aside0.mk (show post = pre by rw [HT.out]; simp [fHas, hv, hu])
          clear HT
          gi_wp2
          refine ⟨fun f hf => (by cases hf), ?_⟩
          gi_wp2
          go_roundw
          case rel => exact ⟨k + 1, by omega, by go_num, ⟨by rw [HQ.out, HS.out]; exact HJ1.out _⟩, ⟨HB1.out _⟩, ⟨HK1.out _⟩, ⟨HN1.out _⟩⟩
          case measure => first | (simp [intOf]; omega; done) | omega
        | true =>
          have HS := Aside0.mk (show post = pre ++ [x] by rw [HT.out]; simp [fHas, hv, hu])
          clear HT
          obtain ⟨fn, tmps, assign, body, hy, hR⟩ := HY.out pre x _ (HJ1.out (.cells (factV x) 151)) HLN.out
          try dsimp only at hy
          gi_wp2
          refine hR.mono ?_
          rintro e W3 (⟨rfl, hJ3, hk3⟩ | ⟨rfl, hJx3⟩)
          · gi_wp2
            go_roundw
            case rel => exact ⟨k + 1, by omega, by go_num, ⟨by rw [HQ.out, HS.out]; exact hJ3⟩, ⟨(HB1.out _).trans hk3.below⟩, ⟨hk3.cells _ (by simp) _ _ _ (HK1.out _)⟩, ⟨hk3.cells _ (by simp) _ _ _ (HN1.out _)⟩⟩
            case measure => first | (simp [intOf]; omega; done) | omega
          · gi_wp2
            refine bodyPost_ret (results_none rfl _ _ _) rfl ?_
            exact ⟨⟨_, rfl⟩, .inr ⟨_, by rw [← HS.out]; exact HP.out, hJx3⟩⟩
    · have hd : ¬ (k : Int) < l.length := by omega
      obtain rfl : k = l.length := by omega
      have HJS := hJs.out
      rw [List.take_length] at HJS
      have HJS := Aside0.mk HJS
      gi_wp2
      go_end0
      exact ⟨⟨_, rfl⟩, .inl HJS.out⟩
end Go.Proofs.YtdnmoppegncioaaGreatDoor
