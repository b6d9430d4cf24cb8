/- slices.SortFunc at api.Bundle and twelve elements or fewer: over the shelf's insertion sort. -/
import Derived.Test.YtbpgoddohhiohaaDoorBC
import Derived.Shelf.SlSortCmp.InsertionK
import Derived.Deep.DeepMust
import Derived.Shelf.Sort.So_math_bits_Len64In
namespace Go.Proofs.YtbpgoddohhiohaaDoor
open Go.RowKit Go.Shelf Go.Sort Go.Proofs.YtbpgoddohhiohaaDoorW.PrintWords
set_option linter.unusedVariables false
set_option linter.unusedSimpArgs false

def soRen : Ren := ⟨fun k => if k = 20 then 71 else 0, fun t => if t = 22 then 28 else if t = 24 then 24 else if t = 25 then 70 else if t = 3 then 3 else if t = 4 then 4 else 0, fun g => g⟩
set_option maxRecDepth 100000 in
theorem soLays : SlLaysF0.n20 Tryd.prog soRen where
  mixed := by kernel_rfl
  f20 := ⟨"slices.insertionSortCmpFunc[sizar/api.Bundle]", by decide, by kernel_rfl⟩
  t0 := by kernel_rfl
  a0 := fun w => by kernel_rfl
  z0 := fun w => by kernel_rfl
  v0 := fun w => by kernel_rfl
  t3 := by kernel_rfl
  a3 := fun w => by kernel_rfl
  z3 := fun w => by kernel_rfl
  v3 := fun w => by kernel_rfl
  t4 := by kernel_rfl
  a4 := fun w => by kernel_rfl
  z4 := fun w => by kernel_rfl
  v4 := fun w => by kernel_rfl
  t22 := by kernel_rfl
  a22 := fun w => by kernel_rfl
  z22 := fun w => by kernel_rfl
  v22 := fun w => by kernel_rfl
  t25 := by kernel_rfl
  a25 := fun w => by kernel_rfl
  z25 := fun w => by kernel_rfl
  v25 := fun w => by kernel_rfl

set_option maxHeartbeats 2000000 in
def blRen : Ren := ⟨fun k => if k = 129 then 80 else 0, fun t => if t = 3 then 3 else if t = 4 then 4 else if t = 5 then 5 else if t = 9 then 9 else if t = 46 then 93 else if t = 53 then 116 else 0, fun g => g⟩
set_option maxRecDepth 100000 in
theorem blLays : Lays.n129 Tryd.prog blRen where
  mixed := by kernel_rfl
  f129 := by kernel_rfl
  t3 := by kernel_rfl
  a3 := fun w => by kernel_rfl
  z3 := fun w => by kernel_rfl
  v3 := fun w => by kernel_rfl
  t4 := by kernel_rfl
  a4 := fun w => by kernel_rfl
  z4 := fun w => by kernel_rfl
  v4 := fun w => by kernel_rfl
  t5 := by kernel_rfl
  a5 := fun w => by kernel_rfl
  z5 := fun w => by kernel_rfl
  v5 := fun w => by kernel_rfl
  t9 := by kernel_rfl
  a9 := fun w => by kernel_rfl
  z9 := fun w => by kernel_rfl
  v9 := fun w => by kernel_rfl
  t46 := by kernel_rfl
  a46 := fun w => by kernel_rfl
  z46 := fun w => by kernel_rfl
  v46 := fun w => by kernel_rfl
  t53 := by kernel_rfl
  a53 := fun w => by kernel_rfl
  z53 := fun w => by kernel_rfl
  v53 := fun w => by kernel_rfl

theorem len64_calls (n : Nat) (hn : n ≤ 12) (W : World) : Calls Tryd.prog 80 #[.int .u64 n] W fun e w' => (∃ l : Int, e = .returned (.int .i64 l)) ∧ w' = W := fun cs => by
  obtain ⟨e, w', fr, r, s, x⟩ := (AnyS.bits_Len64In blLays (cs.length + 5) (n : Int) W (by omega) (by omega)).2 cs (fun d hd => by cases hd; omega)
  exact ⟨e, w', fr, ⟨⟨_, r.1⟩, r.2⟩, s.comes, x⟩
theorem len_calls (n : Nat) (hn : n ≤ 12) (W : World) : Calls Tryd.prog 60 #[.int .u64 n] W fun e w' => (∃ l : Int, e = .returned (.int .i64 l)) ∧ w' = W := by
  have hc := len64_calls n hn W
  go_enter Tryd.func60, Tryd.ntmps60
  go_wp2_with (go_at_call 80; refine hc.mono ?_; rintro e w1 ⟨⟨l, rfl⟩, rfl⟩)
  all_goals
    go_ret
    exact ⟨⟨_, rfl⟩, rfl⟩
theorem isNaN_calls (a : Int) (W : World) : Calls Tryd.prog 61 #[.int .i64 a] W fun e w' => e = .returned (.bool false) ∧ w' = W := by
  go_enter Tryd.func61, Tryd.ntmps61
  go_wp2
  go_ret
  exact ⟨rfl, rfl⟩
def cmpI (a b : Int) : Int := if a < b then -1 else if b < a then 1 else 0
theorem compare_calls (a b : Int) (W : World) : Calls Tryd.prog 41 #[.int .i64 a, .int .i64 b] W fun e w' => e = .returned (.int .i64 (cmpI a b)) ∧ w' = W := by
  have hc := fun a W => isNaN_calls a W
  by_cases h1 : a < b
  · have hs : cmpI a b = -1 := by simp [cmpI, h1]
    rw [hs]
    go_enter Tryd.func41, Tryd.ntmps41
    go_wp2_with (go_at_call 61; refine (hc _ _).mono ?_; rintro e w1 ⟨rfl, rfl⟩)
    all_goals
      go_ret
      exact ⟨rfl, rfl⟩
  · by_cases h2 : b < a
    · have hs : cmpI a b = 1 := by simp [cmpI, h1, h2]
      rw [hs]
      go_enter Tryd.func41, Tryd.ntmps41
      go_wp2_with (go_at_call 61; refine (hc _ _).mono ?_; rintro e w1 ⟨rfl, rfl⟩)
      all_goals
        go_ret
        exact ⟨rfl, rfl⟩
    · have hs : cmpI a b = 0 := by simp [cmpI, h1, h2]
      rw [hs]
      go_enter Tryd.func41, Tryd.ntmps41
      go_wp2_with (go_at_call 61; refine (hc _ _).mono ?_; rintro e w1 ⟨rfl, rfl⟩)
      all_goals
        go_ret
        exact ⟨rfl, rfl⟩
theorem of2_calls (x0 x1 y0 y1 : Int) (W : World) : Calls Tryd.prog 40 #[.agg #[.int .i64 x0, .int .i64 x1], .agg #[.int .i64 y0, .int .i64 y1]] W fun e w' => e = .returned (.int .i64 (cmpI x0 y0)) ∧ w' = (W.alloc (.cells #[.int .i64 x0, .int .i64 x1] 24)).alloc (.cells #[.int .i64 y0, .int .i64 y1] 24) := by
  go_enter Tryd.func40, Tryd.ntmps40
  go_wp2_with (go_at_call 41; refine (compare_calls _ _ _).mono ?_; rintro e w1 ⟨rfl, rfl⟩)
  all_goals
    go_ret
    exact ⟨rfl, rfl⟩

def encB (b : S24) : List Value := [.int .i64 b.f0, .int .i64 b.f1]
def cfB (a b : S24) : Int := cmpI a.f0 b.f0
instance : Inhabited S24 := ⟨z24⟩
theorem cmpLaysB (blk off size : Nat) (w : World) : CmpLays Tryd.prog 40 #[] encB 2 cfB blk off size w := fun m os dk hs x y => by
  refine (of2_calls x.f0 x.f1 y.f0 y.f1 _).mono ?_
  rintro e w' ⟨rfl, rfl⟩
  refine ⟨rfl, 0, #[.cells #[.int .i64 x.f0, .int .i64 x.f1] 24, .cells #[.int .i64 y.f0, .int .i64 y.f1] 24], ?_⟩
  rw [alloc_eq_grow, alloc_eq_grow, grow_grow]
  rfl
theorem ins_calls (blk cap : Nat) (d : Array S24) (w : World) (hH : HoldsK encB 2 w blk 0 d) (hblk : blk < w.heap.size) (h12 : d.size ≤ 12) :
    Calls Tryd.prog 71 #[.slice (some ⟨blk, 0, none⟩) d.size cap, .int .i64 0, .int .i64 d.size, .func (.func 40) #[] #[]] w fun e w' =>
      e = .returned (.tuple #[]) ∧ ∃ n os, w' = sortWorldK encB 2 w blk 0 n (Sort.insertionSort (ltOf cfB) d 0 d.size) os := by
  have h := AnyQ.insertionSortCmpFunc soLays 2 (fun w => by kernel_rfl) (fun w => by kernel_rfl) encB (fun _ => rfl) (fun x v hv => by simp [encB] at hv; rcases hv with rfl | rfl <;> rfl) cfB 40 #[] blk 0 cap 0 d.size d w (enters_of Tryd.func40 (by kernel_rfl) rfl) (cmpLaysB _ _ _ _) hH hblk (Nat.zero_le _) (Nat.le_refl _) (by omega)
  exact h
set_option maxHeartbeats 2000000 in
set_option maxRecDepth 100000 in
theorem pdq_calls (blk cap : Nat) (lim : Int) (d : Array S24) (w : World) (hH : HoldsK encB 2 w blk 0 d) (hblk : blk < w.heap.size) (h12 : d.size ≤ 12) :
    Calls Tryd.prog 59 #[.slice (some ⟨blk, 0, none⟩) d.size cap, .int .i64 0, .int .i64 d.size, .int .i64 lim, .func (.func 40) #[] #[]] w fun e w' =>
      e = .returned (.tuple #[]) ∧ ∃ n os, w' = sortWorldK encB 2 w blk 0 n (Sort.insertionSort (ltOf cfB) d 0 d.size) os := by
  have hi := Aside0.mk (ins_calls blk cap d w hH hblk h12)
  have h0 : (d.size : Int) ≤ 12 := by omega
  clear hH
  go_enter Tryd.func59, Tryd.ntmps59
  go_wp2
  refine wp_loop_rounds 1 ?_
  rw [rounds_succ]
  go_wp2_with (go_at_call 71; refine hi.out.mono ?_; rintro e w' ⟨rfl, n, os, rfl⟩)
  (try simp only [Exit.inBlock, Exit.then]); refine bodyPost_ret (results_none rfl _ _ _) rfl ?_
  exact ⟨rfl, n, os, rfl⟩
theorem sort_calls (blk cap : Nat) (d : Array S24) (w : World) (hH : HoldsK encB 2 w blk 0 d) (hblk : blk < w.heap.size) (h12 : d.size ≤ 12) :
    Calls Tryd.prog 39 #[.slice (some ⟨blk, 0, none⟩) d.size cap, .func (.func 40) #[] #[]] w fun e w' =>
      e = .returned (.tuple #[]) ∧ ∃ n os, w' = sortWorldK encB 2 w blk 0 n (Sort.insertionSort (ltOf cfB) d 0 d.size) os := by
  have hi := Aside0.mk (fun lim => pdq_calls blk cap lim d w hH hblk h12)
  have hl := Aside0.mk (fun W => len_calls d.size h12 W)
  have h0 : (d.size : Int) ≤ 12 := by omega
  clear hH
  go_enter Tryd.func39, Tryd.ntmps39
  go_wp2_with (first | (go_at_call 60; refine (hl.out _).mono ?_; rintro e w' ⟨⟨l, rfl⟩, rfl⟩) | (go_at_call 59; refine (hi.out _).mono ?_; rintro e w' ⟨rfl, n, os, rfl⟩))
  go_end0
  exact ⟨rfl, n, os, rfl⟩
set_option maxHeartbeats 2000000 in
theorem ins_none (w : World) : Calls Tryd.prog 71 #[.slice none 0 0, .int .i64 0, .int .i64 0, .func (.func 40) #[] #[]] w fun e w' => e = .returned (.tuple #[]) ∧ w' = w := by
  go_enter Tryd.func71, Tryd.ntmps71
  go_wp2
  refine wp_loop_rounds 1 ?_
  rw [rounds_succ]
  go_wp2
  go_end0
  exact ⟨rfl, rfl⟩
set_option maxHeartbeats 2000000 in
set_option maxRecDepth 100000 in
theorem pdq_none (lim : Int) (w : World) : Calls Tryd.prog 59 #[.slice none 0 0, .int .i64 0, .int .i64 0, .int .i64 lim, .func (.func 40) #[] #[]] w fun e w' => e = .returned (.tuple #[]) ∧ w' = w := by
  have hi := Aside0.mk (ins_none w)
  go_enter Tryd.func59, Tryd.ntmps59
  go_wp2
  refine wp_loop_rounds 1 ?_
  rw [rounds_succ]
  go_wp2_with (go_at_call 71; refine hi.out.mono ?_; rintro e w' ⟨rfl, rfl⟩)
  (try simp only [Exit.inBlock, Exit.then]); refine bodyPost_ret (results_none rfl _ _ _) rfl ?_
  exact ⟨rfl, rfl⟩
theorem sort_none (w : World) : Calls Tryd.prog 39 #[.slice none 0 0, .func (.func 40) #[] #[]] w fun e w' => e = .returned (.tuple #[]) ∧ w' = w := by
  have hi := Aside0.mk (fun lim => pdq_none lim w)
  have hl := Aside0.mk (fun W => len_calls 0 (by omega) W)
  go_enter Tryd.func39, Tryd.ntmps39
  go_wp2_with (first | (go_at_call 60; refine (hl.out _).mono ?_; rintro e w' ⟨⟨l, rfl⟩, rfl⟩) | (go_at_call 59; refine (hi.out _).mono ?_; rintro e w' ⟨rfl, rfl⟩))
  go_end0
  exact ⟨rfl, rfl⟩
end Go.Proofs.YtbpgoddohhiohaaDoor
