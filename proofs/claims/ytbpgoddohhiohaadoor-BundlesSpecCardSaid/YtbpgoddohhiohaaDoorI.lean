/- slices.IndexFunc and slices.ContainsFunc: what they compute of a predicate, for every function value that keeps what lay before. -/
import Derived.Test.YtbpgoddohhiohaaDoorA
import Derived.Shelf.Abstract
namespace Go.Proofs.YtbpgoddohhiohaaDoor
open Go.RowKit Go.Proofs.YtbpgoddohhiohaaDoorW.PrintWords
set_option linter.unusedVariables false
set_option linter.unusedSimpArgs false

/-- The index of the first element with a property; -1 if there is none. -/
def fIdx {α : Type} (p : α → Bool) (l : List α) : Int := if l.any p then (l.findIdx p : Int) else -1
theorem fIdx_hit {α : Type} (p : α → Bool) (l : List α) (z : α) (k : Nat) (hk : k < l.length) (h0 : ∀ j, j < k → p (l.getD j z) = false) (h1 : p (l.getD k z) = true) : fIdx p l = k := by
  have e : ∀ j (hj : j < l.length), l.getD j z = l[j] := fun j hj => by simp [List.getElem?_eq_getElem hj]
  rw [e k hk] at h1
  unfold fIdx
  rw [if_pos (List.any_eq_true.2 ⟨_, List.getElem_mem hk, h1⟩)]
  have : l.findIdx p = k := by
    rw [List.findIdx_eq hk]
    exact ⟨h1, fun j hj => by have := h0 j hj; rwa [e j (by omega)] at this⟩
  rw [this]
theorem fIdx_miss {α : Type} (p : α → Bool) (l : List α) (z : α) (h0 : ∀ j, j < l.length → p (l.getD j z) = false) : fIdx p l = -1 := by
  unfold fIdx
  rw [if_neg]
  intro h
  obtain ⟨x, hx, hp⟩ := List.any_eq_true.1 h
  obtain ⟨j, hj, rfl⟩ := List.mem_iff_getElem.1 hx
  have := h0 j hj
  rw [show l.getD j z = l[j] from by simp [List.getElem?_eq_getElem hj], hp] at this
  cases this
theorem fIdx_nonneg {α : Type} (p : α → Bool) (l : List α) : decide (0 ≤ fIdx p l) = l.any p := by
  unfold fIdx
  cases l.any p <;> simp


set_option maxHeartbeats 2000000 in
theorem idx_Section (p : S34 → Bool) (g : Nat) (fst lb : Array Value) (eg : ∀ args w, (callFunc g args).run Tryd.prog w = .ok (.enter g args) w) (A : Option Addr) (c : Nat) (l : List S34) (w : World)
    (hp : ∀ (W : World) (x : S34) (cs : List Value), x ∈ l → Below w.heap.size w W → k34.K W x cs → Calls Tryd.prog g (fst ++ #[.agg cs.toArray] ++ lb) W fun e w' => e = .returned (.bool (p x)) ∧ Below W.heap.size W w') (hr : k34.C w A l.length l) :
    Calls Tryd.prog 44 #[.slice A l.length c, .func (.func g) fst lb] w fun e w' => e = .returned (.int .i64 (fIdx p l)) ∧ Below w.heap.size w w' := by
  have hmax := Kd.C_max hr
  have HP := Aside0.mk hp; clear hp
  have HR := Aside0.mk hr; clear hr
  go_enter Tryd.func44, Tryd.ntmps44
  go_wp2
  go_loopw [8] (fun i wr => ∃ k : Nat, k ≤ l.length ∧ i = .int .i64 k ∧ Aside0 (∀ j, j < k → p (l.getD j z34) = false) ∧ Aside0 (Below w.heap.size w wr)) (fun i _ => l.length - (intOf i).toNat)
  case atStart => exact ⟨0, Nat.zero_le _, rfl, ⟨fun j hj => absurd hj (Nat.not_lt_zero _)⟩, ⟨Below.refl _ _⟩⟩
  case round =>
    obtain ⟨k, hk, rfl, hV, hB⟩ := hrel
    by_cases hlt : k < l.length
    · have hd : (k : Int) < l.length := by omega
      have hmem : rd_T34 l k ∈ l := by
        rw [show rd_T34 l k = l[k] from by simp [rd_T34, List.getElem?_eq_getElem hlt]]
        exact List.getElem_mem hlt
      have hq : l.getD k z34 = rd_T34 l k := by simp [rd_T34]
      have HQ := Aside0.mk hq; clear hq
      obtain ⟨ad, A5, c5, A6, c6, A7, c7, rfl, hx0, hx1, hx2, hx3, hx4, hx5, hx6, hx7, hx8, l5, g5, l6, g6, l7, g7⟩ := at_T34 (Kd.C_below HR.out hB.out) k (by omega) (by omega)
      simp only [Int.toNat_natCast] at hx0 hx1 hx2 hx3 hx4 hx5 hx6 hx7 hx8
      have hcall := HP.out wr _ _ hmem hB.out (k34_mk _ _ l5 g5 l6 g6 l7 g7)
      cases hv : p (rd_T34 l k) with
      | true =>
        rw [hv] at hcall
        have hs := fIdx_hit p l z34 k hlt hV.out (by rw [HQ.out]; exact hv)
        have HS := Aside0.mk hs; clear hs hmem hv
        go_wp2_with (go_at_fn g; refine hcall.mono ?_; rintro e w1 ⟨rfl, hb1⟩)
        go_ret
        exact ⟨by rw [HS.out]; rfl, below_tr hB.out hb1⟩
      | false =>
        rw [hv] at hcall
        have HV := Aside0.mk hv; clear hv hmem
        go_wp2_with (go_at_fn g; refine hcall.mono ?_; rintro e w1 ⟨rfl, hb1⟩)
        go_roundw
        case rel => exact ⟨k + 1, by omega, by go_num, ⟨fun j hj => by
          rcases Nat.lt_or_ge j k with h | h
          · exact hV.out j h
          · obtain rfl : j = k := by omega
            rw [HQ.out]; exact HV.out⟩, ⟨below_tr hB.out hb1⟩⟩
        case measure => simp [intOf]; omega
    · have hd : ¬ (k : Int) < l.length := by omega
      have hs := fIdx_miss p l z34 (fun j hj => hV.out j (by omega))
      have HS := Aside0.mk hs; clear hs
      go_wp2
      go_ret
      exact ⟨by rw [HS.out]; rfl, hB.out⟩


set_option maxHeartbeats 2000000 in
theorem idx_Meeting (p : S65 → Bool) (g : Nat) (fst lb : Array Value) (eg : ∀ args w, (callFunc g args).run Tryd.prog w = .ok (.enter g args) w) (A : Option Addr) (c : Nat) (l : List S65) (w : World)
    (hp : ∀ (W : World) (x : S65) (cs : List Value), x ∈ l → Below w.heap.size w W → k65.K W x cs → Calls Tryd.prog g (fst ++ #[.agg cs.toArray] ++ lb) W fun e w' => e = .returned (.bool (p x)) ∧ Below W.heap.size W w') (hr : k65.C w A l.length l) :
    Calls Tryd.prog 64 #[.slice A l.length c, .func (.func g) fst lb] w fun e w' => e = .returned (.int .i64 (fIdx p l)) ∧ Below w.heap.size w w' := by
  have hmax := Kd.C_max hr
  have HP := Aside0.mk hp; clear hp
  have HR := Aside0.mk hr; clear hr
  go_enter Tryd.func64, Tryd.ntmps64
  go_wp2
  go_loopw [8] (fun i wr => ∃ k : Nat, k ≤ l.length ∧ i = .int .i64 k ∧ Aside0 (∀ j, j < k → p (l.getD j z65) = false) ∧ Aside0 (Below w.heap.size w wr)) (fun i _ => l.length - (intOf i).toNat)
  case atStart => exact ⟨0, Nat.zero_le _, rfl, ⟨fun j hj => absurd hj (Nat.not_lt_zero _)⟩, ⟨Below.refl _ _⟩⟩
  case round =>
    obtain ⟨k, hk, rfl, hV, hB⟩ := hrel
    by_cases hlt : k < l.length
    · have hd : (k : Int) < l.length := by omega
      have hmem : rd_T65 l k ∈ l := by
        rw [show rd_T65 l k = l[k] from by simp [rd_T65, List.getElem?_eq_getElem hlt]]
        exact List.getElem_mem hlt
      have hq : l.getD k z65 = rd_T65 l k := by simp [rd_T65]
      have HQ := Aside0.mk hq; clear hq
      obtain ⟨ad, rfl, hx0, hx1, hx2, hx3, hx4⟩ := at_T65 (Kd.C_below HR.out hB.out) k (by omega) (by omega)
      simp only [Int.toNat_natCast] at hx0 hx1 hx2 hx3 hx4
      have hcall := HP.out wr _ _ hmem hB.out (k65_mk _ _)
      cases hv : p (rd_T65 l k) with
      | true =>
        rw [hv] at hcall
        have hs := fIdx_hit p l z65 k hlt hV.out (by rw [HQ.out]; exact hv)
        have HS := Aside0.mk hs; clear hs hmem hv
        go_wp2_with (go_at_fn g; refine hcall.mono ?_; rintro e w1 ⟨rfl, hb1⟩)
        go_ret
        exact ⟨by rw [HS.out]; rfl, below_tr hB.out hb1⟩
      | false =>
        rw [hv] at hcall
        have HV := Aside0.mk hv; clear hv hmem
        go_wp2_with (go_at_fn g; refine hcall.mono ?_; rintro e w1 ⟨rfl, hb1⟩)
        go_roundw
        case rel => exact ⟨k + 1, by omega, by go_num, ⟨fun j hj => by
          rcases Nat.lt_or_ge j k with h | h
          · exact hV.out j h
          · obtain rfl : j = k := by omega
            rw [HQ.out]; exact HV.out⟩, ⟨below_tr hB.out hb1⟩⟩
        case measure => simp [intOf]; omega
    · have hd : ¬ (k : Int) < l.length := by omega
      have hs := fIdx_miss p l z65 (fun j hj => hV.out j (by omega))
      have HS := Aside0.mk hs; clear hs
      go_wp2
      go_ret
      exact ⟨by rw [HS.out]; rfl, hB.out⟩


set_option maxHeartbeats 2000000 in
theorem has_Meeting (p : S65 → Bool) (g : Nat) (fst lb : Array Value) (eg : ∀ args w, (callFunc g args).run Tryd.prog w = .ok (.enter g args) w) (A : Option Addr) (c : Nat) (l : List S65) (w : World)
    (hp : ∀ (W : World) (x : S65) (cs : List Value), x ∈ l → Below w.heap.size w W → k65.K W x cs → Calls Tryd.prog g (fst ++ #[.agg cs.toArray] ++ lb) W fun e w' => e = .returned (.bool (p x)) ∧ Below W.heap.size W w') (hr : k65.C w A l.length l) :
    Calls Tryd.prog 48 #[.slice A l.length c, .func (.func g) fst lb] w fun e w' => e = .returned (.bool (l.any p)) ∧ Below w.heap.size w w' := by
  have hcall := Aside0.mk (idx_Meeting p g fst lb eg A c l w hp hr)
  clear hp hr eg
  have HN := Aside0.mk (fIdx_nonneg p l)
  go_enter Tryd.func48, Tryd.ntmps48
  go_wp2_with (go_at_call 64; refine hcall.out.mono ?_; rintro e w1 ⟨rfl, hb1⟩)
  all_goals
    go_ret
    exact ⟨by rw [← HN.out]; rfl, hb1⟩


set_option maxHeartbeats 2000000 in
theorem idx_Int (p : Int → Bool) (g : Nat) (fst lb : Array Value) (eg : ∀ args w, (callFunc g args).run Tryd.prog w = .ok (.enter g args) w) (A : Option Addr) (c : Nat) (l : List Int) (w : World)
    (hp : ∀ (W : World) (x : Int), x ∈ l → Below w.heap.size w W → Calls Tryd.prog g (fst ++ #[.int .i64 x] ++ lb) W fun e w' => e = .returned (.bool (p x)) ∧ Below W.heap.size W w') (hr : (Kd.int .i64).C w A l.length l) :
    Calls Tryd.prog 37 #[.slice A l.length c, .func (.func g) fst lb] w fun e w' => e = .returned (.int .i64 (fIdx p l)) ∧ Below w.heap.size w w' := by
  have hmax := Kd.C_max hr
  have HP := Aside0.mk hp; clear hp
  have HR := Aside0.mk hr; clear hr
  go_enter Tryd.func37, Tryd.ntmps37
  go_wp2
  go_loopw [8] (fun i wr => ∃ k : Nat, k ≤ l.length ∧ i = .int .i64 k ∧ Aside0 (∀ j, j < k → p (l.getD j 0) = false) ∧ Aside0 (Below w.heap.size w wr)) (fun i _ => l.length - (intOf i).toNat)
  case atStart => exact ⟨0, Nat.zero_le _, rfl, ⟨fun j hj => absurd hj (Nat.not_lt_zero _)⟩, ⟨Below.refl _ _⟩⟩
  case round =>
    obtain ⟨k, hk, rfl, hV, hB⟩ := hrel
    by_cases hlt : k < l.length
    · have hd : (k : Int) < l.length := by omega
      have hmem : rd l k ∈ l := by
        rw [show rd l k = l[k] from by simp [rd, List.getElem?_eq_getElem hlt]]
        exact List.getElem_mem hlt
      have hq : l.getD k 0 = rd l k := by simp [rd]
      have HQ := Aside0.mk hq; clear hq
      obtain ⟨ad, rfl, hx0⟩ := (Kd.reads_of_C (d := (0 : Int)) (Kd.C_below HR.out hB.out)).at_ k (by omega) (by omega)
      simp only [Int.toNat_natCast] at hx0
      have hcall := HP.out wr _ hmem hB.out
      cases hv : p (rd l k) with
      | true =>
        rw [hv] at hcall
        have hs := fIdx_hit p l 0 k hlt hV.out (by rw [HQ.out]; exact hv)
        have HS := Aside0.mk hs; clear hs hmem hv
        go_wp2_with (go_at_fn g; refine hcall.mono ?_; rintro e w1 ⟨rfl, hb1⟩)
        go_ret
        exact ⟨by rw [HS.out]; rfl, below_tr hB.out hb1⟩
      | false =>
        rw [hv] at hcall
        have HV := Aside0.mk hv; clear hv hmem
        go_wp2_with (go_at_fn g; refine hcall.mono ?_; rintro e w1 ⟨rfl, hb1⟩)
        go_roundw
        case rel => exact ⟨k + 1, by omega, by go_num, ⟨fun j hj => by
          rcases Nat.lt_or_ge j k with h | h
          · exact hV.out j h
          · obtain rfl : j = k := by omega
            rw [HQ.out]; exact HV.out⟩, ⟨below_tr hB.out hb1⟩⟩
        case measure => simp [intOf]; omega
    · have hd : ¬ (k : Int) < l.length := by omega
      have hs := fIdx_miss p l 0 (fun j hj => hV.out j (by omega))
      have HS := Aside0.mk hs; clear hs
      go_wp2
      go_ret
      exact ⟨by rw [HS.out]; rfl, hB.out⟩


set_option maxHeartbeats 2000000 in
theorem has_Int (p : Int → Bool) (g : Nat) (fst lb : Array Value) (eg : ∀ args w, (callFunc g args).run Tryd.prog w = .ok (.enter g args) w) (A : Option Addr) (c : Nat) (l : List Int) (w : World)
    (hp : ∀ (W : World) (x : Int), x ∈ l → Below w.heap.size w W → Calls Tryd.prog g (fst ++ #[.int .i64 x] ++ lb) W fun e w' => e = .returned (.bool (p x)) ∧ Below W.heap.size W w') (hr : (Kd.int .i64).C w A l.length l) :
    Calls Tryd.prog 68 #[.slice A l.length c, .func (.func g) fst lb] w fun e w' => e = .returned (.bool (l.any p)) ∧ Below w.heap.size w w' := by
  have hcall := Aside0.mk (idx_Int p g fst lb eg A c l w hp hr)
  clear hp hr eg
  have HN := Aside0.mk (fIdx_nonneg p l)
  go_enter Tryd.func68, Tryd.ntmps68
  go_wp2_with (go_at_call 37; refine hcall.out.mono ?_; rintro e w1 ⟨rfl, hb1⟩)
  all_goals
    go_ret
    exact ⟨by rw [← HN.out]; rfl, hb1⟩

end Go.Proofs.YtbpgoddohhiohaaDoor
