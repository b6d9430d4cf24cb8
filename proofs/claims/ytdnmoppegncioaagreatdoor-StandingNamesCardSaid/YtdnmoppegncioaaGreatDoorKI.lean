/- slices.IndexFunc and slices.ContainsFunc: what they compute of a predicate, for every function value that keeps what lay before. -/
import Derived.Test.YtdnmoppegncioaaGreatDoorKA
import Derived.Shelf.Abstract
namespace Go.Proofs.YtdnmoppegncioaaGreatDoor
open Go.RowKit Go.Proofs.YtdnmoppegncioaaGreatDoorW.PrintWords
set_option linter.unusedVariables false
set_option linter.unusedSimpArgs false

/-- The index of the first element with a property; -1 if there is none. -/
def fIdx {α : Type} (p : α → Bool) (l : List α) : Int := if l.any p then (l.findIdx p : Int) else -1
theorem fIdx_hit {α : Type} (p : α → Bool) (l : List α) (z : α) (k : Nat) (hk : k < l.length) (h0 : ∀ j, j < k → p (l.getD j z) = false) (h1 : p (l.getD k z) = true) : fIdx p l = k := by
  have e : ∀ j (hj : j < l.length), l.getD j z = l[j] := fun j hj => by simp [List.getElem?_eq_getElem hj]
  rw [e k hk] at h1
  unfold fIdx
  rw [if_pos (List.any_eq_true.2 ⟨_, List.getElem_mem hk, h1⟩)]
  have : l.findIdx p = k := by
    rw [List.findIdx_eq hk]
    exact ⟨h1, fun j hj => by have := h0 j hj; rwa [e j (by omega)] at this⟩
  rw [this]
theorem fIdx_miss {α : Type} (p : α → Bool) (l : List α) (z : α) (h0 : ∀ j, j < l.length → p (l.getD j z) = false) : fIdx p l = -1 := by
  unfold fIdx
  rw [if_neg]
  intro h
  obtain ⟨x, hx, hp⟩ := List.any_eq_true.1 h
  obtain ⟨j, hj, rfl⟩ := List.mem_iff_getElem.1 hx
  have := h0 j hj
  rw [show l.getD j z = l[j] from by simp [List.getElem?_eq_getElem hj], hp] at this
  cases this
theorem fIdx_nonneg {α : Type} (p : α → Bool) (l : List α) : decide (0 ≤ fIdx p l) = l.any p := by
  unfold fIdx
  cases l.any p <;> simp


set_option maxHeartbeats 2000000 in
theorem idx_Attempt (p : S141 → Bool) (g : Nat) (fst lb : Array Value) (eg : ∀ args w, (callFunc g args).run Tryz.prog w = .ok (.enter g args) w) (A : Option Addr) (c : Nat) (l : List S141) (w : World)
    (hp : ∀ (W : World) (x : S141) (cs : List Value), x ∈ l → Below w.heap.size w W → k141.K W x cs → Calls Tryz.prog g (fst ++ #[.agg cs.toArray] ++ lb) W fun e w' => e = .returned (.bool (p x)) ∧ Below W.heap.size W w') (hr : k141.C w A l.length l) :
    Calls Tryz.prog 98 #[.slice A l.length c, .func (.func g) fst lb] w fun e w' => e = .returned (.int .i64 (fIdx p l)) ∧ Below w.heap.size w w' := by
  have hmax := Kd.C_max hr
  have HP := Aside0.mk hp; clear hp
  have HR := Aside0.mk hr; clear hr
  go_enter Tryz.func98, Tryz.ntmps98
  go_wp2
  go_loopw [8] (fun i wr => ∃ k : Nat, k ≤ l.length ∧ i = .int .i64 k ∧ Aside0 (∀ j, j < k → p (l.getD j z141) = false) ∧ Aside0 (Below w.heap.size w wr)) (fun i _ => l.length - (intOf i).toNat)
  case atStart => exact ⟨0, Nat.zero_le _, rfl, ⟨fun j hj => absurd hj (Nat.not_lt_zero _)⟩, ⟨Below.refl _ _⟩⟩
  case round =>
    obtain ⟨k, hk, rfl, hV, hB⟩ := hrel
    by_cases hlt : k < l.length
    · have hd : (k : Int) < l.length := by omega
      have hmem : rd_T141 l k ∈ l := by
        rw [show rd_T141 l k = l[k] from by simp [rd_T141, List.getElem?_eq_getElem hlt]]
        exact List.getElem_mem hlt
      have hq : l.getD k z141 = rd_T141 l k := by simp [rd_T141]
      have HQ := Aside0.mk hq; clear hq
      obtain ⟨ad, rfl, hx0, hx1, hx2, hx3, hx4⟩ := at_T141 (Kd.C_below HR.out hB.out) k (by omega) (by omega)
      simp only [Int.toNat_natCast] at hx0 hx1 hx2 hx3 hx4
      have hcall := HP.out wr _ _ hmem hB.out (k141_mk _ _)
      cases hv : p (rd_T141 l k) with
      | true =>
        rw [hv] at hcall
        have hs := fIdx_hit p l z141 k hlt hV.out (by rw [HQ.out]; exact hv)
        have HS := Aside0.mk hs; clear hs hmem hv
        go_wp2_with (go_at_fn g; refine hcall.mono ?_; rintro e w1 ⟨rfl, hb1⟩)
        go_ret
        exact ⟨by rw [HS.out]; rfl, below_tr hB.out hb1⟩
      | false =>
        rw [hv] at hcall
        have HV := Aside0.mk hv; clear hv hmem
        go_wp2_with (go_at_fn g; refine hcall.mono ?_; rintro e w1 ⟨rfl, hb1⟩)
        go_roundw
        case rel => exact ⟨k + 1, by omega, by go_num, ⟨fun j hj => by
          rcases Nat.lt_or_ge j k with h | h
          · exact hV.out j h
          · obtain rfl : j = k := by omega
            rw [HQ.out]; exact HV.out⟩, ⟨below_tr hB.out hb1⟩⟩
        case measure => simp [intOf]; omega
    · have hd : ¬ (k : Int) < l.length := by omega
      have hs := fIdx_miss p l z141 (fun j hj => hV.out j (by omega))
      have HS := Aside0.mk hs; clear hs
      go_wp2
      go_ret
      exact ⟨by rw [HS.out]; rfl, hB.out⟩


set_option maxHeartbeats 2000000 in
theorem has_Attempt (p : S141 → Bool) (g : Nat) (fst lb : Array Value) (eg : ∀ args w, (callFunc g args).run Tryz.prog w = .ok (.enter g args) w) (A : Option Addr) (c : Nat) (l : List S141) (w : World)
    (hp : ∀ (W : World) (x : S141) (cs : List Value), x ∈ l → Below w.heap.size w W → k141.K W x cs → Calls Tryz.prog g (fst ++ #[.agg cs.toArray] ++ lb) W fun e w' => e = .returned (.bool (p x)) ∧ Below W.heap.size W w') (hr : k141.C w A l.length l) :
    Calls Tryz.prog 77 #[.slice A l.length c, .func (.func g) fst lb] w fun e w' => e = .returned (.bool (l.any p)) ∧ Below w.heap.size w w' := by
  have hcall := Aside0.mk (idx_Attempt p g fst lb eg A c l w hp hr)
  clear hp hr eg
  have HN := Aside0.mk (fIdx_nonneg p l)
  go_enter Tryz.func77, Tryz.ntmps77
  go_wp2_with (go_at_call 98; refine hcall.out.mono ?_; rintro e w1 ⟨rfl, hb1⟩)
  all_goals
    go_ret
    exact ⟨by rw [← HN.out]; rfl, hb1⟩


set_option maxHeartbeats 2000000 in
theorem idx_Class (p : S42 → Bool) (g : Nat) (fst lb : Array Value) (eg : ∀ args w, (callFunc g args).run Tryz.prog w = .ok (.enter g args) w) (A : Option Addr) (c : Nat) (l : List S42) (w : World)
    (hp : ∀ (W : World) (x : S42) (cs : List Value), x ∈ l → Below w.heap.size w W → k42.K W x cs → Calls Tryz.prog g (fst ++ #[.agg cs.toArray] ++ lb) W fun e w' => e = .returned (.bool (p x)) ∧ Below W.heap.size W w') (hr : k42.C w A l.length l) :
    Calls Tryz.prog 100 #[.slice A l.length c, .func (.func g) fst lb] w fun e w' => e = .returned (.int .i64 (fIdx p l)) ∧ Below w.heap.size w w' := by
  have hmax := Kd.C_max hr
  have HP := Aside0.mk hp; clear hp
  have HR := Aside0.mk hr; clear hr
  go_enter Tryz.func100, Tryz.ntmps100
  go_wp2
  go_loopw [8] (fun i wr => ∃ k : Nat, k ≤ l.length ∧ i = .int .i64 k ∧ Aside0 (∀ j, j < k → p (l.getD j z42) = false) ∧ Aside0 (Below w.heap.size w wr)) (fun i _ => l.length - (intOf i).toNat)
  case atStart => exact ⟨0, Nat.zero_le _, rfl, ⟨fun j hj => absurd hj (Nat.not_lt_zero _)⟩, ⟨Below.refl _ _⟩⟩
  case round =>
    obtain ⟨k, hk, rfl, hV, hB⟩ := hrel
    by_cases hlt : k < l.length
    · have hd : (k : Int) < l.length := by omega
      have hmem : rd_T42 l k ∈ l := by
        rw [show rd_T42 l k = l[k] from by simp [rd_T42, List.getElem?_eq_getElem hlt]]
        exact List.getElem_mem hlt
      have hq : l.getD k z42 = rd_T42 l k := by simp [rd_T42]
      have HQ := Aside0.mk hq; clear hq
      obtain ⟨ad, rfl, hx0, hx1, hx2, hx3⟩ := at_T42 (Kd.C_below HR.out hB.out) k (by omega) (by omega)
      simp only [Int.toNat_natCast] at hx0 hx1 hx2 hx3
      have hcall := HP.out wr _ _ hmem hB.out (k42_mk _ _)
      cases hv : p (rd_T42 l k) with
      | true =>
        rw [hv] at hcall
        have hs := fIdx_hit p l z42 k hlt hV.out (by rw [HQ.out]; exact hv)
        have HS := Aside0.mk hs; clear hs hmem hv
        go_wp2_with (go_at_fn g; refine hcall.mono ?_; rintro e w1 ⟨rfl, hb1⟩)
        go_ret
        exact ⟨by rw [HS.out]; rfl, below_tr hB.out hb1⟩
      | false =>
        rw [hv] at hcall
        have HV := Aside0.mk hv; clear hv hmem
        go_wp2_with (go_at_fn g; refine hcall.mono ?_; rintro e w1 ⟨rfl, hb1⟩)
        go_roundw
        case rel => exact ⟨k + 1, by omega, by go_num, ⟨fun j hj => by
          rcases Nat.lt_or_ge j k with h | h
          · exact hV.out j h
          · obtain rfl : j = k := by omega
            rw [HQ.out]; exact HV.out⟩, ⟨below_tr hB.out hb1⟩⟩
        case measure => simp [intOf]; omega
    · have hd : ¬ (k : Int) < l.length := by omega
      have hs := fIdx_miss p l z42 (fun j hj => hV.out j (by omega))
      have HS := Aside0.mk hs; clear hs
      go_wp2
      go_ret
      exact ⟨by rw [HS.out]; rfl, hB.out⟩


set_option maxHeartbeats 2000000 in
theorem has_Class (p : S42 → Bool) (g : Nat) (fst lb : Array Value) (eg : ∀ args w, (callFunc g args).run Tryz.prog w = .ok (.enter g args) w) (A : Option Addr) (c : Nat) (l : List S42) (w : World)
    (hp : ∀ (W : World) (x : S42) (cs : List Value), x ∈ l → Below w.heap.size w W → k42.K W x cs → Calls Tryz.prog g (fst ++ #[.agg cs.toArray] ++ lb) W fun e w' => e = .returned (.bool (p x)) ∧ Below W.heap.size W w') (hr : k42.C w A l.length l) :
    Calls Tryz.prog 83 #[.slice A l.length c, .func (.func g) fst lb] w fun e w' => e = .returned (.bool (l.any p)) ∧ Below w.heap.size w w' := by
  have hcall := Aside0.mk (idx_Class p g fst lb eg A c l w hp hr)
  clear hp hr eg
  have HN := Aside0.mk (fIdx_nonneg p l)
  go_enter Tryz.func83, Tryz.ntmps83
  go_wp2_with (go_at_call 100; refine hcall.out.mono ?_; rintro e w1 ⟨rfl, hb1⟩)
  all_goals
    go_ret
    exact ⟨by rw [← HN.out]; rfl, hb1⟩


set_option maxHeartbeats 2000000 in
theorem idx_Fee (p : S38 → Bool) (g : Nat) (fst lb : Array Value) (eg : ∀ args w, (callFunc g args).run Tryz.prog w = .ok (.enter g args) w) (A : Option Addr) (c : Nat) (l : List S38) (w : World)
    (hp : ∀ (W : World) (x : S38) (cs : List Value), x ∈ l → Below w.heap.size w W → k38.K W x cs → Calls Tryz.prog g (fst ++ #[.agg cs.toArray] ++ lb) W fun e w' => e = .returned (.bool (p x)) ∧ Below W.heap.size W w') (hr : k38.C w A l.length l) :
    Calls Tryz.prog 101 #[.slice A l.length c, .func (.func g) fst lb] w fun e w' => e = .returned (.int .i64 (fIdx p l)) ∧ Below w.heap.size w w' := by
  have hmax := Kd.C_max hr
  have HP := Aside0.mk hp; clear hp
  have HR := Aside0.mk hr; clear hr
  go_enter Tryz.func101, Tryz.ntmps101
  go_wp2
  go_loopw [8] (fun i wr => ∃ k : Nat, k ≤ l.length ∧ i = .int .i64 k ∧ Aside0 (∀ j, j < k → p (l.getD j z38) = false) ∧ Aside0 (Below w.heap.size w wr)) (fun i _ => l.length - (intOf i).toNat)
  case atStart => exact ⟨0, Nat.zero_le _, rfl, ⟨fun j hj => absurd hj (Nat.not_lt_zero _)⟩, ⟨Below.refl _ _⟩⟩
  case round =>
    obtain ⟨k, hk, rfl, hV, hB⟩ := hrel
    by_cases hlt : k < l.length
    · have hd : (k : Int) < l.length := by omega
      have hmem : rd_T38 l k ∈ l := by
        rw [show rd_T38 l k = l[k] from by simp [rd_T38, List.getElem?_eq_getElem hlt]]
        exact List.getElem_mem hlt
      have hq : l.getD k z38 = rd_T38 l k := by simp [rd_T38]
      have HQ := Aside0.mk hq; clear hq
      obtain ⟨ad, rfl, hx0, hx1⟩ := at_T38 (Kd.C_below HR.out hB.out) k (by omega) (by omega)
      simp only [Int.toNat_natCast] at hx0 hx1
      have hcall := HP.out wr _ _ hmem hB.out (k38_mk _ _)
      cases hv : p (rd_T38 l k) with
      | true =>
        rw [hv] at hcall
        have hs := fIdx_hit p l z38 k hlt hV.out (by rw [HQ.out]; exact hv)
        have HS := Aside0.mk hs; clear hs hmem hv
        go_wp2_with (go_at_fn g; refine hcall.mono ?_; rintro e w1 ⟨rfl, hb1⟩)
        go_ret
        exact ⟨by rw [HS.out]; rfl, below_tr hB.out hb1⟩
      | false =>
        rw [hv] at hcall
        have HV := Aside0.mk hv; clear hv hmem
        go_wp2_with (go_at_fn g; refine hcall.mono ?_; rintro e w1 ⟨rfl, hb1⟩)
        go_roundw
        case rel => exact ⟨k + 1, by omega, by go_num, ⟨fun j hj => by
          rcases Nat.lt_or_ge j k with h | h
          · exact hV.out j h
          · obtain rfl : j = k := by omega
            rw [HQ.out]; exact HV.out⟩, ⟨below_tr hB.out hb1⟩⟩
        case measure => simp [intOf]; omega
    · have hd : ¬ (k : Int) < l.length := by omega
      have hs := fIdx_miss p l z38 (fun j hj => hV.out j (by omega))
      have HS := Aside0.mk hs; clear hs
      go_wp2
      go_ret
      exact ⟨by rw [HS.out]; rfl, hB.out⟩


set_option maxHeartbeats 2000000 in
theorem has_Fee (p : S38 → Bool) (g : Nat) (fst lb : Array Value) (eg : ∀ args w, (callFunc g args).run Tryz.prog w = .ok (.enter g args) w) (A : Option Addr) (c : Nat) (l : List S38) (w : World)
    (hp : ∀ (W : World) (x : S38) (cs : List Value), x ∈ l → Below w.heap.size w W → k38.K W x cs → Calls Tryz.prog g (fst ++ #[.agg cs.toArray] ++ lb) W fun e w' => e = .returned (.bool (p x)) ∧ Below W.heap.size W w') (hr : k38.C w A l.length l) :
    Calls Tryz.prog 85 #[.slice A l.length c, .func (.func g) fst lb] w fun e w' => e = .returned (.bool (l.any p)) ∧ Below w.heap.size w w' := by
  have hcall := Aside0.mk (idx_Fee p g fst lb eg A c l w hp hr)
  clear hp hr eg
  have HN := Aside0.mk (fIdx_nonneg p l)
  go_enter Tryz.func85, Tryz.ntmps85
  go_wp2_with (go_at_call 101; refine hcall.out.mono ?_; rintro e w1 ⟨rfl, hb1⟩)
  all_goals
    go_ret
    exact ⟨by rw [← HN.out]; rfl, hb1⟩


set_option maxHeartbeats 2000000 in
theorem idx_Clause (p : S46 → Bool) (g : Nat) (fst lb : Array Value) (eg : ∀ args w, (callFunc g args).run Tryz.prog w = .ok (.enter g args) w) (A : Option Addr) (c : Nat) (l : List S46) (w : World)
    (hp : ∀ (W : World) (x : S46) (cs : List Value), x ∈ l → Below w.heap.size w W → k46.K W x cs → Calls Tryz.prog g (fst ++ #[.agg cs.toArray] ++ lb) W fun e w' => e = .returned (.bool (p x)) ∧ Below W.heap.size W w') (hr : k46.C w A l.length l) :
    Calls Tryz.prog 102 #[.slice A l.length c, .func (.func g) fst lb] w fun e w' => e = .returned (.int .i64 (fIdx p l)) ∧ Below w.heap.size w w' := by
  have hmax := Kd.C_max hr
  have HP := Aside0.mk hp; clear hp
  have HR := Aside0.mk hr; clear hr
  go_enter Tryz.func102, Tryz.ntmps102
  go_wp2
  go_loopw [8] (fun i wr => ∃ k : Nat, k ≤ l.length ∧ i = .int .i64 k ∧ Aside0 (∀ j, j < k → p (l.getD j z46) = false) ∧ Aside0 (Below w.heap.size w wr)) (fun i _ => l.length - (intOf i).toNat)
  case atStart => exact ⟨0, Nat.zero_le _, rfl, ⟨fun j hj => absurd hj (Nat.not_lt_zero _)⟩, ⟨Below.refl _ _⟩⟩
  case round =>
    obtain ⟨k, hk, rfl, hV, hB⟩ := hrel
    by_cases hlt : k < l.length
    · have hd : (k : Int) < l.length := by omega
      have hmem : rd_T46 l k ∈ l := by
        rw [show rd_T46 l k = l[k] from by simp [rd_T46, List.getElem?_eq_getElem hlt]]
        exact List.getElem_mem hlt
      have hq : l.getD k z46 = rd_T46 l k := by simp [rd_T46]
      have HQ := Aside0.mk hq; clear hq
      obtain ⟨ad, rfl, hx0, hx1, hx2, hx3⟩ := at_T46 (Kd.C_below HR.out hB.out) k (by omega) (by omega)
      simp only [Int.toNat_natCast] at hx0 hx1 hx2 hx3
      have hcall := HP.out wr _ _ hmem hB.out (k46_mk _ _)
      cases hv : p (rd_T46 l k) with
      | true =>
        rw [hv] at hcall
        have hs := fIdx_hit p l z46 k hlt hV.out (by rw [HQ.out]; exact hv)
        have HS := Aside0.mk hs; clear hs hmem hv
        go_wp2_with (go_at_fn g; refine hcall.mono ?_; rintro e w1 ⟨rfl, hb1⟩)
        go_ret
        exact ⟨by rw [HS.out]; rfl, below_tr hB.out hb1⟩
      | false =>
        rw [hv] at hcall
        have HV := Aside0.mk hv; clear hv hmem
        go_wp2_with (go_at_fn g; refine hcall.mono ?_; rintro e w1 ⟨rfl, hb1⟩)
        go_roundw
        case rel => exact ⟨k + 1, by omega, by go_num, ⟨fun j hj => by
          rcases Nat.lt_or_ge j k with h | h
          · exact hV.out j h
          · obtain rfl : j = k := by omega
            rw [HQ.out]; exact HV.out⟩, ⟨below_tr hB.out hb1⟩⟩
        case measure => simp [intOf]; omega
    · have hd : ¬ (k : Int) < l.length := by omega
      have hs := fIdx_miss p l z46 (fun j hj => hV.out j (by omega))
      have HS := Aside0.mk hs; clear hs
      go_wp2
      go_ret
      exact ⟨by rw [HS.out]; rfl, hB.out⟩


set_option maxHeartbeats 2000000 in
theorem has_Clause (p : S46 → Bool) (g : Nat) (fst lb : Array Value) (eg : ∀ args w, (callFunc g args).run Tryz.prog w = .ok (.enter g args) w) (A : Option Addr) (c : Nat) (l : List S46) (w : World)
    (hp : ∀ (W : World) (x : S46) (cs : List Value), x ∈ l → Below w.heap.size w W → k46.K W x cs → Calls Tryz.prog g (fst ++ #[.agg cs.toArray] ++ lb) W fun e w' => e = .returned (.bool (p x)) ∧ Below W.heap.size W w') (hr : k46.C w A l.length l) :
    Calls Tryz.prog 87 #[.slice A l.length c, .func (.func g) fst lb] w fun e w' => e = .returned (.bool (l.any p)) ∧ Below w.heap.size w w' := by
  have hcall := Aside0.mk (idx_Clause p g fst lb eg A c l w hp hr)
  clear hp hr eg
  have HN := Aside0.mk (fIdx_nonneg p l)
  go_enter Tryz.func87, Tryz.ntmps87
  go_wp2_with (go_at_call 102; refine hcall.out.mono ?_; rintro e w1 ⟨rfl, hb1⟩)
  all_goals
    go_ret
    exact ⟨by rw [← HN.out]; rfl, hb1⟩

end Go.Proofs.YtdnmoppegncioaaGreatDoor
