/- average.weights: the iterator over the grades with their credits. Valid attempts. -/
import Derived.Test.YtdnmoppegncioaaGreatDoorKB
import Derived.Test.YtdnmoppegncioaaGreatDoorKG
namespace Go.Proofs.YtdnmoppegncioaaGreatDoor
open Go.RowKit Go.Shelf Go.Proofs.YtdnmoppegncioaaGreatDoorW.PrintWords
set_option linter.unusedVariables false
set_option linter.unusedSimpArgs false
attribute [local go_sem] Oper.semAt_some yld_undef
/-- A valid attempt. -/
abbrev AttOk : Type := { a : S141 // fitsA a = true }
def vals (l : List AttOk) : List S141 := l.map (·.1)
theorem vals_snoc (l : List AttOk) (x : AttOk) : vals (l ++ [x]) = vals l ++ [x.1] := by unfold vals; rw [List.map_append]; rfl
theorem vals_len (l : List AttOk) : (vals l).length = l.length := by unfold vals; rw [List.length_map]
theorem weights_calls (A : Option Addr) (n c : Nat) (w : World) :
    Calls Tryz.prog 58 #[.slice A n c] w fun e w' => e = .returned (.func (.func 80) #[] #[.pointer (some ⟨w.heap.size, 0, none⟩)]) ∧ w' = w.alloc (.cells #[.slice A n c] 86) := by
  go_enter Tryz.func58, Tryz.ntmps58
  go_wp2
  go_ret
  exact ⟨rfl, rfl⟩
set_option maxRecDepth 100000 in
set_option maxHeartbeats 4000000 in
theorem weights_stops (n : Nat) (hn : 1 ≤ n) (Bl : Nat) (A : Option Addr) (cap : Nat) (l : List S141) (hall : ∀ a ∈ l, fitsA a = true) (w0 w : World) (hw : Below w0.heap.size w0 w)
    (hBl : w.heap[Bl]? = some (.cells #[.slice A l.length cap] 86 (0, 0))) (hr : k141.C w0 A l.length l) :
    SeqStopsK Fence.wide n Tryz.prog 80 #[.pointer (some ⟨Bl, 0, none⟩)] (fun x : AttOk => #[.int .i64 x.1.f2, .int .i64 x.1.f4]) (Below w0.heap.size) (fun ys => vals ys = l) (fun pre => vals pre <+: l) l.length w := fun lp J Jx W hW hJ hJx hY h0 => by
  have hBl' := blk_low hW hBl
  have hmax := Kd.C_max hr
  have c0 := (blk_cell hBl' 0).trans rfl
  have HR := Aside0.mk hr
  have HW := Aside0.mk (below_tr hw hW); have HJ := Aside0.mk hJ; have HY := Aside0.mk hY; have HALL := Aside0.mk hall
  clear hr hBl hBl' hw hW hJ hJx hY hall
  refine callsIn_of_wp Tryz.func80 rfl trivial ?_ rfl
  simp only [Tryz.ntmps80, List.size_toArray, List.length_cons, List.length_nil, Nat.reduceAdd, Nat.reduceSub, Array.replicate_succ, Array.replicate_zero, List.push_toArray, List.append_toArray, List.nil_append, List.cons_append]
  gi_wp2
  clear c0
  gi_loopw [7] (fun i wr => ∃ k : Nat, k ≤ l.length ∧ i = .int .i64 k ∧ Aside0 (∃ pre : List AttOk, vals pre = l.take k ∧ J pre wr) ∧ Aside0 (Below w0.heap.size w0 wr)) (fun i _ => l.length - (intOf i).toNat)
  case atStart => exact ⟨0, Nat.zero_le _, rfl, ⟨[], rfl, h0⟩, HW⟩
  case round =>
    clear h0
    obtain ⟨k, hk, rfl, ⟨pre, hpre, hJs⟩, hB⟩ := hrel
    have HP := Aside0.mk hpre; have HJs := Aside0.mk hJs
    clear hpre hJs
    by_cases hlt : k < l.length
    · have hd : (k : Int) < l.length := by omega
      have hp0 : (0 : Int) ≤ k := by omega
      obtain ⟨ad, rfl, hx0, hx1, hx2, hx3, hx4⟩ := at_T141 (Kd.C_below HR.out hB.out) k (by omega) (by omega)
      simp only [Int.toNat_natCast] at hx0 hx1 hx2 hx3 hx4
      have HX := Aside0.mk (HALL.out (rd_T141 l k) (by rw [show rd_T141 l k = l[k] from by simp [rd_T141, List.getElem?_eq_getElem hlt]]; exact List.getElem_mem hlt))
      have HT := Aside0.mk (show l.take (k + 1) = l.take k ++ [rd_T141 l k] by rw [List.take_succ_eq_append_getElem hlt, show rd_T141 l k = l[k] from by simp [rd_T141, List.getElem?_eq_getElem hlt]])
      have HLN := Aside0.mk (show pre.length < l.length by have := congrArg List.length HP.out; rw [vals_len, List.length_take] at this; omega)
      generalize rd_T141 l k = x at hx0 hx1 hx2 hx3 hx4 HX HT
      have HQ := Aside0.mk (show vals (pre ++ [(⟨x, HX.out⟩ : AttOk)]) = l.take (k + 1) by rw [vals_snoc, HP.out, HT.out])
      have HJ1 := Aside0.mk (fun o => HJ.out _ _ _ none HJs.out (World.grownBy_alloc wr o none) (fun r e => by cases e))
      have HB1 := Aside0.mk (fun o => hB.out.alloc hB.out.size o)
      obtain ⟨fn, tmps, assign, body, hy, hR⟩ := HY.out pre ⟨x, HX.out⟩ _ (HJ1.out (.cells (attV x) 141)) HLN.out
      try dsimp only at hy
      gi_wp2
      refine hR.mono ?_
      rintro e W3 (⟨rfl, hJ3, hk3⟩ | ⟨rfl, hJx3⟩)
      · gi_wp2
        go_roundw
        case rel => exact ⟨k + 1, by omega, by go_num, ⟨_, HQ.out, hJ3⟩, ⟨(HB1.out _).trans hk3⟩⟩
        case measure => first | (simp [intOf]; omega; done) | omega
      · gi_wp2
        refine bodyPost_ret (results_none rfl _ _ _) rfl ?_
        exact ⟨⟨_, rfl⟩, .inr ⟨_, by rw [HQ.out]; exact List.take_prefix _ _, hJx3⟩⟩
    · have hd : ¬ (k : Int) < l.length := by omega
      obtain rfl : k = l.length := by omega
      have HP2 := Aside0.mk (show vals pre = l by have := HP.out; rwa [List.take_length] at this)
      gi_wp2
      go_end0
      exact ⟨⟨_, rfl⟩, .inl ⟨_, HP2.out, HJs.out⟩⟩
end Go.Proofs.YtdnmoppegncioaaGreatDoor
