/- standing.last: the number of the last element with a property, for every function value that keeps what lay before. (Printed by gen_jl.py.) -/
import Derived.Test.YtdnmoppegncioaaGreatDoorJC
namespace Go.Proofs.YtdnmoppegncioaaGreatDoor
open Go.RowKit Go.Proofs.YtdnmoppegncioaaGreatDoorW.PrintWords
set_option linter.unusedVariables false
set_option linter.unusedSimpArgs false

set_option maxHeartbeats 2000000 in
theorem last_Class (p : S42 → Bool) (g : Nat) (fst lb : Array Value) (eg : ∀ args w, (callFunc g args).run Tryz.prog w = .ok (.enter g args) w) (A : Option Addr) (c : Nat) (l : List S42) (w : World)
    (hp : ∀ (W : World) (x : S42), x ∈ l → Below w.heap.size w W → Calls Tryz.prog g (fst ++ #[.agg #[.string x.f0, .int .i64 x.f1, .int .i64 x.f2.f0, .int .i64 x.f2.f1]] ++ lb) W fun e w' => e = .returned (.bool (p x)) ∧ Below W.heap.size W w') (hr : k42.C w A l.length l) :
    Calls Tryz.prog 27 #[.slice A l.length c, .func (.func g) fst lb] w fun e w' => e = .returned (.int .i64 (fLast p l)) ∧ Below w.heap.size w w' := by
  have hmax := Kd.C_max hr
  have HP := Aside0.mk hp; clear hp
  have HR := Aside0.mk hr; clear hr
  go_enter Tryz.func27, Tryz.ntmps27
  go_wp2
  go_loopw [5] (fun i wr => ∃ k : Nat, k ≤ l.length ∧ i = .int .i64 k ∧ Aside0 (∀ j, k ≤ j → j < l.length → p (l.getD j z42) = false) ∧ Aside0 (Below w.heap.size w wr)) (fun i _ => (intOf i).toNat)
  case atStart => exact ⟨l.length, Nat.le_refl _, rfl, ⟨fun j hj hl => absurd hj (Nat.not_le.2 hl)⟩, ⟨Below.refl _ _⟩⟩
  case round =>
    obtain ⟨k, hk, rfl, hV, hB⟩ := hrel
    by_cases hlt : 0 < k
    · obtain ⟨m, rfl⟩ : ∃ m, k = m + 1 := ⟨k - 1, by omega⟩
      have hd : (0 : Int) < ((m + 1 : Nat) : Int) := by omega
      have hsub : IntKind.i64.wrap (((m + 1 : Nat) : Int) - 1) = (m : Int) := by rw [wrap_i64 _ (by omega) (by omega)]; omega
      have hmem : rd_T42 l m ∈ l := by
        rw [show rd_T42 l m = l[m] from by simp [rd_T42, List.getElem?_eq_getElem (show m < l.length by omega)]]
        exact List.getElem_mem _
      have hq : l.getD m z42 = rd_T42 l m := by simp [rd_T42]
      have HQ := Aside0.mk hq; clear hq
      obtain ⟨ad, rfl, hx0, hx1, hx2, hx3⟩ := at_T42 (Kd.C_below HR.out hB.out) m (by omega) (by omega)
      simp only [Int.toNat_natCast] at hx0 hx1 hx2 hx3
      have hcall := HP.out wr _ hmem hB.out
      have HM := Aside0.mk hmem; clear hmem
      cases hv : p (rd_T42 l m) with
      | true =>
        rw [hv] at hcall
        have hs := fLast_hit p l z42 m (by omega) (fun j hj hl => hV.out j (by omega) hl) (by rw [HQ.out]; exact hv)
        have HS := Aside0.mk hs; clear hs hv
        go_wp2_with (go_at_fn g; refine hcall.mono ?_; rintro e w1 ⟨rfl, hb1⟩)
        go_ret
        exact ⟨by rw [HS.out]; rfl, below_tr hB.out hb1⟩
      | false =>
        rw [hv] at hcall
        have HV := Aside0.mk hv; clear hv
        go_wp2_with (go_at_fn g; refine hcall.mono ?_; rintro e w1 ⟨rfl, hb1⟩)
        go_roundw
        case rel => exact ⟨m, by omega, by go_num, ⟨fun j hj hl => by
          rcases Nat.lt_or_ge m j with h | h
          · exact hV.out j h hl
          · obtain rfl : j = m := by omega
            rw [HQ.out]; exact HV.out⟩, ⟨below_tr hB.out hb1⟩⟩
        case measure => simp [intOf]
    · have hd : ¬ (0 : Int) < (k : Int) := by omega
      have hs := fLast_miss p l z42 (fun j hj => hV.out j (by omega) hj)
      have HS := Aside0.mk hs; clear hs
      go_wp2
      go_ret
      exact ⟨by rw [HS.out]; rfl, hB.out⟩

set_option maxHeartbeats 2000000 in
theorem last_Fee (p : S38 → Bool) (g : Nat) (fst lb : Array Value) (eg : ∀ args w, (callFunc g args).run Tryz.prog w = .ok (.enter g args) w) (A : Option Addr) (c : Nat) (l : List S38) (w : World)
    (hp : ∀ (W : World) (x : S38), x ∈ l → Below w.heap.size w W → Calls Tryz.prog g (fst ++ #[.agg #[.string x.f0, .int .i64 x.f1]] ++ lb) W fun e w' => e = .returned (.bool (p x)) ∧ Below W.heap.size W w') (hr : k38.C w A l.length l) :
    Calls Tryz.prog 24 #[.slice A l.length c, .func (.func g) fst lb] w fun e w' => e = .returned (.int .i64 (fLast p l)) ∧ Below w.heap.size w w' := by
  have hmax := Kd.C_max hr
  have HP := Aside0.mk hp; clear hp
  have HR := Aside0.mk hr; clear hr
  go_enter Tryz.func24, Tryz.ntmps24
  go_wp2
  go_loopw [5] (fun i wr => ∃ k : Nat, k ≤ l.length ∧ i = .int .i64 k ∧ Aside0 (∀ j, k ≤ j → j < l.length → p (l.getD j z38) = false) ∧ Aside0 (Below w.heap.size w wr)) (fun i _ => (intOf i).toNat)
  case atStart => exact ⟨l.length, Nat.le_refl _, rfl, ⟨fun j hj hl => absurd hj (Nat.not_le.2 hl)⟩, ⟨Below.refl _ _⟩⟩
  case round =>
    obtain ⟨k, hk, rfl, hV, hB⟩ := hrel
    by_cases hlt : 0 < k
    · obtain ⟨m, rfl⟩ : ∃ m, k = m + 1 := ⟨k - 1, by omega⟩
      have hd : (0 : Int) < ((m + 1 : Nat) : Int) := by omega
      have hsub : IntKind.i64.wrap (((m + 1 : Nat) : Int) - 1) = (m : Int) := by rw [wrap_i64 _ (by omega) (by omega)]; omega
      have hmem : rd_T38 l m ∈ l := by
        rw [show rd_T38 l m = l[m] from by simp [rd_T38, List.getElem?_eq_getElem (show m < l.length by omega)]]
        exact List.getElem_mem _
      have hq : l.getD m z38 = rd_T38 l m := by simp [rd_T38]
      have HQ := Aside0.mk hq; clear hq
      obtain ⟨ad, rfl, hx0, hx1⟩ := at_T38 (Kd.C_below HR.out hB.out) m (by omega) (by omega)
      simp only [Int.toNat_natCast] at hx0 hx1
      have hcall := HP.out wr _ hmem hB.out
      have HM := Aside0.mk hmem; clear hmem
      cases hv : p (rd_T38 l m) with
      | true =>
        rw [hv] at hcall
        have hs := fLast_hit p l z38 m (by omega) (fun j hj hl => hV.out j (by omega) hl) (by rw [HQ.out]; exact hv)
        have HS := Aside0.mk hs; clear hs hv
        go_wp2_with (go_at_fn g; refine hcall.mono ?_; rintro e w1 ⟨rfl, hb1⟩)
        go_ret
        exact ⟨by rw [HS.out]; rfl, below_tr hB.out hb1⟩
      | false =>
        rw [hv] at hcall
        have HV := Aside0.mk hv; clear hv
        go_wp2_with (go_at_fn g; refine hcall.mono ?_; rintro e w1 ⟨rfl, hb1⟩)
        go_roundw
        case rel => exact ⟨m, by omega, by go_num, ⟨fun j hj hl => by
          rcases Nat.lt_or_ge m j with h | h
          · exact hV.out j h hl
          · obtain rfl : j = m := by omega
            rw [HQ.out]; exact HV.out⟩, ⟨below_tr hB.out hb1⟩⟩
        case measure => simp [intOf]
    · have hd : ¬ (0 : Int) < (k : Int) := by omega
      have hs := fLast_miss p l z38 (fun j hj => hV.out j (by omega) hj)
      have HS := Aside0.mk hs; clear hs
      go_wp2
      go_ret
      exact ⟨by rw [HS.out]; rfl, hB.out⟩

end Go.Proofs.YtdnmoppegncioaaGreatDoor
