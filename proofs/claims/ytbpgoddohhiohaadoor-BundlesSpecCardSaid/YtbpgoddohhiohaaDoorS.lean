/- sections: formed, what it computes. No condition but how the section lies in memory. -/
import Derived.Test.YtbpgoddohhiohaaDoorA
import Derived.BigQuiet
import Derived.Deep.QuietTactic
namespace Go.Proofs.YtbpgoddohhiohaaDoor
open Go.RowKit Go.Proofs.YtbpgoddohhiohaaDoorW.PrintWords
set_option linter.unusedVariables false
set_option linter.unusedSimpArgs false

def wn (n lo hi : Int) : Bool := decide (lo ≤ n) && decide (n ≤ hi)
theorem wn_iff {n lo hi : Int} : wn n lo hi = true ↔ lo ≤ n ∧ n ≤ hi := by simp [wn]
theorem within_calls (n lo hi : Int) (w : World) : Calls Tryd.prog 95 #[.int .i64 n, .int .i64 lo, .int .i64 hi] w fun e w' => e = .returned (.bool (wn n lo hi)) ∧ w = w' := by
  unfold wn
  go_enter Tryd.func95, Tryd.ntmps95
  go_wp2
  all_goals
    go_ret
    exact ⟨ret_bool (by rw [Bool.eq_iff_iff]; simp; omega), rfl⟩

def gLoop : List S130 → Int → Int → Option Int
  | [], all, _ => some all
  | g :: r, all, last => if wn g.f0 (last + 1) 7 = true then (if wn g.f1 0 4096 = true then (if wn g.f2 0 1048576 = true then gLoop r (wrap64 (all + g.f1)) g.f0 else none) else none) else none
def lLoop : List Int → Int → Bool
  | [], _ => true
  | n :: r, last => wn n (last + 1) 3999 && lLoop r n
theorem gLoop_cons (g : S130) (r : List S130) (all last : Int) : gLoop (g :: r) all last = if wn g.f0 (last + 1) 7 = true then (if wn g.f1 0 4096 = true then (if wn g.f2 0 1048576 = true then gLoop r (wrap64 (all + g.f1)) g.f0 else none) else none) else none := rfl
theorem lLoop_cons (n : Int) (r : List Int) (last : Int) : lLoop (n :: r) last = (wn n (last + 1) 3999 && lLoop r n) := rfl
def sForm (s : S34) : Bool := match gLoop s.f6 0 (-1) with
  | none => false
  | some all => lLoop s.f7 (-1) && (wn s.f0 0 3999 && (wn s.f1 0 4095 && (wn s.f2 0 1023 && (wn s.f3 0 6 && (wn s.f4 0 4096 && (decide (s.f6.length ≤ 8) && (decide (all ≤ s.f4) && !(s.f8 && decide (0 < s.f7.length)))))))))
theorem drop_rd {α : Type} (l : List α) (z : α) (k : Nat) (h : k < l.length) : l.drop k = l.getD k z :: l.drop (k + 1) := by
  rw [List.drop_eq_getElem_cons h]; simp [List.getElem?_eq_getElem h]

set_option maxRecDepth 100000 in
set_option maxHeartbeats 4000000 in
theorem formed_calls (s : S34) (cs : List Value) (w : World) (hK : k34.K w s cs) :
    Calls Tryd.prog 86 #[.agg cs.toArray] w fun e w' => e = .returned (.bool (sForm s)) ∧ Below w.heap.size w w' := by
  obtain ⟨A5, c5, A6, c6, A7, c7, rfl, l5, g5, l6, g6, l7, g7⟩ := k34_open hK
  clear hK g5 l5 l6 l7
  have hm6 := Kd.C_max g6
  have hm7 := Kd.C_max g7
  have G6 := Aside0.mk g6; have G7 := Aside0.mk g7; clear g6 g7
  go_enter Tryd.func86, Tryd.ntmps86
  go_wp2
  go_loopw [3, 4, 12] (fun va vl i wr => ∃ (k : Nat) (all last : Int), k ≤ s.f6.length ∧ va = .int .i64 all ∧ vl = .int .i64 last ∧ i = .int .i64 k ∧ -1 ≤ last ∧ last ≤ 7 ∧ Aside0 (gLoop (s.f6.drop k) all last = gLoop s.f6 0 (-1)) ∧ Aside0 (Below w.heap.size w wr) ∧ Aside0 (wr.heap[w.heap.size]? = some (.cells #[.int .i64 s.f0, .int .i64 s.f1, .int .i64 s.f2, .int .i64 s.f3, .int .i64 s.f4, .slice A5 s.f5.length c5, .slice A6 s.f6.length c6, .slice A7 s.f7.length c7, .bool s.f8] 74 (0, 0)))) (fun _ _ i _ => s.f6.length - (intOf i).toNat)
  case atStart => exact ⟨0, 0, -1, Nat.zero_le _, rfl, rfl, rfl, by omega, by omega, ⟨rfl⟩, ⟨(Below.refl _ _).alloc (Nat.le_refl _) _⟩, ⟨new_blk _ _⟩⟩
  case round =>
    obtain ⟨k, all, last, hk, rfl, rfl, rfl, hl0, hl1, HG, HB, hbk⟩ := hrel
    by_cases hlt : k < s.f6.length
    · have hd : (k : Int) < s.f6.length := by omega
      obtain ⟨ad, rfl, hx0, hx1, hx2⟩ := at_T130 (Kd.C_below G6.out HB.out) k (by omega) (by omega)
      simp only [Int.toNat_natCast] at hx0 hx1 hx2
      have hg := HG.out
      rw [drop_rd _ z130 k hlt] at hg
      rw [gLoop_cons, show s.f6.getD k z130 = rd_T130 s.f6 k from by simp [rd_T130]] at hg
      have HG2 := Aside0.mk hg; clear hg HG
      have hB2 := Aside0.mk (HB.out.alloc HB.out.size (.cells #[.int .i64 (rd_T130 s.f6 k).f0, .int .i64 (rd_T130 s.f6 k).f1, .int .i64 (rd_T130 s.f6 k).f2] 130))
      have hbad : none = gLoop s.f6 0 (-1) → sForm s = false := by
        intro hq
        unfold sForm
        rw [← hq]
      have HBAD := Aside0.mk hbad; clear hbad
      cases h1 : wn (rd_T130 s.f6 k).f0 (last + 1) 7 with
      | false =>
        have HS := Aside0.mk (show sForm s = false by have h := HG2.out; rw [h1, if_neg (by simp)] at h; exact HBAD.out h)
        go_wp2_with (go_at_call 95; refine (within_calls _ _ _ _).mono ?_; rintro e w1 ⟨rfl, rfl⟩)
        go_ret
        exact ⟨by rw [HS.out]; rfl, hB2.out⟩
      | true =>
        cases h2 : wn (rd_T130 s.f6 k).f1 0 4096 with
        | false =>
          have HS := Aside0.mk (show sForm s = false by have h := HG2.out; rw [h1, if_pos rfl, h2, if_neg (by simp)] at h; exact HBAD.out h)
          go_wp2_with (go_at_call 95; refine (within_calls _ _ _ _).mono ?_; rintro e w1 ⟨rfl, rfl⟩)
          go_ret
          exact ⟨by rw [HS.out]; rfl, hB2.out⟩
        | true =>
          cases h3 : wn (rd_T130 s.f6 k).f2 0 1048576 with
          | false =>
            have HS := Aside0.mk (show sForm s = false by have h := HG2.out; rw [h1, if_pos rfl, h2, if_pos rfl, h3, if_neg (by simp)] at h; exact HBAD.out h)
            go_wp2_with (go_at_call 95; refine (within_calls _ _ _ _).mono ?_; rintro e w1 ⟨rfl, rfl⟩)
            go_ret
            exact ⟨by rw [HS.out]; rfl, hB2.out⟩
          | true =>
            have hb7 := wn_iff.1 h1
            have hg := HG2.out
            rw [h1, h2, h3, if_pos rfl, if_pos rfl, if_pos rfl] at hg
            have HG3 := Aside0.mk hg; clear hg HG2
            go_wp2_with (go_at_call 95; refine (within_calls _ _ _ _).mono ?_; rintro e w1 ⟨rfl, rfl⟩)
            go_quiet (fail)
            go_wp2
            exact ⟨⟨k + 1, _, _, by omega, rfl, rfl, by go_num, by omega, by omega, ⟨HG3.out⟩, ⟨pw_below_drewN hB2.out _⟩, ⟨blk_alloc hbk.out _⟩⟩, by simp [intOf]; omega⟩
    · have hd : ¬ (k : Int) < s.f6.length := by omega
      have hg := HG.out
      rw [List.drop_of_length_le (by omega)] at hg
      have hsf : sForm s = (lLoop s.f7 (-1) && (wn s.f0 0 3999 && (wn s.f1 0 4095 && (wn s.f2 0 1023 && (wn s.f3 0 6 && (wn s.f4 0 4096 && (decide (s.f6.length ≤ 8) && (decide (all ≤ s.f4) && !(s.f8 && decide (0 < s.f7.length)))))))))) := by
        unfold sForm
        rw [← hg]
        rfl
      have HSF := Aside0.mk hsf; clear hsf hg HG
      have HB2 := HB; clear HB
      have hcz := fun j => blk_cell hbk.out j
      have hz0 := (hcz 0).trans rfl; have hz1 := (hcz 1).trans rfl; have hz2 := (hcz 2).trans rfl; have hz3 := (hcz 3).trans rfl; have hz4 := (hcz 4).trans rfl; have hz6 := (hcz 6).trans rfl; have hz7 := (hcz 7).trans rfl; have hz8 := (hcz 8).trans rfl
      clear hcz hbk
      go_wp2
      go_loop [4, 44] (fun vl i => ∃ (m : Nat) (la : Int), m ≤ s.f7.length ∧ vl = .int .i64 la ∧ i = .int .i64 m ∧ -1 ≤ la ∧ la ≤ 3999 ∧ Aside0 (lLoop (s.f7.drop m) la = lLoop s.f7 (-1))) (fun _ i => s.f7.length - (intOf i).toNat)
      case atStart => exact ⟨0, -1, Nat.zero_le _, rfl, rfl, by omega, by omega, ⟨rfl⟩⟩
      case round =>
        obtain ⟨m, la, hm, rfl, rfl, ha0, ha1, HL⟩ := hrel
        by_cases hlm : m < s.f7.length
        · have hd : (m : Int) < s.f7.length := by omega
          obtain ⟨ad, rfl, hx0⟩ := (Kd.reads_of_C (d := (0 : Int)) (Kd.C_below G7.out HB2.out)).at_ m (by omega) (by omega)
          simp only [Int.toNat_natCast] at hx0
          have hl := HL.out
          rw [drop_rd _ 0 m hlm] at hl
          rw [lLoop_cons, show s.f7.getD m 0 = rdOf 0 s.f7 m from by simp [rdOf]] at hl
          cases h1 : wn (rdOf 0 s.f7 m) (la + 1) 3999 with
          | false =>
            rw [h1] at hl
            have HS := Aside0.mk (show sForm s = false by rw [HSF.out, ← hl]; rfl)
            clear hl HL
            go_wp2_with (go_at_call 95; refine (within_calls _ _ _ _).mono ?_; rintro e w1 ⟨rfl, rfl⟩)
            go_ret
            exact ⟨by rw [HS.out]; rfl, HB2.out⟩
          | true =>
            rw [h1, Bool.true_and] at hl
            have HL2 := Aside0.mk hl; clear hl HL
            have hb7 := wn_iff.1 h1
            go_wp2_with (go_at_call 95; refine (within_calls _ _ _ _).mono ?_; rintro e w1 ⟨rfl, rfl⟩)
            exact ⟨⟨m + 1, _, by omega, rfl, by go_num, by omega, by omega, HL2⟩, by simp [intOf]; omega⟩
        · have hd : ¬ (m : Int) < s.f7.length := by omega
          have hl := HL.out
          rw [List.drop_of_length_le (by omega)] at hl
          have hsf := HSF.out
          rw [← hl, show lLoop [] la = true from rfl, Bool.true_and] at hsf
          have HSF2 := Aside0.mk hsf; clear hsf hl HL HSF
          go_wp2_with (go_at_call 95; refine (within_calls _ _ _ _).mono ?_; rintro e w1 ⟨rfl, rfl⟩)
          all_goals
            go_ret
            refine ⟨ret_bool ?_, HB2.out⟩
            rw [HSF2.out, Bool.eq_iff_iff]
            simp_all <;> (intros; omega)
end Go.Proofs.YtbpgoddohhiohaaDoor
