/- bundles.All: what it computes. -/
import Derived.Test.YtbpgoddohhiohaaDoorBC
import Derived.Deep.DeepMust
namespace Go.Proofs.YtbpgoddohhiohaaDoor
open Go.RowKit Go.Proofs.YtbpgoddohhiohaaDoorW.PrintWords
set_option linter.unusedVariables false
set_option linter.unusedSimpArgs false

def bStep (l : List S34) (sec : Int) (x : List S24) (lab : Int) : List S24 := if bCheck l sec lab = 0 ∧ x.any (bEq ⟨sec, lab⟩) = false then x ++ [⟨sec, lab⟩] else x
def bAll (l : List S34) (sec : Int) : List S24 := if (sFind l sec).2 = false then [] else ((-1) :: (sFind l sec).1.f7).foldl (bStep l sec) []
theorem bStep_len (l : List S34) (sec : Int) (x : List S24) (lab : Int) : (bStep l sec x lab).length ≤ x.length + 1 := by
  unfold bStep; split <;> simp
theorem foldl_snoc {α β : Type} (f : β → α → β) (b : β) (l : List α) (z : α) (k : Nat) (h : k < l.length) : (l.take (k + 1)).foldl f b = f ((l.take k).foldl f b) (l.getD k z) := by
  rw [take_snoc' l z k h, List.foldl_append]; rfl
theorem bFold_len (l : List S34) (sec : Int) (r : List Int) : ∀ x : List S24, (r.foldl (bStep l sec) x).length ≤ x.length + r.length := by
  induction r with
  | nil => intro x; simp
  | cons a r ih => intro x; have := ih (bStep l sec x a); have := bStep_len l sec x a; simp only [List.foldl_cons, List.length_cons]; omega

set_option maxRecDepth 100000 in
set_option maxHeartbeats 8000000 in
theorem ball_calls (A : Option Addr) (c : Nat) (l : List S34) (sec : Int) (w : World) (hE : ErrT w) (hr : k34.C w A l.length l) (hc : l.length ≤ c) (hL : (sFind l sec).1.f7.length ≤ 100000) :
    Calls Tryd.prog 13 #[.slice A l.length c, .int .i64 sec] w fun e w' => ∃ v, e = .returned v ∧ k24.R 24 w' w.heap.size (fun _ => True) v (bAll l sec) ∧ Below w.heap.size w w' := by
  have HR := Aside0.mk hr; clear hr
  have h1 := Aside0.mk (fun W hr => find_calls A c l sec W hr hc)
  have h2 := Aside0.mk (fun lab W hE hr => bcheck_calls A c l sec lab W hE hr hc)
  have h3 := Aside0.mk (fun A c l b0 b1 W hr => contains_Bundle A c l b0 b1 W hr)
  have HE := Aside0.mk hE
  clear hE hc
  have hs0 : bAll l sec = if (sFind l sec).2 = false then [] else ((-1) :: (sFind l sec).1.f7).foldl (bStep l sec) [] := rfl
  have HS := Aside0.mk hs0; clear hs0
  generalize sFind l sec = s at HS h1 hL
  obtain ⟨s, sok⟩ := s
  dsimp only at HS h1 hL
  go_enter Tryd.func13, Tryd.ntmps13
  go_wp2_with fail
  refine (h1.out _ HR.out).mono ?_
  rintro e w1 ⟨cs, rfl, hK, hb1⟩
  obtain ⟨A5, c5, A6, c6, A7, c7, rfl, l5, g5, l6, g6, l7, g7⟩ := k34_open hK
  have G7 := Aside0.mk g7; clear hK g5 g6 g7 l5 l6 l7
  have HB1 := Aside0.mk hb1; clear hb1
  cases sok with
  | false =>
    have hs : bAll l sec = [] := by rw [HS.out]; simp
    have HS2 := Aside0.mk hs; clear hs
    go_wp2
    go_ret
    exact ⟨_, rfl, by rw [HS2.out]; exact Kd.R_nil _ _ _ _ _, HB1.out.alloc HB1.out.size _⟩
  | true =>
    have hs : bAll l sec = ((-1) :: s.f7).foldl (bStep l sec) [] := by rw [HS.out]; simp
    obtain ⟨L, hLq⟩ : ∃ L : List Int, L = (-1) :: s.f7 := ⟨_, rfl⟩
    rw [← hLq] at hs
    have hLl : L.length ≤ 100001 := by rw [hLq]; simp; omega
    have HL := Aside0.mk hLl; have HLQ := Aside0.mk hLq; clear hLl hLq
    have HS2 := Aside0.mk hs; clear hs
    have HA1 := Aside0.mk (fun o => (Below.refl w1.heap.size w1).alloc (Nat.le_refl _) o)
    have HW := Aside0.mk (fun o o' => (HB1.out.alloc HB1.out.size o).alloc (Nat.le_trans HB1.out.size (by simp)) o')
    have HW1 := Aside0.mk (fun o o' => ((Below.refl w1.heap.size w1).alloc (Nat.le_refl _) o).alloc (by simp) o')
    have ho : ∀ o, (Kd.int .i64).R 3 ((w1.alloc o).alloc (.cells #[.int .i64 (-1)] 3)) w.heap.size (fun _ => True) (.slice (some ⟨w1.heap.size + 1, 0, none⟩) 1 1) [-1] := fun o => by
      have h := Kd.R_of_own (e := 3) (h1 := fun _ => rfl) (ok := fun _ => True) (own_lit (w1.alloc o) w.heap.size 3 .i64 [-1] (Nat.le_trans HB1.out.size (by simp)) (by decide)) (fun _ _ => trivial)
      rw [show (w1.alloc o).heap.size = w1.heap.size + 1 by simp] at h
      exact h
    have HO := Aside0.mk ho; clear ho
    go_wp2_with (at_builtin; go_must (refine Kd.R_append_rows (Kd.int .i64) (w0 := w) w.heap.size rfl (.tmp 18) (.tmp 20) 32 3 (.int .i64 0) 8 rfl Tryd.underlying32 info3 rfl (by decide) (by omega) (.slice (some ⟨w1.heap.size + 1, 0, none⟩) 1 1) [-1] s.f7 A7 s.f7.length c7 (fun _ => True) (fun _ => False) rfl rfl (HO.out _) (Kd.C_below G7.out (HW1.out _ _)) (fun _ _ h => h) (fun _ h => h.elim) (fun _ _ => trivial) (HW.out _ _) (HW.out _ _).size (by simp; omega) ?_; rintro v1 w2 hR1 hB1 hg1 hat1; obtain ⟨A9, c9, rfl, hl9, hC9⟩ := Kd.R_reads (show (Kd.int .i64).R 3 _ _ _ _ L by rw [HLQ.out]; exact hR1); clear hat1 hg1 hR1))
    have HB2 := Aside0.mk hB1
    have HC := Aside0.mk hC9
    clear hB1 hC9 hl9 hL HA1 HW HW1 HO G7 HS h1 HLQ
    have hmax := Kd.C_max HC.out
    go_loopw [4, 23] (fun x i wr => ∃ k : Nat, k ≤ L.length ∧ i = .int .i64 k ∧ Aside0 (k24.R 24 wr w2.heap.size (fun _ => True) x ((L.take k).foldl (bStep l sec) [])) ∧ Aside0 (Below w2.heap.size w2 wr)) (fun x i _ => L.length - (intOf i).toNat)
    case atStart => exact ⟨0, Nat.zero_le _, rfl, ⟨Kd.R_nil _ _ _ _ _⟩, ⟨Below.refl _ _⟩⟩
    case round =>
      obtain ⟨k, hk, rfl, hX, hB⟩ := hrel
      by_cases hlt : k < L.length
      · have hd : (k : Int) < L.length := by omega
        obtain ⟨ad, rfl, hx0⟩ := (Kd.reads_of_C (d := (0 : Int)) (Kd.C_below HC.out hB.out)).at_ k (by omega) (by omega)
        simp only [Int.toNat_natCast] at hx0
        have hf : (L.take (k + 1)).foldl (bStep l sec) [] = bStep l sec ((L.take k).foldl (bStep l sec) []) (rdOf 0 L k) := by
          rw [foldl_snoc _ _ _ 0 k hlt]; simp [rdOf]
        have hal : ((L.take k).foldl (bStep l sec) []).length ≤ 100001 := by
          have h5 := bFold_len l sec (L.take k) []; have h6 := HL.out; simp only [List.length_nil, List.length_take] at h5; omega
        generalize (L.take k).foldl (bStep l sec) [] = acc at hX hf hal
        generalize rdOf 0 L k = lab at hx0 hf
        have HF := Aside0.mk hf; have HAL := Aside0.mk hal; clear hf hal
        obtain ⟨Ax, cx, rfl, hlx, hCx⟩ := Kd.R_reads hX.out
        have HCx := Aside0.mk hCx; clear hCx
        have HBw := Aside0.mk (below_then HB2.out HB2.out.size hB.out)
        have HBa := Aside0.mk (HBw.out.alloc HBw.out.size (.cells #[.int .i64 sec, .int .i64 lab] 24))
        have HBr := Aside0.mk ((Below.refl wr.heap.size wr).alloc (Nat.le_refl _) (.cells #[.int .i64 sec, .int .i64 lab] 24))
        have HN := Aside0.mk (new_blk wr (.cells #[.int .i64 sec, .int .i64 lab] 24))
        go_wp2_with fail
        refine (h2.out lab _ (HE.out.below HBa.out) (Kd.C_below HR.out HBa.out)).mono ?_
        rintro e w3 ⟨rfl, hb3⟩
        have HB3 := Aside0.mk (below_tr HBr.out hb3)
        have HN3 := Aside0.mk (blk_low hb3 HN.out)
        clear hb3
        by_cases h0 : bCheck l sec lab = 0
        · rw [h0]
          have z0 := (blk_cell HN3.out 0).trans rfl; have z1 := (blk_cell HN3.out 1).trans rfl
          go_wp2_with fail
          refine (h3.out Ax cx acc sec lab _ (Kd.C_below HCx.out HB3.out)).mono ?_
          rintro e w4 ⟨rfl, hb4⟩
          have HB4 := Aside0.mk (below_tr HB3.out hb4)
          have HN4 := Aside0.mk (blk_low hb4 HN3.out)
          clear hb4 z0 z1
          cases ha : acc.any (bEq ⟨sec, lab⟩) with
          | true =>
            have hs : bStep l sec acc lab = acc := by unfold bStep; rw [if_neg (by rw [ha]; simp)]
            rw [hs] at HF; clear hs
            go_wp2
            exact ⟨⟨k + 1, by omega, by go_num, ⟨by rw [HF.out]; exact Kd.R_below hX.out HB4.out⟩, ⟨below_tr hB.out HB4.out⟩⟩, by simp [intOf]; omega⟩
          | false =>
            have hs : bStep l sec acc lab = acc ++ [⟨sec, lab⟩] := by unfold bStep; rw [if_pos ⟨h0, ha⟩]
            rw [hs] at HF; clear hs
            have z0 := (blk_cell HN4.out 0).trans rfl; have z1 := (blk_cell HN4.out 1).trans rfl
            have hb5 := Aside0.mk (below_tr hB.out HB4.out)
            go_wp2_with (at_builtin; go_must (refine Kd.R_append k24 (w0 := w2) w2.heap.size rfl (.tmp 40) (.tmp 42) 28 24 (.agg #[.int .i64 0, .int .i64 0]) 16 rfl Tryd.underlying28 info24 rfl (by decide) (by omega) (.slice Ax acc.length cx) acc ⟨sec, lab⟩ [.int .i64 sec, .int .i64 lab] (fun _ => True) (fun _ => False) rfl rfl (k24_mkM _ _ _ ⟨sec, lab⟩) (fun _ hk => hk.elim) (fun _ _ => trivial) (Kd.R_below hX.out HB4.out) hb5.out hb5.out.size (by have := HAL.out; omega) ?_; rintro v1 w5 hR5 hB5 hg5 hat5; clear hg5 hat5))
            exact ⟨⟨k + 1, by omega, by go_num, ⟨by rw [HF.out]; exact hR5⟩, ⟨hB5⟩⟩, by simp [intOf]; omega⟩
        · have h01 : (bCheck l sec lab == 0) = false := by simp [h0]
          have hs : bStep l sec acc lab = acc := by unfold bStep; rw [if_neg (by simp [h0])]
          rw [hs] at HF; clear hs h0
          go_wp2
          exact ⟨⟨k + 1, by omega, by go_num, ⟨by rw [HF.out]; exact Kd.R_below hX.out HB3.out⟩, ⟨below_tr hB.out HB3.out⟩⟩, by simp [intOf]; omega⟩
      · have hd : ¬ (k : Int) < L.length := by omega
        have hs : bAll l sec = (L.take k).foldl (bStep l sec) [] := by rw [HS2.out, List.take_of_length_le (by omega)]
        have HS3 := Aside0.mk hs; clear hs
        go_wp2
        go_ret
        exact ⟨_, rfl, by rw [HS3.out]; exact Kd.R_lower hX.out HB2.out.size, below_then HB2.out HB2.out.size hB.out⟩
end Go.Proofs.YtbpgoddohhiohaaDoor
