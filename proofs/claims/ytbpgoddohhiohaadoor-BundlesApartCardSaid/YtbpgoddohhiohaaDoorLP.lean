/- sizarlaw24.BundlesApart: it is true. -/
import Derived.Test.YtbpgoddohhiohaaDoorLA
import Derived.Test.YtbpgoddohhiohaaDoorPB
import Derived.StillTailTactics
import Derived.Deep.DeepMust
import Derived.IntWalk
namespace Go.Proofs.YtbpgoddohhiohaaDoor
open Go.RowKit Go.Proofs.YtbpgoddohhiohaaDoorW.PrintWords
set_option linter.unusedVariables false
set_option linter.unusedSimpArgs false
theorem bParts_le (l : List S34) (b0 b1 : Int) (hL : ∀ id, (sFind l id).1.f5.length ≤ 100000) : (bMeet l b0 b1).1.length ≤ 200000 := by
  unfold bMeet
  split
  · simp
  · have h := bParts_len l b0 b1
    have h2 : ∀ y ∈ bParts l b0 b1, y.f5.length ≤ 100000 := fun y hy => by
      unfold bParts pQ at hy
      rcases List.mem_append.1 hy with h1 | h1
      · split at h1
        · rw [List.mem_singleton.1 h1]; exact hL _
        · cases h1
      · split at h1
        · rw [List.mem_singleton.1 h1]; exact hL _
        · cases h1
    show ((bParts l b0 b1).flatMap (·.f5)).length ≤ 200000
    generalize bParts l b0 b1 = P at h h2
    match P, h, h2 with
    | [], _, _ => simp
    | [x], _, h2 => have := h2 x (by simp); simp; omega
    | [x, y], _, h2 => have := h2 x (by simp); have := h2 y (by simp); simp; omega
    | _ :: _ :: _ :: _, h, _ => simp at h
/-- What the loops of Apart have met. -/
def hitUp (p q : List S65) (k n : Nat) : Bool := (p.take k).any (fun m => q.any (mOver m)) || (decide (k < p.length) && (q.take n).any (mOver (rd_T65 p k)))
theorem take_one {α : Type} (p : List α) (z : α) (k : Nat) (hk : k < p.length) : (p.take (k + 1)).drop k = [p.getD k z] := by
  rw [List.take_succ_eq_append_getElem hk, List.drop_append]
  have : (p.take k).length = k := by simp; omega
  simp [this, List.getElem?_eq_getElem hk]
theorem hitUp_zero (p q : List S65) : hitUp p q 0 0 = false := by simp [hitUp]
theorem hitUp_snoc (p q : List S65) (k n : Nat) (hk : k < p.length) (hn : n < q.length) : hitUp p q k (n + 1) = (hitUp p q k n || mOver (rd_T65 p k) (rd_T65 q n)) := by
  unfold hitUp
  rw [take_snoc' q z65 n hn, show q.getD n z65 = rd_T65 q n from by simp [rd_T65]]
  simp [hk, Bool.or_assoc]
theorem hitUp_row (p q : List S65) (k : Nat) (hk : k < p.length) : hitUp p q k q.length = hitUp p q (k + 1) 0 := by
  unfold hitUp
  rw [take_snoc' p z65 k hk, show p.getD k z65 = rd_T65 p k from by simp [rd_T65]]
  simp [hk]
theorem hitUp_all (p q : List S65) : hitUp p q p.length 0 = mHit p q := by
  unfold hitUp mHit
  simp
theorem cut_one (Ap : Option Addr) (cp : Nat) (p : List S65) (w : World) (hC : k65.C w Ap p.length p) (hc : p.length ≤ cp) (k : Nat) (hk : k < p.length) :
    ∃ P1 c1, 1 ≤ c1 ∧ k65.C w P1 1 [rd_T65 p k] ∧ ∀ W : World, (Instr.slice 30 (.slice Ap p.length cp) (some (.int .i64 k)) (some (.int .i64 ((k : Int) + 1))) none).run Tryd.prog W = .ok (.slice P1 1 c1) W := by
  obtain ⟨im, him, _, hsz, _⟩ := info_get info65
  have h1 := cut_mid (P := Tryd.prog) 30 65 .i64 .i64 Tryd.underlying30 him 5 hsz Ap p.length cp (k : Int) ((k : Int) + 1) (by omega) (by omega) (by omega) hc
  have h2 := Kd.C_mid (lo := k) (hi := k + 1) (c := cp) hC (by omega) (by omega) hc
  rw [take_one p z65 k hk, show p.getD k z65 = rd_T65 p k from by simp [rd_T65]] at h2
  rw [show ((k : Int) + 1).toNat = k + 1 from by omega, Int.toNat_natCast, show k + 1 - k = 1 from by omega] at h1
  exact ⟨_, _, by omega, h2, h1⟩
theorem BOk.labs {l : List S34} {a0 a1 : Int} (h : BOk l a0 a1) : (a1 = -1) ∨ (a1 ≠ -1 ∧ ∃ x, sFind l a1 = (x, true) ∧ x.f8 = true ∧ mClash (sFind l a0).1.f5 x.f5 = (false, 0)) := by
  rcases h.lab with ⟨h1, -⟩ | ⟨h1, -, h3, -, h5⟩
  · exact .inl h1
  · refine .inr ⟨find_id h.all h1, (sFind l a1).1, Prod.ext rfl h1, h3, ?_⟩
    have e := mClash_valid (sAll_mem h.all _ (sFind_mem h.ok).1).2 (sAll_mem h.all _ (sFind_mem h1).1).2
    rw [e] at h5 ⊢
    dsimp only at h5
    rw [h5]
theorem keepB {w0 W W' : World} (hb : Aside0 (Below W.heap.size W W')) (h : Aside0 (Below w0.heap.size w0 W)) : Aside0 (Below w0.heap.size w0 W') := ⟨below_tr h.out hb.out⟩
theorem pair_of {p : Bool × Int} (h : p.1 = false ∧ p.2 ≠ 0) : ∃ e, p = (false, e) ∧ (e != 0) = true ∧ (e == 0) = false :=
  ⟨p.2, Prod.ext h.1 rfl, by simp [h.2], by simp [h.2]⟩

set_option maxRecDepth 100000 in
set_option maxHeartbeats 8000000 in
theorem lawApart_calls (A : Option Addr) (c : Nat) (l : List S34) (a0 a1 b0 b1 : Int) (w : World) (hE : ErrT w) (hr : k34.C w A l.length l) (hc : l.length ≤ c) :
    Calls Tryd.prog 7 #[.slice A l.length c, .agg #[.int .i64 a0, .int .i64 a1], .agg #[.int .i64 b0, .int .i64 b1]] w fun e w' => e = .returned (.bool true) ∧ Below w.heap.size w w' := by
  have hb0 := ((Below.refl w.heap.size w).alloc (Nat.le_refl _) (.cells #[.int .i64 a0, .int .i64 a1] 24)).alloc (by simp) (.cells #[.int .i64 b0, .int .i64 b1] 24)
  have hx0 := blk_alloc (new_blk w (.cells #[.int .i64 a0, .int .i64 a1] 24)) (.cells #[.int .i64 b0, .int .i64 b1] 24)
  have hy0 := new_blk (w.alloc (.cells #[.int .i64 a0, .int .i64 a1] 24)) (.cells #[.int .i64 b0, .int .i64 b1] 24)
  rw [World.size_alloc] at hy0
  have HR := Aside0.mk hr; have HE := Aside0.mk hE; have HB0 := Aside0.mk hb0; have HX0 := Aside0.mk hx0; have HY0 := Aside0.mk hy0
  have h10 := Aside0.mk (sane_calls _ (hE.below hb0))
  have HC := Aside0.mk hc
  clear hr hE hb0 hx0 hy0 hc
  go_enter Tryd.func7, Tryd.ntmps7
  go_wp2_with fail
  refine h10.out.mono ?_
  rintro e w1 ⟨rfl, hb1⟩
  have HB1 := Aside0.mk (below_tr HB0.out hb1); have HX1 := Aside0.mk (blk_low hb1 HX0.out); have HY1 := Aside0.mk (blk_low hb1 HY0.out)
  clear hb1 h10 HX0 HY0
  have h11 := few_calls A c l none 0 0 w1 (Kd.C_below HR.out HB1.out)
  cases hf : sFew l 0 with
  | false =>
    rw [hf] at h11
    go_wp2_with fail
    refine h11.mono ?_
    rintro e w2 ⟨rfl, rfl⟩
    go_wp2
    go_ret
    exact ⟨rfl, HB1.out⟩
  | true =>
    rw [hf] at h11
    have HF := Aside0.mk hf
    by_cases hN : bCheck l a0 a1 = 0 ∧ bCheck l b0 b1 = 0
    · obtain ⟨hA, hB⟩ := hN
      have eX := bClash_valid hA hB
      have eY : bClash l b0 b1 a0 a1 = (mHit (bMeet l a0 a1).1 (bMeet l b0 b1).1 && ((sFind l a0).1.f2 == (sFind l b0).1.f2), 0) := by
        rw [bClash_valid hB hA, mHit_comm, ibeq_comm]
      have eS : bClash l a0 a1 a0 a1 = (decide (0 < (bMeet l a0 a1).1.length), 0) := by rw [bClash_valid hA hA, mHit_self (bMeet_valid hA).2]; simp
      have ha := bOk_of hA; have hb := bOk_of hB
      have hlp := bParts_le l a0 a1 (bMeet_hL (few_5 hf)); have hlq := bParts_le l b0 b1 (bMeet_hL (few_5 hf))
      have C1 := fun W hE hr => bclash_calls A c l a0 a1 b0 b1 W hE hr HC.out
      have C2 := fun W hE hr => bclash_calls A c l b0 b1 a0 a1 W hE hr HC.out
      have C3 := fun W hE hr => bclash_calls A c l a0 a1 a0 a1 W hE hr HC.out
      have C4 := fun W hE hr => bmeet_calls A c l a0 a1 W hE hr HC.out (bMeet_hL (few_5 hf))
      have C5 := fun W hE hr => bmeet_calls A c l b0 b1 W hE hr HC.out (bMeet_hL (few_5 hf))
      have C6 := fun W hr => find_calls A c l a0 W hr HC.out
      have C7 := fun W hr => find_calls A c l b0 W hr HC.out
      have C8 := fun W hr => find_calls A c l a1 W hr HC.out
      rw [eX] at C1; rw [eY] at C2; rw [eS] at C3
      obtain ⟨p, hp⟩ : ∃ p, bMeet l a0 a1 = (p, 0) := ⟨_, Prod.ext rfl (bMeet_valid hA).1⟩
      obtain ⟨q, hq⟩ : ∃ p, bMeet l b0 b1 = (p, 0) := ⟨_, Prod.ext rfl (bMeet_valid hB).1⟩
      obtain ⟨s, hs⟩ : ∃ s, sFind l a0 = (s, true) := ⟨_, Prod.ext rfl ha.ok⟩
      obtain ⟨t, ht⟩ : ∃ s, sFind l b0 = (s, true) := ⟨_, Prod.ext rfl hb.ok⟩
      have VP := (bMeet_valid hA).2; have VQ := (bMeet_valid hB).2; have LB := ha.labs
      rw [hp] at eX eY eS hlp C1 C2 C3 C4 VP; rw [hq] at eX eY hlq C1 C2 C5 VQ; rw [hs] at eX eY C1 C2 C6 LB; rw [ht] at eX eY C1 C2 C7
      dsimp only at eX eY eS C1 C2 C3 C4 C5 C6 C7 VP VQ LB hlp hlq
      obtain ⟨X, hX⟩ : ∃ X, (mHit p q && (s.f2 == t.f2)) = X := ⟨_, rfl⟩
      obtain ⟨S, hS⟩ : ∃ S, decide (0 < p.length) = S := ⟨_, rfl⟩
      rw [hX] at C1 C2; rw [hS] at C3
      have D1 := Aside0.mk C1; have D2 := Aside0.mk C2; have D3 := Aside0.mk C3; have D4 := Aside0.mk C4; have D5 := Aside0.mk C5; have D6 := Aside0.mk C6; have D7 := Aside0.mk C7; have D8 := Aside0.mk C8
      have HXX := Aside0.mk hX; have HSS := Aside0.mk hS; have HVP := Aside0.mk VP; have HVQ := Aside0.mk VQ; have HLB := Aside0.mk LB; have HLP := Aside0.mk hlp; have HLQ := Aside0.mk hlq
      clear hp hq hs ht eX eY eS C1 C2 C3 C4 C5 C6 C7 C8 ha hb hA hB VP VQ LB hX hS hlp hlq
      go_wp2_with fail
      refine h11.mono ?_
      rintro e w2 ⟨rfl, rfl⟩
      clear h11 hf
      have z0 := (blk_cell HX1.out 0).trans rfl; have z1 := (blk_cell HX1.out 1).trans rfl
      have y0 := (blk_cell HY1.out 0).trans rfl; have y1 := (blk_cell HY1.out 1).trans rfl
      go_wp2_with fail
      refine (D1.out _ (HE.out.below HB1.out) (Kd.C_below HR.out HB1.out)).mono ?_
      rintro e w3 ⟨rfl, hb3⟩
      have HB3 := Aside0.mk (below_tr HB1.out hb3); have HX3 := Aside0.mk (blk_low hb3 HX1.out); have HY3 := Aside0.mk (blk_low hb3 HY1.out)
      clear z0 z1 y0 y1 hb3 HX1 HY1 D1
      have z0 := (blk_cell HX3.out 0).trans rfl; have z1 := (blk_cell HX3.out 1).trans rfl
      have y0 := (blk_cell HY3.out 0).trans rfl; have y1 := (blk_cell HY3.out 1).trans rfl
      go_wp2_with fail
      refine (D2.out _ (HE.out.below HB3.out) (Kd.C_below HR.out HB3.out)).mono ?_
      rintro e w4 ⟨rfl, hb4⟩
      have HB4 := Aside0.mk (below_tr HB3.out hb4); have HX4 := Aside0.mk (blk_low hb4 HX3.out); have HY4 := Aside0.mk (blk_low hb4 HY3.out)
      clear z0 z1 y0 y1 hb4 D2 HX3 HY3
      have z0 := (blk_cell HX4.out 0).trans rfl; have z1 := (blk_cell HX4.out 1).trans rfl
      go_wp2_with fail
      refine (D3.out _ (HE.out.below HB4.out) (Kd.C_below HR.out HB4.out)).mono ?_
      rintro e w5 ⟨rfl, hb5⟩
      have HB5 := Aside0.mk (below_tr HB4.out hb5); have HX5 := Aside0.mk (blk_low hb5 HX4.out); have HY5 := Aside0.mk (blk_low hb5 HY4.out)
      clear z0 z1 hb5 D3 HX4 HY4
      have z0 := (blk_cell HX5.out 0).trans rfl; have z1 := (blk_cell HX5.out 1).trans rfl
      go_wp2_with fail
      refine (D4.out _ (HE.out.below HB5.out) (Kd.C_below HR.out HB5.out)).mono ?_
      rintro e w6 ⟨v6, rfl, hR6, hb6⟩
      obtain ⟨Ap, cp, rfl, hpc, hCp⟩ := Kd.R_reads hR6
      have HCp := Aside0.mk hCp; have HPC := Aside0.mk hpc
      have HB6 := Aside0.mk (below_tr HB5.out hb6); have HX6 := Aside0.mk (blk_low hb6 HX5.out); have HY6 := Aside0.mk (blk_low hb6 HY5.out)
      clear z0 z1 hb6 D4 HX5 HY5 hR6 hCp hpc
      have y0 := (blk_cell HY6.out 0).trans rfl; have y1 := (blk_cell HY6.out 1).trans rfl
      go_wp2_with fail
      refine (D5.out _ (HE.out.below HB6.out) (Kd.C_below HR.out HB6.out)).mono ?_
      rintro e w7 ⟨v7, rfl, hR7, hb7⟩
      obtain ⟨Aq, cq, rfl, hqc, hCq⟩ := Kd.R_reads hR7
      have HCq := Aside0.mk hCq; have HQC := Aside0.mk hqc; have HCp7 := Aside0.mk (Kd.C_below HCp.out hb7)
      have HB7 := Aside0.mk (below_tr HB6.out hb7); have HX7 := Aside0.mk (blk_low hb7 HX6.out); have HY7 := Aside0.mk (blk_low hb7 HY6.out)
      clear y0 y1 hb7 D5 HX6 HY6 hR7 hCq hqc HCp
      have z0 := (blk_cell HX7.out 0).trans rfl
      go_wp2_with fail
      refine (D6.out _ (Kd.C_below HR.out HB7.out)).mono ?_
      rintro e w8 ⟨cs, rfl, hK, hb8⟩
      obtain ⟨A5, c5, A6, c6, A7, c7, rfl, l5, g5, -⟩ := k34_open hK
      have G5 := Aside0.mk g5; have L5 := Aside0.mk l5
      have hbs := (Below.refl w8.heap.size w8).alloc (Nat.le_refl _) (.cells #[.int .i64 s.f0, .int .i64 s.f1, .int .i64 s.f2, .int .i64 s.f3, .int .i64 s.f4, .slice A5 s.f5.length c5, .slice A6 s.f6.length c6, .slice A7 s.f7.length c7, .bool s.f8] 34)
      have HN8 := Aside0.mk (new_blk w8 (.cells #[.int .i64 s.f0, .int .i64 s.f1, .int .i64 s.f2, .int .i64 s.f3, .int .i64 s.f4, .slice A5 s.f5.length c5, .slice A6 s.f6.length c6, .slice A7 s.f7.length c7, .bool s.f8] 34))
      have hbT := below_tr hb8 hbs
      have HBs := Aside0.mk hbs
      have HB8 := Aside0.mk (below_tr HB7.out hbT); have HX8 := Aside0.mk (blk_low hbT HX7.out); have HY8 := Aside0.mk (blk_low hbT HY7.out)
      have HCp8 := Aside0.mk (Kd.C_below HCp7.out hbT); have HCq8 := Aside0.mk (Kd.C_below HCq.out hbT)
      clear z0 hb8 D6 HX7 HY7 hK l5 g5 hbs hbT HCq HCp7
      have y0 := (blk_cell HY8.out 0).trans rfl
      go_wp2_with fail
      refine (D7.out _ (Kd.C_below HR.out HB8.out)).mono ?_
      rintro e w9 ⟨ct, rfl, hKt, hb9⟩
      obtain ⟨T5, d5, T6, d6, T7, d7, rfl, -⟩ := k34_open hKt
      have hbt := (Below.refl w9.heap.size w9).alloc (Nat.le_refl _) (.cells #[.int .i64 t.f0, .int .i64 t.f1, .int .i64 t.f2, .int .i64 t.f3, .int .i64 t.f4, .slice T5 t.f5.length d5, .slice T6 t.f6.length d6, .slice T7 t.f7.length d7, .bool t.f8] 34)
      have HT9 := Aside0.mk (new_blk w9 (.cells #[.int .i64 t.f0, .int .i64 t.f1, .int .i64 t.f2, .int .i64 t.f3, .int .i64 t.f4, .slice T5 t.f5.length d5, .slice T6 t.f6.length d6, .slice T7 t.f7.length d7, .bool t.f8] 34))
      have hbU := below_tr hb9 hbt
      have HN9 := Aside0.mk (blk_low hbU HN8.out)
      have HBs9 := Aside0.mk (below_tr HBs.out hbU)
      have HB9 := Aside0.mk (below_tr HB8.out hbU); have HX9 := Aside0.mk (blk_low hbU HX8.out)
      have HCp9 := Aside0.mk (Kd.C_below HCp8.out hbU); have HCq9 := Aside0.mk (Kd.C_below HCq8.out hbU)
      clear y0 hb9 D7 HX8 HY8 hKt hbt hbU HCq8 HCp8 HN8 HBs
      have e1 : (X != X) = false := by simp
      have e2 : (S == decide (0 < p.length)) = true := by rw [HSS.out]; simp
      go_wp2
      obtain ⟨W0, hW0⟩ : ∃ W0, w9.alloc (.cells #[.int .i64 t.f0, .int .i64 t.f1, .int .i64 t.f2, .int .i64 t.f3, .int .i64 t.f4, .slice T5 t.f5.length d5, .slice T6 t.f6.length d6, .slice T7 t.f7.length d7, .bool t.f8] 34) = W0 := ⟨_, rfl⟩
      rw [hW0] at HT9 HN9 HBs9 HB9 HX9 HCp9 HCq9
      rw [hW0]
      clear hW0 e1 e2
      have hmp := Kd.C_max HCp9.out; have hmq := Kd.C_max HCq9.out
      go_loopw [21, 22] (fun cl i wr => ∃ k : Nat, k ≤ p.length ∧ i = .int .i64 k ∧ cl = .bool (hitUp p q k 0) ∧ Aside0 (Below W0.heap.size W0 wr)) (fun _ i _ => p.length - (intOf i).toNat)
      case atStart => exact ⟨0, Nat.zero_le _, rfl, by rw [hitUp_zero], ⟨Below.refl _ _⟩⟩
      case round =>
        obtain ⟨k, hk, rfl, rfl, hB⟩ := hrel
        by_cases hlt : k < p.length
        · have hd : (k : Int) < p.length := by omega
          have hp0 : (0 : Int) ≤ k := by omega
          have HRW := Aside0.mk (hitUp_row p q k hlt)
          go_wp2
          go_loopw [21, 23] (fun cl i wr => ∃ n : Nat, n ≤ q.length ∧ i = .int .i64 n ∧ cl = .bool (hitUp p q k n) ∧ Aside0 (Below W0.heap.size W0 wr)) (fun _ i _ => q.length - (intOf i).toNat)
          case atStart => exact ⟨0, Nat.zero_le _, rfl, rfl, hB⟩
          case round =>
            obtain ⟨n, hn, rfl, rfl, hB2⟩ := hrel
            by_cases hql : n < q.length
            · have hd2 : (n : Int) < q.length := by omega
              have hq0 : (0 : Int) ≤ n := by omega
              have HSN := Aside0.mk (hitUp_snoc p q k n hlt hql)
              obtain ⟨P1, c1, hc1, hC1, hcut1⟩ := cut_one Ap cp p wr (Kd.C_below HCp9.out hB2.out) HPC.out k hlt
              obtain ⟨Q1, d1, hd1, hD1, hcut2⟩ := cut_one Aq cq q wr (Kd.C_below HCq9.out hB2.out) HQC.out n hql
              have hm1 : mValid (rd_T65 p k) = true := HVP.out _ (by rw [show rd_T65 p k = p[k] from by simp [rd_T65, List.getElem?_eq_getElem hlt]]; exact List.getElem_mem hlt)
              have hm2 : mValid (rd_T65 q n) = true := HVQ.out _ (by rw [show rd_T65 q n = q[n] from by simp [rd_T65, List.getElem?_eq_getElem hql]]; exact List.getElem_mem hql)
              have hcall : ∀ W, Below wr.heap.size wr W → Calls Tryd.prog 25 #[.slice P1 1 c1, .slice Q1 1 d1] W fun e w' => e = .returned (.tuple #[.bool (mOver (rd_T65 p k) (rd_T65 q n)), .int .i64 0]) ∧ Below W.heap.size W w' := fun W hW => by
                have := mclash_calls P1 c1 [rd_T65 p k] Q1 d1 [rd_T65 q n] W (Kd.C_below hC1 hW) hc1 (Kd.C_below hD1 hW) hd1
                rw [mClash_one hm1 hm2] at this
                exact this
              generalize mOver (rd_T65 p k) (rd_T65 q n) = o at hcall HSN
              have hS0 : Aside0 (Below wr.heap.size wr wr.drew) := ⟨below_drew (Below.refl wr.heap.size wr)⟩
              have j25 : Aside0 (∀ W, Aside0 (Below wr.heap.size wr W) → Calls Tryd.prog 25 #[.slice P1 1 c1, .slice Q1 1 d1] W fun e w' => e = .returned (.tuple #[.bool o, .int .i64 0]) ∧ Aside0 (Below W.heap.size W w')) := ⟨fun W h => (hcall W h.out).mono fun _ _ h => ⟨h.1, ⟨h.2⟩⟩⟩
              clear hm1 hm2 hC1 hD1 hcall hc1 hd1
              have hwk : IntKind.i64.wrap ((k : Int) + 1) = (k : Int) + 1 := IntWalk.i64_in _ (by omega)
              have hwn : IntKind.i64.wrap ((n : Int) + 1) = (n : Int) + 1 := IntWalk.i64_in _ (by omega)
              go_wp2_with fail
              go_region_held3 (fun W => Aside0 (Below wr.heap.size wr W))
                (first | with_reducible assumption | (apply keepB; with_reducible assumption; with_reducible assumption))
                (first | (go_at_call 25; with_reducible refine (j25.out _ ?_).mono ?_; with_reducible assumption; rintro e W' ⟨rfl, hb⟩))
              have HB3 := Aside0.mk (below_tr hB2.out (by assumption : Aside0 (Below wr.heap.size wr W')).out)
              clear hcut1 hcut2 hS0 j25
              go_wp2
              all_goals exact ⟨⟨n + 1, by omega, by go_num, by rw [HSN.out]; first | rfl | (simp [*]; done), HB3⟩, by simp [intOf]; omega⟩
            · have hd2 : ¬ (n : Int) < q.length := by omega
              obtain rfl : n = q.length := by omega
              go_wp2
              exact ⟨⟨k + 1, by omega, by go_num, by rw [HRW.out], hB2⟩, by simp [intOf]; omega⟩
        · have hd : ¬ (k : Int) < p.length := by omega
          obtain rfl : k = p.length := by omega
          rw [hitUp_all]
          have HBw := Aside0.mk (below_tr HB9.out hB.out)
          have hxa := blk_low hB.out HX9.out; have hxs := blk_low hB.out HN9.out; have hxt := blk_low hB.out HT9.out
          have z1 := (blk_cell hxa 1).trans rfl
          have s2 := (blk_cell hxs 2).trans rfl; have s5 := (blk_cell hxs 5).trans rfl
          have t2 := (blk_cell hxt 2).trans rfl
          have HXS := Aside0.mk hxs; have HXT := Aside0.mk hxt
          clear hxa hxs hxt
          have hx := HXX.out
          generalize mHit p q = H at hx ⊢
          have HX' := Aside0.mk hx; clear hx HXX
          rcases HLB.out with g1 | ⟨g1, x, g2, g3, g4⟩
          · have e1 : (a1 != -1) = false := by simp [g1]
            have e2 : (a1 == -1) = true := by simp [g1]
            clear g1
            cases H
            all_goals
              go_wp2
              go_ret
              exact ⟨ret_bool (by rw [← HX'.out]; simp), HBw.out⟩
          · have e1 : (a1 != -1) = true := by simp [g1]
            have e2 : (a1 == -1) = false := by simp [g1]
            rw [g2] at D8
            have D25 := Aside0.mk (fun C c X d W h1 h2 h3 h4 => mclash_calls C c s.f5 X d x.f5 W h1 h2 h3 h4)
            rw [g4] at D25
            have G3 := Aside0.mk g3
            clear g1 g2 g3 g4
            go_wp2_with fail
            refine (D8.out _ (Kd.C_below HR.out HBw.out)).mono ?_
            rintro e v1 ⟨cx, rfl, hKx, hb⟩
            obtain ⟨X5, x5, X6, x6, X7, x7, rfl, xl5, xg5, -⟩ := k34_open hKx
            rw [G3.out]
            have hbx := (Below.refl v1.heap.size v1).alloc (Nat.le_refl _) (.cells #[.int .i64 x.f0, .int .i64 x.f1, .int .i64 x.f2, .int .i64 x.f3, .int .i64 x.f4, .slice X5 x.f5.length x5, .slice X6 x.f6.length x6, .slice X7 x.f7.length x7, .bool true] 34)
            have hnx := new_blk v1 (.cells #[.int .i64 x.f0, .int .i64 x.f1, .int .i64 x.f2, .int .i64 x.f3, .int .i64 x.f4, .slice X5 x.f5.length x5, .slice X6 x.f6.length x6, .slice X7 x.f7.length x7, .bool true] 34)
            have hbV := below_tr hb hbx
            have HBv := Aside0.mk (below_tr HBw.out hbV)
            have HXSv := Aside0.mk (blk_low hbV HXS.out); have HXTv := Aside0.mk (blk_low hbV HXT.out); have HNX := Aside0.mk hnx
            have HCC := Aside0.mk (D25.out A5 c5 X5 x5 _ (Kd.C_below G5.out (below_tr HBs9.out (below_tr hB.out hbV))) L5.out (Kd.C_below xg5 hbx) xl5)
            clear z1 s2 s5 t2 hb hbx hnx hbV hKx xg5 HXS HXT D8 D25
            have s5 := (blk_cell HXSv.out 5).trans rfl
            have u5 := (blk_cell HNX.out 5).trans rfl
            go_wp2_with fail
            refine HCC.out.mono ?_
            rintro e v2 ⟨rfl, hb⟩
            have HBz := Aside0.mk (below_tr HBv.out hb)
            have u8 := (blk_cell (blk_low hb HNX.out) 8).trans rfl
            have s2 := (blk_cell (blk_low hb HXSv.out) 2).trans rfl; have t2 := (blk_cell (blk_low hb HXTv.out) 2).trans rfl
            clear s5 u5 hb HCC
            cases H
            all_goals
              go_wp2
              go_ret
              exact ⟨ret_bool (by rw [← HX'.out]; simp), HBz.out⟩
    · obtain ⟨e1, q1, p1, r1⟩ := pair_of (bClash_not hN)
      obtain ⟨e2, q2, p2, r2⟩ := pair_of (bClash_not (fun h => hN ⟨h.2, h.1⟩) : (bClash l b0 b1 a0 a1).1 = false ∧ (bClash l b0 b1 a0 a1).2 ≠ 0)
      have C1 := fun W hE hr => bclash_calls A c l a0 a1 b0 b1 W hE hr HC.out
      have C2 := fun W hE hr => bclash_calls A c l b0 b1 a0 a1 W hE hr HC.out
      rw [q1] at C1; rw [q2] at C2
      have D1 := Aside0.mk C1; have D2 := Aside0.mk C2
      clear q1 q2 hN C1 C2
      have HQ1 := Aside0.mk (And.intro p1 r1); have HQ2 := Aside0.mk (And.intro p2 r2)
      clear p1 r1 p2 r2
      go_wp2_with fail
      refine h11.mono ?_
      rintro e w2 ⟨rfl, rfl⟩
      clear h11 hf
      have z0 := (blk_cell HX1.out 0).trans rfl; have z1 := (blk_cell HX1.out 1).trans rfl
      have y0 := (blk_cell HY1.out 0).trans rfl; have y1 := (blk_cell HY1.out 1).trans rfl
      go_wp2_with fail
      refine (D1.out _ (HE.out.below HB1.out) (Kd.C_below HR.out HB1.out)).mono ?_
      rintro e w3 ⟨rfl, hb3⟩
      have HB3 := Aside0.mk (below_tr HB1.out hb3); have HX3 := Aside0.mk (blk_low hb3 HX1.out); have HY3 := Aside0.mk (blk_low hb3 HY1.out)
      clear z0 z1 y0 y1 hb3 HX1 HY1 D1
      have z0 := (blk_cell HX3.out 0).trans rfl; have z1 := (blk_cell HX3.out 1).trans rfl
      have y0 := (blk_cell HY3.out 0).trans rfl; have y1 := (blk_cell HY3.out 1).trans rfl
      go_wp2_with fail
      refine (D2.out _ (HE.out.below HB3.out) (Kd.C_below HR.out HB3.out)).mono ?_
      rintro e w4 ⟨rfl, hb4⟩
      have HB4 := Aside0.mk (below_tr HB3.out hb4)
      clear z0 z1 y0 y1 hb4 D2
      obtain ⟨p1, r1⟩ := HQ1.out
      obtain ⟨p2, r2⟩ := HQ2.out
      go_wp2
      go_ret
      exact ⟨rfl, HB4.out⟩
end Go.Proofs.YtbpgoddohhiohaaDoor
