/- average.Earned: the credits of the attempts that are passed. -/
import Derived.Test.YtdnmoppegncioaaGreatDoorKC
namespace Go.Proofs.YtdnmoppegncioaaGreatDoor
open Go.RowKit Go.Shelf Go.Proofs.YtdnmoppegncioaaGreatDoorW.PrintWords
set_option linter.unusedVariables false
set_option linter.unusedSimpArgs false
attribute [local go_sem] Oper.semAt_some yld_undef
def earnS (l : List S141) : Int := l.foldl (fun s a => if 0 < a.f2 then s + a.f4 else s) 0
theorem earnS_snoc (l : List S141) (x : S141) : earnS (l ++ [x]) = if 0 < x.f2 then earnS l + x.f4 else earnS l := by unfold earnS; rw [List.foldl_append]; rfl
def credS (l : List S141) : Int := l.foldl (fun s a => s + a.f4) 0
theorem credS_snoc (l : List S141) (x : S141) : credS (l ++ [x]) = credS l + x.f4 := by unfold credS; rw [List.foldl_append]; rfl
def pntS (l : List S141) : Int := l.foldl (fun s a => s + a.f2 * a.f4) 0
theorem pntS_snoc (l : List S141) (x : S141) : pntS (l ++ [x]) = pntS l + x.f2 * x.f4 := by unfold pntS; rw [List.foldl_append]; rfl
theorem inR_iff {n lo hi : Int} : inR n lo hi = true ↔ lo ≤ n ∧ n ≤ hi := by simp [inR]
theorem fitsA_iff {a : S141} (h : fitsA a = true) : (0 ≤ a.f0 ∧ a.f0 ≤ 4095) ∧ (0 ≤ a.f1 ∧ a.f1 ≤ 1023) ∧ (0 ≤ a.f2 ∧ a.f2 ≤ 12) ∧ (0 ≤ a.f3 ∧ a.f3 ≤ 6) ∧ (0 ≤ a.f4 ∧ a.f4 ≤ 60) := by
  simpa [fitsA, inR_iff] using h
theorem snocR {α : Type} {P : List α → Prop} (h0 : P []) (h1 : ∀ l x, P l → P (l ++ [x])) (l : List α) : P l := snoc_rec h0 h1 l
theorem mul_bd {a b : Int} (h0 : 0 ≤ a) (h1 : a ≤ 12) (h2 : 0 ≤ b) (h3 : b ≤ 60) : 0 ≤ a * b ∧ a * b ≤ 720 := by
  have e1 : a * b ≤ 12 * b := Int.mul_le_mul_of_nonneg_right h1 h2
  exact ⟨Int.mul_nonneg h0 h2, by omega⟩
theorem sums_bd (l : List S141) (h : ∀ a ∈ l, fitsA a = true) : (0 ≤ earnS l ∧ earnS l ≤ 60 * l.length) ∧ (0 ≤ credS l ∧ credS l ≤ 60 * l.length) ∧ (0 ≤ pntS l ∧ pntS l ≤ 12 * credS l) := by
  induction l using snocR with
  | h0 => exact ⟨⟨by decide, by decide⟩, ⟨by decide, by decide⟩, ⟨by decide, by decide⟩⟩
  | h1 l x ih =>
    have h1 := ih (fun a ha => h a (List.mem_append_left _ ha))
    have h2 := fitsA_iff (h x (List.mem_append_right _ (List.mem_singleton.2 rfl)))
    have e1 : x.f2 * x.f4 ≤ 12 * x.f4 := Int.mul_le_mul_of_nonneg_right h2.2.2.1.2 h2.2.2.2.2.1
    have h3 := mul_bd h2.2.2.1.1 h2.2.2.1.2 h2.2.2.2.2.1 h2.2.2.2.2.2
    rw [earnS_snoc, credS_snoc, pntS_snoc, List.length_append, List.length_singleton]
    generalize x.f2 * x.f4 = m at *
    split <;> omega
theorem aCheck_zero {l : List S141} (h : aCheck l = 0) : ∀ a ∈ l, fitsA a = true := fun a ha => by
  unfold aCheck at h
  cases hf : fitsA a with
  | true => rfl
  | false => rw [if_pos (List.any_eq_true.2 ⟨a, ha, by rw [hf]; rfl⟩)] at h; cases h
theorem aCheck_or (l : List S141) : aCheck l = 0 ∨ aCheck l = 150 := by unfold aCheck; split <;> simp
theorem attOk_all (pre : List AttOk) : ∀ a ∈ vals pre, fitsA a = true := fun a ha => by
  unfold vals at ha
  obtain ⟨x, _, rfl⟩ := List.mem_map.1 ha
  exact x.2
/-- average.Earned's answers. -/
def earnN (l : List S141) : Int := if aCheck l = 0 then earnS l else 0
set_option maxRecDepth 100000 in
set_option maxHeartbeats 8000000 in
theorem earned_calls (A : Option Addr) (c : Nat) (l : List S141) (w : World) (hr : k141.C w A l.length l) (hl : l.length ≤ 10000000000000000) :
    Calls Tryz.prog 46 #[.slice A l.length c] w fun e w' => e = .returned (.tuple #[.int .i64 (earnN l), .int .i64 (aCheck l)]) ∧ Below w.heap.size w w' := by
  obtain ⟨W1, h1⟩ : ∃ W1, W1 = w.alloc (.cells #[.int .i64 0] 3) := ⟨_, rfl⟩
  have p1 := nb (W := w) rfl (.cells #[.int .i64 0] 3); rw [← h1] at p1
  have hB1 : Below w.heap.size w W1 := by rw [h1]; exact (Below.refl _ w).alloc (Nat.le_refl _) _
  have hcall := (callsIn_wide (n := 9 - 1)).2 (acheck_calls A c l W1 (Kd.C_below hr hB1))
  have HR := Aside0.mk hr; have HX1 := Aside0.mk p1.1; have HB1 := Aside0.mk hB1; clear hr p1 hB1
  refine (callsIn_wide (n := 9)).1 (callsIn_of_wp_marks Tryz.func46 rfl trivial ?_ rfl)
  simp only [Tryz.ntmps46, List.size_toArray, List.length_cons, List.length_nil, Nat.reduceAdd, Nat.reduceSub, Array.replicate_succ, Array.replicate_zero, List.push_toArray, List.append_toArray, List.nil_append, List.cons_append]
  gi_wp2_with fail
  rw [← h1]
  refine ⟨trivial, ?_⟩
  refine hcall.mono ?_
  rintro e w2 ⟨rfl, hb2⟩
  have HX2 := Aside0.mk (blk_low hb2 HX1.out); have HB2 := Aside0.mk (below_tr HB1.out hb2)
  clear hb2 hcall h1
  rcases aCheck_or l with hc | hc
  · have HALL := Aside0.mk (aCheck_zero hc)
    have HN := Aside0.mk (show earnN l = earnS l by unfold earnN; rw [if_pos hc])
    have HC := Aside0.mk hc
    rw [hc]
    clear hc
    gi_wp2_with fail
    refine ⟨trivial, ?_⟩
    refine ((callsIn_wide (n := 9 - 1)).2 (weights_calls A l.length c _)).mono ?_
    rintro e w3 ⟨rfl, rfl⟩
    gi_wp2_with fail
    obtain ⟨W0, h0⟩ : ∃ W0, W0 = w2.alloc (.cells #[.slice A l.length c] 86) := ⟨_, rfl⟩
    have hB0 : Below w.heap.size w W0 := by rw [h0]; exact HB2.out.alloc HB2.out.size _
    have hX0 : W0.heap[w.heap.size]? = some (.cells #[.int .i64 0] 3 (0, 0)) := by rw [h0]; exact blk_alloc HX2.out _
    have hL0 : W0.heap[w2.heap.size]? = some (.cells #[.slice A l.length c] 86 (0, 0)) := by rw [h0]; exact new_blk _ _
    rw [← h0]
    clear h0
    refine wpIn_rangeFunc_ownH (F := Fence.wide) rfl (by omega) (gf := 80) (lb := #[.pointer (some ⟨w2.heap.size, 0, none⟩)]) rfl trivial (enters_of Tryz.func80 (by kernel_rfl) rfl)
      (weights_stops (9 - 1) (by omega) w2.heap.size A c l HALL.out w W0 hB0 hL0 HR.out) belowK_t (belowK_b hB0.size) (Below.refl _ _) (fun _ => rfl)
      (fun pre W => W.heap[w.heap.size]? = some (.cells #[.int .i64 (earnS (vals pre))] 3 (0, 0)) ∧ Below w.heap.size w W)
      (fun cd pre W => False)
      (OwnFrom.and (ownFrom_blk _) (ownFrom_below (Nat.le_refl _) hB0.size))
      (fun cd => ownFrom_pure _ _)
      ⟨hX0, hB0⟩
      (fun x a' W => a' = { tmps := #[.slice A l.length c, undef, .pointer (some ⟨w.heap.size, 0, none⟩), .int .i64 0, .int .i64 x.1.f2, .int .i64 x.1.f4, .slice A l.length c, .int .i64 0, .int .i64 0, .bool false, undef, .slice A l.length c, .func (.func 80) #[] #[.pointer (some ⟨w2.heap.size, 0, none⟩)], .int .i64 x.1.f2, .int .i64 x.1.f4, undef, undef, undef, undef, undef, undef], defers := [] })
      (fun x a' => ownFrom_pure _ _) ?assign ?body ?done ?stop
    case assign =>
      rintro lp pre x W K ⟨h1, hb⟩ hK2
      gi_wp2
      exact hK2 _ _ (keepsFrom_below (Below.refl _ _)) (Below.refl _ _) ⟨h1, hb⟩ rfl
    case body =>
      rintro lp pre x a' W hlp ⟨r, hr2⟩ ⟨h1, hb⟩ rfl hlen
      have HS := Aside0.mk (earnS_snoc (vals pre) x.1)
      have hbd := (sums_bd _ (attOk_all pre)).1
      have hfx := (fitsA_iff x.2).2.2.2.2
      have HM := Aside0.mk (vals_snoc pre x)
      rw [vals_len] at hbd
      generalize earnS (vals pre) = s at h1 HS hbd
      have c0 := (blk_cell h1 0).trans rfl
      have f0 := blk_frozen h1 0
      have H1 := Aside0.mk h1; have HB := Aside0.mk hb
      obtain ⟨⟨x0, x1, x2, x3, x4⟩, hx⟩ := x
      dsimp only at *
      clear h1 hb
      have hw : IntKind.i64.wrap (s + x4) = s + x4 := wrap_i64 _ (by omega) (by omega)
      cases hq : decide (0 < x2) with
      | false =>
        have HE := Aside0.mk (show earnS ((vals pre) ++ [⟨x0, x1, x2, x3, x4⟩]) = s by rw [HS.out, if_neg (of_decide_eq_false hq)])
        gi_wp2
        exact ⟨keepsFrom_below (Below.refl _ _), Below.refl _ _, by rw [HM.out, HE.out]; exact H1.out, HB.out⟩
      | true =>
        have HE := Aside0.mk (show earnS ((vals pre) ++ [⟨x0, x1, x2, x3, x4⟩]) = s + x4 by rw [HS.out, if_pos (of_decide_eq_true hq)])
        gi_wp2
        exact ⟨keepsFrom_set (keepsFrom_below (Below.refl _ _)) _ _, (Below.refl w.heap.size W).setCell (p := ⟨w.heap.size, 0, none⟩) (Nat.le_refl _) _, by rw [HM.out, HE.out]; exact blk_put H1.out 0 _ rfl, HB.out.setCell (p := ⟨w.heap.size, 0, none⟩) (Nat.le_refl _) _⟩
    case done =>
      rintro D ys W hD hys ⟨h1, hb⟩ hK
      rw [hys] at h1
      have hn := HN.out
      generalize earnS l = s at h1 hn
      have HN := Aside0.mk hn; clear hn
      have c0 := (blk_cell h1 0).trans rfl
      have f0 := blk_frozen h1 0
      have H1 := Aside0.mk h1; have HB := Aside0.mk hb; have HK := Aside0.mk hK
      clear h1 hb hK hys hX0 hL0
      gi_wp2
      have hK' := (KeepsOthers.setCell W ⟨w.heap.size, 0, none⟩ (.int .i64 s)).same D _ HK.out rfl
      refine ⟨by simp, .inl ⟨_, _, rfl, run_takeDeferred hK', ?_⟩⟩
      have hb2 := blk_put H1.out 0 (.int .i64 s) rfl
      have hc5 := cell_kept ((blk_cell hb2 0).trans rfl) (grownBy_putObj' _ D (.deferred none)) (fun r e => by cases e; exact ⟨_, hK', rfl⟩)
      exact ⟨.tuple #[.int .i64 s, .int .i64 0], by simp [results, Tryz.f46, go_sem, hc5], by rw [HN.out, HC.out], (HB.out.setCell (p := ⟨w.heap.size, 0, none⟩) (Nat.le_refl _) _).trans (belowK_b (w := w) (Nat.le_refl _) _ D _ _ (Nat.le_trans hB0.size hD) hK' rfl rfl)⟩
    case stop => rintro D cd pre W hD hpre h hK; exact h.elim
  · have HN := Aside0.mk (show earnN l = 0 by unfold earnN; rw [if_neg (by rw [hc]; decide)])
    have HC := Aside0.mk hc
    rw [hc]
    clear hc
    have c0 := (blk_cell HX2.out 0).trans rfl
    have f0 := blk_frozen HX2.out 0
    gi_wp2
    have hb2 := blk_put HX2.out 0 (.int .i64 0) rfl
    have hc5 := (blk_cell hb2 0).trans rfl
    exact ⟨.tuple #[.int .i64 0, .int .i64 150], by simp [results, Tryz.f46, go_sem, hc5], by rw [HN.out, HC.out], HB2.out.setCell (p := ⟨w.heap.size, 0, none⟩) (Nat.le_refl _) _⟩
end Go.Proofs.YtdnmoppegncioaaGreatDoor
