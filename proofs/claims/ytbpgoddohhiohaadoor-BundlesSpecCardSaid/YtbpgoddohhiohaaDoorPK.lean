/- Plain laws on bundles: Of at the seats of valid bundles; the sort of an ordered list. -/
import Derived.Test.YtbpgoddohhiohaaDoorPB
import Derived.Test.YtbpgoddohhiohaaDoorBO
import Derived.Sort.LotA
namespace Go.Proofs.YtbpgoddohhiohaaDoor
open Go.RowKit Go.Sort Go.Proofs.YtbpgoddohhiohaaDoorW.PrintWords
set_option linter.unusedVariables false
set_option linter.unusedSimpArgs false
theorem cfB_lt (a b : S24) : ltOf cfB a b = decide (a.f0 < b.f0) := by
  unfold ltOf cfB cmpI
  by_cases h : a.f0 < b.f0
  · simp [h]
  · simp only [h, if_false, decide_false]
    split <;> simp
theorem swoB : SWO (ltOf cfB) where
  irrefl x := by rw [cfB_lt]; simp
  trans x y z h1 h2 := by rw [cfB_lt, decide_eq_true_eq] at *; omega
  ntrans x y z h1 h2 := by rw [cfB_lt, decide_eq_false_iff_not] at *; omega
theorem strict_eq : ∀ (X Y : List S24), X.Perm Y → X.Pairwise (fun a b => a.f0 ≤ b.f0) → Y.Pairwise (fun a b => a.f0 < b.f0) → X = Y
  | [], Y, hp, _, _ => (List.nil_perm.1 hp).symm ▸ rfl
  | x :: X, [], hp, _, _ => by have := hp.length_eq; simp at this
  | x :: X, y :: Y, hp, hX, hY => by
    obtain ⟨hx, hX2⟩ := List.pairwise_cons.1 hX
    obtain ⟨hy, hY2⟩ := List.pairwise_cons.1 hY
    have e : x = y := by
      have h1 : x ∈ y :: Y := hp.subset (by simp)
      have h2 : y ∈ x :: X := hp.symm.subset (by simp)
      rcases List.mem_cons.1 h1 with h1 | h1
      · exact h1
      · rcases List.mem_cons.1 h2 with h2 | h2
        · exact h2.symm
        · have a := hy x h1
          have b := hx y h2
          omega
    subst e
    rw [strict_eq X Y ((List.perm_cons x).1 hp) hX2 hY2]
theorem sortB_eq {X Y : List S24} (hp : X.Perm Y) (hY : Y.Pairwise (fun a b => a.f0 < b.f0)) : sortB X = Y := by
  obtain ⟨h1, h2⟩ := insertionSort_holds (lt := ltOf cfB) swoB X.toArray 0 X.toArray.size (Nat.zero_le _) (Nat.le_refl _)
  unfold sortB
  generalize insertionSort (ltOf cfB) X.toArray 0 X.toArray.size = Z at h1 h2
  obtain ⟨hs, -, hperm⟩ := h1
  have e1 : (Z.extract 0 X.toArray.size) = Z := by rw [← hs]; simp
  rw [e1] at hperm
  have e2 : (X.toArray.extract 0 X.toArray.size).toList = X := by simp
  rw [e2] at hperm
  refine strict_eq _ _ (hperm.trans hp) ?_ hY
  rw [List.pairwise_iff_getElem]
  intro i j hi hj hij
  have hjs : j < Z.size := by simpa using hj
  have h := h2 i j (Nat.zero_le _) hij (by rw [← hs]; exact hjs)
  rw [cfB_lt, decide_eq_false_iff_not, getElem!_pos Z i (by omega), getElem!_pos Z j hjs] at h
  simp only [Array.getElem_toList]
  omega
theorem strict_ext {X Y : List S24} (hX : X.Pairwise (fun a b => a.f0 < b.f0)) (hY : Y.Pairwise (fun a b => a.f0 < b.f0)) (h : ∀ b, b ∈ X ↔ b ∈ Y) : X = Y := by
  have nd : ∀ {Z : List S24}, Z.Pairwise (fun a b => a.f0 < b.f0) → Z.Nodup := fun hz => hz.imp (fun hab he => by rw [he] at hab; omega)
  classical
  refine strict_eq _ _ ?_ (hX.imp (fun h => by omega)) hY
  induction X generalizing Y with
  | nil =>
    cases Y with
    | nil => exact .refl _
    | cons y Y => exact absurd ((h y).2 (by simp)) (by simp)
  | cons x X ih =>
    have hm : x ∈ Y := (h x).1 (by simp)
    have hp := List.perm_cons_erase hm
    refine (List.Perm.cons x (ih (List.pairwise_cons.1 hX).2 (hY.sublist List.erase_sublist) fun b => ?_)).trans hp.symm
    have hxn := (List.nodup_cons.1 (nd hX)).1
    rw [(nd hY).mem_erase_iff, ← h b, List.mem_cons]
    constructor
    · intro hb; exact ⟨fun e => hxn (e ▸ hb), .inr hb⟩
    · rintro ⟨h1, h2 | h2⟩
      · exact absurd h2 h1
      · exact h2
/-! Sections whose IDs rise. -/
theorem sOrd_up {lab : Int → Option S34} : ∀ {l : List S34} {last : Int}, sOrd lab l last = true → (∀ s ∈ l, last < s.f0) ∧ l.Pairwise (fun a b => a.f0 < b.f0)
  | [], _, _ => ⟨by simp, .nil⟩
  | s :: r, last, h => by
    rw [sOrd_cons] at h
    simp only [Bool.and_eq_true, Bool.not_eq_true', Bool.or_eq_false_iff, decide_eq_false_iff_not] at h
    obtain ⟨⟨h1, -⟩, h2⟩ := h
    obtain ⟨h3, h4⟩ := sOrd_up h2
    refine ⟨fun x hx => ?_, List.pairwise_cons.2 ⟨h3, h4⟩⟩
    rcases List.mem_cons.1 hx with rfl | hx
    · omega
    · have := h3 x hx; omega
theorem sAll_up {l : List S34} (h : sAll l = 0) : l.Pairwise (fun a b => a.f0 < b.f0) := by
  have he := sAll_err h
  unfold sAll at h
  rw [if_neg (by simp [he])] at h
  split at h
  · rename_i h1; exact (sOrd_up h1).2
  · cases h
theorem up_uniq {l : List S34} (h : l.Pairwise (fun a b => a.f0 < b.f0)) {i j : Nat} (hi : i < l.length) (hj : j < l.length) (he : l[i].f0 = l[j].f0) : i = j := by
  rcases Nat.lt_trichotomy i j with h1 | h1 | h1
  · have := List.pairwise_iff_getElem.1 h i j hi hj h1; omega
  · exact h1
  · have := List.pairwise_iff_getElem.1 h j i hj hi h1; omega
theorem sFind_of {l : List S34} (h : l.Pairwise (fun a b => a.f0 < b.f0)) {s : S34} (hs : s ∈ l) : sFind l s.f0 = (s, true) := by
  have hok : (sFind l s.f0).2 = true := by
    unfold sFind
    rw [if_pos (List.any_eq_true.2 ⟨s, hs, by simp⟩)]
  obtain ⟨h1, h2⟩ := sFind_mem hok
  obtain ⟨i, hi, e1⟩ := List.mem_iff_getElem.1 h1
  obtain ⟨j, hj, e2⟩ := List.mem_iff_getElem.1 hs
  have := up_uniq h hi hj (by rw [e1, e2]; exact h2)
  subst this
  exact Prod.ext (e1.symm.trans e2) hok
theorem oSel_iff {l : List S34} (h : l.Pairwise (fun a b => a.f0 < b.f0)) {taken : List S47} {st term : Int} {i : Nat} (hi : i < l.length) : oSel l taken st term i = true ↔ l[i].f2 = term ∧ l[i].f8 = false ∧ owns taken st l[i].f0 = true := by
  have e : rd_T34 l i = l[i] := by simp [rd_T34, List.getElem?_eq_getElem hi]
  unfold oSel
  rw [e]
  have hf : ((l.take i).any fun s => s.f0 == l[i].f0) = false := by
    rw [Bool.eq_false_iff]
    intro ha
    obtain ⟨s, hs, hq⟩ := List.any_eq_true.1 ha
    obtain ⟨j, hj, rfl⟩ := List.mem_iff_getElem.1 hs
    simp only [List.length_take] at hj
    rw [List.getElem_take] at hq
    have := up_uniq h (show j < l.length by omega) hi (by simpa using hq)
    omega
  rw [hf]
  simp
theorem oUpto_mem {l : List S34} {taken : List S47} {st term : Int} {k : Nat} {b : S24} : b ∈ oUpto l taken st term k ↔ ∃ i, i < k ∧ oSel l taken st term i = true ∧ b = oBun taken st (rd_T34 l i) := by
  unfold oUpto
  rw [List.mem_filterMap]
  constructor
  · rintro ⟨i, hi, h⟩
    unfold oOne at h
    split at h
    · injection h with h; exact ⟨i, List.mem_range.1 hi, by assumption, h.symm⟩
    · cases h
  · rintro ⟨i, hi, hs, rfl⟩
    exact ⟨i, List.mem_range.2 hi, by unfold oOne; rw [if_pos hs]⟩
theorem oUpto_up {l : List S34} (h : l.Pairwise (fun a b => a.f0 < b.f0)) (taken : List S47) (st term : Int) : ∀ k, k ≤ l.length → (oUpto l taken st term k).Pairwise (fun a b => a.f0 < b.f0)
  | 0, _ => by simp [oUpto]
  | k + 1, hk => by
    rw [oUpto_succ]
    have ih := oUpto_up h taken st term k (by omega)
    split
    · rw [List.pairwise_append]
      refine ⟨ih, by simp, fun a ha b hb => ?_⟩
      obtain ⟨i, hi, -, rfl⟩ := oUpto_mem.1 ha
      rw [List.mem_singleton.1 hb]
      show (rd_T34 l i).f0 < (rd_T34 l k).f0
      rw [show rd_T34 l i = l[i] from by simp [rd_T34, List.getElem?_eq_getElem (show i < l.length by omega)], show rd_T34 l k = l[k] from by simp [rd_T34, List.getElem?_eq_getElem (show k < l.length by omega)]]
      exact List.pairwise_iff_getElem.1 h i k (by omega) (by omega) hi
    · exact ih
/-- The IDs of bundles. -/
def metX (x : List S24) (n : Int) : Bool := x.any fun e => n == e.f0 || n == e.f1
structure BackOk (l : List S34) (x : List S24) (T : Int) : Prop where
  ok : ∀ e ∈ x, bCheck l e.f0 e.f1 = 0
  term : ∀ e ∈ x, (sFind l e.f0).1.f2 = T
  up : x.Pairwise (fun a b => a.f0 < b.f0)
  lone : ∀ e ∈ x, ∀ n ∈ (sFind l e.f0).1.f7, n ≠ e.f1 → metX x n = false
theorem BackOk.own {l : List S34} {x : List S24} {T : Int} (h : BackOk l x T) (hl : sAll l = 0) {taken : List S47} {st : Int} (ho : ∀ n, owns taken st n = (n != -1 && metX x n)) {s : S34} (hs : s ∈ l) (h8 : s.f8 = false) (hw : owns taken st s.f0 = true) : ∃ e ∈ x, e.f0 = s.f0 := by
  rw [ho] at hw
  simp only [Bool.and_eq_true, bne_iff_ne, metX, List.any_eq_true, Bool.or_eq_true, beq_iff_eq] at hw
  obtain ⟨hn, e, he, h1 | h1⟩ := hw
  · exact ⟨e, he, h1.symm⟩
  · rcases (bOk_of (h.ok e he)).labs' with h2 | ⟨-, h2⟩
    · exact absurd (h1.trans h2) hn
    · rw [← h1, sFind_of (sAll_up hl) hs] at h2
      rw [h8] at h2; cases h2
theorem BackOk.bun {l : List S34} {x : List S24} {T : Int} (h : BackOk l x T) (hl : sAll l = 0) {taken : List S47} {st : Int} (ho : ∀ n, owns taken st n = (n != -1 && metX x n)) {e : S24} (he : e ∈ x) : oBun taken st (sFind l e.f0).1 = e := by
  have hb := bOk_of (h.ok e he)
  have hid := (sFind_mem hb.ok).2
  unfold oBun
  rw [hid]
  have hone : ∀ n ∈ (sFind l e.f0).1.f7, owns taken st n = true → n = e.f1 := fun n hn hw => by
    by_cases hne : n = e.f1
    · exact hne
    · rw [ho, h.lone e he n hn hne] at hw
      simp at hw
  rcases hb.lab with ⟨h1, h2⟩ | ⟨h1, h2, h3, -, -⟩
  · rw [h2]
    show (⟨e.f0, -1⟩ : S24) = e
    rw [← h1]
  · have hne := find_id hl h1
    have hany : (sFind l e.f0).1.f7.any (owns taken st) = true := by
      refine List.any_eq_true.2 ⟨e.f1, h2, ?_⟩
      rw [ho]
      simp only [Bool.and_eq_true, bne_iff_ne, metX, List.any_eq_true, Bool.or_eq_true, beq_iff_eq]
      exact ⟨hne, e, he, .inr rfl⟩
    rw [if_pos hany]
    have hlt := List.findIdx_lt_length_of_exists (p := owns taken st) (xs := (sFind l e.f0).1.f7) (by obtain ⟨n, hn, hp⟩ := List.any_eq_true.1 hany; exact ⟨n, hn, hp⟩)
    have he1 : rdOf 0 (sFind l e.f0).1.f7 (fIdx (owns taken st) (sFind l e.f0).1.f7) = (sFind l e.f0).1.f7[(sFind l e.f0).1.f7.findIdx (owns taken st)] := by
      unfold fIdx
      rw [if_pos hany]
      simp [rdOf, List.getElem?_eq_getElem hlt]
    rw [he1, hone _ (List.getElem_mem hlt) (List.findIdx_getElem (w := hlt))]
theorem BackOk.of {l : List S34} {x : List S24} {T : Int} (h : BackOk l x T) (hl : sAll l = 0) {taken : List S47} {st : Int} (ho : ∀ n, owns taken st n = (n != -1 && metX x n)) : bOf l taken st T = x ∧ bOf l taken st (T + 1) = [] := by
  have hup := sAll_up hl
  have hrd : ∀ i (hi : i < l.length), rd_T34 l i = l[i] := fun i hi => by simp [rd_T34, List.getElem?_eq_getElem hi]
  constructor
  · unfold bOf
    have hx := oUpto_up hup taken st T l.length (Nat.le_refl _)
    have e : oUpto l taken st T l.length = x := by
      refine strict_ext hx h.up fun b => ?_
      rw [oUpto_mem]
      constructor
      · rintro ⟨i, hi, hs, rfl⟩
        rw [oSel_iff hup hi] at hs
        rw [hrd i hi]
        obtain ⟨e, he, hq⟩ := h.own hl ho (List.getElem_mem hi) hs.2.1 hs.2.2
        have hf := sFind_of hup (List.getElem_mem hi)
        rw [← hq] at hf
        have := h.bun hl ho he
        rw [hf] at this
        rw [this]; exact he
      · intro hb
        have hbo := bOk_of (h.ok b hb)
        obtain ⟨hm, hid⟩ := sFind_mem hbo.ok
        obtain ⟨i, hi, hq⟩ := List.mem_iff_getElem.1 hm
        refine ⟨i, hi, ?_, ?_⟩
        · rw [oSel_iff hup hi, hq]
          refine ⟨h.term b hb, hbo.lec, ?_⟩
          rw [hid, ho]
          simp only [Bool.and_eq_true, bne_iff_ne, metX, List.any_eq_true, Bool.or_eq_true, beq_iff_eq]
          exact ⟨find_id hl hbo.ok, b, hb, .inl rfl⟩
        · rw [hrd i hi, hq]; exact (h.bun hl ho hb).symm
    rw [e]
    exact sortB_eq (.refl _) h.up
  · unfold bOf
    have e : oUpto l taken st (T + 1) l.length = [] := by
      rw [List.eq_nil_iff_forall_not_mem]
      intro b hb
      obtain ⟨i, hi, hs, -⟩ := oUpto_mem.1 hb
      rw [oSel_iff hup hi] at hs
      obtain ⟨e, he, hq⟩ := h.own hl ho (List.getElem_mem hi) hs.2.1 hs.2.2
      have hf := sFind_of hup (List.getElem_mem hi)
      rw [← hq] at hf
      have := h.term e he
      rw [hf] at this
      dsimp only at this
      omega
    rw [e]
    exact List.eq_nil_of_length_eq_zero (sortB_len [])
end Go.Proofs.YtbpgoddohhiohaaDoor
