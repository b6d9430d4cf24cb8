/- Plain laws on bundles: what a valid bundle is, Clash and Meetings of valid bundles. -/
import Derived.Test.YtbpgoddohhiohaaDoorBK
import Derived.Test.YtbpgoddohhiohaaDoorPL
namespace Go.Proofs.YtbpgoddohhiohaaDoor
open Go.RowKit Go.Proofs.YtbpgoddohhiohaaDoorW.PrintWords
set_option linter.unusedVariables false
set_option linter.unusedSimpArgs false
theorem mOver_comm (a b : S65) : mOver a b = mOver b a := by
  rw [Bool.eq_iff_iff]
  simp only [mOver, Bool.and_eq_true, decide_eq_true_eq]
  constructor
  · rintro ⟨h1, h2, h3⟩; exact ⟨h1.symm, by omega, by omega⟩
  · rintro ⟨h1, h2, h3⟩; exact ⟨h1.symm, by omega, by omega⟩
theorem mOver_self {m : S65} (h : mValid m = true) : mOver m m = true := by
  simp only [mValid, Bool.and_eq_true, decide_eq_true_eq] at h
  simp only [mOver, Bool.and_eq_true, decide_eq_true_eq]
  exact ⟨trivial, by omega, by omega⟩
theorem mCheck_all {l : List S65} (h : mCheck l = 0) : ∀ m ∈ l, mValid m = true := by
  unfold mCheck at h
  split at h
  · cases h
  · split at h
    · cases h
    · rename_i h2
      intro m hm
      cases hv : l.all mValid with
      | true => exact List.all_eq_true.1 hv m hm
      | false => exact absurd hv h2
theorem mCheck_one {m : S65} (h : mValid m = true) : mCheck [m] = 0 := by
  unfold mCheck
  rw [if_neg (by simp), if_neg (by simp [h]), if_neg]
  simp [prsUp]
theorem mClash_one {m n : S65} (hm : mValid m = true) (hn : mValid n = true) : mClash [m] [n] = (mOver m n, 0) := by
  unfold mClash
  rw [mCheck_one hm, mCheck_one hn, if_neg (by simp), if_neg (by simp)]
  simp [mHit]
theorem mClash_valid {a b : List S65} (ha : mCheck a = 0) (hb : mCheck b = 0) : mClash a b = (mHit a b, 0) := by
  unfold mClash
  rw [ha, hb, if_neg (by simp), if_neg (by simp)]
theorem mHit_comm (a b : List S65) : mHit a b = mHit b a := by
  rw [Bool.eq_iff_iff]
  unfold mHit
  simp only [List.any_eq_true]
  constructor
  · rintro ⟨x, hx, y, hy, h⟩; exact ⟨y, hy, x, hx, by rw [mOver_comm]; exact h⟩
  · rintro ⟨x, hx, y, hy, h⟩; exact ⟨y, hy, x, hx, by rw [mOver_comm]; exact h⟩
theorem mHit_self {p : List S65} (h : ∀ m ∈ p, mValid m = true) : mHit p p = decide (0 < p.length) := by
  cases p with
  | nil => rfl
  | cons m r =>
    have h1 := mOver_self (h m (by simp))
    simp [mHit, h1]
theorem sErr_all {l : List S34} (h : sErr l = 0) : ∀ s ∈ l, sCheck s = 0 := by
  induction l with
  | nil => intro s hs; cases hs
  | cons a r ih =>
    rw [sErr_cons] at h
    by_cases ha : sCheck a = 0
    · rw [if_neg (by simp [ha])] at h
      intro s hs
      rcases List.mem_cons.1 hs with rfl | h1
      · exact ha
      · exact ih h s h1
    · rw [if_pos ha] at h; exact absurd h ha
theorem sAll_err {l : List S34} (h : sAll l = 0) : sErr l = 0 := by
  unfold sAll at h
  by_cases h1 : sErr l = 0
  · exact h1
  · rw [if_pos h1] at h; exact h
theorem sAll_mem {l : List S34} (h : sAll l = 0) : ∀ s ∈ l, sForm s = true ∧ mCheck s.f5 = 0 := fun s hs => by
  have h2 := sErr_all (sAll_err h) s hs
  unfold sCheck at h2
  cases hf : sForm s with
  | true => rw [hf, if_neg (by simp)] at h2; exact ⟨rfl, h2⟩
  | false => rw [hf, if_pos rfl] at h2; cases h2
theorem sFind_mem {l : List S34} {id : Int} (h : (sFind l id).2 = true) : (sFind l id).1 ∈ l ∧ (sFind l id).1.f0 = id := by
  unfold sFind at h ⊢
  cases hany : l.any (fun s => s.f0 == id) with
  | false => rw [hany] at h; simp at h
  | true =>
    rw [if_pos rfl]
    have hlt := List.findIdx_lt_length_of_exists (p := fun s : S34 => s.f0 == id) (xs := l) (by obtain ⟨x, hx, hp⟩ := List.any_eq_true.1 hany; exact ⟨x, hx, hp⟩)
    have he : rd_T34 l (fIdx (fun s => s.f0 == id) l) = l[l.findIdx (fun s => s.f0 == id)] := by
      unfold fIdx
      rw [if_pos hany]
      simp [rd_T34, List.getElem?_eq_getElem hlt]
    show rd_T34 l (fIdx (fun s => s.f0 == id) l) ∈ l ∧ (rd_T34 l (fIdx (fun s => s.f0 == id) l)).f0 = id
    rw [he]
    refine ⟨List.getElem_mem hlt, ?_⟩
    have := List.findIdx_getElem (p := fun s : S34 => s.f0 == id) (xs := l) (w := hlt)
    simpa using this
theorem sForm_id {s : S34} (h : sForm s = true) : 0 ≤ s.f0 := by
  unfold sForm at h
  cases hg : gLoop s.f6 0 (-1) with
  | none => rw [hg] at h; cases h
  | some all =>
    rw [hg] at h
    simp only [Bool.and_eq_true, wn_iff] at h
    exact h.2.1.1
theorem find_id {l : List S34} {id : Int} (ha : sAll l = 0) (h : (sFind l id).2 = true) : id ≠ -1 := fun e => by
  have h1 := sFind_mem h
  have := sForm_id (sAll_mem ha _ h1.1).1
  omega
/-- What a valid bundle is. -/
structure BOk (l : List S34) (b0 b1 : Int) : Prop where
  all : sAll l = 0
  ok : (sFind l b0).2 = true
  lec : (sFind l b0).1.f8 = false
  lab : (b1 = -1 ∧ (sFind l b0).1.f7 = []) ∨ ((sFind l b1).2 = true ∧ b1 ∈ (sFind l b0).1.f7 ∧ (sFind l b1).1.f8 = true ∧ (sFind l b1).1.f2 = (sFind l b0).1.f2 ∧ (mClash (sFind l b0).1.f5 (sFind l b1).1.f5).1 = false)
theorem bOk_of {l : List S34} {b0 b1 : Int} (h : bCheck l b0 b1 = 0) : BOk l b0 b1 := by
  unfold bCheck at h
  by_cases h1 : sAll l ≠ 0
  · rw [if_pos h1] at h; exact absurd h h1
  · rw [if_neg h1] at h
    by_cases h2 : (sFind l b0).2 = false ∨ (sFind l b0).1.f8 = true
    · rw [if_pos h2] at h; cases h
    · rw [if_neg h2] at h
      simp only [not_or, Bool.not_eq_false, Bool.not_eq_true] at h2
      by_cases h3 : (sFind l b0).1.f7.length = 0 ∧ (b0 == (sFind l b0).1.f0 && (b1 == -1)) = true
      · have h4 := h3.2
        simp only [Bool.and_eq_true, beq_iff_eq] at h4
        exact ⟨by omega, h2.1, h2.2, .inl ⟨h4.2, List.eq_nil_of_length_eq_zero h3.1⟩⟩
      · rw [if_neg h3] at h
        by_cases h4 : (sFind l b1).2 = false ∨ ((sFind l b0).1.f7.any fun x => b1 == x) = false ∨ (sFind l b1).1.f8 = false ∨ (sFind l b1).1.f2 ≠ (sFind l b0).1.f2
        · rw [if_pos h4] at h; cases h
        · rw [if_neg h4] at h
          simp only [not_or, Bool.not_eq_false, Classical.not_not] at h4
          obtain ⟨x, hx, hq⟩ := List.any_eq_true.1 h4.2.1
          have hq : b1 = x := by simpa using hq
          refine ⟨by omega, h2.1, h2.2, .inr ⟨h4.1, by rw [hq]; exact hx, h4.2.2.1, h4.2.2.2, ?_⟩⟩
          cases hc : (mClash (sFind l b0).1.f5 (sFind l b1).1.f5).1 with
          | false => rfl
          | true => rw [hc, if_pos rfl] at h; cases h
theorem bOk_iff {l : List S34} {b0 b1 : Int} : bCheck l b0 b1 = 0 ↔ BOk l b0 b1 := by
  refine ⟨bOk_of, fun h => ?_⟩
  have hid := (sFind_mem h.ok).2
  unfold bCheck
  rw [if_neg (by simp [h.all]), if_neg (by simp [h.ok, h.lec])]
  rcases h.lab with ⟨h1, h2⟩ | ⟨h1, h2, h3, h4, h5⟩
  · rw [if_pos]
    refine ⟨by rw [h2]; rfl, ?_⟩
    rw [hid]; simp [h1]
  · rw [if_neg (fun hq => by rw [List.eq_nil_of_length_eq_zero hq.1] at h2; cases h2), if_neg, if_neg (by simp [h5])]
    simp only [not_or, Bool.not_eq_false, Classical.not_not]
    exact ⟨h1, List.any_eq_true.2 ⟨b1, h2, by simp⟩, h3, h4⟩
theorem BOk.labs' {l : List S34} {a0 a1 : Int} (h : BOk l a0 a1) : (a1 = -1) ∨ (a1 ≠ -1 ∧ (sFind l a1).1.f8 = true) := by
  rcases h.lab with ⟨h1, -⟩ | ⟨h1, -, h3, -, h5⟩
  · exact .inl h1
  · exact .inr ⟨find_id h.all h1, h3⟩
theorem BOk.parts {l : List S34} {b0 b1 : Int} (h : BOk l b0 b1) : bParts l b0 b1 ≠ [] ∧ ∀ y ∈ bParts l b0 b1, y.f2 = (sFind l b0).1.f2 ∧ mCheck y.f5 = 0 := by
  have h0 := sFind_mem h.ok
  have e0 : pQ l b0 = [(sFind l b0).1] := by unfold pQ; rw [if_pos ⟨h.ok, find_id h.all h.ok⟩]
  unfold bParts
  rw [e0]
  refine ⟨by simp, fun y hy => ?_⟩
  rcases List.mem_append.1 hy with h1 | h1
  · rw [List.mem_singleton.1 h1]
    exact ⟨rfl, (sAll_mem h.all _ h0.1).2⟩
  · unfold pQ at h1
    split at h1
    · rename_i h2
      rw [List.mem_singleton.1 h1]
      rcases h.lab with ⟨h3, -⟩ | ⟨-, -, -, h4, -⟩
      · exact absurd h3 h2.2
      · exact ⟨h4, (sAll_mem h.all _ (sFind_mem h2.1).1).2⟩
    · cases h1
theorem fs_any {α : Type} {f : α → Option Bool} {g : α → Bool} {L : List α} (h : ∀ x ∈ L, f x = if g x = true then some true else none) : L.findSome? f = if L.any g = true then some true else none := by
  induction L with
  | nil => rfl
  | cons a r ih =>
    have ha := h a (by simp)
    have ih := ih (fun x hx => h x (by simp [hx]))
    cases hg : g a with
    | true => rw [hg, if_pos rfl] at ha; simp [List.findSome?, ha, hg]
    | false => rw [hg] at ha; simp at ha; simp only [List.findSome?, ha, ih, List.any_cons, hg, Bool.false_or]
theorem clash_parts {PA PB : List S34} {ta tb : Int} (na : PA ≠ []) (nb : PB ≠ []) (ha : ∀ y ∈ PA, y.f2 = ta ∧ mCheck y.f5 = 0) (hb : ∀ y ∈ PB, y.f2 = tb ∧ mCheck y.f5 = 0) :
    (PA.findSome? (cRow PB)).getD false = (mHit (PA.flatMap (·.f5)) (PB.flatMap (·.f5)) && (ta == tb)) := by
  by_cases ht : ta = tb
  · subst ht
    have h1 : ∀ x ∈ PA, cRow PB x = if (PB.any fun y => mHit x.f5 y.f5) = true then some true else none := fun x hx => by
      unfold cRow
      refine fs_any fun y hy => ?_
      unfold cStep
      rw [if_pos ((ha x hx).1.trans (hb y hy).1.symm), mClash_valid (ha x hx).2 (hb y hy).2]
    rw [fs_any h1, Bool.eq_iff_iff]
    have h2 : ∀ q : Bool, (if q = true then some true else none : Option Bool).getD false = q := fun q => by cases q <;> rfl
    rw [h2]
    simp only [mHit, List.any_eq_true, List.mem_flatMap, beq_self_eq_true, Bool.and_true]
    constructor
    · rintro ⟨x, hx, y, hy, m, hm, n, hn, h⟩; exact ⟨m, ⟨x, hx, hm⟩, n, ⟨y, hy, hn⟩, h⟩
    · rintro ⟨m, ⟨x, hx, hm⟩, n, ⟨y, hy, hn⟩, h⟩; exact ⟨x, hx, y, hy, m, hm, n, hn, h⟩
  · obtain ⟨p, r, rfl⟩ : ∃ p r, PA = p :: r := by cases PA with | nil => exact absurd rfl na | cons p r => exact ⟨p, r, rfl⟩
    obtain ⟨q, t, rfl⟩ : ∃ p r, PB = p :: r := by cases PB with | nil => exact absurd rfl nb | cons p r => exact ⟨p, r, rfl⟩
    have h1 : cRow (q :: t) p = some false := by
      unfold cRow
      have : cStep p q = some false := by unfold cStep; rw [if_neg]; rw [(ha p (by simp)).1, (hb q (by simp)).1]; exact ht
      simp [List.findSome?, this]
    rw [show (ta == tb) = false by simpa using ht]
    simp [List.findSome?, h1]
theorem bClash_valid {l : List S34} {a0 a1 b0 b1 : Int} (ha : bCheck l a0 a1 = 0) (hb : bCheck l b0 b1 = 0) : bClash l a0 a1 b0 b1 = (mHit (bMeet l a0 a1).1 (bMeet l b0 b1).1 && ((sFind l a0).1.f2 == (sFind l b0).1.f2), 0) := by
  have pa := (bOk_of ha).parts; have pb := (bOk_of hb).parts
  have ma : bMeet l a0 a1 = ((bParts l a0 a1).flatMap (·.f5), 0) := by unfold bMeet; rw [if_neg (by simp [ha])]
  have mb : bMeet l b0 b1 = ((bParts l b0 b1).flatMap (·.f5), 0) := by unfold bMeet; rw [if_neg (by simp [hb])]
  rw [ma, mb]
  unfold bClash
  rw [if_neg (by simp [ha]), if_neg (by simp [hb]), clash_parts pa.1 pb.1 pa.2 pb.2]
theorem bMeet_valid {l : List S34} {b0 b1 : Int} (h : bCheck l b0 b1 = 0) : (bMeet l b0 b1).2 = 0 ∧ ∀ m ∈ (bMeet l b0 b1).1, mValid m = true := by
  have ma : bMeet l b0 b1 = ((bParts l b0 b1).flatMap (·.f5), 0) := by unfold bMeet; rw [if_neg (by simp [h])]
  rw [ma]
  refine ⟨rfl, fun m hm => ?_⟩
  obtain ⟨y, hy, hm⟩ := List.mem_flatMap.1 hm
  exact mCheck_all ((bOk_of h).parts.2 y hy).2 m hm
theorem bClash_not {l : List S34} {a0 a1 b0 b1 : Int} (h : ¬ (bCheck l a0 a1 = 0 ∧ bCheck l b0 b1 = 0)) : (bClash l a0 a1 b0 b1).1 = false ∧ (bClash l a0 a1 b0 b1).2 ≠ 0 := by
  unfold bClash
  by_cases ha : bCheck l a0 a1 = 0
  · rw [if_neg (by simp [ha])]
    by_cases hb : bCheck l b0 b1 = 0
    · exact absurd ⟨ha, hb⟩ h
    · rw [if_pos hb]; exact ⟨rfl, hb⟩
  · rw [if_pos ha]; exact ⟨rfl, ha⟩
end Go.Proofs.YtbpgoddohhiohaaDoor
