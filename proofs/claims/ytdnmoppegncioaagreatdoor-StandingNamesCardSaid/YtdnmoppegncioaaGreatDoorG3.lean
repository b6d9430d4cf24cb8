/- Plain: more credits and a greater average are never worse. -/
import Derived.Test.YtdnmoppegncioaaGreatDoorG2
namespace Go.Proofs.YtdnmoppegncioaaGreatDoor
set_option linter.unusedVariables false
set_option linter.unusedSimpArgs false
theorem okR_iff {r : S28} : okR r = true ↔ (1 ≤ r.f1 ∧ r.f1 ≤ 1073741824) ∧ (-1073741824 ≤ r.f0 ∧ r.f0 ≤ 1073741824) ∧ Nat.gcd r.f0.natAbs r.f1.natAbs = 1 := by
  unfold okR fRatio fMost
  simp only [Bool.and_eq_true, decide_eq_true_eq, beq_iff_eq]
  constructor
  · rintro ⟨⟨⟨⟨h1, h2⟩, h3⟩, h4⟩, h5⟩; exact ⟨⟨h1, h2⟩, ⟨h3, h4⟩, h5⟩
  · rintro ⟨⟨h1, h2⟩, ⟨h3, h4⟩, h5⟩; exact ⟨⟨⟨⟨h1, h2⟩, h3⟩, h4⟩, h5⟩
theorem cmpR_le {a b : S28} (ha : okR a = true) (hb : okR b = true) : cmpR a b ≤ 0 ↔ a.f0 * b.f1 ≤ b.f0 * a.f1 := by
  unfold cmpR
  rw [ha, hb, Bool.true_and, if_pos rfl]
  have := fSign_le (a.f0 * b.f1) (b.f0 * a.f1)
  exact decide_eq_decide.1 this
theorem cmpE_zero {a b : S28} : cmpE a b = 0 ↔ okR a = true ∧ okR b = true := by
  unfold cmpE
  cases okR a <;> cases okR b <;> simp
theorem holdsC_more {earned more : Int} {mean other : S28} {c : S42} (hc : okR c.f2 = true) (h1 : okR mean = true) (h2 : okR other = true) (hm : cmpR mean other ≤ 0) (he : earned ≤ more) (h : holdsC earned mean c = true) : holdsC more other c = true := by
  unfold holdsC at h ⊢
  simp only [Bool.and_eq_true, decide_eq_true_eq] at h ⊢
  refine ⟨?_, by omega⟩
  rw [cmpR_le hc h2]
  have h3 := (cmpR_le hc h1).1 h.1
  have h4 := (cmpR_le h1 h2).1 hm
  exact cross_trans _ _ _ _ _ _ (okR_iff.1 hc).1.1 (okR_iff.1 h1).1.1 (okR_iff.1 h2).1.1 h3 h4
theorem okS_ok {s : S26} (h : okS s = true) : (∀ x ∈ s.f0, okR x.f2 = true) ∧ (∀ x ∈ s.f2, okR x.f2 = true) := by
  simp only [okS, Bool.and_eq_true, Bool.not_eq_true'] at h
  have k : ∀ {l : List S42}, l.any badC = false → ∀ x ∈ l, okR x.f2 = true := fun {l} hl x hx => badC_ok (by
    cases hbx : badC x with
    | false => rfl
    | true => rw [List.any_eq_true.2 ⟨x, hx, hbx⟩] at hl; cases hl)
  exact ⟨k h.1, k h.2.1⟩
theorem ofE_zero {s : S26} {n : Int} {m : S28} (h : ofE s n m = 0) : okS s = true ∧ amt n = true ∧ okR m = true := by
  unfold ofE at h
  cases h1 : okS s <;> cases h2 : amt n <;> cases h3 : okR m <;> simp [h1, h2, h3] at h ⊢
theorem ofN_more {s : S26} {l : List S42} (hl : ∀ x ∈ l, okR x.f2 = true) {earned more : Int} {mean other : S28} (h1 : ofE s earned mean = 0) (h2 : ofE s more other = 0) (hm : cmpR mean other ≤ 0) (he : earned ≤ more) : ofN s l earned mean ≤ ofN s l more other := by
  obtain ⟨a1, a2, a3⟩ := ofE_zero h1
  obtain ⟨b1, b2, b3⟩ := ofE_zero h2
  unfold ofN
  rw [a1, a2, a3, b2, b3, Bool.true_and, Bool.true_and, if_pos rfl, if_pos rfl]
  have := fLast_mono (holdsC earned mean) (holdsC more other) l (fun x hx hh => holdsC_more (hl x hx) a3 b3 hm he hh)
  omega
theorem feeN_more {s : S26} {earned more : Int} {mean other : S28} (h1 : ofE s earned mean = 0) (h2 : ofE s more other = 0) (he : earned ≤ more) : feeN s earned ≤ feeN s more := by
  obtain ⟨a1, a2, a3⟩ := ofE_zero h1
  obtain ⟨b1, b2, b3⟩ := ofE_zero h2
  unfold feeN
  rw [a1, a2, b2, Bool.true_and, if_pos rfl, if_pos rfl]
  have := fLast_mono (fun f : S38 => decide (f.f1 ≤ earned)) (fun f : S38 => decide (f.f1 ≤ more)) s.f1 (fun x _ hh => by
    have h3 := of_decide_eq_true hh
    exact decide_eq_true (by omega))
  omega
theorem feeE_zero {s : S26} {n : Int} {m : S28} (h : ofE s n m = 0) : feeE s n = 0 := by
  obtain ⟨a1, a2, a3⟩ := ofE_zero h
  unfold feeE
  rw [a1, a2]; rfl
end Go.Proofs.YtdnmoppegncioaaGreatDoor
