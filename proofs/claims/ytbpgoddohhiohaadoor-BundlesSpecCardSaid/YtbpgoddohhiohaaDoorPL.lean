/- Plain laws on bundles: All. -/
import Derived.Test.YtbpgoddohhiohaaDoorBA
namespace Go.Proofs.YtbpgoddohhiohaaDoor
open Go.RowKit Go.Proofs.YtbpgoddohhiohaaDoorW.PrintWords
set_option linter.unusedVariables false
set_option linter.unusedSimpArgs false
theorem beq_iff' (a b : S24) : bEq a b = true ↔ a = b := by
  cases a; cases b; simp [bEq]
/-- What the loop of All keeps. -/
structure AllInv (l : List S34) (s : Int) (done : List Int) (x : List S24) : Prop where
  sec : ∀ e ∈ x, e.f0 = s
  ok : ∀ e ∈ x, bCheck l s e.f1 = 0
  nodup : x.Nodup
  all : ∀ lab ∈ done, bCheck l s lab = 0 → (⟨s, lab⟩ : S24) ∈ x
  sub : ∀ e ∈ x, e.f1 ∈ done
theorem AllInv.step {l : List S34} {s : Int} {done : List Int} {x : List S24} (h : AllInv l s done x) (lab : Int) : AllInv l s (done ++ [lab]) (bStep l s x lab) := by
  unfold bStep
  have hany : x.any (bEq ⟨s, lab⟩) = true ↔ (⟨s, lab⟩ : S24) ∈ x := by
    rw [List.any_eq_true]
    constructor
    · rintro ⟨e, he, hq⟩
      rw [(beq_iff' _ _).1 hq]; exact he
    · intro he
      exact ⟨_, he, (beq_iff' _ _).2 rfl⟩
  by_cases hc : bCheck l s lab = 0 ∧ x.any (bEq ⟨s, lab⟩) = false
  · rw [if_pos hc]
    have hn : (⟨s, lab⟩ : S24) ∉ x := fun hm => by have := hany.2 hm; rw [hc.2] at this; cases this
    refine ⟨fun e he => ?_, fun e he => ?_, ?_, fun q hq h0 => ?_, fun e he => ?_⟩
    · rcases List.mem_append.1 he with h1 | h1
      · exact h.sec e h1
      · rw [List.mem_singleton.1 h1]
    · rcases List.mem_append.1 he with h1 | h1
      · exact h.ok e h1
      · rw [List.mem_singleton.1 h1]; exact hc.1
    · rw [List.nodup_append]
      refine ⟨h.nodup, by simp, fun a ha b hb => ?_⟩
      rw [List.mem_singleton.1 hb]
      rintro rfl
      exact hn ha
    · rcases List.mem_append.1 hq with h1 | h1
      · exact List.mem_append_left _ (h.all q h1 h0)
      · rw [List.mem_singleton.1 h1]; simp
    · rcases List.mem_append.1 he with h1 | h1
      · exact List.mem_append_left _ (h.sub e h1)
      · rw [List.mem_singleton.1 h1]; simp
  · rw [if_neg hc]
    refine ⟨h.sec, h.ok, h.nodup, fun q hq h0 => ?_, fun e he => List.mem_append_left _ (h.sub e he)⟩
    rcases List.mem_append.1 hq with h1 | h1
    · exact h.all q h1 h0
    · rw [List.mem_singleton.1 h1] at h0 ⊢
      refine hany.1 ?_
      cases hb : x.any (bEq ⟨s, lab⟩) with
      | true => rfl
      | false => exact absurd ⟨h0, hb⟩ hc
theorem AllInv.fold {l : List S34} {s : Int} : ∀ (r done : List Int) (x : List S24), AllInv l s done x → AllInv l s (done ++ r) (r.foldl (bStep l s) x)
  | [], done, x, h => by simpa using h
  | a :: r, done, x, h => by
    have := AllInv.fold r (done ++ [a]) _ (h.step a)
    simpa using this
theorem bCheck_lab {l : List S34} {s lab : Int} (h : bCheck l s lab = 0) : (sFind l s).2 = true ∧ lab ∈ ((-1) :: (sFind l s).1.f7) := by
  unfold bCheck at h
  by_cases h1 : sAll l ≠ 0
  · rw [if_pos h1] at h; exact absurd h h1
  · rw [if_neg h1] at h
    by_cases h2 : (sFind l s).2 = false ∨ (sFind l s).1.f8 = true
    · rw [if_pos h2] at h; cases h
    · rw [if_neg h2] at h
      have hok : (sFind l s).2 = true := by
        cases hq : (sFind l s).2 with
        | true => rfl
        | false => exact absurd (Or.inl hq) h2
      refine ⟨hok, ?_⟩
      by_cases h3 : (sFind l s).1.f7.length = 0 ∧ (s == (sFind l s).1.f0 && (lab == -1)) = true
      · have : lab = -1 := by have := h3.2; simp only [Bool.and_eq_true, beq_iff_eq] at this; exact this.2
        rw [this]; simp
      · rw [if_neg h3] at h
        by_cases h4 : (sFind l lab).2 = false ∨ ((sFind l s).1.f7.any fun x => lab == x) = false ∨ (sFind l lab).1.f8 = false ∨ (sFind l lab).1.f2 ≠ (sFind l s).1.f2
        · rw [if_pos h4] at h; cases h
        · have hany : ((sFind l s).1.f7.any fun x => lab == x) = true := by
            cases hq : ((sFind l s).1.f7.any fun x => lab == x) with
            | true => rfl
            | false => exact absurd (Or.inr (Or.inl hq)) h4
          obtain ⟨x, hx, hq⟩ := List.any_eq_true.1 hany
          have : lab = x := by simpa using hq
          rw [this]
          exact List.mem_cons_of_mem _ hx
theorem bAll_sec {l : List S34} {s : Int} : ∀ e ∈ bAll l s, e.f0 = s := by
  unfold bAll
  split
  · intro e he; cases he
  · exact (AllInv.fold _ [] [] ⟨by simp, by simp, by simp, by simp, by simp⟩).sec
theorem bAll_ok {l : List S34} {s : Int} : ∀ e ∈ bAll l s, bCheck l s e.f1 = 0 := by
  unfold bAll
  split
  · intro e he; cases he
  · exact (AllInv.fold _ [] [] ⟨by simp, by simp, by simp, by simp, by simp⟩).ok
theorem bAll_nodup {l : List S34} {s : Int} : (bAll l s).Nodup := by
  unfold bAll
  split
  · simp
  · exact (AllInv.fold _ [] [] ⟨by simp, by simp, by simp, by simp, by simp⟩).nodup
theorem bAll_mem {l : List S34} {s lab : Int} : (⟨s, lab⟩ : S24) ∈ bAll l s ↔ bCheck l s lab = 0 := by
  constructor
  · intro h; exact bAll_ok _ h
  · intro h
    obtain ⟨h1, h2⟩ := bCheck_lab h
    unfold bAll
    rw [if_neg (by rw [h1]; simp)]
    exact (AllInv.fold ((-1) :: (sFind l s).1.f7) [] [] ⟨by simp, by simp, by simp, by simp, by simp⟩).all lab (by simpa using h2) h
theorem bAll_count (l : List S34) (s lab : Int) : (bAll l s).countP (bEq ⟨s, lab⟩) = if bCheck l s lab = 0 then 1 else 0 := by
  have hn := bAll_nodup (l := l) (s := s)
  have hm := bAll_mem (l := l) (s := s) (lab := lab)
  generalize bAll l s = x at hn hm
  by_cases hc : bCheck l s lab = 0
  · rw [if_pos hc]
    have hx := hm.2 hc
    clear hm hc
    induction x with
    | nil => cases hx
    | cons a r ih =>
      rw [List.countP_cons]
      obtain ⟨h1, h2⟩ := List.nodup_cons.1 hn
      by_cases ha : a = ⟨s, lab⟩
      · subst ha
        rw [if_pos ((beq_iff' _ _).2 rfl)]
        have : r.countP (bEq ⟨s, lab⟩) = 0 := by
          rw [List.countP_eq_zero]
          intro q hq hb
          rw [← (beq_iff' _ _).1 hb] at hq
          exact h1 hq
        omega
      · rw [if_neg (fun hb => ha ((beq_iff' _ _).1 hb).symm)]
        rcases List.mem_cons.1 hx with h3 | h3
        · exact absurd h3.symm ha
        · rw [ih h2 h3]
  · rw [if_neg hc, List.countP_eq_zero]
    intro q hq hb
    rw [← (beq_iff' _ _).1 hb] at hq
    exact hc (hm.1 hq)
end Go.Proofs.YtbpgoddohhiohaaDoor
