/- Plain: names, the policy and what is appended after conditions that do not hold do not matter. -/
import Derived.Test.YtdnmoppegncioaaGreatDoorG3
namespace Go.Proofs.YtdnmoppegncioaaGreatDoor
set_option linter.unusedVariables false
set_option linter.unusedSimpArgs false
/-- A class with another name. -/
def nmC (name : ByteArray) (c : S42) : S42 := ⟨name, c.f1, c.f2⟩
def nmH (name : ByteArray) (c : S42) : S42 := ⟨c.f0 ++ name, c.f1, c.f2⟩
def nmF (name : ByteArray) (c : S38) : S38 := ⟨name, c.f1⟩
def exC : S42 := ⟨ByteArray.empty, 10000, ⟨0, 1⟩⟩
def exF : S38 := ⟨ByteArray.empty, 10000⟩
/-- The other system of the law. -/
def nmS (s : S26) (name : ByteArray) (cl : S46) (earned : Int) : S26 :=
  ⟨s.f0.map (nmC name) ++ (if earned < 10000 then [exC] else []), s.f1.map (nmF name) ++ (if earned < 10000 then [exF] else []), s.f2.map (nmH name), cl :: s.f3⟩
theorem badC_nmC (name : ByteArray) (c : S42) : badC (nmC name c) = badC c := rfl
theorem badC_nmH (name : ByteArray) (c : S42) : badC (nmH name c) = badC c := rfl
theorem badF_nmF (name : ByteArray) (c : S38) : badF (nmF name c) = badF c := rfl
theorem badC_ex : badC exC = false := by decide +kernel
theorem badF_ex : badF exF = false := by decide +kernel
theorem any_same {α : Type} (p : α → Bool) (f : α → α) (h : ∀ x, p (f x) = p x) (l : List α) : (l.map f).any p = l.any p := by
  induction l with
  | nil => rfl
  | cons a r ih => simp only [List.map_cons, List.any_cons, ih, h]
theorem any_ex {α : Type} (p : α → Bool) (x : α) (h : p x = false) (l : List α) (b : Prop) [Decidable b] : (l ++ (if b then [x] else [])).any p = l.any p := by
  split
  · simp [h]
  · simp
theorem fLast_ex {α : Type} (p : α → Bool) (f : α → α) (x : α) (h : ∀ y, p (f y) = p y) (l : List α) (b : Prop) [Decidable b] (hx : b → p x = false) : fLast p (l.map f ++ (if b then [x] else [])) = fLast p l := by
  have h1 : fLast p (l.map f) = fLast p l := by
    rw [fLast_map]
    exact fLast_congr _ _ _ (fun y _ => h y)
  split
  · rw [fLast_snoc, hx (by assumption), if_neg Bool.false_ne_true, h1]
  · rw [List.append_nil, h1]
theorem okS_nm (s : S26) (name : ByteArray) (cl : S46) (earned : Int) : okS (nmS s name cl earned) = okS s := by
  unfold okS nmS
  dsimp only
  rw [any_ex _ _ badC_ex, any_ex _ _ badF_ex, any_same _ _ (badC_nmC name), any_same _ _ (badC_nmH name), any_same _ _ (badF_nmF name)]
theorem ofE_nm (s : S26) (name : ByteArray) (cl : S46) (earned : Int) (mean : S28) : ofE (nmS s name cl earned) earned mean = ofE s earned mean := by
  unfold ofE; rw [okS_nm]
theorem feeE_nm (s : S26) (name : ByteArray) (cl : S46) (earned : Int) : feeE (nmS s name cl earned) earned = feeE s earned := by
  unfold feeE; rw [okS_nm]
theorem class_nm (s : S26) (name : ByteArray) (cl : S46) (earned : Int) (mean : S28) : ofN (nmS s name cl earned) (nmS s name cl earned).f0 earned mean = ofN s s.f0 earned mean := by
  unfold ofN; rw [okS_nm]
  have : fLast (holdsC earned mean) (nmS s name cl earned).f0 = fLast (holdsC earned mean) s.f0 :=
    fLast_ex (holdsC earned mean) (nmC name) exC (fun y => rfl) s.f0 (earned < 10000) (fun h => by
      unfold holdsC exC
      simp only [Bool.and_eq_false_iff, decide_eq_false_iff_not]
      exact Or.inr (by omega))
  rw [this]
theorem honour_nm (s : S26) (name : ByteArray) (cl : S46) (earned : Int) (mean : S28) : ofN (nmS s name cl earned) (nmS s name cl earned).f2 earned mean = ofN s s.f2 earned mean := by
  unfold ofN; rw [okS_nm]
  have : fLast (holdsC earned mean) (nmS s name cl earned).f2 = fLast (holdsC earned mean) s.f2 := by
    show fLast _ (s.f2.map (nmH name)) = _
    rw [fLast_map]
    exact fLast_congr _ _ _ (fun y _ => rfl)
  rw [this]
theorem fee_nm (s : S26) (name : ByteArray) (cl : S46) (earned : Int) : feeN (nmS s name cl earned) earned = feeN s earned := by
  unfold feeN; rw [okS_nm]
  have : fLast (fun f : S38 => decide (f.f1 ≤ earned)) (nmS s name cl earned).f1 = fLast (fun f : S38 => decide (f.f1 ≤ earned)) s.f1 :=
    fLast_ex (fun f : S38 => decide (f.f1 ≤ earned)) (nmF name) exF (fun y => rfl) s.f1 (earned < 10000) (fun h => decide_eq_false (by unfold exF; dsimp only; omega))
  rw [this]
end Go.Proofs.YtdnmoppegncioaaGreatDoor
