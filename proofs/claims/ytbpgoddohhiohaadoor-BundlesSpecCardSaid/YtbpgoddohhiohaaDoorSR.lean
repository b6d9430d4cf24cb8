/- slices.SortFunc on an own row of bundles. -/
import Derived.Test.YtbpgoddohhiohaaDoorSO
namespace Go.Proofs.YtbpgoddohhiohaaDoor
open Go.RowKit Go.Shelf Go.Sort Go.Proofs.YtbpgoddohhiohaaDoorW.PrintWords
set_option linter.unusedVariables false
set_option linter.unusedSimpArgs false

def sortB (l : List S24) : List S24 := (Sort.insertionSort (ltOf cfB) l.toArray 0 l.toArray.size).toList
theorem insInner_size (lt : S24 → S24 → Bool) (a : Nat) : ∀ (j : Nat) (d : Array S24), (insInner lt a j d).size = d.size
  | 0, d => by rw [insInner]
  | j + 1, d => by
    rw [insInner]
    split
    · rw [insInner_size lt a j]; simp [swp]
    · rfl
theorem insOuter_size (lt : S24 → S24 → Bool) (a b : Nat) : ∀ (k i : Nat) (d : Array S24), b - i ≤ k → (insOuter lt a b i d).size = d.size
  | 0, i, d, h => by rw [insOuter, if_neg (by omega)]
  | k + 1, i, d, h => by
    rw [insOuter]
    split
    · rw [insOuter_size lt a b k (i + 1) _ (by omega), insInner_size]
    · rfl
theorem sortB_len (l : List S24) : (sortB l).length = l.length := by
  unfold sortB Sort.insertionSort
  rw [Array.length_toList, insOuter_size _ _ _ _ _ _ (Nat.le_refl _)]
  simp
theorem k24_M {w : World} {base : Nat} {ok : Nat → Prop} {x : S24} {cs : List Value} : k24.M w base ok x cs ↔ cs = encB x :=
  ⟨fun h => k24_openM h, fun h => by rw [h]; exact k24_mkM _ _ _ _⟩
theorem reps_flat {R : S24 → List Value → Prop} (hR : ∀ x cs, R x cs ↔ cs = encB x) (l : List S24) (inner : List Value) : Reps R 2 l inner ↔ inner = (flatK encB 2 l.toArray).toList := by
  constructor
  · rintro ⟨h1, h2⟩
    apply List.ext_getElem?
    intro t
    by_cases ht : t < l.length * 2
    · have hj : t / 2 < l.length := by omega
      have h3 := (hR _ _).1 (h2 (t / 2) _ (List.getElem?_eq_getElem hj))
      have h4 : inner[t]? = ((inner.drop (t / 2 * 2)).take 2)[t % 2]? := by
        rw [List.getElem?_take, if_pos (by omega), List.getElem?_drop, show t / 2 * 2 + t % 2 = t by omega]
      rw [h4, h3]
      have hfl : t < (flatK encB 2 l.toArray).size := by simp [flatK]; omega
      have e1 : (flatK encB 2 l.toArray).toList[t]? = some (flatK encB 2 l.toArray)[t] := by rw [Array.getElem?_toList, Array.getElem?_eq_getElem hfl]
      rw [e1]
      have := get_flatK encB 2 l.toArray t (by simpa using ht)
      rw [getElem!_pos _ t hfl] at this
      rw [this, getElem!_pos l.toArray (t / 2) (by simpa using hj)]
      rcases Nat.mod_two_eq_zero_or_one t with h0 | h0 <;> rw [h0] <;> simp [encB]
    · rw [List.getElem?_eq_none (by omega), List.getElem?_eq_none (by simp [flatK]; omega)]
  · rintro rfl
    refine ⟨by simp [flatK], fun j p hj => (hR _ _).2 ?_⟩
    obtain ⟨hlt, hp⟩ := List.getElem?_eq_some_iff.1 hj
    apply List.ext_getElem?
    intro t
    by_cases ht : t < 2
    · rw [List.getElem?_take, if_pos ht, List.getElem?_drop, Array.getElem?_toList]
      have hfl : j * 2 + t < (flatK encB 2 l.toArray).size := by simp [flatK]; omega
      rw [Array.getElem?_eq_getElem hfl]
      have := get_flatK encB 2 l.toArray (j * 2 + t) (by simp; omega)
      rw [getElem!_pos (flatK encB 2 l.toArray) _ hfl] at this
      rw [this, show (j * 2 + t) / 2 = j by omega, show (j * 2 + t) % 2 = t by omega, getElem!_pos l.toArray j (by simpa using hlt)]
      have hp' : l.toArray[j] = p := by simpa using hp
      rw [hp']
      rcases (by omega : t = 0 ∨ t = 1) with rfl | rfl <;> simp [encB]
    · rw [List.getElem?_eq_none (by simp; omega), List.getElem?_eq_none (by simp [encB]; omega)]

theorem sortR_calls (v : Value) (l : List S24) (base : Nat) (W : World) (hR : k24.R 24 W base (fun _ => True) v l) (hbase : base ≤ W.heap.size) (h12 : l.length ≤ 12) :
    Calls Tryd.prog 39 #[v, .func (.func 40) #[] #[]] W fun e w' => e = .returned (.tuple #[]) ∧ k24.R 24 w' base (fun _ => True) v (sortB l) ∧ (∀ w0, Below base w0 W → Below base w0 w') := by
  obtain ⟨hok, inner, hown, hr⟩ := hR
  rcases hown.2 with ⟨rfl, hn⟩ | ⟨g, cap, cur, rfl, hg, hh, hnc, hcm, hcs, htk⟩
  · obtain rfl : l = [] := List.eq_nil_of_length_eq_zero hn
    refine (sort_none W).mono ?_
    rintro e w' ⟨rfl, rfl⟩
    exact ⟨rfl, by rw [List.eq_nil_of_length_eq_zero (sortB_len [])]; exact Kd.R_nil _ _ _ _ _, fun _ h => h⟩
  · have hin := (reps_flat (fun x cs => k24_M) l inner).1 hr
    have hsz : k24.sz = 2 := rfl
    rw [hsz] at hcs htk hown
    have hH : HoldsK encB 2 W g 0 l.toArray := fun j hj => by
      have hj2 : j < l.length * 2 := by simpa [flatK] using hj
      refine ⟨?_, blk_frozen hh _⟩
      rw [Nat.zero_add, blk_cell hh]
      have h3 : cur[j]? = inner[j]? := by rw [← htk, List.getElem?_take, if_pos hj2, Array.getElem?_toList]
      rw [h3, hin, Array.getElem?_toList, Array.getElem?_eq_getElem hj, getElem!_pos _ j hj]; rfl
    have hc := sort_calls g cap l.toArray W hH (blk_lt hh) (by simpa using h12)
    rw [List.size_toArray] at hc
    refine hc.mono ?_
    rintro e w' ⟨rfl, n, os, rfl⟩
    have hD : (Sort.insertionSort (ltOf cfB) l.toArray 0 l.toArray.size) = (sortB l).toArray := by simp [sortB]
    rw [List.size_toArray] at hD
    rw [hD]
    have hlen := sortB_len l
    generalize sortB l = D at hlen
    have hlt := blk_lt hh
    have hb : (sortWorldK encB 2 W g 0 n D.toArray os).heap[g]? = some (.cells (putCells id 0 (flatK encB 2 D.toArray) cur) 24 (0, 0)) := by
      unfold sortWorldK
      rw [heap_grow_old _ _ (by unfold putRowK; rw [size_putRow]; exact hlt)]
      simp [putRowK, putRow, mapBlock, ahead, Array.getElem?_modify, hh, onCells]
    refine ⟨rfl, ⟨fun _ _ => trivial, (flatK encB 2 D.toArray).toList, ?_, ?_⟩, fun w0 h => ?_⟩
    · refine ⟨by simp [flatK, hsz], .inr ⟨g, cap, _, by rw [hlen], hg, hb, by rw [hlen]; exact hnc, hcm, by simp [putCells, hcs, hsz], ?_⟩⟩
      rw [hsz]
      apply List.ext_getElem?
      intro t
      by_cases ht : t < D.length * 2
      · rw [List.getElem?_take, if_pos ht, Array.getElem?_toList, Array.getElem?_toList]
        have hfl : t < (flatK encB 2 D.toArray).size := by simp [flatK]; omega
        have hcz : t < cur.size := by rw [hcs]; have := Nat.mul_le_mul_right 2 hnc; rw [← hlen] at this; omega
        rw [Array.getElem?_eq_getElem hfl]
        simp only [putCells, Array.getElem?_mapIdx, Array.getElem?_eq_getElem hcz, Option.map_some, Nat.zero_le, true_and, Nat.zero_add, hfl, if_true, id, Nat.sub_zero]
        rw [getElem!_pos _ t hfl]
      · rw [List.getElem?_eq_none (by simp; omega), List.getElem?_eq_none (by simp [flatK]; omega)]
    · exact (reps_flat (fun x cs => k24_M) D _).2 rfl
    · refine ⟨h.os, h.tape, h.output, ?_, fun i hi => ?_⟩
      · unfold sortWorldK
        rw [size_grow]
        unfold putRowK
        rw [size_putRow]
        exact Nat.le_trans h.size (Nat.le_add_right _ _)
      · have hig : i ≠ g := by omega
        have hiW : i < W.heap.size := by omega
        unfold sortWorldK
        rw [heap_grow_old _ _ (by unfold putRowK; rw [size_putRow]; exact hiW)]
        simp only [putRowK, putRow, mapBlock, ahead, Array.getElem?_modify, if_neg (Ne.symm hig)]
        exact h.block i hi
end Go.Proofs.YtbpgoddohhiohaaDoor
