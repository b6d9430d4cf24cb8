/- Maps with int keys, told by their very values: make, look-up, store. No program: general laws. -/
import Derived.WalkKit
import Derived.MapKept
import Derived.Carry
import Derived.OwnWalk
import Derived.Maps.OwnSet
namespace Go.Proofs.YtbpgoddohhiohaaDoor
open Go.RowKit
open Go.ChangeMaps (setBlock)
open Go.ChangeMaps
set_option linter.unusedVariables false
set_option linter.unusedSimpArgs false

/-- Block b is a map that holds just these keys with these values, in this order. -/
def MapI (w : World) (b : Nat) (L : List (Int × Value)) : Prop := ∃ es clock, w.heap[b]? = some (.map es clock) ∧ es.toList.map (fun e => (e.key, e.val)) = L.map fun p => (Value.int .i64 p.1, p.2)
def lookI (L : List (Int × Value)) (k : Int) : Option Value := (L.find? fun p => p.1 == k).map (·.2)
def updI : List (Int × Value) → Int → Value → List (Int × Value)
  | [], k, v => [(k, v)]
  | p :: r, k, v => if p.1 == k then (k, v) :: r else p :: updI r k v
theorem lookI_nil (k : Int) : lookI [] k = none := rfl
theorem lookI_cons (p : Int × Value) (r : List (Int × Value)) (k : Int) : lookI (p :: r) k = if p.1 == k then some p.2 else lookI r k := by
  unfold lookI
  rw [List.find?_cons]
  split <;> simp_all
theorem lookI_upd (L : List (Int × Value)) (k : Int) (v : Value) (j : Int) : lookI (updI L k v) j = if j = k then some v else lookI L j := by
  induction L with
  | nil =>
    rw [updI, lookI_cons, lookI_nil]
    by_cases h : j = k
    · simp [h]
    · simp [h, Ne.symm h]
  | cons p r ih =>
    unfold updI
    by_cases hp : p.1 = k
    · rw [if_pos (by simp [hp]), lookI_cons, lookI_cons]
      by_cases h : j = k
      · simp [h]
      · have h2 : ¬ k = j := fun e => h e.symm
        simp [h, h2, hp]
    · rw [if_neg (by simp [hp]), lookI_cons, lookI_cons, ih]
      by_cases h : j = k
      · subst h; simp [hp]
      · simp [h]

theorem MapI.made (w : World) : MapI (w.alloc (.map #[] 0)) w.heap.size [] := ⟨#[], 0, (MapKept.heap_alloc w _).1, rfl⟩
theorem MapI.lt {w : World} {b : Nat} {L : List (Int × Value)} (h : MapI w b L) : b < w.heap.size := by
  obtain ⟨es, clock, hb, _⟩ := h
  exact (Array.getElem?_eq_some_iff.1 hb).1
theorem MapI.of_block {w w' : World} {b : Nat} {L : List (Int × Value)} (h : MapI w b L) (hb : w'.heap[b]? = w.heap[b]?) : MapI w' b L := by
  obtain ⟨es, clock, h1, h2⟩ := h
  exact ⟨es, clock, hb.trans h1, h2⟩
theorem MapI.below {w w' : World} {b : Nat} {L : List (Int × Value)} (h : MapI w b L) (hb : Below w.heap.size w w') : MapI w' b L := h.of_block (hb.block b h.lt)
theorem MapI.alloc {w : World} {b : Nat} {L : List (Int × Value)} (h : MapI w b L) (o : Obj) : MapI (w.alloc o) b L := h.below ((Below.refl _ _).alloc (Nat.le_refl _) o)
theorem MapI.setCell {w : World} {b : Nat} {L : List (Int × Value)} (h : MapI w b L) (p : Addr) (v : Value) : MapI (w.setCell p v) b L := by
  obtain ⟨es, clock, h1, h2⟩ := h
  refine ⟨es, clock, ?_, h2⟩
  unfold World.setCell
  simp only [Array.getElem?_modify]
  split
  · rename_i he; subst he; rw [h1]; rfl
  · exact h1
theorem MapI.grown {w w' : World} {b : Nat} {L : List (Int × Value)} {row : Option Nat} (h : MapI w b L) (hg : w.grownBy w' row) (hne : some b ≠ row) : MapI w' b L := h.of_block (hg.block b h.lt hne)

section
variable {P : Program} {w : World} {t k e : TypeId} {b : Nat} {L : List (Int × Value)}
theorem findNow_list (q : Int) : ∀ (l : List MapEntry) (L : List (Int × Value)) (i : Nat), l.map (fun e => (e.key, e.val)) = L.map (fun p => (Value.int .i64 p.1, p.2)) →
    (lookI L q = none → Instr.findNow (.int .i64) (.int .i64 q) l i = some none) ∧ (∀ v, lookI L q = some v → ∃ j, j < l.length ∧ Instr.findNow (.int .i64) (.int .i64 q) l i = some (some (i + j, v)) ∧ (l[j]?).map (·.key) = some (.int .i64 q) ∧
      ∀ v', (l.modify j fun x => { x with key := .int .i64 q, val := v' }).map (fun e => (e.key, e.val)) = (updI L q v').map fun p => (Value.int .i64 p.1, p.2)) := by
  intro l
  induction l with
  | nil =>
    intro L i h
    cases L with
    | nil => exact ⟨fun _ => rfl, fun v hv => by rw [lookI_nil] at hv; cases hv⟩
    | cons p r => simp at h
  | cons x l ih =>
    intro L i h
    cases L with
    | nil => simp at h
    | cons p r =>
      simp only [List.map_cons, List.cons.injEq, Prod.mk.injEq] at h
      obtain ⟨⟨hk, hv⟩, hr⟩ := h
      obtain ⟨ih1, ih2⟩ := ih r (i + 1) hr
      rw [lookI_cons]
      by_cases hp : p.1 = q
      · rw [if_pos (by simp [hp])]
        refine ⟨fun h => (by cases h), fun v h => ⟨0, by simp, ?_, by simp [hk, hp], fun v' => ?_⟩⟩
        · injection h with h
          simp [Instr.findNow, Instr.sameNow, hk, hp, hv, h]
        · simp [updI, hp, hr]
      · have hq : (q == p.1) = false := by simp [Ne.symm hp]
        rw [if_neg (by simp [hp])]
        refine ⟨fun h => ?_, fun v h => ?_⟩
        · simp [Instr.findNow, Instr.sameNow, hk, hq, ih1 h]
        · obtain ⟨j, hj, h1, h2, h3⟩ := ih2 v h
          refine ⟨j + 1, by simp; omega, ?_, by simpa using h2, fun v' => ?_⟩
          · simp [Instr.findNow, Instr.sameNow, hk, hq, h1]; omega
          · have := h3 v'
            simp [updI, hp, hk, hv, this]
theorem checkI (hk : P.underlying k = some (.int .i64)) {q : Int} (x : Bool) (n : Nat) : (Instr.checkKey x (n + 1) k (.int .i64 q)).run P w = .ok () w := by
  simp [Instr.checkKey, underlying, hk, Result.andThen]
theorem updI_none (q : Int) (v : Value) : ∀ L : List (Int × Value), lookI L q = none → updI L q v = L ++ [(q, v)]
  | [], _ => rfl
  | p :: r, h => by
    rw [lookI_cons] at h
    by_cases hp : p.1 = q
    · rw [if_pos (by simp [hp])] at h; cases h
    · rw [if_neg (by simp [hp])] at h
      unfold updI
      rw [if_neg (by simp [hp]), updI_none q v r h]; rfl

theorem MapI.look (h : MapI w b L) (ht : P.underlying t = some (.map k e)) (hk : P.underlying k = some (.int .i64)) {z : Value} (hz : (zeroValue e).run P w = .ok z w) (q : Int) (ok : Bool) :
    (Instr.lookup t (.map (some b)) (.int .i64 q) ok).run P w = .ok (if ok = true then .tuple #[(lookI L q).getD z, .bool (lookI L q).isSome] else (lookI L q).getD z) w := by
  obtain ⟨es, clock, hb, hL⟩ := h
  obtain ⟨h1, h2⟩ := findNow_list q es.toList L 0 hL
  have hc : ∀ x, (Instr.checkKey x 10000 k (.int .i64 q)).run P w = .ok () w := fun x => checkI hk x 9999
  have hgo : (getObj b).run P w = .ok (.map es clock) w := by simp [getObj, Sem.run, hb]
  cases hl : lookI L q with
  | none =>
    have hf := h1 hl
    cases ok <;> simp [Instr.lookup, underlying, ht, hgo, hc, Instr.findKey, hk, hf, hz, Result.andThen]
  | some v =>
    obtain ⟨j, _, hf, _⟩ := h2 v hl
    cases ok <;> simp [Instr.lookup, underlying, ht, hgo, hc, Instr.findKey, hk, hf, Result.andThen]

theorem MapI.store (h : MapI w b L) (ht : P.underlying t = some (.map k e)) (hk : P.underlying k = some (.int .i64)) (q : Int) (v : Value) :
    ∃ w', (Instr.mapUpdate t (.map (some b)) (.int .i64 q) v).run P w = .ok () w' ∧ MapI w' b (updI L q v) ∧ w.grownBy w' (some b) := by
  obtain ⟨es, clock, hb, hL⟩ := h
  obtain ⟨h1, h2⟩ := findNow_list q es.toList L 0 hL
  have hc : ∀ x, (Instr.checkKey x 10000 k (.int .i64 q)).run P w = .ok () w := fun x => checkI hk x 9999
  have hgo : (getObj b).run P w = .ok (.map es clock) w := by simp [getObj, Sem.run, hb]
  have hso : ∀ o, (setObj b o).run P w = .ok () (setBlock w b o) := fun o => by simp [setObj, Sem.run, hb, setBlock]
  have hlt : b < w.heap.size := (Array.getElem?_eq_some_iff.1 hb).1
  have hgr : ∀ o, w.grownBy (setBlock w b o) (some b) := fun o => ⟨rfl, rfl, rfl, by simp [setBlock], fun i _ hi => heap_setBlock_other hb _ (fun e => hi (by rw [e]))⟩
  cases hl : lookI L q with
  | none =>
    have hf := h1 hl
    refine ⟨_, by simp [Instr.mapUpdate, underlying, ht, hgo, hc, Instr.findKey, hk, hf, hso, Result.andThen]; rfl, ⟨_, _, heap_setBlock_same hb _, ?_⟩, hgr _⟩
    rw [updI_none q v L hl]
    simp [hL]
  | some v0 =>
    obtain ⟨j, hj, hf, hkj, hmod⟩ := h2 v0 hl
    have hkey : (es[j]?).map (·.key) = some (.int .i64 q) := by simpa using hkj
    have hsb : (Instr.keyThatStays (((es[j]?).map (·.key)).getD (.int .i64 q)) (.int .i64 q)).run P w = .ok (.int .i64 q) w := by
      rw [hkey]; simp [Instr.keyThatStays, Instr.sameBits]
    refine ⟨_, by simp [Instr.mapUpdate, underlying, ht, hgo, hc, Instr.findKey, hk, hf, hsb, hso, Result.andThen]; rfl, ⟨_, _, heap_setBlock_same hb _, ?_⟩, hgr _⟩
    have := hmod v
    simpa using this
end

section
variable {P : Program} {ops : Array Oper} {Q : Exit → Act → World → Prop} {a : Act} {w : World} {rest : List Oper} {o : Oper}
theorem wpList_storeI (hg : o.guard = none) (m x v : Operand) (t : TypeId) (hop : o.op = Op.mapUpdate t m x v) (k e : TypeId) (ht : P.underlying t = some (.map k e)) (hk : P.underlying k = some (.int .i64)) (b : Nat) (L : List (Int × Value))
    (hm : a.eval m = .map (some b)) (hown : MapI w b L) (q : Int) (val : Value) (hx : a.eval x = .int .i64 q) (hv : a.eval v = val)
    (hK : ∀ w', MapI w' b (updI L q val) → w.grownBy w' (some b) → wpList P ops Q rest (a.put o.dst undef) w') : wpList P ops Q (o :: rest) a w := by
  refine wpList_plain hg fun K' hK' => ?_
  obtain ⟨w', hrun, r1, r2⟩ := hown.store ht hk q val
  unfold Oper.wp
  simp [execOp, hop, hm, hx, hv, hrun, Result.andThen]
  exact hK' _ _ (hK w' r1 r2)
end
end Go.Proofs.YtbpgoddohhiohaaDoor
