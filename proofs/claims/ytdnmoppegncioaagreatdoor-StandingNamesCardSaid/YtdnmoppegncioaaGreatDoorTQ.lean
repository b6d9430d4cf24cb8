/- From what an input reads as (DataW.trod) to the kinds, with the numbers' ranges and the slices' lengths. (Printed by gen_tq.py.) -/
import Derived.Test.YtdnmoppegncioaaGreatDoorJP
import Derived.ProofKit
import Derived.ChangeArms
import Derived.DataElems
import Derived.SizedLaws
namespace Go.Proofs.YtdnmoppegncioaaGreatDoor
open Go.RowKit Go.WideShapes Go.Proofs.YtdnmoppegncioaaGreatDoorW.PrintWords
set_option linter.unusedVariables false
set_option linter.unusedSimpArgs false
def OpensB (t : Nat) {α : Type} (d : Kd α) (Φ : α → Prop) : Prop := Tryz.prog.cellsOf t = d.sz ∧ ∀ {H : Type} {enc : TypeId × Value → H} {W : World} {fuel : Nat} {cs : List Value} {x : DataW H × List MemPlace}, DataW.trod enc Tryz.prog W 0 (fun _ => true) true fuel t cs = some x → (∀ n ∈ x.1.weights Tryz.prog t, n ≤ reachBytes) → ∃ y, d.K W y cs ∧ Φ y
theorem opensB_int {t : Nat} (ht : Tryz.prog.underlying t = some (.int .i64)) (hs : Tryz.prog.cellsOf t = 1) : OpensB t (Kd.int .i64) I64 := ⟨hs, fun h _ => by
  obtain ⟨n, rfl, -, hw⟩ := DataW.trod_int ht h
  refine ⟨n, rfl, ?_⟩
  simp only [Lit.wf, Bool.and_eq_true, decide_eq_true_eq] at hw
  exact hw⟩
theorem opensB_bool {t : Nat} (ht : Tryz.prog.underlying t = some .bool) (hs : Tryz.prog.cellsOf t = 1) : OpensB t Kd.bool (fun _ => True) := ⟨hs, fun h _ => by
  obtain ⟨n, rfl, -⟩ := DataW.trod_bool ht h
  exact ⟨n, rfl, trivial⟩⟩
theorem opensB_string {t : Nat} (ht : Tryz.prog.underlying t = some .string) (hs : Tryz.prog.cellsOf t = 1) : OpensB t Kd.string (fun s => s.size ≤ 140737488351232) := ⟨hs, fun h hw => by
  obtain ⟨s, rfl, hx, -⟩ := DataW.trod_string ht h
  refine ⟨s, rfl, ?_⟩
  rw [hx] at hw
  have := hw s.data.toList.length (by simp [DataW.weights])
  have e : s.data.toList.length = s.size := Array.length_toList
  have e2 : reachBytes = 140737488351232 := rfl
  omega⟩
theorem weightsAll_mem {H : Type} {P : Program} {e : TypeId} : ∀ {l : List (DataW H)} {d : DataW H}, d ∈ l → ∀ n ∈ d.weights P e, n ∈ DataW.weightsAll P e l
  | a :: r, d, hd, n, hn => by
    simp only [DataW.weightsAll, List.mem_append]
    rcases List.mem_cons.1 hd with rfl | hd
    · exact Or.inl hn
    · exact Or.inr (weightsAll_mem hd n hn)
  | [], _, hd, _, _ => by cases hd
theorem opensB_slice {t e : Nat} {α : Type} {d : Kd α} {Φ : α → Prop} (B : Nat) (ht : Tryz.prog.underlying t = some (.slice e)) (hs : Tryz.prog.cellsOf t = 1) (hB : Tryz.prog.bytesOf e = B) (hd : OpensB e d Φ) (z : α) : OpensB t (Kd.slice e d) (fun l => (∀ y ∈ l, Φ y) ∧ l.length * B ≤ 140737488351232) := ⟨hs, fun {H enc W fuel cs x} h hw => by
  have e2 : reachBytes = 140737488351232 := rfl
  rcases DataW.trod_slice ht h with ⟨rfl, -⟩ | ⟨a, len, cap, elems, rest, n, -, rfl, hxx, -, hl, hc, he, hx, -, -⟩
  · exact ⟨[], ⟨none, 0, rfl, Nat.le_refl _, Kd.C_nil _ _⟩, (by intro y hy; cases hy), by simp⟩
  · rw [hxx] at hw
    simp only [DataW.weights, ht] at hw
    have hlen0 : (elems.length + rest.length) * Tryz.prog.bytesOf e ≤ reachBytes := by simpa using hw _ (List.mem_cons_self ..)
    have hex : ∀ i : Nat, i < len → ∃ y : α, (∃ c : List Value, c.length = d.sz ∧ d.K W y c ∧ ∀ j u, c[j]? = some u → W.cell? (a.add (i * d.sz + j)) = some u) ∧ Φ y := fun i hi => by
      have h1 := hx i hi
      rw [List.getElem?_eq_getElem (by omega), Option.bind_eq_some_iff] at h1
      obtain ⟨c, hc1, hc2⟩ := h1
      obtain ⟨y, hy, hΦ⟩ := hd.2 hc2 (fun n hn => hw n (List.mem_cons_of_mem _ (List.mem_append_left _ (weightsAll_mem (List.mem_map_of_mem (List.getElem_mem _)) n hn))))
      obtain ⟨-, hlen, hcell⟩ := World.cells?_some hc1
      rw [hd.1] at hlen hcell
      refine ⟨y, ⟨c, hlen, hy, fun j u hj => ?_⟩, hΦ⟩
      have hjl : j < d.sz := by rw [← hlen]; exact (List.getElem?_eq_some_iff.1 hj).1
      rw [← Addr.add_add, hcell j hjl]
      exact hj
    classical
    let f : Nat → α := fun i => if h : i < len then Classical.choose (hex i h) else z
    have hf : ∀ i (h : i < len), (∃ c : List Value, c.length = d.sz ∧ d.K W (f i) c ∧ ∀ j u, c[j]? = some u → W.cell? (a.add (i * d.sz + j)) = some u) ∧ Φ (f i) := fun i h => by
      have := Classical.choose_spec (hex i h)
      simpa [f, h] using this
    have hll : ((List.range len).map f).length = len := by simp
    refine ⟨(List.range len).map f, ⟨some a, cap, by rw [hll], by rw [hll]; exact hl, ?_⟩, fun y hy => ?_, ?_⟩
    · rw [hll]
      refine ⟨hll, by have : maxLen = 9223372036854775807 := rfl; omega, fun _ => ⟨a, rfl, fun j p hj => ?_⟩⟩
      have hjl : j < len := by have := (List.getElem?_eq_some_iff.1 hj).1; simpa using this
      rw [List.getElem?_map, List.getElem?_range hjl] at hj
      injection hj with hj
      subst hj
      exact (hf j hjl).1
    · obtain ⟨i, hi, rfl⟩ := List.mem_map.1 hy
      exact (hf i (List.mem_range.1 hi)).2
    · rw [hll, ← hB, ← he]
      have : elems.length * Tryz.prog.bytesOf e ≤ (elems.length + rest.length) * Tryz.prog.bytesOf e := Nat.mul_le_mul_right _ (Nat.le_add_right _ _)
      omega⟩
theorem fieldB {H : Type} {enc : TypeId × Value → H} {W : World} {n : Nat} {cs : List Value} {fs : Array Field} {xs : List (DataW H × List MemPlace)} (hx : xs.length = fs.size)
    (hf : ∀ (i : Nat) (f : Field), fs[i]? = some f → DataW.trod enc Tryz.prog W 0 (fun _ => true) true n f.type ((cs.drop f.offset).take (Tryz.prog.cellsOf f.type)) = xs[i]?)
    (hw : ∀ n ∈ DataW.weightsEach Tryz.prog (fs.toList.map (·.type)) (xs.map (·.1)), n ≤ reachBytes)
    (i : Nat) {f : Field} (hi : fs[i]? = some f) {α : Type} {d : Kd α} {Φ : α → Prop} (ho : OpensB f.type d Φ) : ∃ y, d.K W y ((cs.drop f.offset).take d.sz) ∧ Φ y := by
  have h := hf i f hi
  have hlt : i < xs.length := by rw [hx]; exact (Array.getElem?_eq_some_iff.1 hi).1
  rw [List.getElem?_eq_getElem hlt, ho.1] at h
  refine ho.2 h (fun n hn => hw n (DataW.weights_mem_each (j := i) ?_ ?_ n hn))
  · rw [List.getElem?_map, Array.getElem?_toList, hi]; rfl
  · rw [List.getElem?_map, List.getElem?_eq_getElem hlt]; rfl
theorem oInt : OpensB 3 (Kd.int .i64) I64 := opensB_int Tryz.underlying3 (by kernel_rfl)
theorem oStr : OpensB 9 Kd.string (fun s => s.size ≤ 140737488351232) := opensB_string Tryz.underlying9 (by kernel_rfl)
abbrev bRatio (r : S28) : Prop := I64 r.f0 ∧ I64 r.f1
set_option maxRecDepth 100000 in
theorem oRatio : OpensB 28 k28 bRatio := ⟨by kernel_rfl, fun {H enc W fuel cs x} h hw => by
  obtain ⟨xs, n, -, hxx, hl, hx, hf⟩ := DataW.trod_struct Tryz.underlying28 h
  rw [hxx] at hw
  simp only [DataW.weights, Tryz.underlying28] at hw
  have hl2 : cs.length = 2 := hl.trans (by kernel_rfl)
  match cs, hl2, hf with
  | [c0, c1], _, hf =>
    obtain ⟨y0, h0, f0⟩ := fieldB hx hf hw 0 rfl oInt
    have e0 : [c0] = [Value.int .i64 y0] := h0
    injection e0 with e0; subst e0
    obtain ⟨y1, h1, f1⟩ := fieldB hx hf hw 1 rfl oInt
    have e1 : [c1] = [Value.int .i64 y1] := h1
    injection e1 with e1; subst e1
    exact ⟨⟨y0, y1⟩, k28_mk _ ⟨y0, y1⟩ , ⟨f0, f1⟩⟩⟩
abbrev bClass (c : S42) : Prop := c.f0.size ≤ 140737488351232 ∧ I64 c.f1 ∧ bRatio c.f2
set_option maxRecDepth 100000 in
theorem oClass : OpensB 42 k42 bClass := ⟨by kernel_rfl, fun {H enc W fuel cs x} h hw => by
  obtain ⟨xs, n, -, hxx, hl, hx, hf⟩ := DataW.trod_struct Tryz.underlying42 h
  rw [hxx] at hw
  simp only [DataW.weights, Tryz.underlying42] at hw
  have hl2 : cs.length = 4 := hl.trans (by kernel_rfl)
  match cs, hl2, hf with
  | [c0, c1, c2, c3], _, hf =>
    obtain ⟨y0, h0, f0⟩ := fieldB hx hf hw 0 rfl oStr
    have e0 : [c0] = [Value.string y0] := h0
    injection e0 with e0; subst e0
    obtain ⟨y1, h1, f1⟩ := fieldB hx hf hw 1 rfl oInt
    have e1 : [c1] = [Value.int .i64 y1] := h1
    injection e1 with e1; subst e1
    obtain ⟨y2, h2, f2⟩ := fieldB hx hf hw 2 rfl oRatio
    have e2 : [c2, c3] = [Value.int .i64 y2.f0, Value.int .i64 y2.f1] := k28_open h2
    simp only [List.cons.injEq, and_true] at e2
    obtain ⟨rfl, rfl⟩ := e2
    exact ⟨⟨y0, y1, y2⟩, k42_mk _ ⟨y0, y1, y2⟩ , ⟨f0, f1, f2⟩⟩⟩
abbrev bFee (c : S38) : Prop := c.f0.size ≤ 140737488351232 ∧ I64 c.f1
set_option maxRecDepth 100000 in
theorem oFee : OpensB 38 k38 bFee := ⟨by kernel_rfl, fun {H enc W fuel cs x} h hw => by
  obtain ⟨xs, n, -, hxx, hl, hx, hf⟩ := DataW.trod_struct Tryz.underlying38 h
  rw [hxx] at hw
  simp only [DataW.weights, Tryz.underlying38] at hw
  have hl2 : cs.length = 2 := hl.trans (by kernel_rfl)
  match cs, hl2, hf with
  | [c0, c1], _, hf =>
    obtain ⟨y0, h0, f0⟩ := fieldB hx hf hw 0 rfl oStr
    have e0 : [c0] = [Value.string y0] := h0
    injection e0 with e0; subst e0
    obtain ⟨y1, h1, f1⟩ := fieldB hx hf hw 1 rfl oInt
    have e1 : [c1] = [Value.int .i64 y1] := h1
    injection e1 with e1; subst e1
    exact ⟨⟨y0, y1⟩, k38_mk _ ⟨y0, y1⟩ , ⟨f0, f1⟩⟩⟩
abbrev bClause (c : S46) : Prop := I64 c.f0 ∧ I64 c.f1 ∧ I64 c.f2 ∧ I64 c.f3
set_option maxRecDepth 100000 in
theorem oClause : OpensB 46 k46 bClause := ⟨by kernel_rfl, fun {H enc W fuel cs x} h hw => by
  obtain ⟨xs, n, -, hxx, hl, hx, hf⟩ := DataW.trod_struct Tryz.underlying46 h
  rw [hxx] at hw
  simp only [DataW.weights, Tryz.underlying46] at hw
  have hl2 : cs.length = 4 := hl.trans (by kernel_rfl)
  match cs, hl2, hf with
  | [c0, c1, c2, c3], _, hf =>
    obtain ⟨y0, h0, f0⟩ := fieldB hx hf hw 0 rfl oInt
    have e0 : [c0] = [Value.int .i64 y0] := h0
    injection e0 with e0; subst e0
    obtain ⟨y1, h1, f1⟩ := fieldB hx hf hw 1 rfl oInt
    have e1 : [c1] = [Value.int .i64 y1] := h1
    injection e1 with e1; subst e1
    obtain ⟨y2, h2, f2⟩ := fieldB hx hf hw 2 rfl oInt
    have e2 : [c2] = [Value.int .i64 y2] := h2
    injection e2 with e2; subst e2
    obtain ⟨y3, h3, f3⟩ := fieldB hx hf hw 3 rfl oInt
    have e3 : [c3] = [Value.int .i64 y3] := h3
    injection e3 with e3; subst e3
    exact ⟨⟨y0, y1, y2, y3⟩, k46_mk _ ⟨y0, y1, y2, y3⟩ , ⟨f0, f1, f2, f3⟩⟩⟩
theorem oClasss : OpensB 22 (Kd.slice 42 k42) (fun l => (∀ y ∈ l, bClass y) ∧ l.length * 40 ≤ 140737488351232) := opensB_slice 40 Tryz.underlying22 (by kernel_rfl) (by kernel_rfl) oClass z42
theorem oFees : OpensB 23 (Kd.slice 38 k38) (fun l => (∀ y ∈ l, bFee y) ∧ l.length * 24 ≤ 140737488351232) := opensB_slice 24 Tryz.underlying23 (by kernel_rfl) (by kernel_rfl) oFee z38
theorem oClauses : OpensB 24 (Kd.slice 46 k46) (fun l => (∀ y ∈ l, bClause y) ∧ l.length * 32 ≤ 140737488351232) := opensB_slice 32 Tryz.underlying24 (by kernel_rfl) (by kernel_rfl) oClause z46
abbrev bSystem (s : S26) : Prop := ((∀ y ∈ s.f0, bClass y) ∧ s.f0.length * 40 ≤ 140737488351232) ∧ ((∀ y ∈ s.f1, bFee y) ∧ s.f1.length * 24 ≤ 140737488351232) ∧ ((∀ y ∈ s.f2, bClass y) ∧ s.f2.length * 40 ≤ 140737488351232) ∧ ((∀ y ∈ s.f3, bClause y) ∧ s.f3.length * 32 ≤ 140737488351232)
set_option maxRecDepth 100000 in
theorem oSystem : OpensB 26 k26 bSystem := ⟨by kernel_rfl, fun {H enc W fuel cs x} h hw => by
  obtain ⟨xs, n, -, hxx, hl, hx, hf⟩ := DataW.trod_struct Tryz.underlying26 h
  rw [hxx] at hw
  simp only [DataW.weights, Tryz.underlying26] at hw
  have hl2 : cs.length = 4 := hl.trans (by kernel_rfl)
  match cs, hl2, hf with
  | [c0, c1, c2, c3], _, hf =>
    obtain ⟨y0, ⟨A0, c0', h0, l0, g0⟩, f0⟩ := fieldB hx hf hw 0 rfl oClasss
    have e0 : [c0] = [Value.slice A0 y0.length c0'] := h0
    injection e0 with e0; subst e0
    obtain ⟨y1, ⟨A1, c1', h1, l1, g1⟩, f1⟩ := fieldB hx hf hw 1 rfl oFees
    have e1 : [c1] = [Value.slice A1 y1.length c1'] := h1
    injection e1 with e1; subst e1
    obtain ⟨y2, ⟨A2, c2', h2, l2, g2⟩, f2⟩ := fieldB hx hf hw 2 rfl oClasss
    have e2 : [c2] = [Value.slice A2 y2.length c2'] := h2
    injection e2 with e2; subst e2
    obtain ⟨y3, ⟨A3, c3', h3, l3, g3⟩, f3⟩ := fieldB hx hf hw 3 rfl oClauses
    have e3 : [c3] = [Value.slice A3 y3.length c3'] := h3
    injection e3 with e3; subst e3
    exact ⟨⟨y0, y1, y2, y3⟩, k26_mk _ ⟨y0, y1, y2, y3⟩ l0 g0 l1 g1 l2 g2 l3 g3, ⟨f0, f1, f2, f3⟩⟩⟩
/-- An argument that is a struct. -/
theorem argB_struct {H : Type} {enc : TypeId × Value → H} {W : World} {t : Nat} {α : Type} {d : Kd α} {Φ : α → Prop} (ho : OpensB t d Φ) {cs : Array Value} {dd : DataW H} {ps : List MemPlace} (h : DataW.Trod enc Tryz.prog W 0 (fun _ => true) true t (.agg cs) dd ps) (hw : ∀ n ∈ dd.weights Tryz.prog t, n ≤ reachBytes) :
    ∃ y, d.K W y cs.toList ∧ Φ y := by
  obtain ⟨fuel, hf⟩ := h
  exact ho.2 hf hw
theorem weights_at {H : Type} {ts : List TypeId} {ds : List (DataW H)} (h : (DataW.weightsEach Tryz.prog ts ds).all (· ≤ reachBytes) = true) (j : Nat) {t : TypeId} {d : DataW H} (ht : ts[j]? = some t) (hd : ds[j]? = some d) : ∀ n ∈ d.weights Tryz.prog t, n ≤ reachBytes := fun n hn => by
  have := List.all_eq_true.1 h n (DataW.weights_mem_each ht hd n hn)
  simpa using this
/-- What an input that is a system gives. -/
theorem sys_of {W : World} {s : S26} {cs : Array Value} (h : k26.K W s cs.toList) (hb : bSystem s) : ∃ A0 c0 A1 c1 A2 c2 A3 c3, cs = #[.slice A0 s.f0.length c0, .slice A1 s.f1.length c1, .slice A2 s.f2.length c2, .slice A3 s.f3.length c3] ∧ SysAt W s A0 A1 A2 ∧ k46.C W A3 s.f3.length s.f3 ∧ s.f0.length + s.f1.length + s.f2.length + s.f3.length ≤ 9223372036854775807 := by
  obtain ⟨A0, c0, A1, c1, A2, c2, A3, c3, he, -, g0, -, g1, -, g2, -, g3⟩ := k26_open h
  refine ⟨A0, c0, A1, c1, A2, c2, A3, c3, ?_, ⟨g0, g1, g2, fun x hx => (hb.1.1 x hx).2.2.1, fun x hx => (hb.2.2.1.1 x hx).2.2.1, ?_⟩, g3, ?_⟩
  · cases cs; simp at he; rw [he]
  · have h0 := hb.1.2; have h2 := hb.2.2.1.2; omega
  · have h0 := hb.1.2; have h1 := hb.2.1.2; have h2 := hb.2.2.1.2; have h3 := hb.2.2.2.2; omega
end Go.Proofs.YtdnmoppegncioaaGreatDoor
