/- From what an input reads as (DataW.trod) to the kinds: whole numbers, Bools, slices, the structs of package api. -/
import Derived.Test.YtbpgoddohhiohaaDoorA
import Derived.ProofKit
import Derived.ChangeArms
import Derived.DataElems
namespace Go.Proofs.YtbpgoddohhiohaaDoor
open Go.RowKit Go.WideShapes Go.Proofs.YtbpgoddohhiohaaDoorW.PrintWords
set_option linter.unusedVariables false
set_option linter.unusedSimpArgs false

def Opens (t : Nat) {α : Type} (d : Kd α) : Prop := Tryd.prog.cellsOf t = d.sz ∧ ∀ {H : Type} {enc : TypeId × Value → H} {W : World} {fuel : Nat} {cs : List Value} {x : DataW H × List MemPlace}, DataW.trod enc Tryd.prog W 0 (fun _ => true) true fuel t cs = some x → ∃ y, d.K W y cs
theorem opens_int {t : Nat} (ht : Tryd.prog.underlying t = some (.int .i64)) (hs : Tryd.prog.cellsOf t = 1) : Opens t (Kd.int .i64) := ⟨hs, fun h => by
  obtain ⟨n, rfl, -, -⟩ := DataW.trod_int ht h
  exact ⟨n, rfl⟩⟩
theorem opens_bool {t : Nat} (ht : Tryd.prog.underlying t = some .bool) (hs : Tryd.prog.cellsOf t = 1) : Opens t Kd.bool := ⟨hs, fun h => by
  obtain ⟨n, rfl, -⟩ := DataW.trod_bool ht h
  exact ⟨n, rfl⟩⟩
theorem opens_slice {t e : Nat} {α : Type} {d : Kd α} (ht : Tryd.prog.underlying t = some (.slice e)) (hs : Tryd.prog.cellsOf t = 1) (hd : Opens e d) (z : α) : Opens t (Kd.slice e d) := ⟨hs, fun {H enc W fuel cs x} h => by
  rcases DataW.trod_slice ht h with ⟨rfl, -⟩ | ⟨a, len, cap, elems, rest, n, -, rfl, -, -, hl, hc, he, hx, -, -⟩
  · exact ⟨[], none, 0, rfl, Nat.le_refl _, Kd.C_nil _ _⟩
  · have hex : ∀ i : Nat, i < len → ∃ y : α, ∃ c : List Value, c.length = d.sz ∧ d.K W y c ∧ ∀ j u, c[j]? = some u → W.cell? (a.add (i * d.sz + j)) = some u := fun i hi => by
      have h1 := hx i hi
      rw [List.getElem?_eq_getElem (by omega), Option.bind_eq_some_iff] at h1
      obtain ⟨c, hc1, hc2⟩ := h1
      obtain ⟨y, hy⟩ := hd.2 hc2
      obtain ⟨-, hlen, hcell⟩ := World.cells?_some hc1
      rw [hd.1] at hlen hcell
      refine ⟨y, c, hlen, hy, fun j u hj => ?_⟩
      have hjl : j < d.sz := by rw [← hlen]; exact (List.getElem?_eq_some_iff.1 hj).1
      rw [← Addr.add_add, hcell j hjl]
      exact hj
    classical
    let f : Nat → α := fun i => if h : i < len then Classical.choose (hex i h) else z
    have hf : ∀ i (h : i < len), ∃ c : List Value, c.length = d.sz ∧ d.K W (f i) c ∧ ∀ j u, c[j]? = some u → W.cell? (a.add (i * d.sz + j)) = some u := fun i h => by
      have := Classical.choose_spec (hex i h)
      simpa [f, h] using this
    have hll : ((List.range len).map f).length = len := by simp
    refine ⟨(List.range len).map f, some a, cap, by rw [hll], by rw [hll]; exact hl, ?_⟩
    rw [hll]
    refine ⟨hll, by have : maxLen = 9223372036854775807 := rfl; omega, fun _ => ⟨a, rfl, fun j p hj => ?_⟩⟩
    have hjl : j < len := by have := (List.getElem?_eq_some_iff.1 hj).1; simpa using this
    rw [List.getElem?_map, List.getElem?_range hjl] at hj
    injection hj with hj
    subst hj
    exact hf j hjl⟩
theorem one_cell {W : World} {α : Type} {d : Kd α} (hd : d.sz = 1) {y : α} {cs : List Value} (h : d.K W y cs) : ∃ v, cs = [v] := by
  have := d.K_len h
  rw [hd] at this
  match cs, this with
  | [v], _ => exact ⟨v, rfl⟩

theorem cs3 : Tryd.prog.cellsOf 3 = 1 := by kernel_rfl
theorem cs4 : Tryd.prog.cellsOf 4 = 1 := by kernel_rfl
theorem oInt : Opens 3 (Kd.int .i64) := opens_int Tryd.underlying3 (by kernel_rfl)
theorem oBool : Opens 4 Kd.bool := opens_bool Tryd.underlying4 (by kernel_rfl)
theorem field {H : Type} {enc : TypeId × Value → H} {W : World} {n : Nat} {cs : List Value} {fs : Array Field} {xs : List (DataW H × List MemPlace)} (hx : xs.length = fs.size)
    (hf : ∀ (i : Nat) (f : Field), fs[i]? = some f → DataW.trod enc Tryd.prog W 0 (fun _ => true) true n f.type ((cs.drop f.offset).take (Tryd.prog.cellsOf f.type)) = xs[i]?)
    (i : Nat) {f : Field} (hi : fs[i]? = some f) {α : Type} {d : Kd α} (ho : Opens f.type d) : ∃ y, d.K W y ((cs.drop f.offset).take d.sz) := by
  have h := hf i f hi
  have hlt : i < xs.length := by rw [hx]; exact (Array.getElem?_eq_some_iff.1 hi).1
  rw [List.getElem?_eq_getElem hlt, ho.1] at h
  exact ho.2 h
set_option maxRecDepth 100000 in
theorem oBundle : Opens 24 k24 := ⟨by kernel_rfl, fun {H enc W fuel cs x} h => by
  obtain ⟨xs, n, -, -, hl, hx, hf⟩ := DataW.trod_struct Tryd.underlying24 h
  have hl2 : cs.length = 2 := hl.trans (by kernel_rfl)
  match cs, hl2, hf with
  | [c0, c1], _, hf =>
    obtain ⟨y0, h0⟩ := field hx hf 0 rfl oInt
    obtain ⟨y1, h1⟩ := field hx hf 1 rfl oInt
    have e0 : [c0] = [Value.int .i64 y0] := h0
    have e1 : [c1] = [Value.int .i64 y1] := h1
    injection e0 with e0; injection e1 with e1
    subst e0; subst e1
    exact ⟨⟨y0, y1⟩, k24_mk _ ⟨y0, y1⟩⟩⟩
set_option maxRecDepth 100000 in
theorem oSeat : Opens 47 k47 := ⟨by kernel_rfl, fun {H enc W fuel cs x} h => by
  obtain ⟨xs, n, -, -, hl, hx, hf⟩ := DataW.trod_struct Tryd.underlying47 h
  have hl2 : cs.length = 3 := hl.trans (by kernel_rfl)
  match cs, hl2, hf with
  | [c0, c1, c2], _, hf =>
    obtain ⟨y0, h0⟩ := field hx hf 0 rfl oInt
    obtain ⟨y1, h1⟩ := field hx hf 1 rfl oInt
    obtain ⟨y2, h2⟩ := field hx hf 2 rfl oInt
    have e0 : [c0] = [Value.int .i64 y0] := h0
    have e1 : [c1] = [Value.int .i64 y1] := h1
    have e2 : [c2] = [Value.int .i64 y2] := h2
    injection e0 with e0; injection e1 with e1; injection e2 with e2
    subst e0; subst e1; subst e2
    exact ⟨⟨y0, y1, y2⟩, k47_mk _ ⟨y0, y1, y2⟩⟩⟩
set_option maxRecDepth 100000 in
theorem oGroup : Opens 130 k130 := ⟨by kernel_rfl, fun {H enc W fuel cs x} h => by
  obtain ⟨xs, n, -, -, hl, hx, hf⟩ := DataW.trod_struct Tryd.underlying130 h
  have hl2 : cs.length = 3 := hl.trans (by kernel_rfl)
  match cs, hl2, hf with
  | [c0, c1, c2], _, hf =>
    obtain ⟨y0, h0⟩ := field hx hf 0 rfl oInt
    obtain ⟨y1, h1⟩ := field hx hf 1 rfl oInt
    obtain ⟨y2, h2⟩ := field hx hf 2 rfl oInt
    have e0 : [c0] = [Value.int .i64 y0] := h0
    have e1 : [c1] = [Value.int .i64 y1] := h1
    have e2 : [c2] = [Value.int .i64 y2] := h2
    injection e0 with e0; injection e1 with e1; injection e2 with e2
    subst e0; subst e1; subst e2
    exact ⟨⟨y0, y1, y2⟩, k130_mk _ ⟨y0, y1, y2⟩⟩⟩
set_option maxRecDepth 100000 in
theorem oMeeting : Opens 65 k65 := ⟨by kernel_rfl, fun {H enc W fuel cs x} h => by
  obtain ⟨xs, n, -, -, hl, hx, hf⟩ := DataW.trod_struct Tryd.underlying65 h
  have hl2 : cs.length = 5 := hl.trans (by kernel_rfl)
  match cs, hl2, hf with
  | [c0, c1, c2, c3, c4], _, hf =>
    obtain ⟨y0, h0⟩ := field hx hf 0 rfl oInt
    obtain ⟨y1, h1⟩ := field hx hf 1 rfl oInt
    obtain ⟨y2, h2⟩ := field hx hf 2 rfl oInt
    obtain ⟨y3, h3⟩ := field hx hf 3 rfl oInt
    obtain ⟨y4, h4⟩ := field hx hf 4 rfl oInt
    have e0 : [c0] = [Value.int .i64 y0] := h0
    have e1 : [c1] = [Value.int .i64 y1] := h1
    have e2 : [c2] = [Value.int .i64 y2] := h2
    have e3 : [c3] = [Value.int .i64 y3] := h3
    have e4 : [c4] = [Value.int .i64 y4] := h4
    injection e0 with e0; injection e1 with e1; injection e2 with e2; injection e3 with e3; injection e4 with e4
    subst e0; subst e1; subst e2; subst e3; subst e4
    exact ⟨⟨y0, y1, y2, y3, y4⟩, k65_mk _ ⟨y0, y1, y2, y3, y4⟩⟩⟩
theorem oMeetings : Opens 30 (Kd.slice 65 k65) := opens_slice Tryd.underlying30 (by kernel_rfl) oMeeting z65
theorem oGroups : Opens 31 (Kd.slice 130 k130) := opens_slice Tryd.underlying31 (by kernel_rfl) oGroup z130
theorem oInts : Opens 32 (Kd.slice 3 (Kd.int .i64)) := opens_slice Tryd.underlying32 (by kernel_rfl) oInt 0
theorem oBundles : Opens 28 (Kd.slice 24 k24) := opens_slice Tryd.underlying28 (by kernel_rfl) oBundle z24
theorem oSeats : Opens 44 (Kd.slice 47 k47) := opens_slice Tryd.underlying44 (by kernel_rfl) oSeat z47
set_option maxRecDepth 100000 in
theorem oSection : Opens 34 k34 := ⟨by kernel_rfl, fun {H enc W fuel cs x} h => by
  obtain ⟨xs, n, -, -, hl, hx, hf⟩ := DataW.trod_struct Tryd.underlying34 h
  have hl2 : cs.length = 9 := hl.trans (by kernel_rfl)
  match cs, hl2, hf with
  | [c0, c1, c2, c3, c4, c5, c6, c7, c8], _, hf =>
    obtain ⟨y0, h0⟩ := field hx hf 0 rfl oInt
    obtain ⟨y1, h1⟩ := field hx hf 1 rfl oInt
    obtain ⟨y2, h2⟩ := field hx hf 2 rfl oInt
    obtain ⟨y3, h3⟩ := field hx hf 3 rfl oInt
    obtain ⟨y4, h4⟩ := field hx hf 4 rfl oInt
    obtain ⟨y5, A5, c5', h5, l5, g5⟩ := field hx hf 5 rfl oMeetings
    obtain ⟨y6, A6, c6', h6, l6, g6⟩ := field hx hf 6 rfl oGroups
    obtain ⟨y7, A7, c7', h7, l7, g7⟩ := field hx hf 7 rfl oInts
    obtain ⟨y8, h8⟩ := field hx hf 8 rfl oBool
    have e0 : [c0] = [Value.int .i64 y0] := h0
    have e1 : [c1] = [Value.int .i64 y1] := h1
    have e2 : [c2] = [Value.int .i64 y2] := h2
    have e3 : [c3] = [Value.int .i64 y3] := h3
    have e4 : [c4] = [Value.int .i64 y4] := h4
    have e5 : [c5] = [Value.slice A5 y5.length c5'] := h5
    have e6 : [c6] = [Value.slice A6 y6.length c6'] := h6
    have e7 : [c7] = [Value.slice A7 y7.length c7'] := h7
    have e8 : [c8] = [Value.bool y8] := h8
    injection e0 with e0; injection e1 with e1; injection e2 with e2; injection e3 with e3; injection e4 with e4; injection e5 with e5; injection e6 with e6; injection e7 with e7; injection e8 with e8
    subst e0; subst e1; subst e2; subst e3; subst e4; subst e5; subst e6; subst e7; subst e8
    exact ⟨⟨y0, y1, y2, y3, y4, y5, y6, y7, y8⟩, k34_mk _ ⟨y0, y1, y2, y3, y4, y5, y6, y7, y8⟩ l5 g5 l6 g6 l7 g7⟩⟩
theorem oSections : Opens 22 (Kd.slice 34 k34) := opens_slice Tryd.underlying22 (by kernel_rfl) oSection z34
/-- An argument that is a slice. -/
theorem arg_slice {H : Type} {enc : TypeId × Value → H} {W : World} {t e : Nat} {α : Type} {d : Kd α} (ho : Opens t (Kd.slice e d)) {a : Option Addr} {len cap : Nat} {dd : DataW H} {ps : List MemPlace} (h : DataW.Trod enc Tryd.prog W 0 (fun _ => true) true t (.slice a len cap) dd ps) :
    ∃ l : List α, len = l.length ∧ l.length ≤ cap ∧ d.C W a l.length l := by
  obtain ⟨fuel, hf⟩ := h
  obtain ⟨l, A, c, hc, hl, hC⟩ := ho.2 hf
  have hc' : [Value.slice a len cap] = [Value.slice A l.length c] := hc
  injection hc' with hc'
  injection hc' with h1 h2 h3
  subst h1; subst h2; subst h3
  exact ⟨l, rfl, hl, hC⟩
/-- An argument that is a struct. -/
theorem arg_struct {H : Type} {enc : TypeId × Value → H} {W : World} {t : Nat} {α : Type} {d : Kd α} (ho : Opens t d) {cs : Array Value} {dd : DataW H} {ps : List MemPlace} (h : DataW.Trod enc Tryd.prog W 0 (fun _ => true) true t (.agg cs) dd ps) :
    ∃ y, d.K W y cs.toList := by
  obtain ⟨fuel, hf⟩ := h
  exact ho.2 hf
end Go.Proofs.YtbpgoddohhiohaaDoor
