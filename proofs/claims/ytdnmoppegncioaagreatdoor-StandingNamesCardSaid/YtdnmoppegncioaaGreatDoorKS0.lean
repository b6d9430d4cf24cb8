/- book.look and book.System where no definition is valid: nothing but the read. -/
import Derived.Test.YtdnmoppegncioaaGreatDoorKQ
import Derived.Test.YtdnmoppegncioaaGreatDoorKH
namespace Go.Proofs.YtdnmoppegncioaaGreatDoor
open Go.RowKit Go.Proofs.YtdnmoppegncioaaGreatDoorW.PrintWords
set_option linter.unusedVariables false
set_option linter.unusedSimpArgs false
theorem bin_calls (n lo hi : Int) (W : World) : Calls Tryz.prog 62 #[.int .i64 n, .int .i64 lo, .int .i64 hi] W fun e w' => e = .returned (.bool (inR n lo hi)) ∧ w' = W := by
  cases h1 : decide (lo ≤ n) with
  | false =>
    have hs : inR n lo hi = false := by unfold inR; rw [h1]; rfl
    rw [hs]
    go_enter Tryz.func62, Tryz.ntmps62
    go_wp2
    go_ret
    exact ⟨rfl, rfl⟩
  | true =>
    have hs : inR n lo hi = decide (n ≤ hi) := by unfold inR; rw [h1]; rfl
    rw [hs]
    go_enter Tryz.func62, Tryz.ntmps62
    go_wp2
    go_ret
    exact ⟨rfl, rfl⟩
theorem lit_R {α : Type} {d : Kd α} {w' : World} {g base : Nat} {ps : List α} {inner : List Value} {e : Nat} (hb : w'.heap[g]? = some (.cells inner.toArray e (0, 0))) (hr : Reps (d.M w' base (fun _ => False)) d.sz ps inner) (hm : ps.length ≤ 9223372036854775807) (hg : base ≤ g) : d.R e w' base (fun _ => True) (.slice (some ⟨g, 0, none⟩) ps.length ps.length) ps :=
  ⟨fun _ _ => trivial, inner, ⟨hr.1, .inr ⟨g, ps.length, inner.toArray, rfl, hg, hb, Nat.le_refl _, by simpa [maxLen] using hm, by simp [hr.1], by rw [← hr.1]; simp⟩⟩, hr.imp_ (fun _ _ h => d.M_mono (fun _ h => h.elim) h)⟩
theorem read_R {w' : World} {g base : Nat} (r : S119) (hb : w'.heap[g]? = some (.cells #[.int .i64 r.f0.f0, .int .i64 r.f0.f1, .int .i64 r.f0.f2, .int .i64 r.f1, .int .i64 r.f2] 119 (0, 0))) (hg : base ≤ g) : k119.R 119 w' base (fun _ => True) (.slice (some ⟨g, 0, none⟩) 1 1) [r] :=
  lit_R (ps := [r]) (inner := [.int .i64 r.f0.f0, .int .i64 r.f0.f1, .int .i64 r.f0.f2, .int .i64 r.f1, .int .i64 r.f2]) hb ⟨rfl, fun j p hj => by
    match j, hj with
    | 0, hj => injection hj with hj; subst hj; exact k119_mkM _ _ _ _⟩ (by simp) hg
set_option maxHeartbeats 4000000 in
theorem look_sys_no (D1 D2 D3 D4 : Option Addr) (n1 n2 n3 e1 e2 e3 e4 : Nat) (fs : List S151) (LA : Option Addr) (lc : Nat) (ls : List S26) (k0 k1 k2 t kn : Int) (g : Nat) (fst lb : Array Value) (w : World) (ht : 0 ≤ t ∧ t < 1024) (hr : k151.C w D4 fs.length fs) (hno : fAtB fs k0 k1 k2 t kn = false) :
    Calls Tryz.prog 51 #[.agg #[.slice D1 n1 e1, .slice D2 n2 e2, .slice D3 n3 e3, .slice D4 fs.length e4], .slice LA ls.length lc, .agg #[.int .i64 k0, .int .i64 k1, .int .i64 k2], .int .i64 t, .int .i64 kn, .func (.func g) fst lb] w fun e w' => ∃ rv, e = .returned (.tuple #[.agg #[.slice none 0 0, .slice none 0 0, .slice none 0 0, .slice none 0 0], rv, .bool false]) ∧ k119.R 119 w' w.heap.size (fun _ => True) rv [⟨⟨k0, k1, k2⟩, t, t + 1⟩] ∧ Below w.heap.size w w' := by
  have hin := bin_calls t 0 1023
  rw [show inR t 0 1023 = true by simp [inR]; omega] at hin
  have HIN := Aside0.mk hin; clear hin
  have hwt : IntKind.i64.wrap (t + 1) = t + 1 := wrap_i64 _ (by omega) (by omega)
  have hat := fun V (hV : Below w.heap.size w V) => fat_calls D4 e4 fs k0 k1 k2 t kn V (Kd.C_below hr hV)
  rw [hno] at hat
  have HAT := Aside0.mk hat; clear hat hr
  obtain ⟨W1, h1⟩ : ∃ W1, W1 = w.alloc (.cells #[.slice D1 n1 e1, .slice D2 n2 e2, .slice D3 n3 e3, .slice D4 fs.length e4] 58) := ⟨_, rfl⟩
  obtain ⟨W2, h2⟩ : ∃ W2, W2 = W1.alloc (.cells #[.int .i64 k0, .int .i64 k1, .int .i64 k2] 99) := ⟨_, rfl⟩
  obtain ⟨W3, h3⟩ : ∃ W3, W3 = W2.alloc (.cells #[.slice none 0 0, .slice none 0 0, .slice none 0 0, .slice none 0 0] 26) := ⟨_, rfl⟩
  obtain ⟨W4, h4⟩ : ∃ W4, W4 = W3.alloc (.cells #[.int .i64 k0, .int .i64 k1, .int .i64 k2, .int .i64 t, .int .i64 (t + 1)] 119) := ⟨_, rfl⟩
  have p1 := nb (W := w) rfl (.cells #[.slice D1 n1 e1, .slice D2 n2 e2, .slice D3 n3 e3, .slice D4 fs.length e4] 58); rw [← h1] at p1
  have p2 := nb p1.2 (.cells #[.int .i64 k0, .int .i64 k1, .int .i64 k2] 99); rw [← h2] at p2
  have p3 := nb p2.2 (.cells #[.slice none 0 0, .slice none 0 0, .slice none 0 0, .slice none 0 0] 26); rw [← h3] at p3
  have p4 := nb p3.2 (.cells #[.int .i64 k0, .int .i64 k1, .int .i64 k2, .int .i64 t, .int .i64 (t + 1)] 119); rw [← h4] at p4
  have HB4 := Aside0.mk (show Below w.heap.size w W4 by rw [h4, h3, h2, h1]; exact ((((Below.refl _ w).alloc (Nat.le_refl _) _).alloc (by simp) _).alloc (by simp; omega) _).alloc (by simp; omega) _)
  have HZ4 := Aside0.mk (show W4.heap[w.heap.size + 1 + 1]? = some (.cells #[.slice none 0 0, .slice none 0 0, .slice none 0 0, .slice none 0 0] 26 (0, 0)) by rw [h4]; exact blk_alloc p3.1 _)
  have HR4 := Aside0.mk p4.1
  clear p1 p2 p3 p4
  go_enter Tryz.func51, Tryz.ntmps51
  go_wp2_with fail
  refine (HIN.out _).mono ?_
  rintro e v1 ⟨rfl, rfl⟩
  go_wp2_with fail
  (try rw [← h1]); (try rw [← h2]); (try rw [← h3]); (try rw [← h4])
  clear h1 h2 h3 h4 W1 W2 W3
  refine (HAT.out _ HB4.out).mono ?_
  rintro e v2 ⟨rfl, hb2⟩
  have HB5 := Aside0.mk (below_tr HB4.out hb2); have HZ5 := Aside0.mk (blk_low hb2 HZ4.out); have HR5 := Aside0.mk (blk_low hb2 HR4.out)
  clear hb2 HB4 HZ4 HR4 HAT
  have z0 := (blk_cell HZ5.out 0).trans rfl; have z1 := (blk_cell HZ5.out 1).trans rfl; have z2 := (blk_cell HZ5.out 2).trans rfl; have z3 := (blk_cell HZ5.out 3).trans rfl
  have zf : ∀ i, v2.frozen? ⟨w.heap.size + 1 + 1, i, none⟩ = false := fun i => blk_frozen HZ5.out i
  go_wp2
  have hf := blk_put4 HZ5.out (.slice none 0 0) (.slice none 0 0) (.slice none 0 0) (.slice none 0 0)
  have u0 := (blk_cell hf 0).trans rfl; have u1 := (blk_cell hf 1).trans rfl; have u2 := (blk_cell hf 2).trans rfl; have u3 := (blk_cell hf 3).trans rfl
  exact bodyPost_ret (v := .tuple #[.agg #[.slice none 0 0, .slice none 0 0, .slice none 0 0, .slice none 0 0], .slice (some ⟨w.heap.size + 1 + 1 + 1, 0, none⟩) 1 1, .bool false]) (by simp [results, Tryz.f51, go_sem, u0, u1, u2, u3]) rfl ⟨_, rfl, read_R ⟨⟨k0, k1, k2⟩, t, t + 1⟩ ((far_put4 (by omega) _ _ _ _).trans HR5.out) (by omega), below_put4 HB5.out (by omega) _ _ _ _⟩
set_option maxHeartbeats 4000000 in
theorem look_sys_far (D1 D2 D3 D4 : Option Addr) (n1 n2 n3 e1 e2 e3 e4 : Nat) (fs : List S151) (LA : Option Addr) (lc : Nat) (ls : List S26) (k0 k1 k2 t kn : Int) (g : Nat) (fst lb : Array Value) (w : World) (ht : 0 ≤ t ∧ t < 1024) (hr : k151.C w D4 fs.length fs) (hok : fAtB fs k0 k1 k2 t kn = true) (hn0 : 0 ≤ fAtN fs k0 k1 k2 t kn) (hfar : (ls.length : Int) ≤ fAtN fs k0 k1 k2 t kn) :
    Calls Tryz.prog 51 #[.agg #[.slice D1 n1 e1, .slice D2 n2 e2, .slice D3 n3 e3, .slice D4 fs.length e4], .slice LA ls.length lc, .agg #[.int .i64 k0, .int .i64 k1, .int .i64 k2], .int .i64 t, .int .i64 kn, .func (.func g) fst lb] w fun e w' => ∃ rv, e = .returned (.tuple #[.agg #[.slice none 0 0, .slice none 0 0, .slice none 0 0, .slice none 0 0], rv, .bool false]) ∧ k119.R 119 w' w.heap.size (fun _ => True) rv [⟨⟨k0, k1, k2⟩, t, t + 1⟩] ∧ Below w.heap.size w w' := by
  have hin := bin_calls t 0 1023
  rw [show inR t 0 1023 = true by simp [inR]; omega] at hin
  have HIN := Aside0.mk hin; clear hin
  have hwt : IntKind.i64.wrap (t + 1) = t + 1 := wrap_i64 _ (by omega) (by omega)
  have hat := fun V (hV : Below w.heap.size w V) => fat_calls D4 e4 fs k0 k1 k2 t kn V (Kd.C_below hr hV)
  rw [hok] at hat
  have HAT := Aside0.mk hat; clear hat hr hok
  generalize fAtN fs k0 k1 k2 t kn = ix at HAT hn0 hfar
  have c1 : decide (ix < 0) = false := decide_eq_false (by omega)
  have c2 : decide ((ls.length : Int) ≤ ix) = true := decide_eq_true hfar
  obtain ⟨W1, h1⟩ : ∃ W1, W1 = w.alloc (.cells #[.slice D1 n1 e1, .slice D2 n2 e2, .slice D3 n3 e3, .slice D4 fs.length e4] 58) := ⟨_, rfl⟩
  obtain ⟨W2, h2⟩ : ∃ W2, W2 = W1.alloc (.cells #[.int .i64 k0, .int .i64 k1, .int .i64 k2] 99) := ⟨_, rfl⟩
  obtain ⟨W3, h3⟩ : ∃ W3, W3 = W2.alloc (.cells #[.slice none 0 0, .slice none 0 0, .slice none 0 0, .slice none 0 0] 26) := ⟨_, rfl⟩
  obtain ⟨W4, h4⟩ : ∃ W4, W4 = W3.alloc (.cells #[.int .i64 k0, .int .i64 k1, .int .i64 k2, .int .i64 t, .int .i64 (t + 1)] 119) := ⟨_, rfl⟩
  have p1 := nb (W := w) rfl (.cells #[.slice D1 n1 e1, .slice D2 n2 e2, .slice D3 n3 e3, .slice D4 fs.length e4] 58); rw [← h1] at p1
  have p2 := nb p1.2 (.cells #[.int .i64 k0, .int .i64 k1, .int .i64 k2] 99); rw [← h2] at p2
  have p3 := nb p2.2 (.cells #[.slice none 0 0, .slice none 0 0, .slice none 0 0, .slice none 0 0] 26); rw [← h3] at p3
  have p4 := nb p3.2 (.cells #[.int .i64 k0, .int .i64 k1, .int .i64 k2, .int .i64 t, .int .i64 (t + 1)] 119); rw [← h4] at p4
  have HB4 := Aside0.mk (show Below w.heap.size w W4 by rw [h4, h3, h2, h1]; exact ((((Below.refl _ w).alloc (Nat.le_refl _) _).alloc (by simp) _).alloc (by simp; omega) _).alloc (by simp; omega) _)
  have HZ4 := Aside0.mk (show W4.heap[w.heap.size + 1 + 1]? = some (.cells #[.slice none 0 0, .slice none 0 0, .slice none 0 0, .slice none 0 0] 26 (0, 0)) by rw [h4]; exact blk_alloc p3.1 _)
  have HR4 := Aside0.mk p4.1
  clear p1 p2 p3 p4
  go_enter Tryz.func51, Tryz.ntmps51
  go_wp2_with fail
  refine (HIN.out _).mono ?_
  rintro e v1 ⟨rfl, rfl⟩
  go_wp2_with fail
  (try rw [← h1]); (try rw [← h2]); (try rw [← h3]); (try rw [← h4])
  clear h1 h2 h3 h4 W1 W2 W3
  refine (HAT.out _ HB4.out).mono ?_
  rintro e v2 ⟨rfl, hb2⟩
  have HB5 := Aside0.mk (below_tr HB4.out hb2); have HZ5 := Aside0.mk (blk_low hb2 HZ4.out); have HR5 := Aside0.mk (blk_low hb2 HR4.out)
  clear hb2 HB4 HZ4 HR4 HAT
  have z0 := (blk_cell HZ5.out 0).trans rfl; have z1 := (blk_cell HZ5.out 1).trans rfl; have z2 := (blk_cell HZ5.out 2).trans rfl; have z3 := (blk_cell HZ5.out 3).trans rfl
  have zf : ∀ i, v2.frozen? ⟨w.heap.size + 1 + 1, i, none⟩ = false := fun i => blk_frozen HZ5.out i
  go_wp2
  have hf := blk_put4 HZ5.out (.slice none 0 0) (.slice none 0 0) (.slice none 0 0) (.slice none 0 0)
  have u0 := (blk_cell hf 0).trans rfl; have u1 := (blk_cell hf 1).trans rfl; have u2 := (blk_cell hf 2).trans rfl; have u3 := (blk_cell hf 3).trans rfl
  exact bodyPost_ret (v := .tuple #[.agg #[.slice none 0 0, .slice none 0 0, .slice none 0 0, .slice none 0 0], .slice (some ⟨w.heap.size + 1 + 1 + 1, 0, none⟩) 1 1, .bool false]) (by simp [results, Tryz.f51, go_sem, u0, u1, u2, u3]) rfl ⟨_, rfl, read_R ⟨⟨k0, k1, k2⟩, t, t + 1⟩ ((far_put4 (by omega) _ _ _ _).trans HR5.out) (by omega), below_put4 HB5.out (by omega) _ _ _ _⟩
/-- The slices of a world. -/
abbrev wldV (D1 D2 D3 D4 : Option Addr) (n1 n2 n3 n4 e1 e2 e3 e4 : Nat) : Value := .agg #[.slice D1 n1 e1, .slice D2 n2 e2, .slice D3 n3 e3, .slice D4 n4 e4]
set_option maxHeartbeats 4000000 in
theorem bsys_of (D1 D2 D3 D4 : Option Addr) (n1 n2 n3 n4 e1 e2 e3 e4 : Nat) (t kn : Int) (P0 P1 P2 P3 : Option Addr) (m0 m1 m2 m3 q0 q1 q2 q3 : Nat) (b : Bool) (ys : List S119) (w : World)
    (hl : ∀ V, Below w.heap.size w V → Calls Tryz.prog 51 #[.agg #[.slice D1 n1 e1, .slice D2 n2 e2, .slice D3 n3 e3, .slice D4 n4 e4], .slice D3 n3 e3, .agg #[.int .i64 4, .int .i64 0, .int .i64 0], .int .i64 t, .int .i64 kn, .func (.func 52) #[] #[]] V fun e w' => ∃ rv, e = .returned (.tuple #[.agg #[.slice P0 m0 q0, .slice P1 m1 q1, .slice P2 m2 q2, .slice P3 m3 q3], rv, .bool b]) ∧ k119.R 119 w' V.heap.size (fun _ => True) rv ys ∧ Below V.heap.size V w') :
    Calls Tryz.prog 42 #[.agg #[.slice D1 n1 e1, .slice D2 n2 e2, .slice D3 n3 e3, .slice D4 n4 e4], .int .i64 t, .int .i64 kn] w fun e w' => ∃ rv, e = .returned (.tuple #[.agg #[.slice P0 m0 q0, .slice P1 m1 q1, .slice P2 m2 q2, .slice P3 m3 q3], rv]) ∧ k119.R 119 w' w.heap.size (fun _ => True) rv ys ∧ Below w.heap.size w w' := by
  have b1 := ((Below.refl w.heap.size w).alloc (Nat.le_refl _) (.cells #[.slice D1 n1 e1, .slice D2 n2 e2, .slice D3 n3 e3, .slice D4 n4 e4] 58)).alloc (by simp) (.cells #[.slice none 0 0, .slice none 0 0, .slice none 0 0, .slice none 0 0] 26)
  have x1 := new_blk (w.alloc (.cells #[.slice D1 n1 e1, .slice D2 n2 e2, .slice D3 n3 e3, .slice D4 n4 e4] 58)) (.cells #[.slice none 0 0, .slice none 0 0, .slice none 0 0, .slice none 0 0] 26)
  rw [World.size_alloc] at x1
  have HL := Aside0.mk (hl _ b1); have HB := Aside0.mk b1; have HX := Aside0.mk x1
  clear hl b1 x1
  go_enter Tryz.func42, Tryz.ntmps42
  go_wp2_with fail
  refine HL.out.mono ?_
  rintro e w2 ⟨rv, rfl, hR, hb⟩
  obtain ⟨A, c, rfl⟩ := Kd.R_slice hR
  have hx2 := blk_low hb HX.out
  have HR := Aside0.mk (Kd.R_lower hR HB.out.size); have HB2 := Aside0.mk (below_tr HB.out hb); have HX2 := Aside0.mk hx2
  have z0 := (blk_cell hx2 0).trans rfl; have z1 := (blk_cell hx2 1).trans rfl; have z2 := (blk_cell hx2 2).trans rfl; have z3 := (blk_cell hx2 3).trans rfl
  have zf : ∀ i, w2.frozen? ⟨w.heap.size + 1, i, none⟩ = false := fun i => blk_frozen hx2 i
  clear hR hb hx2 HX HL HB
  go_wp2
  have hf := blk_put4 (blk_put4 HX2.out (.slice P0 m0 q0) (.slice P1 m1 q1) (.slice P2 m2 q2) (.slice P3 m3 q3)) (.slice P0 m0 q0) (.slice P1 m1 q1) (.slice P2 m2 q2) (.slice P3 m3 q3)
  have u0 := (blk_cell hf 0).trans rfl; have u1 := (blk_cell hf 1).trans rfl; have u2 := (blk_cell hf 2).trans rfl; have u3 := (blk_cell hf 3).trans rfl
  exact bodyPost_ret (v := .tuple #[.agg #[.slice P0 m0 q0, .slice P1 m1 q1, .slice P2 m2 q2, .slice P3 m3 q3], .slice A ys.length c]) (by simp [results, Tryz.f42, go_sem, u0, u1, u2, u3]) rfl ⟨_, rfl, R_put4 (R_put4 HR.out HX2.out (by decide) _ _ _ _) (blk_put4 HX2.out _ _ _ _) (by decide) _ _ _ _, below_put4 (below_put4 HB2.out (by omega) _ _ _ _) (by omega) _ _ _ _⟩
end Go.Proofs.YtdnmoppegncioaaGreatDoor
