/- book.Numbers, record.Of and record.Counted on the empty world. -/
import Derived.Test.YtdnmoppegncioaaGreatDoorKS0
import Derived.Test.YtdnmoppegncioaaGreatDoorKZ
import Derived.Shelf.Sort.So_math_bits_Len64In
namespace Go.Proofs.YtdnmoppegncioaaGreatDoor
open Go.RowKit Go.Shelf Go.Proofs.YtdnmoppegncioaaGreatDoorW.PrintWords
set_option linter.unusedVariables false
set_option linter.unusedSimpArgs false
theorem ins_ord_none (w : World) : Calls Tryz.prog 127 #[.slice none 0 0, .int .i64 0, .int .i64 0] w fun e w' => e = .returned (.tuple #[]) ∧ w' = w := by
  go_enter Tryz.func127, Tryz.ntmps127
  go_wp2
  refine wp_loop_rounds 1 ?_
  rw [rounds_succ]
  go_wp2
  go_end0
  exact ⟨rfl, rfl⟩
set_option maxHeartbeats 2000000 in
set_option maxRecDepth 100000 in
theorem pdq_ord_none (lim : Int) (w : World) : Calls Tryz.prog 120 #[.slice none 0 0, .int .i64 0, .int .i64 0, .int .i64 lim] w fun e w' => e = .returned (.tuple #[]) ∧ w' = w := by
  have hi := Aside0.mk (ins_ord_none w)
  go_enter Tryz.func120, Tryz.ntmps120
  go_wp2
  refine wp_loop_rounds 1 ?_
  rw [rounds_succ]
  go_wp2_with (go_at_call 127; refine hi.out.mono ?_; rintro e w' ⟨rfl, rfl⟩)
  (try simp only [Exit.inBlock, Exit.then]); refine bodyPost_ret (results_none rfl _ _ _) rfl ?_
  exact ⟨rfl, rfl⟩
set_option maxHeartbeats 2000000 in
def blRen : Ren := ⟨fun k => if k = 129 then 117 else 0, fun t => if t = 3 then 3 else if t = 4 then 4 else if t = 5 then 5 else if t = 9 then 9 else if t = 46 then 164 else if t = 53 then 66 else 0, fun g => g⟩
set_option maxRecDepth 100000 in
theorem blLays : Lays.n129 Tryz.prog blRen where
  mixed := by kernel_rfl
  f129 := by kernel_rfl
  t3 := by kernel_rfl
  a3 := fun w => by kernel_rfl
  z3 := fun w => by kernel_rfl
  v3 := fun w => by kernel_rfl
  t4 := by kernel_rfl
  a4 := fun w => by kernel_rfl
  z4 := fun w => by kernel_rfl
  v4 := fun w => by kernel_rfl
  t5 := by kernel_rfl
  a5 := fun w => by kernel_rfl
  z5 := fun w => by kernel_rfl
  v5 := fun w => by kernel_rfl
  t9 := by kernel_rfl
  a9 := fun w => by kernel_rfl
  z9 := fun w => by kernel_rfl
  v9 := fun w => by kernel_rfl
  t46 := by kernel_rfl
  a46 := fun w => by kernel_rfl
  z46 := fun w => by kernel_rfl
  v46 := fun w => by kernel_rfl
  t53 := by kernel_rfl
  a53 := fun w => by kernel_rfl
  z53 := fun w => by kernel_rfl
  v53 := fun w => by kernel_rfl

theorem len64_calls (n : Nat) (hn : n ≤ 9223372036854775807) (W : World) : Calls Tryz.prog 117 #[.int .u64 n] W fun e w' => (∃ l : Int, e = .returned (.int .i64 l)) ∧ w' = W := fun cs => by
  obtain ⟨e, w', fr, r, s, x⟩ := (AnyS.bits_Len64In blLays (cs.length + 5) (n : Int) W (by omega) (by omega)).2 cs (fun d hd => by cases hd; omega)
  exact ⟨e, w', fr, ⟨⟨_, r.1⟩, r.2⟩, s.comes, x⟩
theorem len_calls (n : Nat) (hn : n ≤ 9223372036854775807) (W : World) : Calls Tryz.prog 94 #[.int .u64 n] W fun e w' => (∃ l : Int, e = .returned (.int .i64 l)) ∧ w' = W := by
  have hc := len64_calls n hn W
  go_enter Tryz.func94, Tryz.ntmps94
  go_wp2_with (go_at_call 117; refine hc.mono ?_; rintro e w1 ⟨⟨l, rfl⟩, rfl⟩)
  all_goals
    go_ret
    exact ⟨⟨_, rfl⟩, rfl⟩
theorem sort_ord_none (w : World) : Calls Tryz.prog 103 #[.slice none 0 0] w fun e w' => e = .returned (.tuple #[]) ∧ w' = w := by
  have hi := Aside0.mk (fun lim => pdq_ord_none lim w)
  have hl := Aside0.mk (len_calls 0 (by omega) w)
  go_enter Tryz.func103, Tryz.ntmps103
  go_wp2_with (first | (go_at_call 94; refine hl.out.mono ?_; rintro e w' ⟨⟨l, rfl⟩, rfl⟩) | (go_at_call 120; refine (hi.out _).mono ?_; rintro e w' ⟨rfl, rfl⟩))
  go_end0
  exact ⟨rfl, rfl⟩
set_option maxHeartbeats 2000000 in
theorem ins_att_none (w : World) : Calls Tryz.prog 108 #[.slice none 0 0, .int .i64 0, .int .i64 0, .func (.func 75) #[] #[]] w fun e w' => e = .returned (.tuple #[]) ∧ w' = w := by
  go_enter Tryz.func108, Tryz.ntmps108
  go_wp2
  refine wp_loop_rounds 1 ?_
  rw [rounds_succ]
  go_wp2
  go_end0
  exact ⟨rfl, rfl⟩
set_option maxHeartbeats 2000000 in
set_option maxRecDepth 100000 in
theorem pdq_att_none (lim : Int) (w : World) : Calls Tryz.prog 93 #[.slice none 0 0, .int .i64 0, .int .i64 0, .int .i64 lim, .func (.func 75) #[] #[]] w fun e w' => e = .returned (.tuple #[]) ∧ w' = w := by
  have hi := Aside0.mk (ins_att_none w)
  go_enter Tryz.func93, Tryz.ntmps93
  go_wp2
  refine wp_loop_rounds 1 ?_
  rw [rounds_succ]
  go_wp2_with (go_at_call 108; refine hi.out.mono ?_; rintro e w' ⟨rfl, rfl⟩)
  (try simp only [Exit.inBlock, Exit.then]); refine bodyPost_ret (results_none rfl _ _ _) rfl ?_
  exact ⟨rfl, rfl⟩
theorem sort_att_none (w : World) : Calls Tryz.prog 74 #[.slice none 0 0, .func (.func 75) #[] #[]] w fun e w' => e = .returned (.tuple #[]) ∧ w' = w := by
  have hi := Aside0.mk (fun lim => pdq_att_none lim w)
  have hl := Aside0.mk (len_calls 0 (by omega) w)
  go_enter Tryz.func74, Tryz.ntmps74
  go_wp2_with (first | (go_at_call 94; refine hl.out.mono ?_; rintro e w' ⟨⟨l, rfl⟩, rfl⟩) | (go_at_call 93; refine (hi.out _).mono ?_; rintro e w' ⟨rfl, rfl⟩))
  go_end0
  exact ⟨rfl, rfl⟩
set_option maxHeartbeats 4000000 in
theorem numbers_nil (kn : Int) (w : World) :
    Calls Tryz.prog 89 #[.agg #[.slice none 0 0, .slice none 0 0, .slice none 0 0, .slice none 0 0], .int .i64 kn] w fun e w' => ∃ lv rv, e = .returned (.tuple #[lv, rv]) ∧ (Kd.int .i64).R 3 w' w.heap.size (fun _ => True) lv [] ∧ k119.R 119 w' w.heap.size (fun _ => True) rv [⟨⟨12, 0, 0⟩, 0, 1⟩] ∧ Below w.heap.size w w' := by
  have b1 := ((Below.refl w.heap.size w).alloc (Nat.le_refl _) (.cells #[.slice none 0 0, .slice none 0 0, .slice none 0 0, .slice none 0 0] 58)).alloc (by simp) (.cells #[.int .i64 12, .int .i64 0, .int .i64 0] 99)
  have x1 := new_blk (w.alloc (.cells #[.slice none 0 0, .slice none 0 0, .slice none 0 0, .slice none 0 0] 58)) (.cells #[.int .i64 12, .int .i64 0, .int .i64 0] 99)
  rw [World.size_alloc] at x1
  have y1 := blk_alloc (new_blk w (.cells #[.slice none 0 0, .slice none 0 0, .slice none 0 0, .slice none 0 0] 58)) (.cells #[.int .i64 12, .int .i64 0, .int .i64 0] 99)
  have hat := fat_calls none 0 [] 12 0 0 0 kn _ (Kd.C_nil k151 ((w.alloc (.cells #[.slice none 0 0, .slice none 0 0, .slice none 0 0, .slice none 0 0] 58)).alloc (.cells #[.int .i64 12, .int .i64 0, .int .i64 0] 99)))
  have e1 : fAtN [] 12 0 0 0 kn = 0 := rfl
  have e2 : fAtB [] 12 0 0 0 kn = false := rfl
  rw [e1, e2] at hat
  have HAT := Aside0.mk hat; have HB := Aside0.mk b1; have HX := Aside0.mk x1; have HY := Aside0.mk y1; clear hat b1 x1 y1 e1 e2
  go_enter Tryz.func89, Tryz.ntmps89
  go_wp2_with fail
  refine HAT.out.mono ?_
  rintro e w2 ⟨rfl, hb⟩
  have hy2 := blk_low hb HY.out
  have z3 : ∀ o : Obj, (w2.alloc o).cell? ⟨w.heap.size, 3, none⟩ = some (.slice none 0 0) := fun o => (blk_cell (blk_alloc hy2 o) 3).trans rfl
  have HX2 := Aside0.mk (blk_low hb HX.out); have HB2 := Aside0.mk (below_tr HB.out hb)
  clear hb hy2 HY HX HB HAT
  have hmm := @run_makeMap Tryz.prog
  have HS := Aside0.mk (fun W => sort_ord_none W)
  go_wp2_with fail
  clear hmm
  have hx3 := blk_alloc HX2.out (.map #[] 0)
  have HB3 := Aside0.mk (HB2.out.alloc HB2.out.size (.map #[] 0))
  clear z3 HX2 HB2
  generalize w2.alloc (.map #[] 0) = w3 at *
  have k0 := (blk_cell hx3 0).trans rfl; have k1 := (blk_cell hx3 1).trans rfl; have k2 := (blk_cell hx3 2).trans rfl
  clear hx3
  refine wp_loop_rounds 1 ?_
  rw [rounds_succ]
  go_wp2_with fail
  refine (HS.out _).mono ?_
  rintro e w4 ⟨rfl, rfl⟩
  go_wp2
  go_region
  all_goals
    go_wp2
    exact bodyPost_ret (v := .tuple #[.slice none 0 0, .slice (some ⟨w4.heap.size, 0, none⟩) 1 1]) (by simp [results, Tryz.f89, go_sem]) rfl ⟨_, _, rfl, Kd.R_nil _ _ _ _ _, read_R ⟨⟨12, 0, 0⟩, 0, 1⟩ (show ((w4.alloc (.cells #[.int .i64 12, .int .i64 0, .int .i64 0, .int .i64 0, .int .i64 1] 119)).drew).heap[w4.heap.size]? = _ from new_blk w4 _) HB3.out.size, below_drew (HB3.out.alloc HB3.out.size _)⟩
set_option maxHeartbeats 4000000 in
theorem lof_nil (g : Nat) (v : Value) (st t kn : Int) (xs : List S119) (B : Nat) (w0 w : World) (hg : w.heap[g]? = some (lookO v (.slice none 0 0) (.slice none 0 0) (.slice none 0 0) (.slice none 0 0) (.int .i64 kn))) (hR : k119.R 119 w B (fun _ => True) v xs) (hB : B ≤ w.heap.size) (hgB : B ≤ g) (hl : (xs.length + 1) * 40 ≤ 140737488355328) (hb : Below B w0 w) :
    Calls Tryz.prog 54 #[.pointer (some ⟨g, 0, none⟩), .int .i64 st, .int .i64 t] w fun e w' => e = .returned (.agg #[.int .i64 st, .slice none 0 0]) ∧ ∃ v', w'.heap[g]? = some (lookO v' (.slice none 0 0) (.slice none 0 0) (.slice none 0 0) (.slice none 0 0) (.int .i64 kn)) ∧ k119.R 119 w' B (fun _ => True) v' (xs ++ [⟨⟨12, 0, 0⟩, 0, 1⟩]) ∧ Below B w0 w' ∧ KeepL w w' := by
  have b1 := (Below.refl w.heap.size w).alloc (Nat.le_refl _) (.cells #[.int .i64 st, .slice none 0 0] 88)
  have x1 := new_blk w (.cells #[.int .i64 st, .slice none 0 0] 88)
  have HC := Aside0.mk (lnum_calls g v _ _ _ _ kn [] xs [⟨⟨12, 0, 0⟩, 0, 1⟩] B w0 (w.alloc (.cells #[.int .i64 st, .slice none 0 0] 88)) (fun V _ => numbers_nil kn V) (blk_low b1 hg) (Kd.R_below hR b1) (Nat.le_trans hB b1.size) hgB (by simpa using hl) (hb.trans (b1.mono hB)))
  have HX := Aside0.mk x1
  have HS := Aside0.mk (fun W => sort_att_none W)
  have hgl := blk_lt hg
  have hsz1 : w.heap.size ≤ (w.alloc (.cells #[.int .i64 st, .slice none 0 0] 88)).heap.size := b1.size
  have HKA := Aside0.mk (KeepL.of_below b1)
  clear b1 x1 hg hR hb
  go_enter Tryz.func54, Tryz.ntmps54
  go_wp2_with fail
  refine HC.out.mono ?_
  rintro e w2 ⟨lv, rfl, hL, v2, hx2, hR2, hb2, hk2⟩
  obtain ⟨A, c, rfl⟩ := Kd.R_slice hL
  have hn2 := hk2 _ _ _ _ (by decide) (by decide) HX.out
  have HX2 := Aside0.mk hx2; have HR2 := Aside0.mk hR2; have HB2 := Aside0.mk hb2; have HN2 := Aside0.mk hn2
  have z0 := (blk_cell hn2 0).trans rfl; have z1 := (blk_cell hn2 1).trans rfl
  have zf : ∀ i, w2.frozen? ⟨w.heap.size, i, none⟩ = false := fun i => blk_frozen hn2 i
  have HK2 := Aside0.mk (HKA.out.trans hk2)
  clear hx2 hR2 hb2 hk2 hL HC HX hn2
  go_wp2
  refine wp_loop_rounds 1 ?_
  rw [rounds_succ]
  go_wp2_with fail
  refine (HS.out _).mono ?_
  rintro e w3 ⟨rfl, rfl⟩
  go_wp2
  have hf := blk_put2 HN2.out (.int .i64 st) (.slice none 0 0)
  have u0 := (blk_cell hf 0).trans rfl; have u1 := (blk_cell hf 1).trans rfl
  have hlt := blk_lt HN2.out
  exact bodyPost_ret (v := .agg #[.int .i64 st, .slice none 0 0]) (by simp [results, Tryz.f54, go_sem, u0, u1]) rfl ⟨rfl, v2, (Below.heap_setCell _ _ _ _ (by simp; omega)).trans ((Below.heap_setCell _ _ _ _ (by simp; omega)).trans HX2.out), Kd.R_set (Kd.R_set HR2.out HN2.out (by decide) 0 _) (blk_put (cs' := #[.int .i64 st, .slice none 0 0]) HN2.out 0 _ rfl) (by decide) 1 _, below_put2 HB2.out hB _ _, fun k cs t f h1 h2 hk => (Below.heap_setCell _ _ _ _ (show k ≠ w.heap.size by have := blk_lt hk; omega)).trans ((Below.heap_setCell _ _ _ _ (show k ≠ w.heap.size by have := blk_lt hk; omega)).trans (HK2.out k cs t f h1 h2 hk))⟩
set_option maxHeartbeats 2000000 in
theorem rcheck_nil (st : Int) (hst : 0 ≤ st ∧ st < 20000) (A : Option Addr) (c : Nat) (w : World) : Calls Tryz.prog 55 #[.agg #[.int .i64 st, .slice A 0 c]] w fun e w' => e = .returned (.int .i64 0) ∧ Below w.heap.size w w' := by
  have h1 := fun W => rwithin_calls st 0 19999 W
  rw [show inR st 0 19999 = true by simp [inR]; omega] at h1
  have H1 := Aside0.mk h1; clear h1
  have HB := Aside0.mk ((Below.refl w.heap.size w).alloc (Nat.le_refl _) (.cells #[.int .i64 st, .slice A 0 c] 88))
  go_enter Tryz.func55, Tryz.ntmps55
  go_wp2_with (go_at_call 53; refine (H1.out _).mono ?_; rintro e w1 ⟨rfl, rfl⟩)
  refine wp_loop_rounds 1 ?_
  rw [rounds_succ]
  go_wp2
  go_ret
  exact ⟨rfl, HB.out⟩
theorem kinds_calls (w : World) : Calls Tryz.prog 96 #[] w fun e w' => e = .returned (.agg #[.bool true, .func (.func 118) #[] #[], .bool true, .func (.func 119) #[] #[], .bool false, .nilFunc]) ∧ Below w.heap.size w w' := by
  have hb := Aside0.mk ((Below.refl w.heap.size w).alloc (Nat.le_refl _) (.cells #[.bool true, .func (.func 118) #[] #[], .bool true, .func (.func 119) #[] #[], .bool false, .nilFunc] 169))
  go_enter Tryz.func96, Tryz.ntmps96
  go_wp2
  exact bodyPost_ret (v := .agg #[.bool true, .func (.func 118) #[] #[], .bool true, .func (.func 119) #[] #[], .bool false, .nilFunc]) (by simp [results, Tryz.f96, go_sem]) rfl ⟨rfl, hb.out⟩
set_option maxRecDepth 100000 in
set_option maxHeartbeats 4000000 in
theorem acounted_nil (A B : Option Addr) (c d : Nat) (w : World) (hr : k141.C w A 0 []) : Calls Tryz.prog 76 #[.slice A 0 c, .slice B 0 d] w fun e w' => e = .returned (.tuple #[.slice none 0 0, .int .i64 0]) ∧ Below w.heap.size w w' := by
  have hmm := @run_makeMap Tryz.prog
  have HC := Aside0.mk (acheck_calls A c [] w hr)
  have HK := Aside0.mk (fun W => kinds_calls W)
  clear hr
  go_enter Tryz.func76, Tryz.ntmps76
  go_wp2_with fail
  refine HC.out.mono ?_
  rintro e w1 ⟨rfl, hb1⟩
  rw [show aCheck [] = 0 from rfl]
  go_wp2_with fail
  refine (HK.out _).mono ?_
  rintro e w2 ⟨rfl, hb2⟩
  have HB := Aside0.mk (below_tr hb1 hb2); clear hb1 hb2
  go_wp2
  refine wp_loop_rounds 1 ?_
  rw [rounds_succ]
  go_wp2
  refine wp_loop_rounds 1 ?_
  rw [rounds_succ]
  go_wp2
  exact bodyPost_ret (v := .tuple #[.slice none 0 0, .int .i64 0]) (by simp [results, Tryz.f76, go_sem]) rfl ⟨rfl, ((HB.out.alloc HB.out.size _).alloc (by have := HB.out.size; simp; omega) _).alloc (by have := HB.out.size; simp; omega) _⟩
set_option maxRecDepth 100000 in
set_option maxHeartbeats 4000000 in
theorem lcounted_nil (g : Nat) (A : Option Addr) (c : Nat) (t : Int) (w : World) (hr : k141.C w A 0 []) :
    Calls Tryz.prog 56 #[.pointer (some ⟨g, 0, none⟩), .slice A 0 c, .int .i64 t] w fun e w' => e = .returned (.tuple #[.slice none 0 0, .int .i64 0]) ∧ Below w.heap.size w w' := by
  have hmk : ∀ w, (Instr.makeSlice 128 (.int .i64 0) (.int .i64 0)).run Tryz.prog w = .ok (.slice (some ⟨w.heap.size, 0, none⟩) 0 0) (w.alloc (.cells #[] 3)) := fun _ => by kernel_rfl
  have hb := (Below.refl w.heap.size w).alloc (Nat.le_refl _) (.cells #[] 3)
  have HC := Aside0.mk (fun B => acounted_nil A B c 0 (w.alloc (.cells #[] 3)) (Kd.C_below hr hb))
  have HB := Aside0.mk hb; clear hr hb
  go_enter Tryz.func56, Tryz.ntmps56
  go_wp2
  refine wp_loop_rounds 1 ?_
  rw [rounds_succ]
  go_wp2_with fail
  refine (HC.out _).mono ?_
  rintro e w2 ⟨rfl, hb2⟩
  have HB2 := Aside0.mk (below_tr HB.out hb2); clear hb2
  go_wp2
  exact bodyPost_ret (v := .tuple #[.slice none 0 0, .int .i64 0]) (by simp [results, Tryz.f56, go_sem]) rfl ⟨rfl, HB2.out⟩
theorem rof_nil (st t kn : Int) (w : World) (hst : 0 ≤ st ∧ st < 20000) (ht : 0 ≤ t ∧ t ≤ 1024) :
    Calls Tryz.prog 44 #[.agg #[.slice none 0 0, .slice none 0 0, .slice none 0 0, .slice none 0 0], .int .i64 st, .int .i64 t, .int .i64 kn] w fun e w' => ∃ av rv, e = .returned (.tuple #[.agg #[.int .i64 st, av], rv, .int .i64 0]) ∧ k141.R 141 w' w.heap.size (fun _ => True) av [] ∧ k119.R 119 w' w.heap.size (fun _ => True) rv [⟨⟨12, 0, 0⟩, 0, 1⟩] ∧ Below w.heap.size w w' :=
  rof_of none none none none 0 0 0 0 0 0 0 0 st t kn [] [⟨⟨12, 0, 0⟩, 0, 1⟩] w hst ht (fun V g hV hg hx => (lof_nil g _ st t kn [] w.heap.size w V hx (Kd.R_nil _ _ _ _ _) hV.size hg (by simp) hV).mono fun e w' ⟨he, v', hx', hR', hb', hk'⟩ => ⟨_, he, Kd.R_nil _ _ _ _ _, v', hx', by simpa using hR', hb', hk'⟩)
theorem rcounted_nil (st t kn : Int) (A : Option Addr) (c : Nat) (w : World) (hst : 0 ≤ st ∧ st < 20000) (ht : 0 ≤ t ∧ t < 1024) (hr : k141.C w A 0 []) :
    Calls Tryz.prog 45 #[.agg #[.slice none 0 0, .slice none 0 0, .slice none 0 0, .slice none 0 0], .agg #[.int .i64 st, .slice A 0 c], .int .i64 t, .int .i64 kn] w fun e w' => ∃ lv rv, e = .returned (.tuple #[lv, rv, .int .i64 0]) ∧ k141.R 141 w' w.heap.size (fun _ => True) lv [] ∧ k119.R 119 w' w.heap.size (fun _ => True) rv [] ∧ Below w.heap.size w w' :=
  rcounted_of none none none none 0 0 0 0 0 0 0 0 st t kn A c [] [] [] w ht (fun V hV => rcheck_nil st hst A c V) (fun V g hV hg hx => (lcounted_nil g A c t V (Kd.C_below hr hV)).mono fun e w' ⟨he, hb⟩ => ⟨_, he, Kd.R_nil _ _ _ _ _, _, blk_low hb hx, Kd.R_nil _ _ _ _ _, hV.trans (hb.mono hV.size)⟩)
end Go.Proofs.YtdnmoppegncioaaGreatDoor
