/- Texts of this proof, joined; what the statement doesn't need is left out. -/
import Derived.Test.YtcgdloldkcmhnaaGreatK4
section
namespace Go.Proofs.YtcgdloldkcmhnaaGreat.H
open Go Go.RowKit Go.Proofs.YtcgdloldkcmhnaaGreat.PrintC Go.Proofs.YtcgdloldkcmhnaaGreat.PrintE Go.Proofs.YtcgdloldkcmhnaaGreatW.PrintWords Go.Proofs.YtcgdloldkcmhnaaGreatW.PrintLast Go.Proofs.YtcgdloldkcmhnaaGreatW.PrintMore
set_option linter.unusedVariables false
set_option linter.unusedSimpArgs false
def moveOk (l : List Arc) (h s t : Int) (x : Mv) : Bool := decide (0 ≤ x.f0 ∧ x.f0 < l.length ∧ 0 ≤ x.f1 ∧ x.f1 ≤ h ∧ x.f1 + (arcOf l x).f3 ≤ h ∧ 0 ≤ x.f2 ∧ x.f2 ≤ (arcOf l x).f2 ∧ (arcOf l x).f1 ≠ s ∧ (arcOf l x).f0 ≠ t)
def BoolAt (R : Bool) (w : World) (e : Ending) (w' : World) : Prop := e = .returned (.bool R) ∧ Below w.heap.size w w'
set_option maxHeartbeats 8000000 in
set_option maxRecDepth 100000 in
theorem rmove_walk (n : Int) (b : Bool) (A : Option Addr) (c : Nat) (l : List Arc) (s t h x0 x1 x2 : Int) (R : Bool) (hR : R = moveOk l h s t ⟨x0, x1, x2⟩) (w : World) (hr : Kd.C k104 w A l.length l) (hti : ∀ i : Int, 0 ≤ i → i < l.length → 0 ≤ (rd_T104 l i).f3 ∧ (rd_T104 l i).f3 ≤ 1048576) (h0 : 0 ≤ h) (h1 : h ≤ 100000) :
  Calls Tryz.prog 65 #[.agg #[.int .i64 n, .bool b, .slice A l.length c], .int .i64 s, .int .i64 t, .int .i64 h, .agg #[.int .i64 x0, .int .i64 x1, .int .i64 x2]] w (BoolAt R w) := by
 have hu := Tryz.underlying33
 have hu2 := Tryz.underlying76
 have hu3 := Tryz.underlying104
 have HR := zh hr
 have HTI := zh hti
 clear hr hti
 obtain ⟨w2, hw2⟩ : ∃ w2, w2 = (w.alloc (.cells #[.int .i64 n, .bool b, .slice A l.length c] 33)).alloc (.cells #[.int .i64 x0, .int .i64 x1, .int .i64 x2] 76) := ⟨_, rfl⟩
 have HB : Hid (Below w.heap.size w w2) := zh (by rw [hw2]; exact below_alloc (below_alloc (Below.refl _ _) _) _)
 have hc : (x0 < 0 ∧ R = false) ∨ (¬ x0 < 0 ∧ (l.length : Int) ≤ x0 ∧ R = false) ∨ (¬ x0 < 0 ∧ ¬ (l.length : Int) ≤ x0 ∧ x1 < 0 ∧ R = false) ∨ (¬ x0 < 0 ∧ ¬ (l.length : Int) ≤ x0 ∧ ¬ x1 < 0 ∧ h < x1 ∧ R = false) ∨ (0 ≤ x0 ∧ x0 < l.length ∧ 0 ≤ x1 ∧ x1 ≤ h) := by
  by_cases c0 : 0 ≤ x0 ∧ x0 < l.length ∧ 0 ≤ x1 ∧ x1 ≤ h
  ·exact .inr (.inr (.inr (.inr c0)))
  ·have hf : R = false := by
    rw [hR]
    exact decide_eq_false (fun e => c0 ⟨e.1, e.2.1, e.2.2.1, e.2.2.2.1⟩)
   by_cases c1 : x0 < 0
   ·exact .inl ⟨c1, hf⟩
   ·by_cases c2 : (l.length : Int) ≤ x0
    ·exact .inr (.inl ⟨c1, c2, hf⟩)
    ·by_cases c3 : x1 < 0
     ·exact .inr (.inr (.inl ⟨c1, c2, c3, hf⟩))
     ·exact .inr (.inr (.inr (.inl ⟨c1, c2, c3, by omega, hf⟩)))
 rcases hc with ⟨c1, hf⟩ | ⟨c1, c2, hf⟩ | ⟨c1, c2, c3, hf⟩ | ⟨c1, c2, c3, c4, hf⟩ | ⟨c1, c2, c3, c4⟩
 iterate 4
  ·clear hR
   subst hf
   go_enter Tryz.func65, Tryz.ntmps65
   go_wp2
   rw [← hw2]
   go_ret
   exact ⟨rfl, HB.out⟩
 ·obtain ⟨Y, hY⟩ : ∃ Y, Y = rd_T104 l x0 := ⟨_, rfl⟩
  have hRY : R = decide (x1 + Y.f3 ≤ h ∧ 0 ≤ x2 ∧ x2 ≤ Y.f2 ∧ Y.f1 ≠ s ∧ Y.f0 ≠ t) := by
   rw [hR, hY]
   unfold moveOk arcOf
   simp only [c1, c2, c3, c4, true_and]
  have hy3 := HTI.out x0 c1 c2
  obtain ⟨ae, ea, -⟩ := at_T104 HR.out x0 c1 c2
  subst ea
  obtain ⟨ae2, e2, y0, y1, y2, y3⟩ := at_T104 (Kd.C_below HR.out HB.out) x0 c1 c2
  injection e2 with e2
  subst e2
  rw [← hY] at y0 y1 y2 y3 hy3
  clear hY hR
  have e5 : IntKind.i64.wrap (x1 + Y.f3) = x1 + Y.f3 := IntWalk.i64_in _ (by omega)
  have hc : (¬ x1 + Y.f3 ≤ h ∧ R = false) ∨ (x1 + Y.f3 ≤ h ∧ ¬ 0 ≤ x2 ∧ R = false) ∨ (x1 + Y.f3 ≤ h ∧ 0 ≤ x2 ∧ ¬ x2 ≤ Y.f2 ∧ R = false) ∨ (x1 + Y.f3 ≤ h ∧ 0 ≤ x2 ∧ x2 ≤ Y.f2 ∧ (Y.f1 != s) = false ∧ R = false) ∨ (x1 + Y.f3 ≤ h ∧ 0 ≤ x2 ∧ x2 ≤ Y.f2 ∧ (Y.f1 != s) = true ∧ (Y.f0 != t) = false ∧ R = false) ∨ (x1 + Y.f3 ≤ h ∧ 0 ≤ x2 ∧ x2 ≤ Y.f2 ∧ (Y.f1 != s) = true ∧ (Y.f0 != t) = true ∧ R = true) := by
   by_cases d1 : x1 + Y.f3 ≤ h
   ·by_cases d2 : 0 ≤ x2
    ·by_cases d3 : x2 ≤ Y.f2
     ·by_cases d4 : Y.f1 = s
      ·exact .inr (.inr (.inr (.inl ⟨d1, d2, d3, bne_eq_false_iff_eq.2 d4, by rw [hRY]; exact decide_eq_false (fun e => e.2.2.2.1 d4)⟩)))
      ·by_cases d5 : Y.f0 = t
       ·exact .inr (.inr (.inr (.inr (.inl ⟨d1, d2, d3, bne_iff_ne.2 d4, bne_eq_false_iff_eq.2 d5, by rw [hRY]; exact decide_eq_false (fun e => e.2.2.2.2 d5)⟩))))
       ·exact .inr (.inr (.inr (.inr (.inr ⟨d1, d2, d3, bne_iff_ne.2 d4, bne_iff_ne.2 d5, by rw [hRY]; exact decide_eq_true ⟨d1, d2, d3, d4, d5⟩⟩))))
     ·exact .inr (.inr (.inl ⟨d1, d2, d3, by rw [hRY]; exact decide_eq_false (fun e => d3 e.2.2.1)⟩))
    ·exact .inr (.inl ⟨d1, d2, by rw [hRY]; exact decide_eq_false (fun e => d2 e.2.1)⟩)
   ·exact .inl ⟨d1, by rw [hRY]; exact decide_eq_false (fun e => d1 e.1)⟩
  clear hRY
  have c5 : ¬ x0 < 0 := by omega
  have c6 : ¬ (l.length : Int) ≤ x0 := by omega
  have c7 : ¬ x1 < 0 := by omega
  have c8 : ¬ h < x1 := by omega
  rw [hw2] at y0 y1 y2 y3
  rcases hc with ⟨d1, hf⟩ | ⟨d1, d2, hf⟩ | ⟨d1, d2, d3, hf⟩ | ⟨d1, d2, d3, d4, hf⟩ | ⟨d1, d2, d3, d4, d5, hf⟩ | ⟨d1, d2, d3, d4, d5, hf⟩
  all_goals
   subst hf
   go_enter Tryz.func65, Tryz.ntmps65
   go_wp2
   rw [← hw2]
   go_ret
   exact ⟨rfl, below_alloc HB.out _⟩
theorem appMv : AppK Tryz.prog kMv 40 76 (fun x => [.int .i64 x.f0, .int .i64 x.f1, .int .i64 x.f2]) := ⟨Tryz.underlying40, ⟨_, 24, infoMv, rfl, by decide, by decide⟩, by decide, k76_mkM⟩
theorem mv_swap {W : World} {base g n c : Nat} {a b : List Mv} {X Y : Mv} (h2 : Kd.R kMv 76 W base (fun _ => True) (.slice (some ⟨g, 0, none⟩) n c) (a ++ Y :: X :: b)) {j q : Nat} (hj : j = a.length + 1) (hq : q = a.length) :
  (W.cell? ⟨g, q * 3, none⟩ = some (.int .i64 Y.f0) ∧ W.cell? ⟨g, q * 3 + 1, none⟩ = some (.int .i64 Y.f1) ∧ W.cell? ⟨g, q * 3 + 2, none⟩ = some (.int .i64 Y.f2) ∧
   W.cell? ⟨g, j * 3, none⟩ = some (.int .i64 X.f0) ∧ W.cell? ⟨g, j * 3 + 1, none⟩ = some (.int .i64 X.f1) ∧ W.cell? ⟨g, j * 3 + 2, none⟩ = some (.int .i64 X.f2)) ∧
  (W.frozen? ⟨g, j * 3, none⟩ = false ∧ W.frozen? ⟨g, j * 3 + 1, none⟩ = false ∧ W.frozen? ⟨g, j * 3 + 2, none⟩ = false) ∧
  ∃ W1, W1 = ((W.setCell ⟨g, j * 3, none⟩ (.int .i64 Y.f0)).setCell ⟨g, j * 3 + 1, none⟩ (.int .i64 Y.f1)).setCell ⟨g, j * 3 + 2, none⟩ (.int .i64 Y.f2) ∧
  (∃ u0 u1 u2, W1.cell? ⟨g, q * 3, none⟩ = some u0 ∧ W1.cell? ⟨g, q * 3 + 1, none⟩ = some u1 ∧ W1.cell? ⟨g, q * 3 + 2, none⟩ = some u2) ∧ (W1.frozen? ⟨g, q * 3, none⟩ = false ∧ W1.frozen? ⟨g, q * 3 + 1, none⟩ = false ∧ W1.frozen? ⟨g, q * 3 + 2, none⟩ = false) ∧
  Kd.R kMv 76 (((W1.setCell ⟨g, q * 3, none⟩ (.int .i64 X.f0)).setCell ⟨g, q * 3 + 1, none⟩ (.int .i64 X.f1)).setCell ⟨g, q * 3 + 2, none⟩ (.int .i64 X.f2)) base (fun _ => True) (.slice (some ⟨g, 0, none⟩) n c) (a ++ X :: Y :: b) ∧
  (∀ w0 : World, Below base w0 W → Below base w0 (((W1.setCell ⟨g, q * 3, none⟩ (.int .i64 X.f0)).setCell ⟨g, q * 3 + 1, none⟩ (.int .i64 X.f1)).setCell ⟨g, q * 3 + 2, none⟩ (.int .i64 X.f2))) := by
 have hn : n = (a ++ Y :: X :: b).length := (Kd.R_reads' h2).1
 have hl : (a ++ Y :: X :: b).length = a.length + (b.length + 2) := by rw [List.length_append]; rfl
 have eY : (a ++ Y :: X :: b).getD q z76 = Y := by
  rw [hq, List.getD_eq_getElem?_getD, List.getElem?_append_right (Nat.le_refl _), Nat.sub_self]
  rfl
 have eX : (a ++ Y :: X :: b).getD j z76 = X := by
  rw [hj, List.getD_eq_getElem?_getD, List.getElem?_append_right (by omega), show a.length + 1 - a.length = 1 by omega]
  rfl
 have i0 : (0 : Int) ≤ (j : Int) := by omega
 have i1 : (j : Int) < n := by omega
 have k0 : (0 : Int) ≤ (q : Int) := by omega
 have k1 : (q : Int) < n := by omega
 obtain ⟨ce, hcl, hM, hcc, hfr⟩ := Kd.R_elem h2 z76 (j : Int) i0 i1
 obtain rfl := k76_openM hM
 obtain ⟨ce, hcl', hM', hcc', hfr'⟩ := Kd.R_elem h2 z76 (q : Int) k0 k1
 obtain rfl := k76_openM hM'
 have hg := Kd.R_base h2 g rfl
 have s1 := (Kd.R_seg h2 (j : Int) i0 i1 (seg := [.int .i64 Y.f0, .int .i64 Y.f1, .int .i64 Y.f2]) (j := 0) hcl hcc (show 3 ≤ 3 from by decide) (x' := Y) (k76_mkM _ _ _ _) (fun _ hk => hk)).1
 obtain ⟨ce, hcl2, hM2, hcc2, hfr2⟩ := Kd.R_elem s1 z76 (q : Int) k0 k1
 obtain rfl := k76_openM hM2
 have s2 := (Kd.R_seg s1 (q : Int) k0 k1 (seg := [.int .i64 X.f0, .int .i64 X.f1, .int .i64 X.f2]) (j := 0) hcl2 hcc2 (show 3 ≤ 3 from by decide) (x' := X) (k76_mkM _ _ _ _) (fun _ hk => hk)).1
 have es : ((a ++ Y :: X :: b).set j Y).set q X = a ++ X :: Y :: b := by
  rw [hj, hq, List.set_append_right _ _ (by omega), show a.length + 1 - a.length = 1 by omega, List.set_append_right _ _ (by omega), Nat.sub_self]
  rfl
 simp only [World.setCells, show k76.sz = 3 from rfl, Nat.add_zero, Int.toNat_natCast, eX, eY] at hcc hcc' hfr hfr' hcc2 hfr2 s1 s2
 rw [es] at s2
 refine ⟨⟨hcc' 0 _ rfl, hcc' 1 _ rfl, hcc' 2 _ rfl, hcc 0 _ rfl, hcc 1 _ rfl, hcc 2 _ rfl⟩, ⟨hfr 0, hfr 1, hfr 2⟩, _, rfl, ⟨_, _, _, hcc2 0 _ rfl, hcc2 1 _ rfl, hcc2 2 _ rfl⟩, ⟨hfr2 0, hfr2 1, hfr2 2⟩, s2, fun w0 hw => ?_⟩
 exact (((((hw.setCell hg _).setCell hg _).setCell hg _).setCell hg _).setCell hg _).setCell hg _
def alls (l : List Mv) (i j : Nat) : List Int := ((l.take j).filter (sameK (mvAt l i))).map (·.f2)
theorem alls_next {l : List Mv} {i j : Nat} (hj : j < l.length) : alls l i (j + 1) = alls l i j ++ (if sameK (mvAt l i) (mvAt l j) = true then [(mvAt l j).f2] else []) := by
 unfold alls
 rw [mvAt_take hj, List.filter_append, List.map_append]
 congr 1
 by_cases e : sameK (mvAt l i) (mvAt l j) = true
 ·rw [if_pos e, List.filter_cons_of_pos e]
  rfl
 ·rw [if_neg e, List.filter_cons_of_neg e]
  rfl
theorem alls_first {l : List Mv} {i : Nat} (hi : i ≤ l.length) (h : ∀ k, k < i → sameK (mvAt l k) (mvAt l i) = false) : alls l i i = [] := by
 unfold alls
 rw [List.filter_eq_nil_iff.2 fun x hx e => ?_]
 ·rfl
 ·obtain ⟨k, hk, rfl⟩ := mem_take_at hi hx
  exact absurd (sameK_sym e) (by rw [h k hk]; decide)
theorem alls_len (l : List Mv) (i j : Nat) : (alls l i j).length ≤ l.length := by
 unfold alls
 rw [List.length_map]
 exact Nat.le_trans (List.length_filter_le _ _) (by rw [List.length_take]; omega)
theorem alls_i64 {l : List Mv} (h : ∀ x, x ∈ l → -9223372036854775808 ≤ x.f2 ∧ x.f2 ≤ 9223372036854775807) (i j : Nat) : I64s (alls l i j) := fun y hy => by
 unfold alls at hy
 obtain ⟨x, hx, rfl⟩ := List.mem_map.1 hy
 exact h x (List.mem_of_mem_take (List.mem_filter.1 hx).1)
theorem appInt : AppK Tryz.prog (Kd.int .i64) 68 3 (fun x => [.int .i64 x]) := ⟨Tryz.underlying68, ⟨_, 8, infoNum, rfl, by decide, by decide⟩, by decide, fun _ _ _ _ => rfl⟩
def mvT9 : Bool × List (List Nat × List Nat) := (true, [([], []), ([0], [0]), ([1], [1]), ([1], [1]), ([2, 3, 1], [1, 2, 3]), ([4, 1], [1, 4]), ([5, 1], [1, 5]), ([1], [1]), ([1], [1]), ([7, 8, 1], [1, 7, 8]), ([9, 1], [1, 9]), ([10, 1], [1, 10]), ([6, 11, 1], [1, 6, 11]), ([12, 1, 1], [1, 12]), ([13], [13]), ([13], [13]), ([14, 15, 13], [13, 14, 15]), ([16, 13], [13, 16]), ([17, 13], [13, 17]), ([13], [13]), ([13], [13]), ([19, 20, 13], [13, 19, 20]), ([21, 13], [13, 21]), ([22, 13], [13, 22]), ([18, 23, 13], [13, 18, 23]), ([13, 24, 1], [1, 13, 24]), ([1, 25], [1, 25]), ([26, 13, 0, 1, 2, 3, 4, 5, 6, 7, 8, 9, 10, 11, 12, 13, 14, 15, 16, 17, 18, 19, 20, 21, 22, 23, 24, 25, 26], [0, 26])])
def mvT15 : Bool × List (List Nat × List Nat) := (true, [([], []), ([], []), ([0, 1], [0, 1]), ([2], [2]), ([3], [3]), ([], []), ([], []), ([5, 6], [5, 6]), ([7], [7]), ([8], [8]), ([4, 9], [4, 9]), ([10], [10]), ([11], [11]), ([11], [11]), ([12, 13, 11], [11, 12, 13]), ([14, 11], [11, 14]), ([15, 11], [11, 15]), ([11], [11]), ([11], [11]), ([17, 18, 11], [11, 17, 18]), ([19, 11], [11, 19]), ([20, 11], [11, 20]), ([16, 21, 11], [11, 16, 21]), ([11, 22], [11, 22])])
def mvT23 : Bool × List (List Nat × List Nat) := (true, [([], []), ([0], [0]), ([1], [1]), ([2], [2]), ([2], [2]), ([3, 4, 2], [2, 3, 4]), ([5, 2], [2, 5]), ([6, 2], [2, 6]), ([2], [2]), ([2], [2]), ([9, 2], [2, 9]), ([8, 10, 2], [2, 8, 10]), ([11, 2], [2, 11]), ([12, 2], [2, 12]), ([7, 13, 2], [2, 7, 13]), ([14, 2, 2], [2, 14]), ([15], [15]), ([15], [15]), ([16, 17, 15], [15, 16, 17]), ([18, 15], [15, 18]), ([19, 15], [15, 19]), ([15], [15]), ([15], [15]), ([22, 15], [15, 22]), ([21, 23, 15], [15, 21, 23]), ([24, 15], [15, 24]), ([25, 15], [15, 25]), ([20, 26, 15], [15, 20, 26]), ([27, 15, 15], [15, 27]), ([28], [28]), ([28], [28]), ([29, 30, 28], [28, 29, 30]), ([31, 28], [28, 31]), ([32, 28], [28, 32]), ([28], [28]), ([28], [28]), ([35, 28], [28, 35]), ([34, 36, 28], [28, 34, 36]), ([37, 28], [28, 37]), ([38, 28], [28, 38]), ([33, 39, 28], [28, 33, 39]), ([28, 40, 15], [15, 28, 40]), ([15, 41, 2], [2, 15, 41]), ([2, 42], [2, 42])])
set_option maxHeartbeats 8000000 in
set_option maxRecDepth 100000 in
theorem rmoves_walk (A : Option Addr) (c : Nat) (l : List Mv) (w : World) (hr : Kd.C kMv w A l.length l) (hi : ∀ x, x ∈ l → -9223372036854775808 ≤ x.f2 ∧ x.f2 ≤ 9223372036854775807) (hl : l.length ≤ 100000) :
  Calls Tryz.prog 12 #[.slice A l.length c] w (MovesAt l w) := by
 have HR := zh hr
 have HI := zh hi
 have hu2 := Tryz.underlying76
 clear hr hi
 go_enter Tryz.func12, Tryz.ntmps12
 go_wp2
 go_loopg [4, 5] (l.length + 1) (fun k ov iv W => ∃ (i : Nat) (m : List Mv) (Ao : Option Addr) (co : Nat), i ≤ l.length ∧ ov = .slice Ao m.length co ∧ iv = .int .i64 i ∧ k = l.length + 1 - i ∧ Hid (Kd.R kMv 76 W w.heap.size (fun _ => True) (.slice Ao m.length co) m ∧ Below w.heap.size w W ∧ MgI l i m ∧ m.length ≤ i))
 case atStart => exact ⟨0, [], none, 0, Nat.zero_le _, rfl, rfl, rfl, zh ⟨Kd.R_nil _ _ _ _ _, Below.refl _ _, MgI.zero l, Nat.le_refl _⟩⟩
 case round =>
  obtain ⟨i, m, Ao, co, hi, rfl, rfl, rfl, HL⟩ := hrel
  by_cases hlt : i < l.length
  ·have i0 : (0 : Int) ≤ (i : Int) := by omega
   have i1 : (i : Int) < (l.length : Int) := by omega
   obtain ⟨ad, ea, -⟩ := at_T76 HR.out (i : Int) i0 i1
   subst ea
   obtain ⟨X, hX⟩ : ∃ X, X = mvAt l i := ⟨_, rfl⟩
   have CI : Hid (∀ W, Below w.heap.size w W → W.cell? (ad.add (i * 3)) = some (.int .i64 X.f0) ∧ W.cell? ⟨(ad.add (i * 3)).block, (ad.add (i * 3)).off + 1, none⟩ = some (.int .i64 X.f1) ∧ W.cell? ⟨(ad.add (i * 3)).block, (ad.add (i * 3)).off + 2, none⟩ = some (.int .i64 X.f2)) := zh (fun W hW => by
    obtain ⟨ad2, e2, z0, z1, z2⟩ := at_T76 (Kd.C_below HR.out hW) (i : Int) i0 i1
    injection e2 with e2
    subst e2
    rw [Int.toNat_natCast] at z0 z1 z2
    rw [hX]
    exact ⟨z0, z1, z2⟩)
   have HX := zh hX
   clear hX
   go_wp2
   go_loopg [6, 7] (i + 1) (fun k fv jv W => ∃ (j : Nat) (fb : Bool), j ≤ i ∧ fv = .bool fb ∧ jv = .int .i64 j ∧ k = i + 1 - j ∧ Hid ((fb = true ↔ ∀ t, t < j → sameK (mvAt l t) X = false) ∧ Kd.R kMv 76 W w.heap.size (fun _ => True) (.slice Ao m.length co) m ∧ Below w.heap.size w W))
   case atStart => exact ⟨0, true, Nat.zero_le _, rfl, rfl, rfl, zh ⟨⟨fun _ t ht => absurd ht (Nat.not_lt_zero _), fun _ => rfl⟩, HL.out.1, HL.out.2.1⟩⟩
   case round =>
    obtain ⟨j, fb, hj, rfl, rfl, rfl, HJ⟩ := hrel
    by_cases hjt : j < i
    ·have j0 : (0 : Int) ≤ (j : Int) := by omega
     have j1 : (j : Int) < (l.length : Int) := by omega
     have hji : (j : Int) < (i : Int) := by omega
     obtain ⟨ad2, e2, y0, y1, -⟩ := at_T76 (Kd.C_drew (Kd.C_below HR.out HJ.out.2.2)) (j : Int) j0 j1
     injection e2 with e2
     subst e2
     rw [Int.toNat_natCast] at y0 y1
     obtain ⟨Y, hY⟩ : ∃ Y, Y = mvAt l j := ⟨_, rfl⟩
     have hY2 : rd_T76 l (j : Int) = Y := by rw [hY]; rfl
     rw [hY2] at y0 y1
     have HY := zh hY
     clear hY hY2
     obtain ⟨x0, x1, -⟩ := CI.out _ (below_drew1 HJ.out.2.2)
     have HO := zh (And.intro (Kd.R_drew HJ.out.2.1) (below_drew1 HJ.out.2.2))
     obtain ⟨nf, hnf, HN⟩ : ∃ nf : Bool, nf = (fb && (decide (Y.f0 ≠ X.f0) || decide (Y.f1 ≠ X.f1))) ∧ Hid (nf = true ↔ ∀ t, t < j + 1 → sameK (mvAt l t) X = false) := by
      refine ⟨_, rfl, zh ?_⟩
      have hs : sameK Y X = false ↔ (Y.f0 ≠ X.f0 ∨ Y.f1 ≠ X.f1) := by
       unfold sameK
       rw [decide_eq_false_iff_not]
       omega
      rw [Bool.and_eq_true, Bool.or_eq_true, decide_eq_true_iff, decide_eq_true_iff, ← hs, HJ.out.1, HY.out]
      constructor
      ·rintro ⟨h1, h2⟩ t ht
       by_cases e : t = j
       ·rw [e]; exact h2
       ·exact h1 t (by omega)
      ·exact fun h => ⟨fun t ht => h t (by omega), h j (by omega)⟩
     have HJ2 := zh HJ.out.1
     clear HL HJ
     go_wp2
     refine stepS (S := fun w' => w'.cell? (ad.add (j * 3)) = some (.int .i64 Y.f0) ∧ w'.cell? ⟨(ad.add (j * 3)).block, (ad.add (j * 3)).off + 1, none⟩ = some (.int .i64 Y.f1) ∧ w'.cell? (ad.add (i * 3)) = some (.int .i64 X.f0) ∧ w'.cell? ⟨(ad.add (i * 3)).block, (ad.add (i * 3)).off + 1, none⟩ = some (.int .i64 X.f1)) (ds := []) 28 (by kernel_rfl) rfl ⟨y0, y1, x0, x1⟩ (fun hHeld => ?_)
     generalize wr.drew = wd at HO hHeld ⊢
     refine wT mvT9 (fun hT => ?_)
     clear y0 y1 x0 x1
     cases fb with
     |false =>
      have hn2 : nf = false := by rw [hnf]; rfl
      subst hn2
      clear hnf
      as_aux_lemma =>
       repeat (first | refine qP 28 hT ?_ | refine qT 28 hT hHeld ?_)
       refine done_ (by kernel_rfl) ?_
       go_wp2
       go_roundg (i - j)
       case measure => omega
       case rel => exact ⟨j + 1, false, by omega, rfl, by go_num, by omega, zh ⟨by simpa using HN.out, HO.out.1, HO.out.2⟩⟩
     |true =>
      by_cases c0 : Y.f0 = X.f0
      ·have d0 : (Y.f0 != X.f0) = false := bne_eq_false_iff_eq.2 c0
       have d1 : (Y.f0 == X.f0) = true := beq_iff_eq.2 c0
       by_cases c1 : Y.f1 = X.f1
       ·have d2 : (Y.f1 != X.f1) = false := bne_eq_false_iff_eq.2 c1
        have d3 : (Y.f1 == X.f1) = true := beq_iff_eq.2 c1
        have hn2 : nf = false := by rw [hnf, c0, c1]; simp
        subst hn2
        have HC := zh (And.intro c0 c1)
        clear hnf c0 c1
        as_aux_lemma =>
         repeat (first | refine qP 28 hT ?_ | refine qT 28 hT hHeld ?_)
         refine done_ (by kernel_rfl) ?_
         go_wp2
         go_roundg (i - j)
         case measure => omega
         case rel => exact ⟨j + 1, false, by omega, rfl, by go_num, by omega, zh ⟨by simpa using HN.out, HO.out.1, HO.out.2⟩⟩
       ·have d2 : (Y.f1 != X.f1) = true := bne_iff_ne.2 c1
        have d3 : (Y.f1 == X.f1) = false := beq_eq_false_iff_ne.2 c1
        have hn2 : nf = true := by rw [hnf]; simp [c1]
        subst hn2
        have HC := zh (And.intro c0 c1)
        clear hnf c0 c1
        as_aux_lemma =>
         repeat (first | refine qP 28 hT ?_ | refine qT 28 hT hHeld ?_)
         refine done_ (by kernel_rfl) ?_
         go_wp2
         go_roundg (i - j)
         case measure => omega
         case rel => exact ⟨j + 1, true, by omega, rfl, by go_num, by omega, zh ⟨by simpa using HN.out, HO.out.1, HO.out.2⟩⟩
      ·have d0 : (Y.f0 != X.f0) = true := bne_iff_ne.2 c0
       have d1 : (Y.f0 == X.f0) = false := beq_eq_false_iff_ne.2 c0
       have hn2 : nf = true := by rw [hnf]; simp [c0]
       subst hn2
       have HC := zh c0
       clear hnf c0
       as_aux_lemma =>
        repeat (first | refine qP 28 hT ?_ | refine qT 28 hT hHeld ?_)
        refine done_ (by kernel_rfl) ?_
        go_wp2
        go_roundg (i - j)
        case measure => omega
        case rel => exact ⟨j + 1, true, by omega, rfl, by go_num, by omega, zh ⟨by simpa using HN.out, HO.out.1, HO.out.2⟩⟩
    ·have e : j = i := by omega
     subst e
     cases fb with
     |false =>
      have HH : Hid (∃ t, t < j ∧ sameK (mvAt l t) X = true) := zh (by
       apply Classical.byContradiction
       intro h
       have := HJ.out.1.2 (fun t ht => by
        cases e : sameK (mvAt l t) X with
        |false => rfl
        |true => exact absurd ⟨t, ht, e⟩ h)
       cases this)
      go_wp2
      go_roundg (l.length - j)
      case measure => omega
      case rel =>
       refine ⟨j + 1, m, Ao, co, by omega, rfl, by go_num, by omega, zh ⟨HJ.out.2.1, HJ.out.2.2, ?_, by have := HL.out.2.2.2; omega⟩⟩
       obtain ⟨t, ht, e⟩ := HH.out
       rw [HX.out] at e
       exact HL.out.2.2.1.had hlt ht e
     |true =>
      have HNH : Hid (∀ t, t < j → sameK (mvAt l t) (mvAt l j) = false) := zh (fun t ht => by have := HJ.out.1.1 rfl t ht; rw [HX.out] at this; exact this)
      have HA0 : Hid (alls l j j = []) := zh (alls_first (by omega) HNH.out)
      have HO := zh (And.intro HJ.out.2.1 HJ.out.2.2)
      have HM := zh HL.out.2.2
      have hmj : m.length ≤ j := HL.out.2.2.2
      clear HL HJ
      go_wp2
      obtain ⟨W2, hW2⟩ : ∃ W2, W2 = wr := ⟨_, rfl⟩
      rw [← hW2] at HO ⊢
      clear hW2
      go_loopg [8, 9] (l.length + 1 - j) (fun k av tv W => ∃ (t : Nat) (Aa : Option Addr) (ca : Nat), j ≤ t ∧ t ≤ l.length ∧ av = .slice Aa (alls l j t).length ca ∧ tv = .int .i64 t ∧ k = l.length + 1 - t ∧ Hid (Kd.R (Kd.int .i64) 3 W W2.heap.size (fun _ => True) (.slice Aa (alls l j t).length ca) (alls l j t) ∧ Below W2.heap.size W2 W))
      case atStart => exact ⟨j, none, 0, Nat.le_refl _, by omega, by rw [HA0.out]; rfl, rfl, rfl, zh ⟨by rw [HA0.out]; exact Kd.R_nil _ _ _ _ _, Below.refl _ _⟩⟩
      case round =>
       obtain ⟨t, Aa, ca, ht1, ht, rfl, rfl, rfl, HT⟩ := hrel
       have HB := zh (below_step HO.out.2 HT.out.2)
       by_cases htl : t < l.length
       ·have j0 : (0 : Int) ≤ (t : Int) := by omega
        have j1 : (t : Int) < (l.length : Int) := by omega
        obtain ⟨ad2, e2, y0, y1, y2⟩ := at_T76 (Kd.C_drew (Kd.C_below HR.out HB.out)) (t : Int) j0 j1
        injection e2 with e2
        subst e2
        rw [Int.toNat_natCast] at y0 y1 y2
        obtain ⟨Y, hY⟩ : ∃ Y, Y = mvAt l t := ⟨_, rfl⟩
        have hY2 : rd_T76 l (t : Int) = Y := by rw [hY]; rfl
        rw [hY2] at y0 y1 y2
        clear hY2
        obtain ⟨x0, x1, -⟩ := CI.out _ (below_drew1 HB.out)
        have HO2 := zh (And.intro (Kd.R_drew HT.out.1) (below_drew1 HT.out.2))
        have hnx := alls_next (i := j) htl
        rw [← hY, ← HX.out] at hnx
        go_wp2
        refine stepS (S := fun w' => w'.cell? (ad.add (t * 3)) = some (.int .i64 Y.f0) ∧ w'.cell? ⟨(ad.add (t * 3)).block, (ad.add (t * 3)).off + 1, none⟩ = some (.int .i64 Y.f1) ∧ w'.cell? (ad.add (j * 3)) = some (.int .i64 X.f0) ∧ w'.cell? ⟨(ad.add (j * 3)).block, (ad.add (j * 3)).off + 1, none⟩ = some (.int .i64 X.f1)) (ds := []) 24 (by kernel_rfl) rfl ⟨y0, y1, x0, x1⟩ (fun hHeld => ?_)
        generalize wr.drew = wd at HO2 hHeld y2 ⊢
        refine wT mvT15 (fun hT => ?_)
        clear y0 y1 x0 x1 HT HB
        by_cases c0 : Y.f0 = X.f0
        ·have d0 : (Y.f0 != X.f0) = false := bne_eq_false_iff_eq.2 c0
         have d1 : (Y.f0 == X.f0) = true := beq_iff_eq.2 c0
         by_cases c1 : Y.f1 = X.f1
         ·have d2 : (Y.f1 != X.f1) = false := bne_eq_false_iff_eq.2 c1
          have d3 : (Y.f1 == X.f1) = true := beq_iff_eq.2 c1
          rw [if_pos (sameK_iff.2 ⟨c0.symm, c1.symm⟩)] at hnx
          have HNX := zh hnx
          have HC := zh (And.intro c0 c1)
          clear hnx c0 c1 hY
          as_aux_lemma =>
           repeat (first | refine qP 24 hT ?_ | refine qT 24 hT hHeld ?_)
           refine done_ (by kernel_rfl) ?_
           clear hHeld
           go_wp2_with (first
            |((with_reducible refine gate_dst (N := 91) rfl ?_); (refine gA (w0 := W2) (base := W2.heap.size) appInt (alls l j t) Y.f2 ?aO ?aB ?aS ?aL ?_); (case aO => exact HO2.out.1); (case aB => exact HO2.out.2); (case aS => exact HO2.out.2.size); (case aL => have := alls_len l j t; omega); go_loud (intro A1 c1 w9 ho hb hg; have HO9 := zh (And.intro ho hb); clear ho hb hg HO2)))
           go_roundg (l.length - t)
           case measure => omega
           case rel => exact ⟨t + 1, A1, c1, by omega, by omega, by rw [HNX.out, List.length_append]; rfl, by go_num, by omega, zh ⟨by rw [HNX.out, List.length_append]; exact HO9.out.1, HO9.out.2⟩⟩
         ·have d2 : (Y.f1 != X.f1) = true := bne_iff_ne.2 c1
          have d3 : (Y.f1 == X.f1) = false := beq_eq_false_iff_ne.2 c1
          rw [if_neg (fun e => c1 (sameK_iff.1 e).2.symm), List.append_nil] at hnx
          have HNX := zh hnx
          have HC := zh (And.intro c0 c1)
          clear hnx c0 c1 hY
          as_aux_lemma =>
           repeat (first | refine qP 24 hT ?_ | refine qT 24 hT hHeld ?_)
           refine done_ (by kernel_rfl) ?_
           clear hHeld
           go_wp2
           go_roundg (l.length - t)
           case measure => omega
           case rel => exact ⟨t + 1, Aa, ca, by omega, by omega, by rw [HNX.out], by go_num, by omega, zh ⟨by rw [HNX.out]; exact HO2.out.1, HO2.out.2⟩⟩
        ·have d0 : (Y.f0 != X.f0) = true := bne_iff_ne.2 c0
         have d1 : (Y.f0 == X.f0) = false := beq_eq_false_iff_ne.2 c0
         rw [if_neg (fun e => c0 (sameK_iff.1 e).1.symm), List.append_nil] at hnx
         have HNX := zh hnx
         have HC := zh c0
         clear hnx c0 hY
         as_aux_lemma =>
          repeat (first | refine qP 24 hT ?_ | refine qT 24 hT hHeld ?_)
          refine done_ (by kernel_rfl) ?_
          clear hHeld
          go_wp2
          go_roundg (l.length - t)
          case measure => omega
          case rel => exact ⟨t + 1, Aa, ca, by omega, by omega, by rw [HNX.out], by go_num, by omega, zh ⟨by rw [HNX.out]; exact HO2.out.1, HO2.out.2⟩⟩
       ·have e : t = l.length := by omega
        subst e
        obtain ⟨T, hT⟩ : ∃ T, T = amt l X := ⟨_, rfl⟩
        have HSUM : Hid (sumL (alls l j l.length) = T) := zh (by rw [hT, HX.out]; unfold alls amt; rw [List.take_length])
        have HTE := zh hT
        have hal := alls_len l j l.length
        clear hT
        cases hf : fits T with
        |false =>
         have HF := zh hf
         clear hf
         go_wp2_with (go_at_call 31; go_loud ((with_reducible refine (rsum_walk Aa ca (alls l j l.length) _ ?s1 ?s2 ?s3).mono ?_); (case s1 => exact (Kd.R_reads' HT.out.1).2.2); (case s2 => exact alls_i64 HI.out j _); (case s3 => omega); rintro e w7 hs; obtain ⟨rfl, hb⟩ := hs.no HSUM.out HF.out; have HB7 := zh (below_step HB.out hb); clear hs hb))
         go_ret2
         refine ⟨HB7.out, .inl ⟨rfl, X, ?_, ?_⟩⟩
         ·rw [HX.out]
          exact mvAt_mem hlt
         ·rw [← HTE.out]
          exact HF.out
        |true =>
         have HF := zh hf
         clear hf
         by_cases c9 : T = 0
         ·have c1 : (T == 0) = true := beq_iff_eq.2 c9
          have c2 : (T != 0) = false := bne_eq_false_iff_eq.2 c9
          have HC9 := zh c9
          clear c9
          go_wp2_with (go_at_call 31; go_loud ((with_reducible refine (rsum_walk Aa ca (alls l j l.length) _ ?s1 ?s2 ?s3).mono ?_); (case s1 => exact (Kd.R_reads' HT.out.1).2.2); (case s2 => exact alls_i64 HI.out j _); (case s3 => omega); rintro e w7 hs; obtain ⟨rfl, hb⟩ := hs.yes HSUM.out HF.out; have HB7 := zh (And.intro (Kd.R_below (Kd.R_below HO.out.1 HT.out.2) hb) (below_step HB.out hb)); clear hs hb))
          go_roundg (l.length - j)
          case measure => omega
          case rel =>
           exact ⟨j + 1, m, Ao, co, by omega, rfl, by go_num, by omega, zh ⟨HB7.out.1, HB7.out.2, HM.out.1.none hlt (by rw [← HX.out, ← HTE.out]; exact HC9.out), by omega⟩⟩
         ·have c1 : (T == 0) = false := beq_eq_false_iff_ne.2 c9
          have c2 : (T != 0) = true := bne_iff_ne.2 c9
          have HC9 := zh c9
          clear c9
          go_wp2_with (go_at_call 31; go_loud ((with_reducible refine (rsum_walk Aa ca (alls l j l.length) _ ?s1 ?s2 ?s3).mono ?_); (case s1 => exact (Kd.R_reads' HT.out.1).2.2); (case s2 => exact alls_i64 HI.out j _); (case s3 => omega); rintro e w7 hs; obtain ⟨rfl, hb⟩ := hs.yes HSUM.out HF.out; have HB7 := zh (And.intro (Kd.R_below (Kd.R_below HO.out.1 HT.out.2) hb) (below_step HB.out hb)); clear hs hb))
          obtain ⟨x0, x1, -⟩ := CI.out _ (below_drew1 HB7.out.2)
          refine stepS (S := fun w' => w'.cell? (ad.add (j * 3)) = some (.int .i64 X.f0) ∧ w'.cell? ⟨(ad.add (j * 3)).block, (ad.add (j * 3)).off + 1, none⟩ = some (.int .i64 X.f1)) (ds := [14]) 16 (by kernel_rfl) rfl ⟨x0, x1⟩ (fun hHeld => ?_)
          have HO9 := zh (And.intro (Kd.R_drew HB7.out.1) (below_drew1 HB7.out.2))
          generalize w7.drew = wd at HO9 hHeld ⊢
          clear x0 x1 HB7 HO HB HT
          as_aux_lemma =>
           repeat (first | refine rP 16 ?_ | refine rT 16 hHeld ?_)
           refine sB 13 hHeld (fun hHeld => ?_)
           obtain ⟨XX, hXX⟩ : ∃ XX : Mv, XX = ⟨X.f0, X.f1, T⟩ := ⟨_, rfl⟩
           refine sA 14 appMv m ⟨X.f0, X.f1, T⟩ HO9.out.1 HO9.out.2 HO9.out.2.size (by omega) (fun A1 c1 w9 ho hb hg => ?_)
           refine sN ?_
           refine rP 16 ?_
           refine done_ (by kernel_rfl) ?_
           rw [← hXX] at ho
           have HXX := zh hXX
           obtain ⟨n1, hn1⟩ : ∃ n1, n1 = m.length + 1 := ⟨_, rfl⟩
           rw [← hn1] at ho ⊢
           obtain ⟨g, cap, ev, -⟩ := Kd.R_form ho (by simp)
           injection ev with ev1 ev2 ev3
           subst ev1
           clear ev2 ev3 hXX hg hHeld HO9
           have HO9 := zh (And.intro ho hb)
           clear ho hb
           have HM9 := zh HM.out
           have hn1b : 1 ≤ n1 ∧ n1 ≤ 100001 := by omega
           have HN1 := zh hn1
           clear hn1
           go_wp2
           go_loopg [12] n1 (fun k jv W => ∃ (J : Int) (a b : List Mv), jv = .int .i64 J ∧ J = (a.length : Int) ∧ k = J.toNat + 1 ∧ J ≤ 100000 ∧ Hid (a ++ b = m ∧ (∀ y, y ∈ b → mlt XX y) ∧ Kd.R kMv 76 W w.heap.size (fun _ => True) (.slice (some ⟨g, 0, none⟩) n1 c1) (a ++ XX :: b) ∧ Below w.heap.size w W))
           case atStart => exact ⟨(n1 : Int) - 1, m, [], rfl, by have := HN1.out; omega, by omega, by omega, zh ⟨List.append_nil m, fun _ h => (nomatch h), HO9.out.1, HO9.out.2⟩⟩
           case round =>
            obtain ⟨J, a, b, rfl, hJ, rfl, hJb, HK⟩ := hrel
            rcases List.eq_nil_or_concat a with rfl | ⟨a', Y, ha⟩
            ·have hJ0 : J = 0 := by rw [hJ]; rfl
             subst hJ0
             clear hJ
             go_wp2
             refine stepS (S := fun _ => True) (ds := []) 44 (by kernel_rfl) rfl trivial (fun hHeld => ?_)
             have HO9 := zh (And.intro (Kd.R_drew HK.out.2.2.1) (below_drew1 HK.out.2.2.2))
             generalize wr.drew = wd at HO9 ⊢
             refine wT mvT23 (fun hT => ?_)
             repeat refine qP 44 hT ?_
             refine done_ (by kernel_rfl) ?_
             go_wp2
             go_roundg (l.length - j)
             case measure => omega
             case rel => exact ⟨j + 1, XX :: b, some ⟨g, 0, none⟩, c1, by omega, by rw [List.length_cons, ← List.nil_append b, HK.out.1, ← HN1.out], by go_num, by omega, zh ⟨by rw [List.length_cons, ← List.nil_append b, HK.out.1, ← HN1.out, ← HK.out.1]; exact HO9.out.1, HO9.out.2, MgI.ins (a := []) (by rw [HK.out.1]; exact HM9.out.1) hlt HNH.out (by rw [HXX.out, HTE.out, HX.out]) (by rw [← HX.out, ← HTE.out]; exact HF.out) (by rw [← HX.out, ← HTE.out]; exact HC9.out) HK.out.2.1 (fun a' y e => by simp at e), by rw [List.length_cons, ← List.nil_append b, HK.out.1]; omega⟩⟩
            ·rw [List.concat_eq_append] at ha
             subst ha
             rw [List.length_append, List.length_singleton] at hJ
             obtain ⟨Z, hZ⟩ : ∃ Z : Int, Z = J - 1 := ⟨_, rfl⟩
             have eZ : IntKind.i64.wrap (J - 1) = Z := by rw [IntWalk.i64_in _ (by omega), hZ]
             have ep : J.toNat = a'.length + 1 := by omega
             have eq : Z.toNat = a'.length := by omega
             have hlen : n1 = a'.length + b.length + 2 := by
              have := (Kd.R_reads' HK.out.2.2.1).1
              rw [this]
              simp
              omega
             have z0 : 0 ≤ Z := by omega
             have z1 : Z < (n1 : Int) := by omega
             have J0 : 0 < J := by omega
             have J1 : J < (n1 : Int) := by omega
             have hR9 := HK.out.2.2.1
             rw [List.append_assoc] at hR9
             have HR9 := zh (show Kd.R kMv 76 wr w.heap.size (fun _ => True) (.slice (some ⟨g, 0, none⟩) n1 c1) (a' ++ Y :: XX :: b) from hR9)
             clear hR9
             obtain ⟨q0, q1, -, p0, p1, -⟩ := (mv_swap (Kd.R_drew HR9.out) ep eq).1
             have J00 : 0 ≤ J := by omega
             have HZ := zh (And.intro hZ (And.intro ep (And.intro eq (And.intro hlen hJ))))
             have HK2 := zh (And.intro HK.out.1 (And.intro HK.out.2.1 (below_drew1 (below_drew1 HK.out.2.2.2))))
             have HR10 := zh (Kd.R_drew HR9.out)
             clear hZ ep eq hlen hJ HO9
             go_wp2
             refine stepS (S := fun w' => w'.cell? ⟨g, Z.toNat * 3, none⟩ = some (.int .i64 Y.f0) ∧ w'.cell? ⟨g, Z.toNat * 3 + 1, none⟩ = some (.int .i64 Y.f1) ∧ w'.cell? ⟨g, J.toNat * 3, none⟩ = some (.int .i64 XX.f0) ∧ w'.cell? ⟨g, J.toNat * 3 + 1, none⟩ = some (.int .i64 XX.f1)) (ds := []) 44 (by kernel_rfl) rfl ⟨q0, q1, p0, p1⟩ (fun hHeld => ?_)
             have HB10 := zh (below_drew1 HK.out.2.2.2)
             generalize wr.drew = wd at hHeld HR10 HK2 HB10 ⊢
             refine wT mvT23 (fun hT => ?_)
             clear q0 q1 p0 p1 HR9 HK
             by_cases hm : mlt XX Y
             ·have go9 : XX.f1 < Y.f1 ∨ (¬ XX.f1 < Y.f1 ∧ (XX.f1 == Y.f1) = true ∧ XX.f0 < Y.f0) := by
               unfold mlt at hm
               by_cases h : XX.f1 < Y.f1
               ·exact .inl h
               ·exact .inr ⟨h, beq_iff_eq.2 (by omega), by omega⟩
              have HMT := zh hm
              clear hm
              rcases go9 with g1 | ⟨g1, g2, g3⟩
              all_goals
               repeat (first | refine qP 44 hT ?_ | refine qT 44 hT hHeld ?_)
               refine done_ (by kernel_rfl) ?_
               clear hHeld
               go_wp2
               obtain ⟨⟨q0, q1, q2, p0, p1, p2⟩, ⟨f0, f1, f2⟩, W1, hW1, ⟨u0, u1, u2, v0, v1, v2⟩, ⟨f3, f4, f5⟩, hR2, hB2⟩ := mv_swap (Kd.R_drew HR10.out) HZ.out.2.1 HZ.out.2.2.1
               refine stepS (S := fun w' => w'.cell? ⟨g, Z.toNat * 3, none⟩ = some (.int .i64 Y.f0) ∧ w'.cell? ⟨g, Z.toNat * 3 + 1, none⟩ = some (.int .i64 Y.f1) ∧ w'.cell? ⟨g, Z.toNat * 3 + 2, none⟩ = some (.int .i64 Y.f2) ∧ w'.cell? ⟨g, J.toNat * 3, none⟩ = some (.int .i64 XX.f0) ∧ w'.cell? ⟨g, J.toNat * 3 + 1, none⟩ = some (.int .i64 XX.f1) ∧ w'.cell? ⟨g, J.toNat * 3 + 2, none⟩ = some (.int .i64 XX.f2)) (ds := [15, 17]) 18 (by kernel_rfl) rfl ⟨q0, q1, q2, p0, p1, p2⟩ (fun hHeld => ?_)
               have HN := zh (And.intro hR2 (hB2 _ (below_drew1 HB10.out)))
               have HW1 := zh hW1
               generalize wd.drew = we at q0 q1 q2 p0 p1 p2 f0 f1 f2 HW1 hHeld ⊢
               clear hR2 hB2 hW1
               repeat (first | refine rP 18 ?_ | refine rT 18 hHeld ?_)
               refine sS 15 ?_
               clear hHeld q0 q1 q2 p0 p1 p2 f0 f1 f2
               rw [← HW1.out]
               refine rP 18 ?_
               refine sS 17 ?_
               refine done_ (by kernel_rfl) ?_
               clear u0 u1 u2 v0 v1 v2 f3 f4 f5
               go_wp2
               go_roundg (Z.toNat + 1)
               case measure => have := HZ.out.1; omega
               case rel => exact ⟨Z, a', Y :: b, by first | rfl | go_num, by have := HZ.out.1; have := HZ.out.2.2.2.2; omega, rfl, by have := HZ.out.1; omega, zh ⟨by have := HK2.out.1; rwa [List.append_assoc] at this, fun y hy => (List.mem_cons.1 hy).elim (fun e => e ▸ HMT.out) (HK2.out.2.1 y), HN.out.1, HN.out.2⟩⟩
             ·have go9 : ¬ XX.f1 < Y.f1 ∧ ((XX.f1 == Y.f1) = false ∨ ((XX.f1 == Y.f1) = true ∧ ¬ XX.f0 < Y.f0)) := by
               unfold mlt at hm
               refine ⟨by omega, ?_⟩
               by_cases h : XX.f1 = Y.f1
               ·exact .inr ⟨beq_iff_eq.2 h, by omega⟩
               ·exact .inl (beq_eq_false_iff_ne.2 h)
              have HMT := zh hm
              clear hm
              obtain ⟨g1, (g2 | ⟨g2, g3⟩)⟩ := go9
              all_goals
               repeat (first | refine qP 44 hT ?_ | refine qT 44 hT hHeld ?_)
               refine done_ (by kernel_rfl) ?_
               clear hHeld
               go_wp2
               have hm9 : (a' ++ [Y]).length + (b.length + 1) = n1 := by have := HZ.out.2.2.2.1; simp; omega
               have hmm : ((a' ++ [Y]) ++ XX :: b).length = n1 := by rw [List.length_append, List.length_cons]; exact hm9
               have HMM := zh hmm
               clear hm9 hmm
               go_roundg (l.length - j)
               case measure => omega
               case rel => exact ⟨j + 1, (a' ++ [Y]) ++ XX :: b, some ⟨g, 0, none⟩, c1, by omega, by rw [HMM.out], by go_num, by omega, zh ⟨by rw [HMM.out, List.append_assoc]; exact HR10.out, HB10.out, MgI.ins (by rw [HK2.out.1]; exact HM9.out.1) hlt HNH.out (by rw [HXX.out, HTE.out, HX.out]) (by rw [← HX.out, ← HTE.out]; exact HF.out) (by rw [← HX.out, ← HTE.out]; exact HC9.out) HK2.out.2.1 (fun a2 y e => by
                obtain ⟨_, e2⟩ := List.append_inj' e rfl
                injection e2 with e2
                rw [← e2]
                exact HMT.out), by rw [HMM.out]; have := HN1.out; omega⟩⟩
  ·have e : i = l.length := by omega
   subst e
   go_wp2
   go_ret2
   exact ⟨HL.out.2.1, .inr ⟨m, Ao, co, rfl, HL.out.1, HL.out.2.2.1, HL.out.2.2.2⟩⟩
end Go.Proofs.YtcgdloldkcmhnaaGreat.H
end
section
namespace Go.Proofs.YtcgdloldkcmhnaaGreat.H
open Go Go.RowKit Go.Proofs.YtcgdloldkcmhnaaGreat.PrintC Go.Proofs.YtcgdloldkcmhnaaGreat.PrintE Go.Proofs.YtcgdloldkcmhnaaGreatW.PrintWords Go.Proofs.YtcgdloldkcmhnaaGreatW.PrintLast Go.Proofs.YtcgdloldkcmhnaaGreatW.PrintMore Go.Proofs.YtcgdloldkcmhnaaGreat.Flow
set_option linter.unusedVariables false
set_option linter.unusedSimpArgs false
def gOf (v : Int) : List Grp → Int
 |[] => -1
 |g :: l => if g.f0 = v then g.f1 else gOf v l
theorem gOf_drop {l : List Grp} (v : Int) {i : Nat} (hi : i < l.length) : gOf v (l.drop i) = if (rd_T59 l (i : Int)).f0 = v then (rd_T59 l (i : Int)).f1 else gOf v (l.drop (i + 1)) := by
 have e : rd_T59 l (i : Int) = l[i] := by
  unfold rd_T59
  rw [Int.toNat_natCast, List.getD_eq_getElem?_getD, List.getElem?_eq_getElem hi]
  rfl
 rw [List.drop_eq_getElem_cons hi, e]
 rfl
theorem gOf_neg (v : Int) : ∀ {l : List Grp}, (∀ g, g ∈ l → 0 ≤ g.f1) → (gOf v l < 0 ↔ hasK (putGs l) v = false) := by
 intro l
 rw [hasK_putGs]
 induction l with
 |nil => intro _; exact ⟨fun _ => rfl, fun _ => by unfold gOf; decide⟩
 |cons g l ih =>
  intro h
  have h0 := h g (List.mem_cons_self ..)
  have h1 := ih (fun x hx => h x (List.mem_cons_of_mem _ hx))
  unfold gOf
  rw [List.any_cons]
  by_cases e : g.f0 = v
  ·rw [if_pos e, decide_eq_true e]
   exact ⟨fun h => by omega, fun h => by cases h⟩
  ·rw [if_neg e, decide_eq_false e, Bool.false_or]
   exact h1
set_option maxHeartbeats 4000000 in
set_option maxRecDepth 100000 in
theorem rof_walk (m : Nat) (A : Option Addr) (c : Nat) (l : List Grp) (v : Int) (w : World) (hm : l.length = m) (hr : Kd.C kGrp w A l.length l) (hl : m ≤ 1000000) :
  Calls Tryz.prog 24 #[.slice A m c, .int .i64 v] w fun e w' => e = .returned (.int .i64 (gOf v l)) ∧ Below w.heap.size w w' := by
 subst hm
 have HR := zh hr
 clear hr
 go_enter Tryz.func24, Tryz.ntmps24
 go_wp2
 go_loopg [5] l.length (fun k iv W => ∃ i : Nat, i ≤ l.length ∧ iv = .int .i64 i ∧ k = l.length - i ∧ Hid (gOf v (l.drop i) = gOf v l ∧ Below w.heap.size w W))
 case atStart => exact ⟨0, Nat.zero_le _, rfl, rfl, zh ⟨rfl, by first | exact Below.refl _ _ | exact pw_below_drewN (Below.refl _ _) _⟩⟩
 case round =>
  obtain ⟨i, hi, rfl, rfl, HL⟩ := hrel
  by_cases d1 : i < l.length
  ·have i0 : (0 : Int) ≤ (i : Int) := by omega
   have i1 : (i : Int) < (l.length : Int) := by omega
   obtain ⟨ad, ea, y0, y1⟩ := at_T59 (Kd.C_below HR.out HL.out.2) (i : Int) i0 i1
   subst ea
   rw [Int.toNat_natCast] at y0 y1
   have HD := zh (gOf_drop v d1)
   obtain ⟨g, hg⟩ : ∃ g, g = rd_T59 l (i : Int) := ⟨_, rfl⟩
   rw [← hg] at HD y0 y1
   clear hg
   by_cases d2 : g.f0 = v
   ·have d3 : (g.f0 == v) = true := by simpa using d2
    have d4 : (g.f0 != v) = false := by simpa using d2
    have HD2 : Hid (gOf v (l.drop i) = g.f1) := zh (by rw [HD.out, if_pos d2])
    clear d2
    go_wp2
    go_ret
    refine ⟨?_, HL.out.2⟩
    rw [← HL.out.1, HD2.out]
    rfl
   ·have d3 : (g.f0 == v) = false := by simpa using d2
    have d4 : (g.f0 != v) = true := by simpa using d2
    have HD2 : Hid (gOf v (l.drop i) = gOf v (l.drop (i + 1))) := zh (by rw [HD.out, if_neg d2])
    clear d2
    go_wp2
    go_roundg (l.length - (i + 1))
    case measure => omega
    case rel => exact ⟨i + 1, by omega, by go_num, by omega, zh ⟨by rw [← HL.out.1, HD2.out], HL.out.2⟩⟩
  ·have d2 : ¬ (i : Int) < (l.length : Int) := by omega
   have HE : Hid (l.drop i = []) := zh (List.drop_of_length_le (by omega))
   go_wp2
   go_ret
   refine ⟨?_, HL.out.2⟩
   rw [← HL.out.1, HE.out]
   rfl
set_option maxHeartbeats 4000000 in
set_option maxRecDepth 100000 in
theorem rkeeps_walk (n : Int) (b : Bool) (vl : Value) (Ap : Option Addr) (cp : Nat) (p : List Grp) (Aq : Option Addr) (cq : Nat) (q : List Grp) (v : Int) (w : World) (hp : Kd.C kGrp w Ap p.length p) (hq : Kd.C kGrp w Aq q.length q) (lp : p.length ≤ 1000000) (lq : q.length ≤ 1000000) (gp : ∀ g, g ∈ p → 0 ≤ g.f1) (gq : ∀ g, g ∈ q → 0 ≤ g.f1) :
  Calls Tryz.prog 30 #[.agg #[.int .i64 n, .bool b, vl], .slice Ap p.length cp, .slice Aq q.length cq, .int .i64 v] w fun e w' => e = .returned (.bool (b || (hasK (putGs p) v || hasK (putGs q) v))) ∧ Below w.heap.size w w' := by
 have hu := Tryz.underlying33
 have HP := zh hp
 have HQ := zh hq
 have HGP := zh (gOf_neg v gp)
 have HGQ := zh (gOf_neg v gq)
 clear hp hq gp gq
 obtain ⟨x, hx⟩ : ∃ x, x = gOf v p := ⟨_, rfl⟩
 obtain ⟨y, hy⟩ : ∃ y, y = gOf v q := ⟨_, rfl⟩
 have HX := zh hx
 have HY := zh hy
 clear hx hy
 cases b with
 |true =>
  go_enter Tryz.func30, Tryz.ntmps30
  go_wp2
  go_ret
  exact ⟨rfl, below_alloc (Below.refl _ _) _⟩
 |false =>
  by_cases c1 : x < 0
  ·have c2 : ¬ 0 ≤ x := by omega
   by_cases c3 : y < 0
   ·have c4 : ¬ 0 ≤ y := by omega
    go_enter Tryz.func30, Tryz.ntmps30
    go_wp2_with (go_at_call 24; go_loud (first | ((with_reducible refine (rof_walk p.length Ap cp p v _ ?s1 ?s2 ?s3).mono ?_); (case s1 => rfl); (case s2 => exact Kd.C_below HP.out (below_alloc (Below.refl _ _) _)); (case s3 => exact lp); rintro e w1 ⟨rfl, hb⟩; rw [← HX.out]; have HB := zh (below_step (below_alloc (Below.refl _ _) _) hb); clear hb) | ((with_reducible refine (rof_walk q.length Aq cq q v _ ?s1 ?s2 ?s3).mono ?_); (case s1 => rfl); (case s2 => exact Kd.C_below HQ.out HB.out); (case s3 => exact lq); rintro e w2 ⟨rfl, hb⟩; rw [← HY.out]; have HB2 := zh (below_step HB.out hb); clear hb)))
    go_ret
    refine ⟨?_, HB2.out⟩
    rw [HGP.out.1 (by rw [← HX.out]; exact c1), HGQ.out.1 (by rw [← HY.out]; exact c3)]
    first | rfl | (simp; exact ⟨c1, c3⟩)
   ·have c4 : 0 ≤ y := by omega
    go_enter Tryz.func30, Tryz.ntmps30
    go_wp2_with (go_at_call 24; go_loud (first | ((with_reducible refine (rof_walk p.length Ap cp p v _ ?s1 ?s2 ?s3).mono ?_); (case s1 => rfl); (case s2 => exact Kd.C_below HP.out (below_alloc (Below.refl _ _) _)); (case s3 => exact lp); rintro e w1 ⟨rfl, hb⟩; rw [← HX.out]; have HB := zh (below_step (below_alloc (Below.refl _ _) _) hb); clear hb) | ((with_reducible refine (rof_walk q.length Aq cq q v _ ?s1 ?s2 ?s3).mono ?_); (case s1 => rfl); (case s2 => exact Kd.C_below HQ.out HB.out); (case s3 => exact lq); rintro e w2 ⟨rfl, hb⟩; rw [← HY.out]; have HB2 := zh (below_step HB.out hb); clear hb)))
    go_ret
    refine ⟨?_, HB2.out⟩
    have : hasK (putGs q) v = true := by
     cases h : hasK (putGs q) v
     ·have := HGQ.out.2 h; rw [← HY.out] at this; omega
     ·rfl
    rw [this, Bool.or_true, Bool.or_true]
    rfl
  ·have c2 : 0 ≤ x := by omega
   go_enter Tryz.func30, Tryz.ntmps30
   go_wp2_with (go_at_call 24; go_loud ((with_reducible refine (rof_walk p.length Ap cp p v _ ?s1 ?s2 ?s3).mono ?_); (case s1 => rfl); (case s2 => exact Kd.C_below HP.out (below_alloc (Below.refl _ _) _)); (case s3 => exact lp); rintro e w1 ⟨rfl, hb⟩; rw [← HX.out]; have HB := zh (below_step (below_alloc (Below.refl _ _) _) hb); clear hb))
   go_ret
   refine ⟨?_, HB.out⟩
   have : hasK (putGs p) v = true := by
    cases h : hasK (putGs p) v
    ·have := HGP.out.2 h; rw [← HX.out] at this; omega
    ·rfl
   rw [this, Bool.true_or, Bool.or_true]
   rfl
end Go.Proofs.YtcgdloldkcmhnaaGreat.H
end
section
namespace Go.Proofs.YtcgdloldkcmhnaaGreat.H
open Go Go.RowKit Go.Proofs.YtcgdloldkcmhnaaGreat.PrintC Go.Proofs.YtcgdloldkcmhnaaGreat.PrintE Go.Proofs.YtcgdloldkcmhnaaGreatW.PrintWords Go.Proofs.YtcgdloldkcmhnaaGreatW.PrintLast Go.Proofs.YtcgdloldkcmhnaaGreatW.PrintMore
set_option linter.unusedVariables false
set_option linter.unusedSimpArgs false
def mok (l : List Arc) (h : Int) (q : List Grp) (x : Mv) : Bool := moveOk l h (-1) (-1) x && decide (gOf (arcOf l x).f0 q < 0)
def MvBad (l : List Arc) (h : Int) (q : List Grp) (L : List Mv) (k : Int) : Prop := (k = 10 ∧ ∃ x, x ∈ L ∧ fits (amt L x) = false) ∨ (k = 140 ∧ ∃ m, MgOf L m ∧ ∃ x, x ∈ m ∧ mok l h q x = false)
def RMvAt (l : List Arc) (h : Int) (q : List Grp) (L : List Mv) (w : World) (e : Ending) (w' : World) : Prop := Below w.heap.size w w' ∧ ((∃ k : Int, (k == 0) = false ∧ (k != 0) = true ∧ e = .returned (.tuple #[.slice none 0 0, .int .i64 k]) ∧ MvBad l h q L k) ∨
 ∃ (m : List Mv) (A1 : Option Addr) (c1 : Nat), e = .returned (.tuple #[.slice A1 m.length c1, .int .i64 0]) ∧ Kd.R kMv 76 w' w.heap.size (fun _ => True) (.slice A1 m.length c1) m ∧ MgOf L m ∧ (∀ x, x ∈ m → mok l h q x = true) ∧ m.length ≤ L.length)
set_option maxHeartbeats 8000000 in
set_option maxRecDepth 100000 in
theorem rmvs_walk (n : Int) (b : Bool) (A : Option Addr) (c : Nat) (l : List Arc) (Aq : Option Addr) (cq : Nat) (q : List Grp) (h : Int) (AL : Option Addr) (cL : Nat) (L : List Mv) (w : World) (hr : Kd.C k104 w A l.length l) (hq : Kd.C kGrp w Aq q.length q) (hL : Kd.C kMv w AL L.length L) (hlq : q.length ≤ 1000000)
  (hti : ∀ i : Int, 0 ≤ i → i < l.length → 0 ≤ (rd_T104 l i).f3 ∧ (rd_T104 l i).f3 ≤ 1048576) (h0 : 0 ≤ h) (h1 : h ≤ 100000) (hi : ∀ x, x ∈ L → -9223372036854775808 ≤ x.f2 ∧ x.f2 ≤ 9223372036854775807) (hl : L.length ≤ 100000) :
  Calls Tryz.prog 28 #[.agg #[.int .i64 n, .bool b, .slice A l.length c], .slice Aq q.length cq, .int .i64 h, .slice AL L.length cL] w (RMvAt l h q L w) := by
 have hu := Tryz.underlying33
 have hu2 := Tryz.underlying76
 have hu3 := Tryz.underlying104
 have HR := zh hr
 have HQ := zh hq
 have HLL := zh hL
 have HTI := zh hti
 have HI := zh hi
 clear hr hq hL hti hi
 go_enter Tryz.func28, Tryz.ntmps28
 obtain ⟨w1, hw1⟩ : ∃ w1, w1 = w.alloc (.cells #[.int .i64 n, .bool b, .slice A l.length c] 33) := ⟨_, rfl⟩
 have HX : Hid (w1.heap[w.heap.size]? = some (.cells #[.int .i64 n, .bool b, .slice A l.length c] 33 (0, 0)) ∧ Below w.heap.size w w1) := zh (by rw [hw1]; exact ⟨heap_alloc_new _ _, below_alloc (Below.refl _ _) _⟩)
 have HS1 : Hid (w.heap.size ≤ w1.heap.size) := zh HX.out.2.size
 go_wp2_with (go_at_call 12; rw [← hw1]; go_loud ((with_reducible refine (rmoves_walk AL cL L _ ?s1 ?s2 ?s3).mono ?_); (case s1 => exact Kd.C_below HLL.out HX.out.2); (case s2 => exact HI.out); (case s3 => exact hl); rintro e w3 ⟨hb, (⟨rfl, hov⟩ | ⟨m, A1, c1, rfl, hm, hmg, hml⟩)⟩; all_goals (have HX3 := zh (And.intro (blk_below HX.out.1 hb) (below_step HX.out.2 hb)); clear HX)))
 ·go_ret2
  exact ⟨HX3.out.2, .inl ⟨10, rfl, rfl, rfl, .inl ⟨rfl, hov⟩⟩⟩
 have HM := zh (And.intro hm hmg)
 have HMC := zh (Kd.R_reads' hm).2.2
 have hmb := Nat.le_trans hml hl
 clear hm hmg hb
 go_loopg [12] (m.length + 1) (fun k iv W => ∃ i : Nat, i ≤ m.length ∧ iv = .int .i64 i ∧ k = m.length + 1 - i ∧ Hid (Below w3.heap.size w3 W ∧ ∀ x, x ∈ m.take i → mok l h q x = true))
 case atStart => exact ⟨0, Nat.zero_le _, rfl, rfl, zh ⟨Below.refl _ _, fun x hx => by simp at hx⟩⟩
 case round =>
  obtain ⟨i, hi, rfl, rfl, HL⟩ := hrel
  have HB := zh (below_step HX3.out.2 HL.out.1)
  by_cases hlt : i < m.length
  ·have i0 : (0 : Int) ≤ (i : Int) := by omega
   have i1 : (i : Int) < (m.length : Int) := by omega
   obtain ⟨ad, ea, x0, x1, x2⟩ := at_T76 (Kd.C_drew (Kd.C_below HMC.out HL.out.1)) (i : Int) i0 i1
   subst ea
   rw [Int.toNat_natCast] at x0 x1 x2
   obtain ⟨X, hX⟩ : ∃ X, X = mvAt m i := ⟨_, rfl⟩
   have hX2 : rd_T76 m (i : Int) = X := by rw [hX]; rfl
   rw [hX2] at x0 x1 x2
   have HXE := zh hX
   clear hX hX2
   have z0 : wr.drew.cell? ⟨w.heap.size, 0, none⟩ = some (.int .i64 n) := (blk_cell (blk_drew (blk_below HX3.out.1 HL.out.1)) 0).trans rfl
   have z1 : wr.drew.cell? ⟨w.heap.size, 1, none⟩ = some (.bool b) := (blk_cell (blk_drew (blk_below HX3.out.1 HL.out.1)) 1).trans rfl
   have z2 : wr.drew.cell? ⟨w.heap.size, 2, none⟩ = some (.slice A l.length c) := (blk_cell (blk_drew (blk_below HX3.out.1 HL.out.1)) 2).trans rfl
   have HB9 := zh (And.intro (below_drew1 HB.out) (below_drew1 HL.out.1))
   have HXM : Hid (X ∈ m) := zh (by rw [HXE.out]; exact mvAt_mem hlt)
   cases hRe : moveOk l h (-1) (-1) ⟨X.f0, X.f1, X.f2⟩ with
   |false =>
    have HRE := zh hRe
    clear hRe
    go_wp2
    refine stepS (S := fun w' => w'.cell? ⟨w.heap.size, 0, none⟩ = some (.int .i64 n) ∧ w'.cell? ⟨w.heap.size, 1, none⟩ = some (.bool b) ∧ w'.cell? ⟨w.heap.size, 2, none⟩ = some (.slice A l.length c) ∧ w'.cell? (ad.add (i * 3)) = some (.int .i64 X.f0) ∧ w'.cell? ⟨(ad.add (i * 3)).block, (ad.add (i * 3)).off + 1, none⟩ = some (.int .i64 X.f1) ∧ w'.cell? ⟨(ad.add (i * 3)).block, (ad.add (i * 3)).off + 2, none⟩ = some (.int .i64 X.f2)) (ds := [6]) 23 (by kernel_rfl) rfl ⟨z0, z1, z2, x0, x1, x2⟩ (fun hHeld => ?_)
    generalize wr.drew = wd at HB9 hHeld ⊢
    clear z0 z1 z2 x0 x1 x2
    repeat (first | refine rP 23 ?_ | refine rT 23 hHeld ?_)
    refine sCL 6 Tryz.func65 #[.agg #[.int .i64 n, .bool b, .slice A l.length c], .int .i64 (-1), .int .i64 (-1), .int .i64 h, .agg #[.int .i64 X.f0, .int .i64 X.f1, .int .i64 X.f2]] (rmove_walk n b A c l (-1) (-1) h X.f0 X.f1 X.f2 false HRE.out.symm _ (Kd.C_below HR.out HB9.out.1) HTI.out h0 h1) ?_
    rintro e w5 ⟨rfl, hb⟩
    refine ⟨_, rfl, ?_⟩
    refine sN ?_
    repeat refine rP 23 ?_
    refine done_ (by kernel_rfl) ?_
    have HB5 := zh (below_step HB9.out.1 hb)
    clear hb hHeld
    go_wp2
    go_ret2
    exact ⟨HB5.out, .inl ⟨140, rfl, rfl, rfl, .inr ⟨rfl, m, HM.out.2, X, HXM.out, by unfold mok; rw [show X = ⟨X.f0, X.f1, X.f2⟩ from rfl, HRE.out]; rfl⟩⟩⟩
   |true =>
    have hmo := of_decide_eq_true hRe
    have a0 : 0 ≤ X.f0 := hmo.1
    have a1 : X.f0 < l.length := hmo.2.1
    have HRE := zh hRe
    clear hRe hmo
    obtain ⟨ae, eb, -⟩ := at_T104 HR.out X.f0 a0 a1
    subst eb
    obtain ⟨ae2, e2, y0, -⟩ := at_T104 (Kd.C_below HR.out HB9.out.1) X.f0 a0 a1
    injection e2 with e2
    subst e2
    obtain ⟨Y, hY⟩ : ∃ Y, Y = arcOf l X := ⟨_, rfl⟩
    have hY2 : rd_T104 l X.f0 = Y := by rw [hY]; rfl
    rw [hY2] at y0
    have HY := zh hY
    clear hY hY2
    obtain ⟨G, hG⟩ : ∃ G, G = gOf Y.f0 q := ⟨_, rfl⟩
    have HG := zh hG
    clear hG
    have hg : (0 ≤ G ∧ Hid (mok l h q X = false)) ∨ (¬ 0 ≤ G ∧ Hid (mok l h q X = true)) := by
     by_cases g : 0 ≤ G
     ·refine .inl ⟨g, zh ?_⟩
      unfold mok
      rw [← HY.out, ← HG.out, decide_eq_false (by omega), Bool.and_false]
     ·refine .inr ⟨g, zh ?_⟩
      unfold mok
      rw [← HY.out, ← HG.out, decide_eq_true (by omega), Bool.and_true]
      exact HRE.out
    go_wp2
    refine stepS (S := fun w' => w'.cell? ⟨w.heap.size, 0, none⟩ = some (.int .i64 n) ∧ w'.cell? ⟨w.heap.size, 1, none⟩ = some (.bool b) ∧ w'.cell? ⟨w.heap.size, 2, none⟩ = some (.slice (some ae) l.length c) ∧ w'.cell? (ad.add (i * 3)) = some (.int .i64 X.f0) ∧ w'.cell? ⟨(ad.add (i * 3)).block, (ad.add (i * 3)).off + 1, none⟩ = some (.int .i64 X.f1) ∧ w'.cell? ⟨(ad.add (i * 3)).block, (ad.add (i * 3)).off + 2, none⟩ = some (.int .i64 X.f2) ∧ w'.cell? (ae.add (X.f0.toNat * 4)) = some (.int .i64 Y.f0)) (ds := [20]) 23 (by kernel_rfl) rfl ⟨z0, z1, z2, x0, x1, x2, y0⟩ (fun hHeld => ?_)
    generalize wr.drew = wd at HB9 hHeld ⊢
    clear z0 z1 z2 x0 x1 x2 y0
    repeat (first | refine rP 23 ?_ | refine rT 23 hHeld ?_)
    refine sC 6 Tryz.func65 #[.agg #[.int .i64 n, .bool b, .slice (some ae) l.length c], .int .i64 (-1), .int .i64 (-1), .int .i64 h, .agg #[.int .i64 X.f0, .int .i64 X.f1, .int .i64 X.f2]] (rmove_walk n b (some ae) c l (-1) (-1) h X.f0 X.f1 X.f2 true HRE.out.symm _ (Kd.C_below HR.out HB9.out.1) HTI.out h0 h1) ?_
    rintro e w5 ⟨rfl, hb⟩
    refine ⟨_, rfl, ⟨pw_cell_below hb hHeld.1, pw_cell_below hb hHeld.2.1, pw_cell_below hb hHeld.2.2.1, pw_cell_below hb hHeld.2.2.2.1, pw_cell_below hb hHeld.2.2.2.2.1, pw_cell_below hb hHeld.2.2.2.2.2.1, pw_cell_below hb hHeld.2.2.2.2.2.2⟩, fun hHeld => ?_⟩
    refine sN ?_
    have HB5 := zh (And.intro (below_step HB9.out.1 hb) (below_step HB9.out.2 hb))
    clear hb
    repeat (first | refine rP 23 ?_ | refine rT 23 hHeld ?_)
    refine sCL 20 Tryz.func24 #[.slice Aq q.length cq, .int .i64 Y.f0] (rof_walk q.length Aq cq q Y.f0 _ rfl (Kd.C_below HQ.out HB5.out.1) hlq) ?_
    rintro e w6 ⟨rfl, hb⟩
    refine ⟨_, rfl, ?_⟩
    rw [← HG.out]
    refine sN ?_
    repeat refine rP 23 ?_
    refine done_ (by kernel_rfl) ?_
    have HB6 := zh (And.intro (below_step HB5.out.1 hb) (below_step HB5.out.2 hb))
    clear hb hHeld
    rcases hg with ⟨g1, HMK⟩ | ⟨g1, HMK⟩
    ·go_wp2
     go_ret2
     exact ⟨HB6.out.1, .inl ⟨140, rfl, rfl, rfl, .inr ⟨rfl, m, HM.out.2, X, HXM.out, HMK.out⟩⟩⟩
    ·go_wp2
     go_roundg (m.length - i)
     case measure => omega
     case rel => exact ⟨i + 1, by omega, by go_num, by omega, zh ⟨HB6.out.2, fun x hx => by
      rw [mvAt_take hlt, List.mem_append, List.mem_singleton] at hx
      rcases hx with hx | rfl
      ·exact HL.out.2 x hx
      ·rw [← HXE.out]
       exact HMK.out⟩⟩
  ·have e : i = m.length := by omega
   subst e
   go_wp2
   go_ret2
   exact ⟨HB.out, .inr ⟨m, A1, c1, rfl, Kd.R_lower (Kd.R_below HM.out.1 HL.out.1) HS1.out, HM.out.2, fun x hx => HL.out.2 x (by rw [List.take_length]; exact hx), hml⟩⟩
end Go.Proofs.YtcgdloldkcmhnaaGreat.H
end
section
namespace Go.Proofs.YtcgdloldkcmhnaaGreat.H
open Go Go.RowKit Go.Proofs.YtcgdloldkcmhnaaGreat.PrintC Go.Proofs.YtcgdloldkcmhnaaGreat.PrintE Go.Proofs.YtcgdloldkcmhnaaGreatW.PrintWords Go.Proofs.YtcgdloldkcmhnaaGreatW.PrintLast Go.Proofs.YtcgdloldkcmhnaaGreatW.PrintMore Go.Proofs.YtcgdloldkcmhnaaGreat.Flow
set_option linter.unusedVariables false
set_option linter.unusedSimpArgs false
def myT1 : Bool × List (List Nat × List Nat) := (true, [([], []), ([0], [0]), ([1], [1]), ([2], [2]), ([3], [3]), ([4, 3], [3, 4]), ([3], [3]), ([6, 3], [3, 6]), ([7, 3], [3, 7]), ([8, 3], [3, 8]), ([9, 3], [3, 9]), ([10, 3], [3, 10]), ([5, 11, 3], [3, 5, 11]), ([3, 12], [3, 12]), ([13, 3], [13]), ([14], [14]), ([15, 14], [14, 15]), ([16, 14], [14, 16]), ([14, 17], [14, 17]), ([18, 14], [18]), ([19], [19]), ([20, 19], [19, 20]), ([19], [19]), ([21, 22, 19], [19, 21, 22]), ([19, 23], [19, 23]), ([24, 19], [24]), ([25], [25]), ([26, 25], [25, 26]), ([27, 25], [25, 27]), ([25, 28], [25, 28])])
theorem may_cases (L h x0 x1 x2 : Int) (R : Bool) (P : Prop) [Decidable P] (hR : R = decide (0 ≤ x0 ∧ x0 < L ∧ 0 ≤ x1 ∧ x1 ≤ h ∧ 0 ≤ x2 ∧ P)) :
  ((decide (x0 < 0) = true ∧ R = false) ∨ (decide (x0 < 0) = false ∧ decide (L ≤ x0) = true ∧ R = false) ∨ (decide (x0 < 0) = false ∧ decide (L ≤ x0) = false ∧ decide (x1 < 0) = true ∧ R = false) ∨ (decide (x0 < 0) = false ∧ decide (L ≤ x0) = false ∧ decide (x1 < 0) = false ∧ decide (h < x1) = true ∧ R = false) ∨ (decide (x0 < 0) = false ∧ decide (L ≤ x0) = false ∧ decide (x1 < 0) = false ∧ decide (h < x1) = false ∧ decide (x2 < 0) = true ∧ R = false)) ∨ (decide (x0 < 0) = false ∧ decide (L ≤ x0) = false ∧ decide (x1 < 0) = false ∧ decide (h < x1) = false ∧ decide (x2 < 0) = false ∧ R = decide P) := by
 by_cases c1 : x0 < 0
 ·exact .inl (.inl ⟨decide_eq_true c1, by rw [hR]; exact decide_eq_false (fun e => by omega)⟩)
 ·have d1 := decide_eq_false c1
  by_cases c2 : L ≤ x0
  ·exact .inl (.inr (.inl ⟨d1, decide_eq_true c2, by rw [hR]; exact decide_eq_false (fun e => by omega)⟩))
  ·have d2 := decide_eq_false c2
   by_cases c3 : x1 < 0
   ·exact .inl (.inr (.inr (.inl ⟨d1, d2, decide_eq_true c3, by rw [hR]; exact decide_eq_false (fun e => by omega)⟩)))
   ·have d3 := decide_eq_false c3
    by_cases c4 : h < x1
    ·exact .inl (.inr (.inr (.inr (.inl ⟨d1, d2, d3, decide_eq_true c4, by rw [hR]; exact decide_eq_false (fun e => by omega)⟩))))
    ·have d4 := decide_eq_false c4
     by_cases c5 : x2 < 0
     ·exact .inl (.inr (.inr (.inr (.inr ⟨d1, d2, d3, d4, decide_eq_true c5, by rw [hR]; exact decide_eq_false (fun e => by omega)⟩))))
     ·refine .inr ⟨d1, d2, d3, d4, decide_eq_false c5, ?_⟩
      rw [hR]
      by_cases c6 : P
      ·rw [decide_eq_true c6]
       exact decide_eq_true ⟨by omega, by omega, by omega, by omega, by omega, c6⟩
      ·rw [decide_eq_false c6]
       exact decide_eq_false (fun e => c6 e.2.2.2.2.2)
theorem mok_may {n h : Nat} {l : List Arc} {q : List Grp} {x : Mv} (hn : NetIn n h l) (hq : ∀ g, g ∈ q → 0 ≤ g.f1) :
  mok l h q x = decide (0 ≤ x.f0 ∧ x.f0 < l.length ∧ 0 ≤ x.f1 ∧ x.f1 ≤ h ∧ 0 ≤ x.f2 ∧ (x.f1 + (arcOf l x).f3 ≤ h ∧ x.f2 ≤ (arcOf l x).f2 ∧ hasK (putGs q) (arcOf l x).f0 = false)) := by
 unfold mok moveOk
 rw [← Bool.decide_and]
 apply decide_eq_decide.2
 constructor
 ·rintro ⟨⟨a1, a2, a3, a4, a5, a6, a7, a8, a9⟩, a10⟩
  exact ⟨a1, a2, a3, a4, a6, a5, a7, (gOf_neg _ hq).1 a10⟩
 ·rintro ⟨a1, a2, a3, a4, a6, a5, a7, a10⟩
  have he := hn.ends x.f0.toNat (by omega)
  have e : arcAt l x.f0.toNat = arcOf l x := by
   unfold arcAt arcOf
   rw [Int.toNat_of_nonneg a1]
  rw [e] at he
  exact ⟨⟨a1, a2, a3, a4, a5, a6, a7, by omega, by omega⟩, (gOf_neg _ hq).2 a10⟩
set_option maxHeartbeats 8000000 in
set_option maxRecDepth 100000 in
theorem may_walk (gp : Nat) (n : Int) (b : Bool) (A : Option Addr) (c : Nat) (l : List Arc) (Ap : Option Addr) (lp cp : Nat) (Aq : Option Addr) (lq cq : Nat) (bh br kh kr : Nat) (Dh Dr : DataW Unit) (h x0 x1 x2 : Int) (R : Bool) (Y : Arc) (hY : Y = rd_T104 l x0)
  (hR : R = decide (0 ≤ x0 ∧ x0 < l.length ∧ 0 ≤ x1 ∧ x1 ≤ h ∧ 0 ≤ x2 ∧ (x1 + Y.f3 ≤ h ∧ x2 ≤ Y.f2 ∧ hasK Dr Y.f0 = false))) (w : World) (hP : PlI gp (placeCells n b A l.length c Ap lp cp Aq lq cq bh br) bh br kh kr Dh Dr w) (hr : Kd.C kArc w A l.length l)
  (hti : ∀ i : Int, 0 ≤ i → i < l.length → 0 ≤ (rd_T104 l i).f3 ∧ (rd_T104 l i).f3 ≤ 1048576 ∧ Wf (rd_T104 l i).f0) (h0 : 0 ≤ h) (h1 : h ≤ 100000) :
  Calls Tryz.prog 43 #[.pointer (some ⟨gp, 0, none⟩), .int .i64 h, .agg #[.int .i64 x0, .int .i64 x1, .int .i64 x2]] w (BoolAt R w) := by
 have hu := Tryz.underlying115
 have hu2 := Tryz.underlying76
 have hu3 := Tryz.underlying104
 have hu4 := Tryz.underlying33
 have HP := zh hP
 have HR := zh hr
 have HTI := zh hti
 clear hP hr hti
 have hcs := may_cases _ _ _ _ _ _ _ hR
 clear hR
 have HY := zh hY
 clear hY
 go_enter Tryz.func43, Tryz.ntmps43
 obtain ⟨w1, hw1⟩ : ∃ w1, w1 = w.alloc (.cells #[.int .i64 x0, .int .i64 x1, .int .i64 x2] 76) := ⟨_, rfl⟩
 have HX : Hid (w1.drew.heap[w.heap.size]? = some (.cells #[.int .i64 x0, .int .i64 x1, .int .i64 x2] 76 (0, 0)) ∧ Below w.heap.size w w1.drew) := zh (by rw [hw1]; exact ⟨blk_drew (heap_alloc_new _ _), below_drew1 (below_alloc (Below.refl _ _) _)⟩)
 go_wp2
 rw [← hw1]
 clear hw1
 have y2 : w1.drew.cell? ⟨gp, 2, none⟩ = some (.slice A l.length c) := (blk_cell (HP.out.below HX.out.2).bx 2).trans rfl
 have z0 : w1.drew.cell? ⟨w.heap.size, 0, none⟩ = some (.int .i64 x0) := (blk_cell HX.out.1 0).trans rfl
 have z1 : w1.drew.cell? ⟨w.heap.size, 1, none⟩ = some (.int .i64 x1) := (blk_cell HX.out.1 1).trans rfl
 have z2 : w1.drew.cell? ⟨w.heap.size, 2, none⟩ = some (.int .i64 x2) := (blk_cell HX.out.1 2).trans rfl
 refine stepS (S := fun w' => w'.cell? ⟨gp, 2, none⟩ = some (.slice A l.length c) ∧ w'.cell? ⟨w.heap.size, 0, none⟩ = some (.int .i64 x0) ∧ w'.cell? ⟨w.heap.size, 1, none⟩ = some (.int .i64 x1) ∧ w'.cell? ⟨w.heap.size, 2, none⟩ = some (.int .i64 x2)) (ds := []) 30 (by kernel_rfl) rfl ⟨y2, z0, z1, z2⟩ (fun hHeld => ?_)
 generalize w1.drew = wd at HX hHeld y2 z0 z1 z2 ⊢
 obtain ⟨g, hg⟩ : ∃ g, g = w.heap.size := ⟨_, rfl⟩
 rw [← hg] at hHeld z0 z1 z2 ⊢
 have HG := zh hg
 clear hg
 refine wT myT1 (fun hT => ?_)
 rcases hcs with hcs | ⟨c1, c2, c3, c4, c5, hf⟩
 ·rcases hcs with ⟨c1, hf⟩ | ⟨c1, c2, hf⟩ | ⟨c1, c2, c3, hf⟩ | ⟨c1, c2, c3, c4, hf⟩ | ⟨c1, c2, c3, c4, c5, hf⟩
  all_goals
   subst hf
   as_aux_lemma =>
    repeat (first | refine qP 30 hT ?_ | refine qT 30 hT hHeld ?_)
    refine done_ (by kernel_rfl) ?_
    clear hHeld hT
    go_wp2
    go_ret
    exact ⟨rfl, HX.out.2⟩
 ·have HF := zh hf
  clear hf
  as_aux_lemma =>
   repeat (first | refine qP 30 hT ?_ | refine qT 30 hT hHeld ?_)
   refine done_ (by kernel_rfl) ?_
   clear hHeld hT
   have i0 : 0 ≤ x0 := by have := of_decide_eq_false c1; omega
   have i1 : x0 < (l.length : Int) := by have := of_decide_eq_false c2; omega
   have i2 : 0 ≤ x1 := by have := of_decide_eq_false c3; omega
   have i3 : x1 ≤ h := by have := of_decide_eq_false c4; omega
   have hy3 := HTI.out x0 i0 i1
   obtain ⟨ae, ea, q0, q1, q2, q3⟩ := at_T104 (Kd.C_below HR.out (below_drew1 HX.out.2)) x0 i0 i1
   subst ea
   rw [← HY.out] at hy3 q0 q1 q2 q3
   have HWF := zh hy3.2.2
   have hy4 := hy3.1
   have hy5 := hy3.2.1
   clear hy3
   have HB := zh (And.intro (blk_drew HX.out.1) (below_drew1 HX.out.2))
   go_wp2
   have y2 : wd.drew.cell? ⟨gp, 2, none⟩ = some (.slice (some ae) l.length c) := (blk_cell (HP.out.below HB.out.2).bx 2).trans rfl
   have z0 : wd.drew.cell? ⟨g, 0, none⟩ = some (.int .i64 x0) := (blk_cell (HG.out ▸ HB.out.1) 0).trans rfl
   refine stepS (S := fun w' => w'.cell? ⟨gp, 2, none⟩ = some (.slice (some ae) l.length c) ∧ w'.cell? ⟨g, 0, none⟩ = some (.int .i64 x0) ∧ w'.cell? (ae.add (x0.toNat * 4)) = some (.int .i64 Y.f0) ∧ w'.cell? ⟨(ae.add (x0.toNat * 4)).block, (ae.add (x0.toNat * 4)).off + 1, none⟩ = some (.int .i64 Y.f1) ∧ w'.cell? ⟨(ae.add (x0.toNat * 4)).block, (ae.add (x0.toNat * 4)).off + 2, none⟩ = some (.int .i64 Y.f2) ∧ w'.cell? ⟨(ae.add (x0.toNat * 4)).block, (ae.add (x0.toNat * 4)).off + 3, none⟩ = some (.int .i64 Y.f3)) (ds := [10]) 11 (by kernel_rfl) rfl ⟨y2, z0, q0, q1, q2, q3⟩ (fun hHeld => ?_)
   generalize wd.drew = we at HB hHeld ⊢
   clear y2 z0 z1 z2 q0 q1 q2 q3 HX
   repeat (first | refine rP 11 ?_ | refine rT 11 hHeld ?_)
   refine sB 9 hHeld (fun hHeld => ?_)
   refine sS 10 ?_
   refine done_ (by kernel_rfl) ?_
   obtain ⟨wf, hwf⟩ : ∃ wf, wf = we.alloc (.cells #[.int .i64 Y.f0, .int .i64 Y.f1, .int .i64 Y.f2, .int .i64 Y.f3] 104) := ⟨_, rfl⟩
   have HB2 : Hid (wf.heap[we.heap.size]? = some (.cells #[.int .i64 Y.f0, .int .i64 Y.f1, .int .i64 Y.f2, .int .i64 Y.f3] 104 (0, 0)) ∧ wf.heap[g]? = some (.cells #[.int .i64 x0, .int .i64 x1, .int .i64 x2] 76 (0, 0)) ∧ Below w.heap.size w wf) := zh (by rw [hwf]; exact ⟨heap_alloc_new _ _, blk_alloc (HG.out ▸ HB.out.1) _, below_alloc HB.out.2 _⟩)
   rw [← hwf]
   clear hwf hHeld HB
   generalize we.heap.size = g2 at HB2 ⊢
   have k0 : wf.cell? ⟨g2, 0, none⟩ = some (.int .i64 Y.f0) := (blk_cell HB2.out.1 0).trans rfl
   have k1 : wf.cell? ⟨g2, 1, none⟩ = some (.int .i64 Y.f1) := (blk_cell HB2.out.1 1).trans rfl
   have k2 : wf.cell? ⟨g2, 2, none⟩ = some (.int .i64 Y.f2) := (blk_cell HB2.out.1 2).trans rfl
   have k3 : wf.cell? ⟨g2, 3, none⟩ = some (.int .i64 Y.f3) := (blk_cell HB2.out.1 3).trans rfl
   have z1 : wf.cell? ⟨g, 1, none⟩ = some (.int .i64 x1) := (blk_cell HB2.out.2.1 1).trans rfl
   have z2 : wf.cell? ⟨g, 2, none⟩ = some (.int .i64 x2) := (blk_cell HB2.out.2.1 2).trans rfl
   have e5 : IntKind.i64.wrap (x1 + Y.f3) = x1 + Y.f3 := IntWalk.i64_in _ (by omega)
   have hc : (¬ x1 + Y.f3 ≤ h ∧ R = false) ∨ (x1 + Y.f3 ≤ h ∧ ¬ x2 ≤ Y.f2 ∧ R = false) ∨ (x1 + Y.f3 ≤ h ∧ x2 ≤ Y.f2 ∧ R = !hasK Dr Y.f0) := by
    rw [HF.out]
    by_cases d1 : x1 + Y.f3 ≤ h
    ·by_cases d2 : x2 ≤ Y.f2
     ·refine .inr (.inr ⟨d1, d2, ?_⟩)
      cases hasK Dr Y.f0 with
      |false => exact decide_eq_true ⟨d1, d2, rfl⟩
      |true => exact decide_eq_false (fun e => by cases e.2.2)
     ·exact .inr (.inl ⟨d1, d2, decide_eq_false (fun e => d2 e.2.1)⟩)
    ·exact .inl ⟨d1, decide_eq_false (fun e => d1 e.1)⟩
   rcases hc with ⟨d1, hf⟩ | ⟨d1, d2, hf⟩ | ⟨d1, d2, hf⟩
   ·subst hf
    clear HF
    go_wp2
    go_ret
    exact ⟨rfl, HB2.out.2.2⟩
   ·subst hf
    clear HF
    go_wp2
    go_ret
    exact ⟨rfl, HB2.out.2.2⟩
   ·subst hf
    clear HF
    go_wp2_with (go_at_call 50; go_loud ((with_reducible refine (use_walk gp n b (some ae) l.length c Ap lp cp Aq lq cq bh br kh kr Dh Dr Y _ ?s1 ?s2).mono ?_); (case s1 => exact HP.out.below HB2.out.2.2); (case s2 => exact HWF.out); rintro e w9 ⟨rfl, hb⟩; have HB3 := zh (below_step HB2.out.2.2 hb); clear hb))
    go_ret
    exact ⟨rfl, HB3.out⟩
end Go.Proofs.YtcgdloldkcmhnaaGreat.H
end
section
namespace Go.Proofs.YtcgdloldkcmhnaaGreat.H
open Go Go.RowKit Go.Proofs.YtcgdloldkcmhnaaGreat.PrintC Go.Proofs.YtcgdloldkcmhnaaGreat.PrintE Go.Proofs.YtcgdloldkcmhnaaGreatW.PrintWords Go.Proofs.YtcgdloldkcmhnaaGreatW.PrintLast Go.Proofs.YtcgdloldkcmhnaaGreatW.PrintMore
set_option linter.unusedVariables false
set_option linter.unusedSimpArgs false
set_option maxHeartbeats 4000000 in
set_option maxRecDepth 100000 in
theorem bad_walk (gp pb hb : Nat) (h : Int) (X : Mv) (R : Bool) (w : World) (h1 : w.heap[pb]? = some (.cells #[.pointer (some ⟨gp, 0, none⟩)] 64 (0, 0))) (h2 : w.heap[hb]? = some (.cells #[.int .i64 h] 3 (0, 0)))
  (hM : ∀ W, Below w.heap.size w W → Calls Tryz.prog 43 #[.pointer (some ⟨gp, 0, none⟩), .int .i64 h, .agg #[.int .i64 X.f0, .int .i64 X.f1, .int .i64 X.f2]] W (BoolAt R W)) :
  Calls Tryz.prog 42 #[.agg #[.int .i64 X.f0, .int .i64 X.f1, .int .i64 X.f2], .pointer (some ⟨pb, 0, none⟩), .pointer (some ⟨hb, 0, none⟩)] w (BoolAt (!R) w) := by
 have HM := zh hM
 have x0 : w.cell? ⟨pb, 0, none⟩ = some (.pointer (some ⟨gp, 0, none⟩)) := (blk_cell h1 0).trans rfl
 have x1 : w.cell? ⟨hb, 0, none⟩ = some (.int .i64 h) := (blk_cell h2 0).trans rfl
 have hu2 := Tryz.underlying76
 have y0 : (w.alloc (.cells #[.int .i64 X.f0, .int .i64 X.f1, .int .i64 X.f2] 76)).cell? ⟨pb, 0, none⟩ = some (.pointer (some ⟨gp, 0, none⟩)) := pw_cell_below (below_alloc (Below.refl _ _) _) x0
 have y1 : (w.alloc (.cells #[.int .i64 X.f0, .int .i64 X.f1, .int .i64 X.f2] 76)).cell? ⟨hb, 0, none⟩ = some (.int .i64 h) := pw_cell_below (below_alloc (Below.refl _ _) _) x1
 clear hM h1 h2
 go_enter Tryz.func42, Tryz.ntmps42
 go_wp2_with (go_at_call 43; go_loud ((with_reducible refine (HM.out _ ?s1).mono ?_); (case s1 => exact below_alloc (Below.refl _ _) _); rintro e w2 ⟨rfl, hb9⟩; have HB := zh (below_step (below_alloc (Below.refl w.heap.size w) (.cells #[.int .i64 X.f0, .int .i64 X.f1, .int .i64 X.f2] 76)) hb9); clear hb9))
 go_ret
 exact ⟨rfl, HB.out⟩
def IdxAt (t : Mv → Bool) (m : List Mv) (w : World) (e : Ending) (w' : World) : Prop := ∃ r : Int, e = .returned (.int .i64 r) ∧ Below w.heap.size w w' ∧ ((decide (0 ≤ r) = true ∧ m.any t = true) ∨ (decide (0 ≤ r) = false ∧ m.any t = false))
set_option maxHeartbeats 4000000 in
set_option maxRecDepth 100000 in
theorem index_walk (pb hb : Nat) (t : Mv → Bool) (Am : Option Addr) (cm : Nat) (m : List Mv) (w : World) (hm : Kd.C kMv w Am m.length m) (hml : m.length ≤ 100000)
  (hT : ∀ x, x ∈ m → ∀ W, Below w.heap.size w W → Calls Tryz.prog 42 #[.agg #[.int .i64 x.f0, .int .i64 x.f1, .int .i64 x.f2], .pointer (some ⟨pb, 0, none⟩), .pointer (some ⟨hb, 0, none⟩)] W (BoolAt (t x) W)) :
  Calls Tryz.prog 78 #[.slice Am m.length cm, .func (.func 42) #[] #[.pointer (some ⟨pb, 0, none⟩), .pointer (some ⟨hb, 0, none⟩)]] w (IdxAt t m w) := by
 have HM := zh hm
 have HT := zh hT
 have hu2 := Tryz.underlying76
 clear hm hT
 go_enter Tryz.func78, Tryz.ntmps78
 go_wp2
 go_loopg [8] (m.length + 1) (fun k iv W => ∃ i : Nat, i ≤ m.length ∧ iv = .int .i64 i ∧ k = m.length + 1 - i ∧ Hid (Below w.heap.size w W ∧ (m.take i).any t = false))
 case atStart => exact ⟨0, Nat.zero_le _, rfl, rfl, zh ⟨Below.refl _ _, by rw [List.take_zero]; rfl⟩⟩
 case round =>
  obtain ⟨i, hi, rfl, rfl, HL⟩ := hrel
  by_cases hlt : i < m.length
  ·have i0 : (0 : Int) ≤ (i : Int) := by omega
   have i1 : (i : Int) < (m.length : Int) := by omega
   obtain ⟨ad, ea, y0, y1, y2⟩ := at_T76 (Kd.C_below HM.out HL.out.1) (i : Int) i0 i1
   subst ea
   obtain ⟨X, hX⟩ : ∃ X, X = mvAt m i := ⟨_, rfl⟩
   have hX2 : rd_T76 m (i : Int) = X := by rw [hX]; rfl
   rw [Int.toNat_natCast, hX2] at y0 y1 y2
   have HXM : Hid (X ∈ m ∧ m.take (i + 1) = m.take i ++ [X]) := zh ⟨by rw [hX]; exact mvAt_mem hlt, by rw [hX]; exact mvAt_take hlt⟩
   clear hX hX2
   cases hR : t X with
   |true =>
    have HR := zh hR
    clear hR
    go_wp2_with (go_at_call 42; (with_reducible refine (HT.out X HXM.out.1 _ HL.out.1).mono ?_); rintro e w2 ⟨rfl, hb9⟩; rw [HR.out]; have HB := zh (below_step HL.out.1 hb9); clear hb9)
    go_ret
    exact ⟨_, rfl, HB.out,   .inl ⟨decide_eq_true i0, List.any_eq_true.2 ⟨X, HXM.out.1, HR.out⟩⟩⟩
   |false =>
    have HR := zh hR
    clear hR
    go_wp2_with (go_at_call 42; (with_reducible refine (HT.out X HXM.out.1 _ HL.out.1).mono ?_); rintro e w2 ⟨rfl, hb9⟩; rw [HR.out]; have HB := zh (below_step HL.out.1 hb9); clear hb9)
    go_roundg (m.length - i)
    case measure => omega
    case rel => exact ⟨i + 1, by omega, by go_num, by omega, zh ⟨HB.out, by rw [HXM.out.2, List.any_append, HL.out.2]; simp [HR.out]⟩⟩
  ·have e : i = m.length := by omega
   subst e
   go_wp2
   go_ret
   refine ⟨_, rfl, HL.out.1, .inr ⟨by decide, ?_⟩⟩
   have h9 := HL.out.2
   rwa [List.take_length] at h9
set_option maxHeartbeats 4000000 in
set_option maxRecDepth 100000 in
theorem contains_walk (pb hb : Nat) (t : Mv → Bool) (Am : Option Addr) (cm : Nat) (m : List Mv) (w : World) (hm : Kd.C kMv w Am m.length m) (hml : m.length ≤ 100000)
  (hT : ∀ x, x ∈ m → ∀ W, Below w.heap.size w W → Calls Tryz.prog 42 #[.agg #[.int .i64 x.f0, .int .i64 x.f1, .int .i64 x.f2], .pointer (some ⟨pb, 0, none⟩), .pointer (some ⟨hb, 0, none⟩)] W (BoolAt (t x) W)) :
  Calls Tryz.prog 41 #[.slice Am m.length cm, .func (.func 42) #[] #[.pointer (some ⟨pb, 0, none⟩), .pointer (some ⟨hb, 0, none⟩)]] w (BoolAt (m.any t) w) := by
 have HI := zh (index_walk pb hb t Am cm m w hm hml hT)
 clear hm hT
 go_enter Tryz.func41, Tryz.ntmps41
 go_wp2_with (go_at_call 78; (with_reducible refine (HI.out).mono ?_); rintro e w2 ⟨r, rfl, hb9, (⟨hr, ha⟩ | ⟨hr, ha⟩)⟩; all_goals (have HB := zh (And.intro hb9 ha); clear hb9 ha))
 ·go_ret
  exact ⟨by rw [HB.out.2]; rfl, HB.out.1⟩
 ·go_ret
  exact ⟨by rw [HB.out.2]; rfl, HB.out.1⟩
end Go.Proofs.YtcgdloldkcmhnaaGreat.H
end
section
namespace Go.Proofs.YtcgdloldkcmhnaaGreat.H
open Go Go.RowKit Go.Proofs.YtcgdloldkcmhnaaGreat.PrintC Go.Proofs.YtcgdloldkcmhnaaGreat.PrintE Go.Proofs.YtcgdloldkcmhnaaGreatW.PrintWords Go.Proofs.YtcgdloldkcmhnaaGreatW.PrintLast Go.Proofs.YtcgdloldkcmhnaaGreatW.PrintMore Go.Proofs.YtcgdloldkcmhnaaGreat.Flow
set_option linter.unusedVariables false
set_option linter.unusedSimpArgs false
theorem infoGp : (Tryz.prog.info? 59).map (fun i => (i.zero, i.size, i.bytes)) = some (some (.agg #[.int .i64 0, .int .i64 0]), 2, 16) := by kernel_rfl
theorem take_sn {l : List Grp} {i : Nat} (h : i < l.length) : l.take (i + 1) = l.take i ++ [rd_T59 l (i : Int)] := by
 have e : rd_T59 l (i : Int) = l[i] := by
  unfold rd_T59
  rw [Int.toNat_natCast, List.getD_eq_getElem?_getD, List.getElem?_eq_getElem h]
  rfl
 rw [List.take_add_one, List.getElem?_eq_getElem h, e]
 rfl
theorem snoc_tk {l : List Grp} {g : Grp} {i m : Nat} (hm : l.length = m) (h : i < m) : (l.take i ++ [g]).length = i + 1 := by
 rw [List.length_append, List.length_take, List.length_singleton]
 omega
theorem max2_max (k k' : IntKind) (x y : Int) : Builtin.max2 (.int k x) (.int k' y) = pure (.int k (max x y)) := by
 rw [max2_int]
 have e : (if x < y then y else x) = max x y := by split <;> omega
 rw [e]
attribute [local go_sem] max2_max max_two
set_option linter.unusedVariables false
set_option linter.unusedSimpArgs false
def stockK (l : List Arc) (p : List Grp) (m : List Mv) (v z : Int) : Int := max (gOf v p) 0 + stockV l m v z
def BadP (kb : Bool) (h po cr k z : Int) : Prop := k < 0 ∨ (0 ≤ cr ∧ cr < k) ∨ (0 < k ∧ kb = false) ∨ (z = h ∧ 0 < k ∧ cr < 0 ∧ po < 0)
theorem chk_cases (kb : Bool) (h po cr k z : Int) (hk : 0 ≤ cr → kb = true) :
  (((k < 0 ∧ Hid (BadP kb h po cr k z)) ∨ (¬ k < 0 ∧ 0 ≤ cr ∧ cr < k ∧ Hid (BadP kb h po cr k z)) ∨ (¬ k < 0 ∧ ¬ 0 ≤ cr ∧ 0 < k ∧ kb = false ∧ Hid (BadP kb h po cr k z)) ∨ (¬ k < 0 ∧ ¬ 0 ≤ cr ∧ cr < 0 ∧ 0 < k ∧ kb = true ∧ (z == h) = true ∧ po < 0 ∧ Hid (BadP kb h po cr k z)))) ∨
  (Hid (¬ BadP kb h po cr k z) ∧ ((¬ k < 0 ∧ 0 ≤ cr ∧ ¬ cr < 0 ∧ ¬ cr < k ∧ ¬ 0 < k ∧ (z == h) = false ∧ Hid (¬ z = h)) ∨ (¬ k < 0 ∧ 0 ≤ cr ∧ ¬ cr < 0 ∧ ¬ cr < k ∧ ¬ 0 < k ∧ (z == h) = true ∧ Hid (z = h)) ∨ (¬ k < 0 ∧ 0 ≤ cr ∧ ¬ cr < 0 ∧ ¬ cr < k ∧ 0 < k ∧ kb = true ∧ (z == h) = false ∧ Hid (¬ z = h)) ∨ (¬ k < 0 ∧ 0 ≤ cr ∧ ¬ cr < 0 ∧ ¬ cr < k ∧ 0 < k ∧ kb = true ∧ (z == h) = true ∧ Hid (z = h)) ∨
   (¬ k < 0 ∧ ¬ 0 ≤ cr ∧ cr < 0 ∧ ¬ 0 < k ∧ (z == h) = false ∧ Hid (¬ z = h)) ∨ (¬ k < 0 ∧ ¬ 0 ≤ cr ∧ cr < 0 ∧ ¬ 0 < k ∧ (z == h) = true ∧ Hid (z = h)) ∨ (¬ k < 0 ∧ ¬ 0 ≤ cr ∧ cr < 0 ∧ 0 < k ∧ kb = true ∧ (z == h) = false ∧ Hid (¬ z = h)) ∨ (¬ k < 0 ∧ ¬ 0 ≤ cr ∧ cr < 0 ∧ 0 < k ∧ kb = true ∧ (z == h) = true ∧ ¬ po < 0 ∧ Hid (z = h)))) := by
 have ez : (z == h) = decide (z = h) := by
  by_cases e : z = h
  ·rw [decide_eq_true e]; exact beq_iff_eq.2 e
  ·rw [decide_eq_false e]; exact beq_eq_false_iff_ne.2 e
 rw [ez]
 by_cases a : k < 0
 ·exact .inl (.inl ⟨a, zh (.inl a)⟩)
 ·by_cases b : 0 ≤ cr
  ·have hkb := hk b
   by_cases c : cr < k
   ·exact .inl (.inr (.inl ⟨a, b, c, zh (.inr (.inl ⟨b, c⟩))⟩))
   ·refine .inr ⟨zh (by unfold BadP; rw [hkb]; simp only [Bool.true_eq_false, and_false, false_or]; omega), ?_⟩
    by_cases d : 0 < k
    ·by_cases e : z = h
     ·exact .inr (.inr (.inr (.inl ⟨a, b, by omega, c, d, hkb, decide_eq_true e, zh e⟩)))
     ·exact .inr (.inr (.inl ⟨a, b, by omega, c, d, hkb, decide_eq_false e, zh e⟩))
    ·by_cases e : z = h
     ·exact .inr (.inl ⟨a, b, by omega, c, d, decide_eq_true e, zh e⟩)
     ·exact .inl ⟨a, b, by omega, c, d, decide_eq_false e, zh e⟩
  ·by_cases d : 0 < k
   ·cases hkb : kb with
    |false => exact .inl (.inr (.inr (.inl ⟨a, b, d, rfl, zh (.inr (.inr (.inl ⟨d, rfl⟩)))⟩)))
    |true =>
     by_cases e : z = h
     ·by_cases f : po < 0
      ·exact .inl (.inr (.inr (.inr ⟨a, b, by omega, d, rfl, decide_eq_true e, f, zh (.inr (.inr (.inr ⟨e, d, by omega, f⟩)))⟩)))
      ·exact .inr ⟨zh (by unfold BadP; simp only [Bool.true_eq_false, and_false, false_or]; omega), .inr (.inr (.inr (.inr (.inr (.inr (.inr ⟨a, b, by omega, d, rfl, decide_eq_true e, f, zh e⟩))))))⟩
     ·exact .inr ⟨zh (by unfold BadP; simp only [Bool.true_eq_false, and_false, false_or]; omega), .inr (.inr (.inr (.inr (.inr (.inr (.inl ⟨a, b, by omega, d, rfl, decide_eq_false e, zh e⟩))))))⟩
   ·refine .inr ⟨zh (by unfold BadP; omega), ?_⟩
    by_cases e : z = h
    ·exact .inr (.inr (.inr (.inr (.inr (.inl ⟨a, b, by omega, d, decide_eq_true e, zh e⟩)))))
    ·exact .inr (.inr (.inr (.inr (.inl ⟨a, b, by omega, d, decide_eq_false e, zh e⟩))))
def BadAt (h : Nat) (b : Bool) (l : List Arc) (p q : List Grp) (m : List Mv) (v z : Nat) : Prop := BadP (keepsOf b p q v) h (gOf v p) (gOf v q) (stockK l p m v z) z
def PlanOk (n h : Nat) (b : Bool) (l : List Arc) (p q : List Grp) (L m : List Mv) : Prop := MgOf L m ∧ (∀ x, x ∈ m → mok l h q x = true) ∧ ∀ v z : Nat, v < n → z ≤ h → ¬ BadAt h b l p q m v z
def amtF (h : Nat) (l : List Arc) (p q : List Grp) (m : List Mv) (v : Nat) : Int := if 0 ≤ gOf v q then stockK l p m v h else 0
def planV (n h : Nat) (l : List Arc) (p q : List Grp) (m : List Mv) : Int := sumN n (amtF h l p q m)
def ChkAt (n h : Nat) (b : Bool) (l : List Arc) (p q : List Grp) (L : List Mv) (w : World) (e : Ending) (w' : World) : Prop := Below w.heap.size w w' ∧
 ((∃ k : Int, (k == 0) = false ∧ (k != 0) = true ∧ e = .returned (.tuple #[.int .i64 0, .int .i64 k]) ∧ (MvBad l h q L k ∨ (k = 141 ∧ ∃ m, MgOf L m ∧ (∀ x, x ∈ m → mok l h q x = true) ∧ ∃ v z : Nat, v < n ∧ z ≤ h ∧ BadAt h b l p q m v z))) ∨
  ∃ m, PlanOk n h b l p q L m ∧ e = .returned (.tuple #[.int .i64 (planV n h l p q m), .int .i64 0]))
theorem gOf_le {v M : Int} (hM : -1 ≤ M) : ∀ {l : List Grp}, (∀ g, g ∈ l → g.f1 ≤ M) → gOf v l ≤ M
 |[], _ => hM
 |g :: l, h => by
  unfold gOf
  split
  ·exact h g (List.mem_cons_self ..)
  ·exact gOf_le hM (fun x hx => h x (List.mem_cons_of_mem _ hx))
theorem mok_in {l : List Arc} {h : Nat} {q : List Grp} {x : Mv} (hh : h ≤ 1024) (hc : ∀ i : Nat, i < l.length → 0 ≤ (arcAt l i).f2 ∧ (arcAt l i).f2 ≤ 1048576) (k : mok l h q x = true) : MvIn l x := by
 unfold mok at k
 have e := of_decide_eq_true (Bool.and_eq_true_iff.1 k).1
 have h2 : x.f2 ≤ 1048576 := by
  have h3 := (hc x.f0.toNat (by omega)).2
  have h4 : arcAt l x.f0.toNat = arcOf l x := by
   unfold arcAt arcOf
   rw [Int.toNat_of_nonneg e.1]
  rw [h4] at h3
  have := e.2.2.2.2.2.2.1
  omega
 exact ⟨e.1, e.2.1, e.2.2.1, by omega, e.2.2.2.2.2.1, by omega⟩
set_option maxHeartbeats 8000000 in
set_option maxRecDepth 100000 in
theorem rplan_at (n h : Nat) (b : Bool) (A : Option Addr) (c : Nat) (l : List Arc) (Ap : Option Addr) (cp : Nat) (p : List Grp) (Aq : Option Addr) (cq : Nat) (q : List Grp) (AL : Option Addr) (cL : Nat) (L : List Mv) (w : World) (a : AskOk n h l p q) (hAS : ∀ W, Below w.heap.size w W → Calls Tryz.prog 14 #[.agg #[.int .i64 n, .bool b, .slice A l.length c], .slice Ap p.length cp, .slice Aq q.length cq, .int .i64 h] W fun e w' => e = .returned (.int .i64 0) ∧ Below W.heap.size W w') (hr : Kd.C kArc w A l.length l) (hp : Kd.C kGrp w Ap p.length p) (hq : Kd.C kGrp w Aq q.length q) (hL : Kd.C kMv w AL L.length L)
  (hi : ∀ x, x ∈ L → -9223372036854775808 ≤ x.f2 ∧ x.f2 ≤ 9223372036854775807) (hl : L.length ≤ 100000) :
  Calls Tryz.prog 11 #[.agg #[.int .i64 n, .bool b, .slice A l.length c], .slice Ap p.length cp, .slice Aq q.length cq, .int .i64 h, .slice AL L.length cL] w (ChkAt n h b l p q L w) := by
 have hu := Tryz.underlying33
 have HAS := zh hAS
 have HR := zh hr
 have HP := zh hp
 have HQ := zh hq
 have HLL := zh hL
 have HI := zh hi
 have HPL := zh a.place
 have hhb := a.hh
 have hn1 := a.place.net.n1
 have hlp := a.place.lp
 have hlq := a.place.lq
 have HTI : Hid (∀ i : Int, 0 ≤ i → i < l.length → 0 ≤ (rd_T104 l i).f3 ∧ (rd_T104 l i).f3 ≤ 1048576) := zh (fun i h0 h1 => by
  have h2 := a.place.net.time i.toNat (by omega)
  unfold arcAt at h2
  rw [Int.toNat_of_nonneg h0] at h2
  exact h2)
 have HG0 : Hid ((∀ g, g ∈ p → 0 ≤ g.f1) ∧ (∀ g, g ∈ q → 0 ≤ g.f1)) := zh ⟨fun g hg => (a.place.gp g hg).2.1, fun g hg => (a.place.gq g hg).2.1⟩
 clear a hAS hr hp hq hL hi
 go_enter Tryz.func11, Tryz.ntmps11
 obtain ⟨w1, hw1⟩ : ∃ w1, w1 = w.alloc (.cells #[.int .i64 n, .bool b, .slice A l.length c] 33) := ⟨_, rfl⟩
 have HX : Hid (w1.heap[w.heap.size]? = some (.cells #[.int .i64 n, .bool b, .slice A l.length c] 33 (0, 0)) ∧ Below w.heap.size w w1) := zh (by rw [hw1]; exact ⟨heap_alloc_new _ _, below_alloc (Below.refl _ _) _⟩)
 go_wp2_with (first
  |(go_at_call 14; rw [← hw1]; go_loud ((with_reducible refine (HAS.out _ ?s1).mono ?_); (case s1 => exact HX.out.2); rintro e w2 ⟨rfl, hb⟩; have HX2 := zh (And.intro (blk_below HX.out.1 hb) (below_step HX.out.2 hb)); have x0 : w2.cell? ⟨w.heap.size, 0, none⟩ = some (.int .i64 n) := (blk_cell HX2.out.1 0).trans rfl; have x1 : w2.cell? ⟨w.heap.size, 1, none⟩ = some (.bool b) := (blk_cell HX2.out.1 1).trans rfl; have x2 : w2.cell? ⟨w.heap.size, 2, none⟩ = some (.slice A l.length c) := (blk_cell HX2.out.1 2).trans rfl; clear hb))
  |(go_at_call 28; go_loud ((with_reducible refine (rmvs_walk _ b A c l Aq cq q _ AL cL L _ ?s1 ?s2 ?s3 ?s4 ?s5 ?s6 ?s7 ?s8 ?s9).mono ?_); (case s1 => exact Kd.C_below HR.out HX2.out.2); (case s2 => exact Kd.C_below HQ.out HX2.out.2); (case s3 => exact Kd.C_below HLL.out HX2.out.2); (case s4 => omega); (case s5 => exact HTI.out); (case s6 => omega); (case s7 => omega); (case s8 => exact HI.out); (case s9 => exact hl); rintro e w3 ⟨hb, (⟨k9, k0, k1, rfl, hbad⟩ | ⟨m, A1, c1, rfl, hm, hmg, hok, hml⟩)⟩; all_goals (have HX3 := zh (And.intro (blk_below HX2.out.1 hb) (below_step HX2.out.2 hb)); clear HX HX2 x0 x1 x2))))
 ·have HBAD := zh hbad
  clear hbad hb
  go_wp2
  go_ret2
  exact ⟨HX3.out.2, .inl ⟨k9, by simpa using k0, by simpa using k1, rfl, .inl HBAD.out⟩⟩
 have HM := zh (And.intro hmg hok)
 have HMC := zh (Kd.R_reads' hm).2.2
 have HMI : Hid (∀ x, x ∈ m → MvIn l x) := zh (fun x hx => mok_in hhb HPL.out.caps (hok x hx))
 have hmb := Nat.le_trans hml hl
 clear hm hmg hok hb
 go_wp2
 go_loopg [15, 16] (n + 1) (fun k sv vv W => ∃ (v : Nat) (S : Int), v ≤ n ∧ sv = .int .i64 S ∧ vv = .int .i64 v ∧ k = n + 1 - v ∧ 0 ≤ S ∧ S ≤ (v : Int) * 1048576 ∧ Hid (S = sumN v (amtF h l p q m) ∧ W.heap[w.heap.size]? = some (.cells #[.int .i64 n, .bool b, .slice A l.length c] 33 (0, 0)) ∧ Below w3.heap.size w3 W ∧ ∀ v' z : Nat, v' < v → z ≤ h → ¬ BadAt h b l p q m v' z))
 case atStart => exact ⟨0, 0, Nat.zero_le _, rfl, rfl, rfl, Int.le_refl _, by omega, zh ⟨rfl, HX3.out.1, Below.refl _ _, fun v' z hv => absurd hv (Nat.not_lt_zero _)⟩⟩
 case round =>
  obtain ⟨v, S, hv, rfl, rfl, rfl, s0, s1, HL⟩ := hrel
  have HB := zh (And.intro HL.out.2.1 (And.intro HL.out.2.2.1 (below_step HX3.out.2 HL.out.2.2.1)))
  have x0 : wr.cell? ⟨w.heap.size, 0, none⟩ = some (.int .i64 n) := (blk_cell HB.out.1 0).trans rfl; have x1 : wr.cell? ⟨w.heap.size, 1, none⟩ = some (.bool b) := (blk_cell HB.out.1 1).trans rfl; have x2 : wr.cell? ⟨w.heap.size, 2, none⟩ = some (.slice A l.length c) := (blk_cell HB.out.1 2).trans rfl
  by_cases hlt : v < n
  ·have hlt2 : (v : Int) < (n : Int) := by omega
   obtain ⟨po, hpo⟩ : ∃ po, po = gOf v p := ⟨_, rfl⟩
   obtain ⟨cr, hcr⟩ : ∃ cr, cr = gOf v q := ⟨_, rfl⟩
   obtain ⟨kb, hkb⟩ : ∃ kb, kb = keepsOf b p q v := ⟨_, rfl⟩
   obtain ⟨B, hB⟩ : ∃ B, max po 0 = B := ⟨_, rfl⟩
   have po1 : po ≤ 1048576 := by rw [hpo]; exact gOf_le (by decide) (fun g hg => (HPL.out.gp g hg).2.2)
   have cr1 : cr ≤ 1048576 := by rw [hcr]; exact gOf_le (by decide) (fun g hg => (HPL.out.gq g hg).2.2)
   have b0 : 0 ≤ B := by omega
   have b1 : B ≤ 1048576 := by omega
   have HKC : Hid (0 ≤ cr → kb = true) := zh (fun h9 => by
    have h8 := gOf_neg (v : Int) HG0.out.2
    rw [hkb]
    unfold keepsOf
    cases h7 : hasK (putGs q) (v : Int) with
    |true => simp
    |false =>
     rw [h7] at h8
     have := h8.2 rfl
     omega)
   have HPO := zh hpo
   have HCR := zh hcr
   have HKB := zh hkb
   have HBE := zh hB
   clear hpo hcr hkb
   go_wp2_with (first
    |(go_at_call 24; (with_reducible refine (rof_walk p.length Ap cp p _ _ ?s1 ?s2 ?s3).mono ?_); (case s1 => rfl); (case s2 => exact Kd.C_below HP.out HB.out.2.2); (case s3 => omega); rintro e w7 ⟨rfl, hb⟩; rw [← HPO.out]; have HN9 := zh (And.intro (blk_below HB.out.1 hb) (And.intro (below_step HB.out.2.1 hb) (below_step HB.out.2.2 hb))); clear HB x0 x1 x2 hb; have HB := HN9; clear HN9; have x0 : w7.cell? ⟨w.heap.size, 0, none⟩ = some (.int .i64 n) := (blk_cell HB.out.1 0).trans rfl; have x1 : w7.cell? ⟨w.heap.size, 1, none⟩ = some (.bool b) := (blk_cell HB.out.1 1).trans rfl; have x2 : w7.cell? ⟨w.heap.size, 2, none⟩ = some (.slice A l.length c) := (blk_cell HB.out.1 2).trans rfl)
    |(go_at_call 24; (with_reducible refine (rof_walk q.length Aq cq q _ _ ?s1 ?s2 ?s3).mono ?_); (case s1 => rfl); (case s2 => exact Kd.C_below HQ.out HB.out.2.2); (case s3 => omega); rintro e w8 ⟨rfl, hb⟩; rw [← HCR.out]; have HN9 := zh (And.intro (blk_below HB.out.1 hb) (And.intro (below_step HB.out.2.1 hb) (below_step HB.out.2.2 hb))); clear HB x0 x1 x2 hb; have HB := HN9; clear HN9; have x0 : w8.cell? ⟨w.heap.size, 0, none⟩ = some (.int .i64 n) := (blk_cell HB.out.1 0).trans rfl; have x1 : w8.cell? ⟨w.heap.size, 1, none⟩ = some (.bool b) := (blk_cell HB.out.1 1).trans rfl; have x2 : w8.cell? ⟨w.heap.size, 2, none⟩ = some (.slice A l.length c) := (blk_cell HB.out.1 2).trans rfl))
   clear hB
   have HL9 := zh (And.intro HL.out.1 HL.out.2.2.2)
   clear HL
   go_loopg [15, 19] (h + 2) (fun k sv zv W => ∃ (z : Nat) (s : Int), z ≤ h + 1 ∧ sv = .int .i64 s ∧ zv = .int .i64 z ∧ k = h + 2 - z ∧ 0 ≤ s ∧ s ≤ (v : Int) * 1048576 + 1048576 ∧ (z ≤ h → s ≤ (v : Int) * 1048576) ∧ Hid ((z ≤ h → s = S) ∧ (z = h + 1 → s = S + amtF h l p q m v) ∧ W.heap[w.heap.size]? = some (.cells #[.int .i64 n, .bool b, .slice A l.length c] 33 (0, 0)) ∧ Below w3.heap.size w3 W ∧ ∀ z' : Nat, z' < z → ¬ BadAt h b l p q m v z'))
   case atStart => exact ⟨0, S, by omega, rfl, rfl, rfl, s0, by omega, fun _ => s1, zh ⟨fun _ => rfl, fun h9 => by omega, HB.out.1, HB.out.2.1, fun z' hz => absurd hz (Nat.not_lt_zero _)⟩⟩
   case round =>
    obtain ⟨z, s, hz, rfl, rfl, rfl, t0, t1, t2, HZ⟩ := hrel
    clear HB x0 x1 x2
    have HB := zh (And.intro HZ.out.2.2.1 (And.intro HZ.out.2.2.2.1 (below_step HX3.out.2 HZ.out.2.2.2.1)))
    have x0 : wr.cell? ⟨w.heap.size, 0, none⟩ = some (.int .i64 n) := (blk_cell HB.out.1 0).trans rfl; have x1 : wr.cell? ⟨w.heap.size, 1, none⟩ = some (.bool b) := (blk_cell HB.out.1 1).trans rfl; have x2 : wr.cell? ⟨w.heap.size, 2, none⟩ = some (.slice A l.length c) := (blk_cell HB.out.1 2).trans rfl
    by_cases hzl : z ≤ h
    ·have hzl2 : (z : Int) ≤ (h : Int) := by omega
     have t3 := t2 hzl
     have t4 : s ≤ 1048576000 := by omega
     obtain ⟨KS, hKS⟩ : ∃ KS, KS = stockV l m v z := ⟨_, rfl⟩
     have hkbd := stock_bd (v := v) (z := z) HMI.out
     rw [← hKS] at hkbd
     obtain ⟨K, hK⟩ : ∃ K, K = B + KS := ⟨_, rfl⟩
     have e5 : IntKind.i64.wrap (B + KS) = K := by rw [IntWalk.i64_in _ (by omega), hK]
     have e6 : IntKind.i64.wrap (s + K) = s + K := IntWalk.i64_in _ (by omega)
     have HK : Hid (stockK l p m v z = K) := zh (by unfold stockK; rw [← HPO.out, HBE.out, ← hKS, hK])
     have HAM : Hid ((z : Int) = h → amtF h l p q m v = if 0 ≤ cr then K else 0) := zh (fun h9 => by
      unfold amtF
      rw [← HCR.out, ← h9, HK.out])
     have HKS := zh hKS
     clear hKS hK hkbd t2
     rcases chk_cases kb h po cr K z HKC.out with hbad | ⟨HNB, hgood⟩
     ·have HBD : Hid (BadP kb h po cr K z) := by
       rcases hbad with ⟨_, h9⟩ | ⟨_, _, _, h9⟩ | ⟨_, _, _, _, h9⟩ | ⟨_, _, _, _, _, _, _, h9⟩ <;> exact h9
      rcases hbad with ⟨g1, -⟩ | ⟨g1, g2, g3, -⟩ | ⟨g1, g2, g3, g4, -⟩ | ⟨g1, g2, g3, g4, g5, g6, g7, -⟩
      all_goals
       as_aux_lemma =>
        go_wp2_with (first
         |(go_at_call 29; go_loud ((with_reducible refine (rstock_walk n b A c l A1 c1 m v z KS HKS.out _ ?s1 ?s2 ?s3 ?s4 ?s5).mono ?_); (case s1 => exact Kd.C_below HR.out HB.out.2.2); (case s2 => exact Kd.C_below HMC.out HB.out.2.1); (case s3 => exact HMI.out); (case s4 => exact HTI.out); (case s5 => omega); rintro e w5 ⟨rfl, hb⟩; have HN9 := zh (And.intro (blk_below HB.out.1 hb) (And.intro (below_step HB.out.2.1 hb) (below_step HB.out.2.2 hb))); clear HB x0 x1 x2 hb; have HB := HN9; clear HN9; have x0 : w5.cell? ⟨w.heap.size, 0, none⟩ = some (.int .i64 n) := (blk_cell HB.out.1 0).trans rfl; have x1 : w5.cell? ⟨w.heap.size, 1, none⟩ = some (.bool b) := (blk_cell HB.out.1 1).trans rfl; have x2 : w5.cell? ⟨w.heap.size, 2, none⟩ = some (.slice A l.length c) := (blk_cell HB.out.1 2).trans rfl))
         |(go_at_call 30; go_loud ((with_reducible refine (rkeeps_walk n b (.slice A l.length c) Ap cp p Aq cq q v _ ?s1 ?s2 ?s3 ?s4 ?s5 ?s6).mono ?_); (case s1 => exact Kd.C_below HP.out HB.out.2.2); (case s2 => exact Kd.C_below HQ.out HB.out.2.2); (case s3 => omega); (case s4 => omega); (case s5 => exact HG0.out.1); (case s6 => exact HG0.out.2); rintro e w6 ⟨rfl, hb⟩; rw [show (b || (hasK (putGs p) (v : Int) || hasK (putGs q) (v : Int))) = kb from HKB.out.symm]; have HN9 := zh (And.intro (blk_below HB.out.1 hb) (And.intro (below_step HB.out.2.1 hb) (below_step HB.out.2.2 hb))); clear HB x0 x1 x2 hb; have HB := HN9; clear HN9; have x0 : w6.cell? ⟨w.heap.size, 0, none⟩ = some (.int .i64 n) := (blk_cell HB.out.1 0).trans rfl; have x1 : w6.cell? ⟨w.heap.size, 1, none⟩ = some (.bool b) := (blk_cell HB.out.1 1).trans rfl; have x2 : w6.cell? ⟨w.heap.size, 2, none⟩ = some (.slice A l.length c) := (blk_cell HB.out.1 2).trans rfl))
         |(go_at_call 24; (with_reducible refine (rof_walk p.length Ap cp p _ _ ?s1 ?s2 ?s3).mono ?_); (case s1 => rfl); (case s2 => exact Kd.C_below HP.out HB.out.2.2); (case s3 => omega); rintro e w7 ⟨rfl, hb⟩; rw [← HPO.out]; have HN9 := zh (And.intro (blk_below HB.out.1 hb) (And.intro (below_step HB.out.2.1 hb) (below_step HB.out.2.2 hb))); clear HB x0 x1 x2 hb; have HB := HN9; clear HN9; have x0 : w7.cell? ⟨w.heap.size, 0, none⟩ = some (.int .i64 n) := (blk_cell HB.out.1 0).trans rfl; have x1 : w7.cell? ⟨w.heap.size, 1, none⟩ = some (.bool b) := (blk_cell HB.out.1 1).trans rfl; have x2 : w7.cell? ⟨w.heap.size, 2, none⟩ = some (.slice A l.length c) := (blk_cell HB.out.1 2).trans rfl))
        go_ret2
        exact ⟨HB.out.2.2, .inl ⟨141, rfl, rfl, rfl, .inr ⟨rfl, m, HM.out.1, HM.out.2, v, z, hlt, hzl, by unfold BadAt; rw [← HKB.out, ← HPO.out, ← HCR.out, HK.out]; exact HBD.out⟩⟩⟩
     ·rcases hgood with ⟨g1, g2, g3, g4, g5, g6, HZH⟩ | ⟨g1, g2, g3, g4, g5, g6, HZH⟩ | ⟨g1, g2, g3, g4, g5, g6, g7, HZH⟩ | ⟨g1, g2, g3, g4, g5, g6, g7, HZH⟩ | ⟨g1, g2, g3, g4, g5, HZH⟩ | ⟨g1, g2, g3, g4, g5, HZH⟩ | ⟨g1, g2, g3, g4, g5, g6, HZH⟩ | ⟨g1, g2, g3, g4, g5, g6, g7, HZH⟩
      all_goals
       as_aux_lemma =>
        go_wp2_with (first
         |(go_at_call 29; go_loud ((with_reducible refine (rstock_walk n b A c l A1 c1 m v z KS HKS.out _ ?s1 ?s2 ?s3 ?s4 ?s5).mono ?_); (case s1 => exact Kd.C_below HR.out HB.out.2.2); (case s2 => exact Kd.C_below HMC.out HB.out.2.1); (case s3 => exact HMI.out); (case s4 => exact HTI.out); (case s5 => omega); rintro e w5 ⟨rfl, hb⟩; have HN9 := zh (And.intro (blk_below HB.out.1 hb) (And.intro (below_step HB.out.2.1 hb) (below_step HB.out.2.2 hb))); clear HB x0 x1 x2 hb; have HB := HN9; clear HN9; have x0 : w5.cell? ⟨w.heap.size, 0, none⟩ = some (.int .i64 n) := (blk_cell HB.out.1 0).trans rfl; have x1 : w5.cell? ⟨w.heap.size, 1, none⟩ = some (.bool b) := (blk_cell HB.out.1 1).trans rfl; have x2 : w5.cell? ⟨w.heap.size, 2, none⟩ = some (.slice A l.length c) := (blk_cell HB.out.1 2).trans rfl))
         |(go_at_call 30; go_loud ((with_reducible refine (rkeeps_walk n b (.slice A l.length c) Ap cp p Aq cq q v _ ?s1 ?s2 ?s3 ?s4 ?s5 ?s6).mono ?_); (case s1 => exact Kd.C_below HP.out HB.out.2.2); (case s2 => exact Kd.C_below HQ.out HB.out.2.2); (case s3 => omega); (case s4 => omega); (case s5 => exact HG0.out.1); (case s6 => exact HG0.out.2); rintro e w6 ⟨rfl, hb⟩; rw [show (b || (hasK (putGs p) (v : Int) || hasK (putGs q) (v : Int))) = kb from HKB.out.symm]; have HN9 := zh (And.intro (blk_below HB.out.1 hb) (And.intro (below_step HB.out.2.1 hb) (below_step HB.out.2.2 hb))); clear HB x0 x1 x2 hb; have HB := HN9; clear HN9; have x0 : w6.cell? ⟨w.heap.size, 0, none⟩ = some (.int .i64 n) := (blk_cell HB.out.1 0).trans rfl; have x1 : w6.cell? ⟨w.heap.size, 1, none⟩ = some (.bool b) := (blk_cell HB.out.1 1).trans rfl; have x2 : w6.cell? ⟨w.heap.size, 2, none⟩ = some (.slice A l.length c) := (blk_cell HB.out.1 2).trans rfl))
         |(go_at_call 24; (with_reducible refine (rof_walk p.length Ap cp p _ _ ?s1 ?s2 ?s3).mono ?_); (case s1 => rfl); (case s2 => exact Kd.C_below HP.out HB.out.2.2); (case s3 => omega); rintro e w7 ⟨rfl, hb⟩; rw [← HPO.out]; have HN9 := zh (And.intro (blk_below HB.out.1 hb) (And.intro (below_step HB.out.2.1 hb) (below_step HB.out.2.2 hb))); clear HB x0 x1 x2 hb; have HB := HN9; clear HN9; have x0 : w7.cell? ⟨w.heap.size, 0, none⟩ = some (.int .i64 n) := (blk_cell HB.out.1 0).trans rfl; have x1 : w7.cell? ⟨w.heap.size, 1, none⟩ = some (.bool b) := (blk_cell HB.out.1 1).trans rfl; have x2 : w7.cell? ⟨w.heap.size, 2, none⟩ = some (.slice A l.length c) := (blk_cell HB.out.1 2).trans rfl))
        go_roundg (h + 1 - z)
        case measure => omega
        case rel =>
         have hzz := HZH.out
         refine ⟨z + 1, _, by omega, rfl, by go_num, by omega, by omega, by omega, fun _ => by omega, zh ⟨fun h9 => by have h8 := HZ.out.1 hzl; omega, fun h9 => ?_, HB.out.1, HB.out.2.1, fun z' hz' => ?_⟩⟩
         ·have h8 := HZ.out.1 hzl
          have h7 := HAM.out (by omega)
          first
           |(rw [if_pos (by omega)] at h7; omega)
           |(rw [if_neg (by omega)] at h7; omega)
         ·rcases Nat.lt_or_eq_of_le (Nat.le_of_lt_succ hz') with h9 | rfl
          ·exact HZ.out.2.2.2.2 z' h9
          ·unfold BadAt
           rw [← HKB.out, ← HPO.out, ← HCR.out, HK.out]
           exact HNB.out
    ·have hzl2 : ¬ (z : Int) ≤ (h : Int) := by omega
     have ez : z = h + 1 := by omega
     go_wp2
     go_roundg (n - v)
     case measure => omega
     case rel =>
      refine ⟨v + 1, s, by omega, rfl, by go_num, by omega, t0, by omega, zh ⟨?_, HB.out.1, HB.out.2.1, fun v' z' hv' hz' => ?_⟩⟩
      ·rw [sumN, ← HL9.out.1]
       exact HZ.out.2.1 ez
      ·rcases Nat.lt_or_eq_of_le (Nat.le_of_lt_succ hv') with h9 | rfl
       ·exact HL9.out.2 v' z' h9 hz'
       ·exact HZ.out.2.2.2.2 z' (by omega)
  ·have e : v = n := by omega
   subst e
   go_wp2
   go_ret2
   refine ⟨HB.out.2.2, .inr ⟨m, ⟨HM.out.1, HM.out.2, fun v' z' hv' hz' => HL.out.2.2.2 v' z' hv' hz'⟩, ?_⟩⟩
   unfold planV
   rw [← HL.out.1]
   rfl
end Go.Proofs.YtcgdloldkcmhnaaGreat.H
end
section
namespace Go.Proofs.YtcgdloldkcmhnaaGreat.H
open Go Go.RowKit Go.Proofs.YtcgdloldkcmhnaaGreat.PrintC Go.Proofs.YtcgdloldkcmhnaaGreat.PrintE Go.Proofs.YtcgdloldkcmhnaaGreatW.PrintWords Go.Proofs.YtcgdloldkcmhnaaGreatW.PrintLast Go.Proofs.YtcgdloldkcmhnaaGreatW.PrintMore Go.Proofs.YtcgdloldkcmhnaaGreat.Flow
set_option linter.unusedVariables false
set_option linter.unusedSimpArgs false
theorem room_at {q : List Grp} (hd : (q.map fun g => g.f0).Nodup) (h0 : ∀ g, g ∈ q → 0 ≤ g.f1) (v : Int) : (putGs q).atKey (.int .i64 v) (.lit (.int .i64 0)) = .lit (.int .i64 (if 0 ≤ gOf v q then gOf v q else 0)) := by
 have key : ∀ (q : List Grp) (D : DataW Unit), Maps.IsMap D → (q.map fun g => g.f0).Nodup → (∀ g, g ∈ q → 0 ≤ g.f1) → (q.foldl putG D).atKey (.int .i64 v) (.lit (.int .i64 0)) = if 0 ≤ gOf v q then .lit (.int .i64 (gOf v q)) else D.atKey (.int .i64 v) (.lit (.int .i64 0)) := fun q => by
  induction q with
  |nil =>
   intro D _ _ _
   rw [if_neg (by unfold gOf; decide)]
   rfl
  |cons g q ih =>
   intro D hD hd h0
   rw [List.map_cons, List.nodup_cons] at hd
   rw [List.foldl_cons, ih _ (isMap_putG hD g) hd.2 (fun x hx => h0 x (List.mem_cons_of_mem _ hx))]
   by_cases e : g.f0 = v
   ·have hn : gOf v q < 0 := by
     refine (gOf_neg v (fun x hx => h0 x (List.mem_cons_of_mem _ hx))).2 ?_
     rw [hasK_putGs, List.any_eq_false]
     intro x hx e2
     exact hd.1 (by rw [e]; exact List.mem_map.2 ⟨x, hx, of_decide_eq_true e2⟩)
    have h9 := h0 g (List.mem_cons_self ..)
    rw [if_neg (by omega)]
    unfold gOf
    rw [if_pos e, if_pos h9]
    unfold putG
    rw [e]
    exact Maps.atKey_put_same hD (by trivial) _ _
   ·unfold putG
    rw [Maps.atKey_put_other (fun e2 => e (by injection e2 with _ e2; exact e2.symm))]
    show _ = if 0 ≤ (if g.f0 = v then g.f1 else gOf v q) then _ else _
    rw [if_neg e]
    show _ = if 0 ≤ gOf v q then DataW.lit (Lit.int IntKind.i64 (if g.f0 = v then g.f1 else gOf v q)) else _
    rw [if_neg e]
 unfold putGs
 rw [key q _ Maps.isMap_empty hd h0]
 by_cases c : 0 ≤ gOf v q
 ·rw [if_pos c, if_pos c]
 ·rw [if_neg c, if_neg c]
  rfl
theorem look_room {W : World} {b k : Nat} {q : List Grp} (h : MapAs W 3 b k (putGs q)) {v : Int} (hv : Wf v) (hd : (q.map fun g => g.f0).Nodup) (h0 : ∀ g, g ∈ q → 0 ≤ g.f1) :
  (Instr.lookup 113 (.map (some b)) (.int .i64 v) true).run Tryz.prog W = .ok (.tuple #[.int .i64 (if 0 ≤ gOf v q then gOf v q else 0), .bool (hasK (putGs q) v)]) W := by
 obtain ⟨u, ps, hrun, hR⟩ := h.look_ok intLaw Tryz.underlying113 (int_zero W) (plainElem_int Tryz.underlying3 (by decide)) (Maps.keyOf_int_mk Tryz.underlying3 hv)
 obtain ⟨c, rfl, hc, _⟩ := plainElem_int_inv Tryz.underlying3 hR
 simp only [Prod.mk.injEq] at hc
 have h1 := hc.1
 rw [room_at hd h0] at h1
 rw [(Lit.int.inj (DataW.lit.inj h1)).2]
 exact hrun
def rightB (r : Bool) (c : Int) (kb own en : Bool) (k : Int) : Bool := if r = true ∧ c < k then false else decide (k = 0) || (decide (0 < k) && (kb && (own || !en)))
theorem right_cases (r : Bool) (c : Int) (kb own en : Bool) (k : Int) (R : Bool) (hR : R = rightB r c kb own en k) :
  (r = true ∧ c < k ∧ R = false) ∨ ((r = false ∨ (r = true ∧ ¬ c < k)) ∧ (((k == 0) = true ∧ R = true) ∨ ((k == 0) = false ∧ ¬ 0 < k ∧ R = false) ∨ ((k == 0) = false ∧ 0 < k ∧ kb = false ∧ R = false) ∨ ((k == 0) = false ∧ 0 < k ∧ kb = true ∧ own = true ∧ R = true) ∨ ((k == 0) = false ∧ 0 < k ∧ kb = true ∧ own = false ∧ R = !en))) := by
 unfold rightB at hR
 by_cases c1 : r = true ∧ c < k
 ·rw [if_pos c1] at hR
  exact .inl ⟨c1.1, c1.2, hR⟩
 ·rw [if_neg c1] at hR
  refine .inr ⟨?_, ?_⟩
  ·cases r with
   |false => exact .inl rfl
   |true => exact .inr ⟨rfl, fun e => c1 ⟨rfl, e⟩⟩
  ·by_cases c2 : k = 0
   ·rw [decide_eq_true c2, Bool.true_or] at hR
    exact .inl ⟨beq_iff_eq.2 c2, hR⟩
   ·rw [decide_eq_false c2, Bool.false_or] at hR
    have e2 : (k == 0) = false := beq_eq_false_iff_ne.2 c2
    by_cases c3 : 0 < k
    ·rw [decide_eq_true c3, Bool.true_and] at hR
     cases kb with
     |false => exact .inr (.inr (.inl ⟨e2, c3, rfl, hR⟩))
     |true =>
      cases own with
      |true => exact .inr (.inr (.inr (.inl ⟨e2, c3, rfl, rfl, hR⟩)))
      |false => exact .inr (.inr (.inr (.inr ⟨e2, c3, rfl, rfl, hR⟩)))
    ·rw [decide_eq_false c3, Bool.false_and] at hR
     exact .inr (.inl ⟨e2, c3, hR⟩)
set_option maxHeartbeats 4000000 in
set_option maxRecDepth 100000 in
theorem right_walk (gp : Nat) (n : Int) (b : Bool) (A : Option Addr) (ll c : Nat) (Ap : Option Addr) (lp cp : Nat) (Aq : Option Addr) (lq cq : Nat) (bh br kh kr : Nat) (p q : List Grp) (v k : Int) (en R : Bool) (w : World) (h : PlI gp (placeCells n b A ll c Ap lp cp Aq lq cq bh br) bh br kh kr (putGs p) (putGs q) w) (hv : Wf v) (hd : (q.map fun g => g.f0).Nodup) (h0 : ∀ g, g ∈ q → 0 ≤ g.f1)
  (hR : R = rightB (hasK (putGs q) v) (if 0 ≤ gOf v q then gOf v q else 0) (b || (hasK (putGs p) v || hasK (putGs q) v)) (hasK (putGs p) v || hasK (putGs q) v) en k) :
  Calls Tryz.prog 45 #[.pointer (some ⟨gp, 0, none⟩), .int .i64 v, .int .i64 k, .bool en] w fun e w' => e = .returned (.bool R) ∧ w' = w := by
 have x6 : w.cell? ⟨gp, 6, none⟩ = some (.map (some br)) := (blk_cell h.bx 6).trans rfl
 have hl := look_room h.mr hv hd h0
 have hu := Tryz.underlying115
 have HI := zh h
 have HV := zh hv
 clear hd h0 h hv
 obtain ⟨C, hC⟩ : ∃ C, C = if 0 ≤ gOf v q then gOf v q else 0 := ⟨_, rfl⟩
 obtain ⟨r, hr⟩ : ∃ r, r = hasK (putGs q) v := ⟨_, rfl⟩
 obtain ⟨ow, how⟩ : ∃ ow, ow = (hasK (putGs p) v || hasK (putGs q) v) := ⟨_, rfl⟩
 obtain ⟨kb, hkb⟩ : ∃ kb, kb = (b || (hasK (putGs p) v || hasK (putGs q) v)) := ⟨_, rfl⟩
 rw [← hkb, ← how, ← hr, ← hC] at hR
 rw [← hr, ← hC] at hl
 have HK : Hid (∀ W, W = w → Calls Tryz.prog 47 #[.pointer (some ⟨gp, 0, none⟩), .int .i64 v] W fun e w' => e = .returned (.bool kb) ∧ w' = w) := zh (fun W hW => by
  subst hW
  rw [hkb]
  exact keeps_walk gp n b A ll c Ap lp cp Aq lq cq bh br kh kr (putGs p) (putGs q) v _ HI.out HV.out)
 have HO : Hid (∀ W, W = w → Calls Tryz.prog 79 #[.pointer (some ⟨gp, 0, none⟩), .int .i64 v] W fun e w' => e = .returned (.bool ow) ∧ w' = w) := zh (fun W hW => by
  subst hW
  rw [how]
  exact own_walk gp n b A ll c Ap lp cp Aq lq cq bh br kh kr (putGs p) (putGs q) v _ HI.out HV.out)
 have hc := right_cases _ _ _ _ _ _ _ hR
 clear hR hC hr how hkb HI
 rcases hc with ⟨c1, c2, c3⟩ | ⟨c0, c1⟩
 ·subst c1 c3
  go_enter Tryz.func45, Tryz.ntmps45
  go_wp2
  go_ret
  exact ⟨rfl, rfl⟩
 ·rcases c0 with c0 | ⟨c0, c9⟩
  all_goals
   subst c0
   rcases c1 with ⟨c2, c3⟩ | ⟨c2, c4, c3⟩ | ⟨c2, c4, c5, c3⟩ | ⟨c2, c4, c5, c6, c3⟩ | ⟨c2, c4, c5, c6, c3⟩
  all_goals
   subst c3
   (try subst c5)
   (try subst c6)
   go_enter Tryz.func45, Tryz.ntmps45
   go_wp2_with (first
    |(go_at_call 47; (with_reducible refine (HK.out _ ?s1).mono ?_); (case s1 => rfl); rintro e w2 ⟨rfl, rfl⟩)
    |(go_at_call 79; (with_reducible refine (HO.out _ ?s1).mono ?_); (case s1 => rfl); rintro e w2 ⟨rfl, rfl⟩))
   go_ret
   exact ⟨rfl, rfl⟩
theorem right_is {kb : Bool} {h po cr k z : Int} (hk : (decide (0 ≤ po) || decide (0 ≤ cr)) = true → kb = true) : rightB (decide (0 ≤ cr)) (if 0 ≤ cr then cr else 0) kb (decide (0 ≤ po) || decide (0 ≤ cr)) (decide (z = h)) k = true ↔ ¬ BadP kb h po cr k z := by
 unfold rightB BadP
 by_cases a : 0 ≤ cr
 ·have hkb := hk (by rw [decide_eq_true a, Bool.or_true])
  subst hkb
  rw [decide_eq_true a, if_pos a, Bool.or_true]
  by_cases c : cr < k
  ·rw [if_pos ⟨rfl, c⟩]
   exact ⟨fun e => (by cases e), fun e => absurd (Or.inr (Or.inl ⟨a, c⟩)) e⟩
  ·rw [if_neg (fun e => c e.2)]
   simp only [Bool.true_or, Bool.and_true, Bool.true_and, Bool.or_eq_true, decide_eq_true_eq, Bool.true_eq_false, and_false, false_or]
   omega
 ·rw [decide_eq_false a, if_neg a, Bool.or_false, if_neg (fun e => by cases e.1)]
  cases kb with
  |false =>
   simp only [Bool.false_and, Bool.and_false, Bool.or_false, decide_eq_true_eq, and_true]
   have h9 : ¬ 0 ≤ po := fun e => by
    have := hk (by rw [decide_eq_true e, Bool.true_or])
    cases this
   omega
  |true =>
   simp only [Bool.true_and, Bool.or_eq_true, Bool.and_eq_true, decide_eq_true_eq, Bool.not_eq_true', decide_eq_false_iff_not, Bool.true_eq_false, and_false, false_or]
   omega
abbrev SetAs (W : World) (b c : Nat) (D : DataW Unit) : Prop := W.ownsMap Tryz.prog 110 unitElem b c D
def hasS (D : DataW Unit) (v z : Int) : Bool := Maps.has D (slotKey v z)
def putS (D : DataW Unit) (s : Slot) : DataW Unit := D.put (slotKey s.f0 s.f1) (.agg [])
def setD (X : List Slot) : DataW Unit := X.foldl putS (.map [])
def hasL (X : List Slot) (v z : Int) : Bool := X.any fun s => decide (s.f0 = v ∧ s.f1 = z)
theorem hasS_put {D : DataW Unit} (hD : Maps.IsMap D) (s : Slot) {v z : Int} (h0 : Wf s.f0) (h1 : Wf s.f1) (hv : Wf v) (hz : Wf z) : hasS (putS D s) v z = (decide (s.f0 = v ∧ s.f1 = z) || hasS D v z) := by
 unfold hasS putS
 by_cases e : s.f0 = v ∧ s.f1 = z
 ·rw [e.1, e.2, Maps.has_put_same hD (slotLaw.key (slotKeyOf v z hv hz))]
  simp
 ·rw [Maps.has_put_other (fun e2 => e ((slotKey_inj h0 h1 hv hz e2.symm)))]
  simp [e]
theorem isMap_putS {D : DataW Unit} (hD : Maps.IsMap D) (s : Slot) : Maps.IsMap (putS D s) := by
 obtain ⟨es, rfl⟩ := hD
 exact ⟨_, rfl⟩
def SlotsWf (X : List Slot) : Prop := ∀ s, s ∈ X → Wf s.f0 ∧ Wf s.f1
theorem hasS_setD {X : List Slot} (hX : SlotsWf X) {v z : Int} (hv : Wf v) (hz : Wf z) : hasS (setD X) v z = hasL X v z := by
 have h : ∀ (X : List Slot) (D : DataW Unit), SlotsWf X → Maps.IsMap D → hasS (X.foldl putS D) v z = (hasS D v z || hasL X v z) := fun X => by
  induction X with
  |nil => intro D _ _; simp [hasL]
  |cons s X ih =>
   intro D hX h
   have hs := hX s (List.mem_cons_self ..)
   rw [List.foldl_cons, ih _ (fun y hy => hX y (List.mem_cons_of_mem _ hy)) (isMap_putS h s), hasS_put h s hs.1 hs.2 hv hz]
   unfold hasL
   rw [List.any_cons]
   cases decide (s.f0 = v ∧ s.f1 = z) <;> cases hasS D v z <;> simp
 unfold setD
 rw [h X _ hX ⟨_, rfl⟩]
 rfl
theorem infoUnit : (Tryz.prog.info? 140).map (fun i => (i.zero, i.size, i.bytes)) = some (some (.agg #[]), 0, 0) := by kernel_rfl
theorem unit_zero : ∀ w : World, (zeroValue 140).run Tryz.prog w = .ok (.agg #[]) w := by
 obtain ⟨i0, hi, hz0, -, -⟩ := info_parts infoUnit
 intro w
 simp [zeroValue, typeInfo, hi, hz0]
theorem look_set {W : World} {b c : Nat} {D : DataW Unit} (h : SetAs W b c D) {v z : Int} (hv : Wf v) (hz : Wf z) :
  (Instr.lookup 94 (.map (some b)) (.agg #[.int .i64 v, .int .i64 z]) true).run Tryz.prog W = .ok (.tuple #[.agg #[], .bool (hasS D v z)]) W := by
 obtain ⟨u, ps, hrun, hR⟩ := h.look_ok slotLaw Tryz.underlying94 (unit_zero W) unitElem_mk (slotKeyOf v z hv hz)
 obtain ⟨rfl, -⟩ := unitElem_inv hR
 exact hrun
theorem setAs_eq {W W1 : World} {b c : Nat} {D : DataW Unit} (h : SetAs W b c D) (e : W1.heap[b]? = W.heap[b]?) : SetAs W1 b c D := by
 obtain ⟨es, clock, hb, F, hs, hD⟩ := h
 exact ⟨es, clock, e.trans hb, F, hs, hD⟩
theorem setAs_below {W W1 : World} {b c : Nat} {D : DataW Unit} (h : SetAs W b c D) (hb : Below W.heap.size W W1) : SetAs W1 b c D := setAs_eq h (hb.block _ h.lt)
theorem min2_min (k k' : IntKind) (x y : Int) : Builtin.min2 (.int k x) (.int k' y) = pure (.int k (min x y)) := by
 rw [min2_int]
 have e : (if y < x then y else x) = min x y := by split <;> omega
 rw [e]
set_option maxHeartbeats 4000000 in
set_option maxRecDepth 100000 in
theorem has_walk (b c : Nat) (D : DataW Unit) (v z : Int) (R : Bool) (w : World) (h : SetAs w b c D) (hv : Wf v) (hz : Wf z) (hR : R = hasS D v z) :
  Calls Tryz.prog 51 #[.map (some b), .int .i64 v, .int .i64 z] w fun e w' => e = .returned (.bool R) ∧ Below w.heap.size w w' := by
 have hl := look_set h hv hz
 rw [← hR] at hl
 clear hR h
 go_enter Tryz.func51, Tryz.ntmps51
 go_wp2
 go_ret
 exact ⟨rfl, by repeat (first | exact Below.refl _ _ | apply below_alloc)⟩
theorem slot_take {X : List Slot} {i : Nat} (h : i < X.length) : X.take (i + 1) = X.take i ++ [rd_T110 X (i : Int)] := by
 have e : rd_T110 X (i : Int) = X[i] := by
  unfold rd_T110
  rw [Int.toNat_natCast, List.getD_eq_getElem?_getD, List.getElem?_eq_getElem h]
  rfl
 rw [List.take_add_one, List.getElem?_eq_getElem h, e]
 rfl
theorem setD_snoc (X : List Slot) (s : Slot) : setD (X ++ [s]) = putS (setD X) s := by
 unfold setD
 rw [List.foldl_append]
 rfl
def slotOk (n h : Int) (s : Slot) : Prop := 0 ≤ s.f0 ∧ 0 ≤ s.f1 ∧ s.f0 < n ∧ s.f1 ≤ h
attribute [local go_sem] min2_min min_two
def SetOfAt (n h : Int) (X : List Slot) (w : World) (e : Ending) (w' : World) : Prop := Below w.heap.size w w' ∧
 ((e = .returned (.tuple #[.map none, .bool false]) ∧ ∃ s, s ∈ X ∧ ¬ slotOk n h s) ∨ (∃ b : Nat, e = .returned (.tuple #[.map (some b), .bool true]) ∧ SetAs w' b X.length (setD X) ∧ ∀ s, s ∈ X → slotOk n h s))
set_option maxHeartbeats 4000000 in
set_option maxRecDepth 100000 in
theorem setof_walk (n h : Int) (A : Option Addr) (c : Nat) (X : List Slot) (w : World) (hr : Kd.C kSlot w A X.length X) (hl : X.length ≤ 1000000) (hn : n ≤ 1000000) (hh : h ≤ 1000000) :
  Calls Tryz.prog 46 #[.slice A X.length c, .int .i64 n, .int .i64 h] w (SetOfAt n h X w) := by
 have HR := zh hr
 have hu := Tryz.underlying110
 have hmm := @run_makeMap Tryz.prog
 clear hr
 go_enter Tryz.func46, Tryz.ntmps46
 go_wp2
 obtain ⟨w1, hw1⟩ : ∃ w1, w1 = w.alloc (.map #[] 0) := ⟨_, rfl⟩
 have HX : Hid (SetAs w1 w.heap.size 0 (setD []) ∧ Below w.heap.size w w1) := zh (by rw [hw1]; exact ⟨World.ownsMap_made _ _ _ _, below_alloc (Below.refl _ _) _⟩)
 rw [← hw1]
 clear hw1 hmm
 go_loopg [14] (X.length + 1) (fun k iv W => ∃ i : Nat, i ≤ X.length ∧ iv = .int .i64 i ∧ k = X.length + 1 - i ∧ Hid (SetAs W w.heap.size i (setD (X.take i)) ∧ Below w.heap.size w W ∧ ∀ s, s ∈ X.take i → slotOk n h s))
 case atStart => exact ⟨0, Nat.zero_le _, rfl, rfl, zh ⟨HX.out.1, HX.out.2, fun s hs => by simp at hs⟩⟩
 case round =>
  obtain ⟨i, hi, rfl, rfl, HL⟩ := hrel
  clear HX
  by_cases hlt : i < X.length
  ·have i0 : (0 : Int) ≤ (i : Int) := by omega
   have i1 : (i : Int) < (X.length : Int) := by omega
   obtain ⟨ad, ea, y0, y1⟩ := at_T110 (Kd.C_below HR.out HL.out.2.1) (i : Int) i0 i1
   subst ea
   rw [Int.toNat_natCast] at y0 y1
   have hst := slot_take hlt
   obtain ⟨s, hs⟩ : ∃ s, s = rd_T110 X (i : Int) := ⟨_, rfl⟩
   rw [← hs] at y0 y1 hst
   have HST := zh hst
   have HSM : Hid (s ∈ X) := zh (List.mem_of_mem_take (i := i + 1) (by rw [hst]; simp))
   clear hs hst
   obtain ⟨mn, hmn⟩ : ∃ mn, min s.f0 s.f1 = mn := ⟨_, rfl⟩
   have hc : (mn < 0 ∧ Hid (¬ slotOk n h s)) ∨ (¬ mn < 0 ∧ n ≤ s.f0 ∧ Hid (¬ slotOk n h s)) ∨ (¬ mn < 0 ∧ ¬ n ≤ s.f0 ∧ h < s.f1 ∧ Hid (¬ slotOk n h s)) ∨ (¬ mn < 0 ∧ ¬ n ≤ s.f0 ∧ ¬ h < s.f1 ∧ Hid (slotOk n h s)) := by
    unfold slotOk
    by_cases c1 : mn < 0
    ·exact .inl ⟨c1, zh (by omega)⟩
    ·by_cases c2 : n ≤ s.f0
     ·exact .inr (.inl ⟨c1, c2, zh (by omega)⟩)
     ·by_cases c3 : h < s.f1
      ·exact .inr (.inr (.inl ⟨c1, c2, c3, zh (by omega)⟩))
      ·exact .inr (.inr (.inr ⟨c1, c2, c3, zh (by omega)⟩))
   rcases hc with ⟨c1, HBD⟩ | ⟨c1, c2, HBD⟩ | ⟨c1, c2, c3, HBD⟩ | ⟨c1, c2, c3, HOK⟩
   iterate 3
    ·go_wp2
     go_ret2
     exact ⟨below_alloc HL.out.2.1 _, .inl ⟨rfl, s, HSM.out, HBD.out⟩⟩
   ·have HW : Hid (Wf s.f0 ∧ Wf s.f1) := zh (by
     have h9 := HOK.out
     unfold slotOk at h9
     exact ⟨Go.WalkArith.wf_i64 (by omega), Go.WalkArith.wf_i64 (by omega)⟩)
    go_wp2_with (at_mapUpdate; refine wpList_mapUpdate_own _ rfl _ _ _ 94 rfl 110 140 slotLaw Tryz.underlying94 _ w.heap.size i (setD (X.take i)) rfl (setAs_below HL.out.1 (by repeat (first | exact Below.refl _ _ | apply below_alloc))) (by unfold maxLen; omega) _ _ (slotKey s.f0 s.f1) rfl rfl (slotKeyOf s.f0 s.f1 HW.out.1 HW.out.2) _ [] unitElem_mk ?_; intro w2 ho hg; have HF := zh (And.intro ho (pw_below_grown (below_alloc HL.out.2.1 _) _ (below_alloc HL.out.2.1 _).size hg (fun k e => by injection e with e; omega))); clear ho hg)
    go_roundg (X.length - i)
    case measure => omega
    case rel => exact ⟨i + 1, by omega, by go_num, by omega, zh ⟨by rw [HST.out, setD_snoc]; exact HF.out.1, HF.out.2, fun s9 hs9 => by
     rw [HST.out, List.mem_append, List.mem_singleton] at hs9
     rcases hs9 with hs9 | rfl
     ·exact HL.out.2.2 s9 hs9
     ·exact HOK.out⟩⟩
  ·have e : i = X.length := by omega
   subst e
   have HF := HL.out
   rw [List.take_length] at HF
   have HF := zh HF
   go_wp2
   go_ret2
   exact ⟨HF.out.2.1, .inr ⟨_, rfl, HF.out.1, HF.out.2.2⟩⟩
end Go.Proofs.YtcgdloldkcmhnaaGreat.H
end
section
namespace Go.Proofs.YtcgdloldkcmhnaaGreat.H
open Go Go.RowKit Go.Proofs.YtcgdloldkcmhnaaGreat.PrintC Go.Proofs.YtcgdloldkcmhnaaGreat.PrintE Go.Proofs.YtcgdloldkcmhnaaGreatW.PrintWords Go.Proofs.YtcgdloldkcmhnaaGreatW.PrintLast Go.Proofs.YtcgdloldkcmhnaaGreatW.PrintMore Go.Proofs.YtcgdloldkcmhnaaGreat.Flow
set_option linter.unusedVariables false
set_option linter.unusedSimpArgs false
theorem wf_in {x : Int} (h : -9223372036854775808 ≤ x ∧ x ≤ 9223372036854775807) : Wf x := WalkArith.wf_i64 h
def RisesAt (D : DataW Unit) (v : Int) (h : Nat) (w : World) (e : Ending) (w' : World) : Prop := Below w.heap.size w w' ∧ ((e = .returned (.bool true) ∧ ∀ z : Nat, z < h → hasS D v z = true → hasS D v ((z : Int) + 1) = true) ∨ (e = .returned (.bool false) ∧ ∃ z : Nat, z < h ∧ hasS D v z = true ∧ hasS D v ((z : Int) + 1) = false))
set_option maxHeartbeats 4000000 in
set_option maxRecDepth 100000 in
theorem rises_walk (b c : Nat) (D : DataW Unit) (v : Int) (h : Nat) (w : World) (hs : SetAs w b c D) (hv : Wf v) (hh : h ≤ 100000) :
  Calls Tryz.prog 48 #[.map (some b), .int .i64 v, .int .i64 h] w (RisesAt D v h w) := by
 have HS := zh hs
 have HV := zh hv
 clear hs hv
 go_enter Tryz.func48, Tryz.ntmps48
 go_wp2
 go_loopg [9] (h + 1) (fun k iv W => ∃ z : Nat, z ≤ h ∧ iv = .int .i64 z ∧ k = h + 1 - z ∧ Hid (Below w.heap.size w W ∧ ∀ z' : Nat, z' < z → hasS D v z' = true → hasS D v ((z' : Int) + 1) = true))
 case atStart => exact ⟨0, Nat.zero_le _, rfl, rfl, zh ⟨Below.refl _ _, fun z' hz => absurd hz (Nat.not_lt_zero _)⟩⟩
 case round =>
  obtain ⟨z, hz, rfl, rfl, HL⟩ := hrel
  by_cases hlt : z < h
  ·have hlt2 : (z : Int) < (h : Int) := by omega
   cases h1 : hasS D v z with
   |false =>
    have H1 := zh h1
    clear h1
    go_wp2_with (go_at_call 51; (with_reducible refine (has_walk b c D v z false _ ?s1 ?s2 ?s3 ?s4).mono ?_); (case s1 => exact setAs_below HS.out HL.out.1); (case s2 => exact HV.out); (case s3 => exact wf_in (by omega)); (case s4 => exact H1.out.symm); rintro e w2 ⟨rfl, hb⟩; have HB := zh (below_step HL.out.1 hb); clear hb)
    go_roundg (h - z)
    case measure => omega
    case rel => exact ⟨z + 1, by omega, by go_num, by omega, zh ⟨HB.out, fun z' hz' h9 => by
     rcases Nat.lt_or_eq_of_le (Nat.le_of_lt_succ hz') with g | rfl
     ·exact HL.out.2 z' g h9
     ·rw [H1.out] at h9
      cases h9⟩⟩
   |true =>
    cases h2 : hasS D v ((z : Int) + 1) with
    |true =>
     have H1 := zh (And.intro h1 h2)
     clear h1 h2
     go_wp2_with (first
      |(go_at_call 51; (with_reducible refine (has_walk b c D v z true _ ?s1 ?s2 ?s3 ?s4).mono ?_); (case s1 => exact setAs_below HS.out HL.out.1); (case s2 => exact HV.out); (case s3 => exact wf_in (by omega)); (case s4 => exact H1.out.1.symm); rintro e w2 ⟨rfl, hb⟩; have HB := zh (below_step HL.out.1 hb); clear hb)
      |(go_at_call 51; (with_reducible refine (has_walk b c D v ((z : Int) + 1) true _ ?s1 ?s2 ?s3 ?s4).mono ?_); (case s1 => exact setAs_below HS.out HB.out); (case s2 => exact HV.out); (case s3 => exact wf_in (by omega)); (case s4 => exact H1.out.2.symm); rintro e w3 ⟨rfl, hb⟩; have HB3 := zh (below_step HB.out hb); clear hb))
     go_roundg (h - z)
     case measure => omega
     case rel => exact ⟨z + 1, by omega, by go_num, by omega, zh ⟨HB3.out, fun z' hz' h9 => by
      rcases Nat.lt_or_eq_of_le (Nat.le_of_lt_succ hz') with g | rfl
      ·exact HL.out.2 z' g h9
      ·exact H1.out.2⟩⟩
    |false =>
     have H1 := zh (And.intro h1 h2)
     clear h1 h2
     go_wp2_with (first
      |(go_at_call 51; (with_reducible refine (has_walk b c D v z true _ ?s1 ?s2 ?s3 ?s4).mono ?_); (case s1 => exact setAs_below HS.out HL.out.1); (case s2 => exact HV.out); (case s3 => exact wf_in (by omega)); (case s4 => exact H1.out.1.symm); rintro e w2 ⟨rfl, hb⟩; have HB := zh (below_step HL.out.1 hb); clear hb)
      |(go_at_call 51; (with_reducible refine (has_walk b c D v ((z : Int) + 1) false _ ?s1 ?s2 ?s3 ?s4).mono ?_); (case s1 => exact setAs_below HS.out HB.out); (case s2 => exact HV.out); (case s3 => exact wf_in (by omega)); (case s4 => exact H1.out.2.symm); rintro e w3 ⟨rfl, hb⟩; have HB3 := zh (below_step HB.out hb); clear hb))
     go_ret
     exact ⟨HB3.out, .inr ⟨rfl, z, hlt, H1.out.1, H1.out.2⟩⟩
  ·have e : z = h := by omega
   subst e
   go_wp2
   go_ret
   exact ⟨HL.out.1, .inl ⟨rfl, HL.out.2⟩⟩
def tk1 (H : Int → Int → Bool) (x : Arc) (z : Nat) : Int := if H x.f0 z = true ∧ H x.f1 ((z : Int) + x.f3) = false then x.f2 else 0
def tkA (use : Arc → Bool) (H : Int → Int → Bool) (h : Nat) (x : Arc) : Int := if use x = true then sumN ((h : Int) + 1 - x.f3).toNat (tk1 H x) else 0
def takesV (use : Arc → Bool) (H : Int → Int → Bool) (h : Nat) (l : List Arc) : Int := sumN l.length (fun j => tkA use H h (arcAt l j))
def TakesAt (V : Int) (w : World) (e : Ending) (w' : World) : Prop := e = .returned (.int .i64 V) ∧ Below w.heap.size w w'
set_option maxHeartbeats 8000000 in
set_option maxRecDepth 100000 in
theorem takes_walk (n h : Nat) (bb : Bool) (A : Option Addr) (c : Nat) (l : List Arc) (gp : Nat) (use : Arc → Bool) (b cc : Nat) (D : DataW Unit) (w : World) (hn : NetIn n h l) (hc : ∀ i : Nat, i < l.length → 0 ≤ (arcAt l i).f2 ∧ (arcAt l i).f2 ≤ 1048576) (hh : h ≤ 1024) (hs : SetAs w b cc D) (hr : Kd.C kArc w A l.length l)
  (hU : ∀ x W, x ∈ l → Below w.heap.size w W → Calls Tryz.prog 50 #[.pointer (some ⟨gp, 0, none⟩), .agg #[.int .i64 x.f0, .int .i64 x.f1, .int .i64 x.f2, .int .i64 x.f3]] W fun e w' => e = .returned (.bool (use x)) ∧ Below W.heap.size W w') :
  Calls Tryz.prog 49 #[.map (some b), .agg #[.int .i64 n, .bool bb, .slice A l.length c], .int .i64 h, .func (.func 50) #[.pointer (some ⟨gp, 0, none⟩)] #[]] w (TakesAt (takesV use (hasS D) h l) w) := by
 have hu := Tryz.underlying33
 have hu3 := Tryz.underlying104
 have HN := zh hn
 have HCP := zh hc
 have HS := zh hs
 have HR := zh hr
 have HU := zh hU
 have hll := hn.ll
 have hn1 := hn.n1
 clear hn hc hs hr hU
 go_enter Tryz.func49, Tryz.ntmps49
 go_wp2
 obtain ⟨w1, hw1⟩ : ∃ w1, w1 = w.alloc (.cells #[.int .i64 n, .bool bb, .slice A l.length c] 33) := ⟨_, rfl⟩
 have HX : Hid (Below w.heap.size w w1) := zh (by rw [hw1]; exact below_alloc (Below.refl _ _) _)
 rw [← hw1]
 clear hw1
 go_loopg [9, 16] (l.length + 1) (fun k sv jv W => ∃ (j : Nat) (S : Int), j ≤ l.length ∧ sv = .int .i64 S ∧ jv = .int .i64 j ∧ k = l.length + 1 - j ∧ 0 ≤ S ∧ S ≤ (j : Int) * 1100000000 ∧ Hid (S = sumN j (fun j => tkA use (hasS D) h (arcAt l j)) ∧ Below w.heap.size w W))
 case atStart => exact ⟨0, 0, Nat.zero_le _, rfl, rfl, rfl, Int.le_refl _, by omega, zh ⟨rfl, HX.out⟩⟩
 case round =>
  obtain ⟨j, S, hj, rfl, rfl, rfl, s0, s1, HL⟩ := hrel
  clear HX
  by_cases hjl : j < l.length
  ·have j0 : (0 : Int) ≤ (j : Int) := by omega
   have j1 : (j : Int) < (l.length : Int) := by omega
   obtain ⟨ad, ea, y0, y1, y2, y3⟩ := at_T104 (Kd.C_below HR.out HL.out.2) (j : Int) j0 j1
   subst ea
   rw [Int.toNat_natCast] at y0 y1 y2 y3
   obtain ⟨x, hx⟩ : ∃ x, x = arcAt l j := ⟨_, rfl⟩
   have hx2 : rd_T104 l (j : Int) = x := by rw [hx]; rfl
   rw [hx2] at y0 y1 y2 y3
   have hen := HN.out.ends j hjl
   have hti := HN.out.time j hjl
   have hcp := HCP.out j hjl
   rw [← hx] at hen hti hcp
   have f0 := hen.1.1
   have f1 := hen.1.2
   have f2 := hen.2.1
   have f3 := hen.2.2
   have t0 := hti.1
   have t1 := hti.2
   have c0 := hcp.1
   have c1 := hcp.2
   have HXM : Hid (x ∈ l) := zh (by rw [hx]; exact mem_arcAt hjl)
   have HXE := zh hx
   clear hx hx2 hen hti hcp
   obtain ⟨u, hu9⟩ : ∃ u, use x = u := ⟨_, rfl⟩
   have HUX := zh hu9
   clear hu9
   go_wp2
   obtain ⟨w4, hw4⟩ : ∃ w4, w4 = wr.alloc (.cells #[.int .i64 x.f0, .int .i64 x.f1, .int .i64 x.f2, .int .i64 x.f3] 104) := ⟨_, rfl⟩
   have HG4 : Hid (w4.heap[wr.heap.size]? = some (.cells #[.int .i64 x.f0, .int .i64 x.f1, .int .i64 x.f2, .int .i64 x.f3] 104 (0, 0)) ∧ Below w.heap.size w w4) := zh (by rw [hw4]; exact ⟨heap_alloc_new _ _, below_alloc HL.out.2 _⟩)
   rw [← hw4]
   clear hw4 y0 y1 y2 y3
   generalize wr.heap.size = g at HG4 ⊢
   go_loopg [9, 12] (h + 3) (fun k sv zv W => ∃ (z : Nat) (s : Int), z ≤ h + 1 ∧ sv = .int .i64 s ∧ zv = .int .i64 z ∧ k = h + 3 - z ∧ 0 ≤ s ∧ s ≤ S + (z : Int) * 1048576 ∧ (z = 0 ∨ (u = true ∧ (z : Int) + x.f3 ≤ (h : Int) + 1)) ∧ Hid (s = S + sumN z (tk1 (hasS D) x) ∧ W.heap[g]? = some (.cells #[.int .i64 x.f0, .int .i64 x.f1, .int .i64 x.f2, .int .i64 x.f3] 104 (0, 0)) ∧ Below w.heap.size w W))
   case atStart => exact ⟨0, S, by omega, rfl, rfl, rfl, s0, by omega, .inl rfl, zh ⟨by rw [sumN]; omega, HG4.out.1, HG4.out.2⟩⟩
   case round =>
    obtain ⟨z, s, hz, rfl, rfl, rfl, r0, r1, hzu, HZ⟩ := hrel
    have HG := zh (And.intro HZ.out.2.1 HZ.out.2.2)
    have y0 : wr.cell? ⟨g, 0, none⟩ = some (.int .i64 x.f0) := (blk_cell HG.out.1 0).trans rfl; have y1 : wr.cell? ⟨g, 1, none⟩ = some (.int .i64 x.f1) := (blk_cell HG.out.1 1).trans rfl; have y2 : wr.cell? ⟨g, 2, none⟩ = some (.int .i64 x.f2) := (blk_cell HG.out.1 2).trans rfl; have y3 : wr.cell? ⟨g, 3, none⟩ = some (.int .i64 x.f3) := (blk_cell HG.out.1 3).trans rfl
    have e5 : IntKind.i64.wrap ((z : Int) + x.f3) = (z : Int) + x.f3 := IntWalk.i64_in _ (by omega)
    have e6 : IntKind.i64.wrap (s + x.f2) = s + x.f2 := IntWalk.i64_in _ (by omega)
    by_cases hzt : (z : Int) + x.f3 ≤ (h : Int)
    ·cases u with
     |false =>
      have hz0 : z = 0 := by
       rcases hzu with h9 | h9
       ·exact h9
       ·cases h9.1
      clear hzu
      go_wp2_with (first
       |(go_at_call 50; refine (HU.out x _ ?s1 ?s2).mono ?_; (case s1 => exact HXM.out); (case s2 => exact HG.out.2); rintro e w1 ⟨rfl, hb⟩; rw [HUX.out]; have HN9 := zh (And.intro (blk_below HG.out.1 hb) (below_step HG.out.2 hb)); clear HG y0 y1 y2 y3 hb; have HG := HN9; clear HN9; have y0 : w1.cell? ⟨g, 0, none⟩ = some (.int .i64 x.f0) := (blk_cell HG.out.1 0).trans rfl; have y1 : w1.cell? ⟨g, 1, none⟩ = some (.int .i64 x.f1) := (blk_cell HG.out.1 1).trans rfl; have y2 : w1.cell? ⟨g, 2, none⟩ = some (.int .i64 x.f2) := (blk_cell HG.out.1 2).trans rfl; have y3 : w1.cell? ⟨g, 3, none⟩ = some (.int .i64 x.f3) := (blk_cell HG.out.1 3).trans rfl))
      go_roundg (l.length - j)
      case measure => omega
      case rel => exact ⟨j + 1, s, by omega, rfl, by go_num, by omega, r0, by omega, zh ⟨by
       rw [sumN, ← HL.out.1, ← HXE.out]
       unfold tkA
       rw [HUX.out, if_neg (by decide), HZ.out.1, hz0]
       rfl, HG.out.2⟩⟩
     |true =>
      have hzu2 : Hid ((z : Int) + 1 + x.f3 ≤ (h : Int) + 1) := zh (by omega)
      clear hzu
      cases ha : hasS D x.f0 z with
      |false =>
       have HA := zh ha
       clear ha
       go_wp2_with (first
        |(go_at_call 50; refine (HU.out x _ ?s1 ?s2).mono ?_; (case s1 => exact HXM.out); (case s2 => exact HG.out.2); rintro e w1 ⟨rfl, hb⟩; rw [HUX.out]; have HN9 := zh (And.intro (blk_below HG.out.1 hb) (below_step HG.out.2 hb)); clear HG y0 y1 y2 y3 hb; have HG := HN9; clear HN9; have y0 : w1.cell? ⟨g, 0, none⟩ = some (.int .i64 x.f0) := (blk_cell HG.out.1 0).trans rfl; have y1 : w1.cell? ⟨g, 1, none⟩ = some (.int .i64 x.f1) := (blk_cell HG.out.1 1).trans rfl; have y2 : w1.cell? ⟨g, 2, none⟩ = some (.int .i64 x.f2) := (blk_cell HG.out.1 2).trans rfl; have y3 : w1.cell? ⟨g, 3, none⟩ = some (.int .i64 x.f3) := (blk_cell HG.out.1 3).trans rfl)
        |(go_at_call 51; (with_reducible refine (has_walk b cc D x.f0 z false _ ?s1 ?s2 ?s3 ?s4).mono ?_); (case s1 => exact setAs_below HS.out HG.out.2); (case s2 => exact wf_in (by omega)); (case s3 => exact wf_in (by omega)); (case s4 => exact HA.out.symm); rintro e w2 ⟨rfl, hb⟩; have HN9 := zh (And.intro (blk_below HG.out.1 hb) (below_step HG.out.2 hb)); clear HG y0 y1 y2 y3 hb; have HG := HN9; clear HN9; have y0 : w2.cell? ⟨g, 0, none⟩ = some (.int .i64 x.f0) := (blk_cell HG.out.1 0).trans rfl; have y1 : w2.cell? ⟨g, 1, none⟩ = some (.int .i64 x.f1) := (blk_cell HG.out.1 1).trans rfl; have y2 : w2.cell? ⟨g, 2, none⟩ = some (.int .i64 x.f2) := (blk_cell HG.out.1 2).trans rfl; have y3 : w2.cell? ⟨g, 3, none⟩ = some (.int .i64 x.f3) := (blk_cell HG.out.1 3).trans rfl))
       go_roundg (h + 2 - z)
       case measure => omega
       case rel => exact ⟨z + 1, s, by omega, rfl, by go_num, by omega, r0, by omega, .inr ⟨by first | rfl | trivial, by have := hzu2.out; omega⟩, zh ⟨by
        rw [sumN, HZ.out.1]
        unfold tk1
        rw [if_neg (fun e => by rw [HA.out] at e; cases e.1)]
        omega, HG.out.1, HG.out.2⟩⟩
      |true =>
       cases hb9 : hasS D x.f1 ((z : Int) + x.f3) with
       |true =>
        have HA := zh (And.intro ha hb9)
        clear ha hb9
        go_wp2_with (first
         |(go_at_call 50; refine (HU.out x _ ?s1 ?s2).mono ?_; (case s1 => exact HXM.out); (case s2 => exact HG.out.2); rintro e w1 ⟨rfl, hb⟩; rw [HUX.out]; have HN9 := zh (And.intro (blk_below HG.out.1 hb) (below_step HG.out.2 hb)); clear HG y0 y1 y2 y3 hb; have HG := HN9; clear HN9; have y0 : w1.cell? ⟨g, 0, none⟩ = some (.int .i64 x.f0) := (blk_cell HG.out.1 0).trans rfl; have y1 : w1.cell? ⟨g, 1, none⟩ = some (.int .i64 x.f1) := (blk_cell HG.out.1 1).trans rfl; have y2 : w1.cell? ⟨g, 2, none⟩ = some (.int .i64 x.f2) := (blk_cell HG.out.1 2).trans rfl; have y3 : w1.cell? ⟨g, 3, none⟩ = some (.int .i64 x.f3) := (blk_cell HG.out.1 3).trans rfl)
         |(go_at_call 51; (with_reducible refine (has_walk b cc D x.f0 z true _ ?s1 ?s2 ?s3 ?s4).mono ?_); (case s1 => exact setAs_below HS.out HG.out.2); (case s2 => exact wf_in (by omega)); (case s3 => exact wf_in (by omega)); (case s4 => exact HA.out.1.symm); rintro e w2 ⟨rfl, hb⟩; have HN9 := zh (And.intro (blk_below HG.out.1 hb) (below_step HG.out.2 hb)); clear HG y0 y1 y2 y3 hb; have HG := HN9; clear HN9; have y0 : w2.cell? ⟨g, 0, none⟩ = some (.int .i64 x.f0) := (blk_cell HG.out.1 0).trans rfl; have y1 : w2.cell? ⟨g, 1, none⟩ = some (.int .i64 x.f1) := (blk_cell HG.out.1 1).trans rfl; have y2 : w2.cell? ⟨g, 2, none⟩ = some (.int .i64 x.f2) := (blk_cell HG.out.1 2).trans rfl; have y3 : w2.cell? ⟨g, 3, none⟩ = some (.int .i64 x.f3) := (blk_cell HG.out.1 3).trans rfl)
         |(go_at_call 51; (with_reducible refine (has_walk b cc D x.f1 ((z : Int) + x.f3) true _ ?s1 ?s2 ?s3 ?s4).mono ?_); (case s1 => exact setAs_below HS.out HG.out.2); (case s2 => exact wf_in (by omega)); (case s3 => exact wf_in (by omega)); (case s4 => exact HA.out.2.symm); rintro e w2 ⟨rfl, hb⟩; have HN9 := zh (And.intro (blk_below HG.out.1 hb) (below_step HG.out.2 hb)); clear HG y0 y1 y2 y3 hb; have HG := HN9; clear HN9; have y0 : w2.cell? ⟨g, 0, none⟩ = some (.int .i64 x.f0) := (blk_cell HG.out.1 0).trans rfl; have y1 : w2.cell? ⟨g, 1, none⟩ = some (.int .i64 x.f1) := (blk_cell HG.out.1 1).trans rfl; have y2 : w2.cell? ⟨g, 2, none⟩ = some (.int .i64 x.f2) := (blk_cell HG.out.1 2).trans rfl; have y3 : w2.cell? ⟨g, 3, none⟩ = some (.int .i64 x.f3) := (blk_cell HG.out.1 3).trans rfl))
        go_roundg (h + 2 - z)
        case measure => omega
        case rel => exact ⟨z + 1, s, by omega, rfl, by go_num, by omega, r0, by omega, .inr ⟨by first | rfl | trivial, by have := hzu2.out; omega⟩, zh ⟨by
         rw [sumN, HZ.out.1]
         unfold tk1
         rw [if_neg (fun e => by rw [HA.out.2] at e; cases e.2)]
         omega, HG.out.1, HG.out.2⟩⟩
       |false =>
        have HA := zh (And.intro ha hb9)
        clear ha hb9
        go_wp2_with (first
         |(go_at_call 50; refine (HU.out x _ ?s1 ?s2).mono ?_; (case s1 => exact HXM.out); (case s2 => exact HG.out.2); rintro e w1 ⟨rfl, hb⟩; rw [HUX.out]; have HN9 := zh (And.intro (blk_below HG.out.1 hb) (below_step HG.out.2 hb)); clear HG y0 y1 y2 y3 hb; have HG := HN9; clear HN9; have y0 : w1.cell? ⟨g, 0, none⟩ = some (.int .i64 x.f0) := (blk_cell HG.out.1 0).trans rfl; have y1 : w1.cell? ⟨g, 1, none⟩ = some (.int .i64 x.f1) := (blk_cell HG.out.1 1).trans rfl; have y2 : w1.cell? ⟨g, 2, none⟩ = some (.int .i64 x.f2) := (blk_cell HG.out.1 2).trans rfl; have y3 : w1.cell? ⟨g, 3, none⟩ = some (.int .i64 x.f3) := (blk_cell HG.out.1 3).trans rfl)
         |(go_at_call 51; (with_reducible refine (has_walk b cc D x.f0 z true _ ?s1 ?s2 ?s3 ?s4).mono ?_); (case s1 => exact setAs_below HS.out HG.out.2); (case s2 => exact wf_in (by omega)); (case s3 => exact wf_in (by omega)); (case s4 => exact HA.out.1.symm); rintro e w2 ⟨rfl, hb⟩; have HN9 := zh (And.intro (blk_below HG.out.1 hb) (below_step HG.out.2 hb)); clear HG y0 y1 y2 y3 hb; have HG := HN9; clear HN9; have y0 : w2.cell? ⟨g, 0, none⟩ = some (.int .i64 x.f0) := (blk_cell HG.out.1 0).trans rfl; have y1 : w2.cell? ⟨g, 1, none⟩ = some (.int .i64 x.f1) := (blk_cell HG.out.1 1).trans rfl; have y2 : w2.cell? ⟨g, 2, none⟩ = some (.int .i64 x.f2) := (blk_cell HG.out.1 2).trans rfl; have y3 : w2.cell? ⟨g, 3, none⟩ = some (.int .i64 x.f3) := (blk_cell HG.out.1 3).trans rfl)
         |(go_at_call 51; (with_reducible refine (has_walk b cc D x.f1 ((z : Int) + x.f3) false _ ?s1 ?s2 ?s3 ?s4).mono ?_); (case s1 => exact setAs_below HS.out HG.out.2); (case s2 => exact wf_in (by omega)); (case s3 => exact wf_in (by omega)); (case s4 => exact HA.out.2.symm); rintro e w2 ⟨rfl, hb⟩; have HN9 := zh (And.intro (blk_below HG.out.1 hb) (below_step HG.out.2 hb)); clear HG y0 y1 y2 y3 hb; have HG := HN9; clear HN9; have y0 : w2.cell? ⟨g, 0, none⟩ = some (.int .i64 x.f0) := (blk_cell HG.out.1 0).trans rfl; have y1 : w2.cell? ⟨g, 1, none⟩ = some (.int .i64 x.f1) := (blk_cell HG.out.1 1).trans rfl; have y2 : w2.cell? ⟨g, 2, none⟩ = some (.int .i64 x.f2) := (blk_cell HG.out.1 2).trans rfl; have y3 : w2.cell? ⟨g, 3, none⟩ = some (.int .i64 x.f3) := (blk_cell HG.out.1 3).trans rfl))
        go_roundg (h + 2 - z)
        case measure => omega
        case rel => exact ⟨z + 1, s + x.f2, by omega, rfl, by go_num, by omega, by omega, by omega, .inr ⟨by first | rfl | trivial, by have := hzu2.out; omega⟩, zh ⟨by
         rw [sumN, HZ.out.1]
         unfold tk1
         rw [if_pos HA.out]
         omega, HG.out.1, HG.out.2⟩⟩
    ·go_wp2
     go_roundg (l.length - j)
     case measure => omega
     case rel => exact ⟨j + 1, s, by omega, rfl, by go_num, by omega, r0, by omega, zh ⟨by
      rw [sumN, ← HL.out.1, ← HXE.out]
      unfold tkA
      rw [HUX.out, HZ.out.1]
      cases u with
      |false =>
       rcases hzu with h9 | h9
       ·rw [h9, if_neg (by decide)]
        rfl
       ·cases h9.1
      |true =>
       rw [if_pos rfl, show ((h : Int) + 1 - x.f3).toNat = z by rcases hzu with h9 | h9 <;> omega], HG.out.2⟩⟩
  ·have e : j = l.length := by omega
   subst e
   go_wp2
   go_ret
   refine ⟨?_, HL.out.2⟩
   unfold takesV
   rw [← HL.out.1]
   rfl
theorem gS_append (t : Grp → Bool) : ∀ a b : List Grp, gS t (a ++ b) = gS t a + gS t b
 |[], b => by rw [List.nil_append, gS]; omega
 |x :: a, b => by rw [List.cons_append, gS, gS, gS_append t a b]; omega
theorem gS_take (t : Grp → Bool) {p : List Grp} {i : Nat} (h : i < p.length) : gS t (p.take (i + 1)) = gS t (p.take i) + (if t (rd_T59 p (i : Int)) = true then (rd_T59 p (i : Int)).f1 else 0) := by
 have e : rd_T59 p (i : Int) = p[i] := by
  unfold rd_T59
  rw [Int.toNat_natCast, List.getD_eq_getElem?_getD, List.getElem?_eq_getElem h]
  rfl
 rw [List.take_add_one, List.getElem?_eq_getElem h, e]
 show gS t (p.take i ++ [p[i]]) = _
 rw [gS_append, gS, gS]
 omega
def capV (h : Nat) (l : List Arc) (p q : List Grp) (H : Int → Int → Bool) : Int := takesV (useOf q) H h l + gS (fun g => !H g.f0 0) p + gS (fun g => H g.f0 h) q
def CapAt (n h : Nat) (b : Bool) (l : List Arc) (p q : List Grp) (X : List Slot) (w : World) (e : Ending) (w' : World) : Prop := Below w.heap.size w w' ∧
 ((e = .returned (.tuple #[.int .i64 0, .int .i64 180]) ∧ ∃ s, s ∈ X ∧ ¬ slotOk n h s) ∨
  ((∀ s, s ∈ X → slotOk n h s) ∧ ((e = .returned (.tuple #[.int .i64 0, .int .i64 181]) ∧ ∃ v z : Nat, v < n ∧ keepsOf b p q v = true ∧ z < h ∧ hasS (setD X) v z = true ∧ hasS (setD X) v ((z : Int) + 1) = false) ∨
  (e = .returned (.tuple #[.int .i64 (capV h l p q (hasS (setD X))), .int .i64 0]) ∧ ∀ v : Nat, v < n → keepsOf b p q v = true → ∀ z : Nat, z < h → hasS (setD X) v z = true → hasS (setD X) v ((z : Int) + 1) = true))))
theorem takes_bd {use : Arc → Bool} {H : Int → Int → Bool} {n h : Nat} {l : List Arc} (hn : NetIn n h l) (hh : h ≤ 1024) (hc : ∀ i : Nat, i < l.length → 0 ≤ (arcAt l i).f2 ∧ (arcAt l i).f2 ≤ 1048576) : ∀ j, j ≤ l.length → 0 ≤ sumN j (fun j => tkA use H h (arcAt l j)) ∧ sumN j (fun j => tkA use H h (arcAt l j)) ≤ (j : Int) * 1100000000
 |0, _ => by rw [sumN]; omega
 |j + 1, hj => by
  have ih := takes_bd (use := use) (H := H) hn hh hc j (by omega)
  rw [sumN]
  have h2 := hc j (by omega)
  have h3 := hn.time j (by omega)
  have h4 : ∀ z : Nat, 0 ≤ sumN z (tk1 H (arcAt l j)) ∧ sumN z (tk1 H (arcAt l j)) ≤ (z : Int) * 1048576 := fun z => by
   induction z with
   |zero => rw [sumN]; omega
   |succ z ih =>
    rw [sumN]
    have : 0 ≤ tk1 H (arcAt l j) z ∧ tk1 H (arcAt l j) z ≤ 1048576 := by
     unfold tk1
     split <;> omega
    omega
  have h5 : 0 ≤ tkA use H h (arcAt l j) ∧ tkA use H h (arcAt l j) ≤ 1100000000 := by
   unfold tkA
   split
   ·have := h4 ((h : Int) + 1 - (arcAt l j).f3).toNat
    omega
   ·omega
  omega
set_option maxHeartbeats 8000000 in
set_option maxRecDepth 100000 in
theorem cap_walk (n h : Nat) (b : Bool) (A : Option Addr) (c : Nat) (l : List Arc) (Ap : Option Addr) (cp : Nat) (p : List Grp) (Aq : Option Addr) (cq : Nat) (q : List Grp) (AX : Option Addr) (cX : Nat) (X : List Slot) (w : World) (hP : PlaceOk n h l p q) (hh : h ≤ 1024)
  (hBG : ∀ W, Below w.heap.size w W → Calls Tryz.prog 25 #[.agg #[.int .i64 n, .bool b, .slice A l.length c], .slice Ap p.length cp, .slice Aq q.length cq, .int .i64 h] W (BegunAt n b A c l Ap cp p Aq cq q 0 W))
  (hr : Kd.C kArc w A l.length l) (hp : Kd.C kGrp w Ap p.length p) (hq : Kd.C kGrp w Aq q.length q) (hX : Kd.C kSlot w AX X.length X) (hlX : X.length ≤ 1000000) :
  Calls Tryz.prog 18 #[.agg #[.int .i64 n, .bool b, .slice A l.length c], .slice Ap p.length cp, .slice Aq q.length cq, .int .i64 h, .slice AX X.length cX] w (CapAt n h b l p q X w) := by
 have HR := zh hr
 have HP := zh hp
 have HQ := zh hq
 have HXX := zh hX
 have HBG := zh hBG
 have HPO := zh hP
 have hn1 := hP.net.n1
 have hlp := hP.lp
 have hlq := hP.lq
 have hll := hP.net.ll
 have HW : Hid (∀ x, x ∈ l → Wf x.f0) := zh (fun x hx => by
  obtain ⟨i, hi, rfl⟩ := List.getElem_of_mem hx
  have h9 := (hP.net.ends i hi).1
  have h8 : arcAt l i = l[i] := by
   unfold arcAt rd_T104
   rw [Int.toNat_natCast, List.getD_eq_getElem?_getD, List.getElem?_eq_getElem hi]
   rfl
  rw [h8] at h9
  exact small_wf h9.1 (by omega))
 have hu := Tryz.underlying33
 have hu2 := Tryz.underlying59
 have hu3 := Tryz.underlying115
 clear hr hp hq hX hBG hP
 go_enter Tryz.func18, Tryz.ntmps18
 obtain ⟨w0, hw0⟩ : ∃ w0, w0 = w.alloc (.cells #[.int .i64 n, .bool b, .slice A l.length c] 33) := ⟨_, rfl⟩
 have HX0 : Hid (w0.heap[w.heap.size]? = some (.cells #[.int .i64 n, .bool b, .slice A l.length c] 33 (0, 0)) ∧ Below w.heap.size w w0) := zh (by rw [hw0]; exact ⟨heap_alloc_new _ _, below_alloc (Below.refl _ _) _⟩)
 go_wp2_with (first
  |(go_at_call 25; rw [← hw0]; (with_reducible refine (HBG.out _ ?s1).mono ?_); (case s1 => exact HX0.out.2); rintro e w1 ⟨hb, (⟨h9, _⟩ | ⟨_, gp, bh, br, rfl, hge, hPl⟩)⟩; (exact absurd rfl h9); have HM := zh (And.intro (blk_below HX0.out.1 hb) (below_step HX0.out.2 hb)); have HPL := zh hPl; have x0 : w1.cell? ⟨w.heap.size, 0, none⟩ = some (.int .i64 n) := (blk_cell HM.out.1 0).trans rfl; clear hb hge hPl HX0)
  |(go_at_call 46; go_loud ((with_reducible refine (setof_walk n h AX cX X _ ?s1 ?s2 ?s3 ?s4).mono ?_); (case s1 => exact Kd.C_below HXX.out HM.out.2); (case s2 => exact hlX); (case s3 => omega); (case s4 => omega); rintro e w3 ⟨hb, (⟨rfl, hbad⟩ | ⟨b9, rfl, hset, hok⟩)⟩; all_goals (have HM3 := zh (And.intro (blk_below HM.out.1 hb) (And.intro (below_step HM.out.2 hb) (HPL.out.below hb))); clear HM x0 hb; have x0 : w3.cell? ⟨w.heap.size, 0, none⟩ = some (.int .i64 n) := (blk_cell HM3.out.1 0).trans rfl))))
 ·go_ret2
  exact ⟨HM3.out.2.1, .inl ⟨rfl, hbad⟩⟩
 have HS := zh hset
 have HOK := zh hok
 clear hset hok HPL
 obtain ⟨D, hD⟩ : ∃ D, D = setD X := ⟨_, rfl⟩
 rw [← hD] at HS
 have HD := zh hD
 clear hD
 go_loopg [45] (n + 1) (fun k iv W => ∃ v : Nat, v ≤ n ∧ iv = .int .i64 v ∧ k = n + 1 - v ∧ Hid (Below w3.heap.size w3 W ∧ ∀ v' : Nat, v' < v → keepsOf b p q v' = true → ∀ z : Nat, z < h → hasS D v' z = true → hasS D v' ((z : Int) + 1) = true))
 case atStart => exact ⟨0, Nat.zero_le _, rfl, rfl, zh ⟨Below.refl _ _, fun v' hv => absurd hv (Nat.not_lt_zero _)⟩⟩
 case round =>
  obtain ⟨v, hv, rfl, rfl, HL⟩ := hrel
  clear x0
  by_cases hlt : v < n
  ·have hlt2 : (v : Int) < (n : Int) := by omega
   cases hkb : keepsOf b p q v with
   |false =>
    have HKB := zh hkb
    clear hkb
    go_wp2_with (go_at_call 47; (with_reducible refine (keeps_walk gp n b A l.length c Ap p.length cp Aq q.length cq bh br p.length q.length (putGs p) (putGs q) v _ ?s1 ?s2).mono ?_); (case s1 => exact HM3.out.2.2.below HL.out.1); (case s2 => exact small_wf (by omega) (by omega)); rintro e w4 ⟨rfl, rfl⟩; rw [show (b || (hasK (putGs p) (v : Int) || hasK (putGs q) (v : Int))) = false from HKB.out])
    go_roundg (n - v)
    case measure => omega
    case rel => exact ⟨v + 1, by omega, by go_num, by omega, zh ⟨HL.out.1, fun v' hv' hk' => by
     rcases Nat.lt_or_eq_of_le (Nat.le_of_lt_succ hv') with g | rfl
     ·exact HL.out.2 v' g hk'
     ·rw [HKB.out] at hk'
      cases hk'⟩⟩
   |true =>
    have HKB := zh hkb
    clear hkb
    go_wp2_with (first
     |(go_at_call 47; (with_reducible refine (keeps_walk gp n b A l.length c Ap p.length cp Aq q.length cq bh br p.length q.length (putGs p) (putGs q) v _ ?s1 ?s2).mono ?_); (case s1 => exact HM3.out.2.2.below HL.out.1); (case s2 => exact small_wf (by omega) (by omega)); rintro e w4 ⟨rfl, rfl⟩; rw [show (b || (hasK (putGs p) (v : Int) || hasK (putGs q) (v : Int))) = true from HKB.out])
     |(go_at_call 48; go_loud ((with_reducible refine (rises_walk b9 X.length D v h _ ?s1 ?s2 ?s3).mono ?_); (case s1 => exact setAs_below HS.out HL.out.1); (case s2 => exact small_wf (by omega) (by omega)); (case s3 => omega); rintro e w5 ⟨hb, (⟨rfl, hris⟩ | ⟨rfl, hris⟩)⟩; all_goals (have HB5 := zh (below_step HL.out.1 hb); have HRI := zh hris; clear hb hris))))
    ·go_roundg (n - v)
     case measure => omega
     case rel => exact ⟨v + 1, by omega, by go_num, by omega, zh ⟨HB5.out, fun v' hv' hk' => by
      rcases Nat.lt_or_eq_of_le (Nat.le_of_lt_succ hv') with g | rfl
      ·exact HL.out.2 v' g hk'
      ·exact HRI.out⟩⟩
    ·go_ret2
     obtain ⟨z, hz, hz1, hz2⟩ := HRI.out
     exact ⟨below_step HM3.out.2.1 HB5.out, .inr ⟨HOK.out, .inl ⟨rfl, v, z, hlt, HKB.out, hz, by rw [← HD.out]; exact hz1, by rw [← HD.out]; exact hz2⟩⟩⟩
  ·have e : v = n := by omega
   subst e
   have HKR := zh HL.out.2
   have HB := zh (And.intro HL.out.1 (below_step HM3.out.2.1 HL.out.1))
   clear HL
   have x0 : wr.cell? ⟨w.heap.size, 0, none⟩ = some (.int .i64 v) := (blk_cell (blk_below HM3.out.1 HB.out.1) 0).trans rfl
   have x1 : wr.cell? ⟨w.heap.size, 1, none⟩ = some (.bool b) := (blk_cell (blk_below HM3.out.1 HB.out.1) 1).trans rfl
   have x2 : wr.cell? ⟨w.heap.size, 2, none⟩ = some (.slice A l.length c) := (blk_cell (blk_below HM3.out.1 HB.out.1) 2).trans rfl
   obtain ⟨T, hT⟩ : ∃ T, T = takesV (useOf q) (hasS D) h l := ⟨_, rfl⟩
   have hTb : 0 ≤ T ∧ T ≤ 11000000000000 := by
    have := takes_bd (use := useOf q) (H := hasS D) HPO.out.net hh HPO.out.caps l.length (Nat.le_refl _)
    unfold takesV at hT
    rw [← hT] at this
    omega
   have HT := zh hT
   clear hT
   go_wp2_with (go_at_call 49; go_loud ((with_reducible refine (takes_walk v h b A c l gp (useOf q) b9 X.length D _ ?s1 ?s2 ?s3 ?s4 ?s5 ?s6).mono ?_); (case s1 => exact HPO.out.net); (case s2 => exact HPO.out.caps); (case s3 => exact hh); (case s4 => exact setAs_below HS.out HB.out.1); (case s5 => exact Kd.C_below HR.out HB.out.2); (case s6 => exact (fun x W hx hb => (use_walk gp v b A l.length c Ap p.length cp Aq q.length cq bh br p.length q.length (putGs p) (putGs q) x W ((HM3.out.2.2.below HB.out.1).below hb) (HW.out x hx)).mono (fun _ _ h9 => h9))); rintro e w6 ⟨rfl, hb⟩; rw [← HT.out]; have HB6 := zh (And.intro (below_step HB.out.1 hb) (below_step HB.out.2 hb)); clear HB x0 x1 x2 hb))
   go_loopg [17, 67] (p.length + 1) (fun k sv iv W => ∃ (i : Nat) (S : Int), i ≤ p.length ∧ sv = .int .i64 S ∧ iv = .int .i64 i ∧ k = p.length + 1 - i ∧ 0 ≤ S ∧ S ≤ 11000000000000 + (i : Int) * 1048576 ∧ Hid (S = T + gS (fun g => !hasS D g.f0 0) (p.take i) ∧ Below w3.heap.size w3 W ∧ Below w.heap.size w W))
   case atStart => exact ⟨0, T, Nat.zero_le _, rfl, rfl, rfl, hTb.1, by omega, zh ⟨by rw [List.take_zero, gS]; omega, HB6.out⟩⟩
   case round =>
    obtain ⟨i, S, hi, rfl, rfl, rfl, s0, s1, HL⟩ := hrel
    clear HB6
    by_cases hlt : i < p.length
    ·have i0 : (0 : Int) ≤ (i : Int) := by omega
     have i1 : (i : Int) < (p.length : Int) := by omega
     obtain ⟨ad, ea, y0, y1⟩ := at_T59 (Kd.C_below HP.out HL.out.2.2) (i : Int) i0 i1
     subst ea
     rw [Int.toNat_natCast] at y0 y1
     have hgt := gS_take (fun g => !hasS D g.f0 0) hlt
     obtain ⟨G, hG⟩ : ∃ G, G = rd_T59 p (i : Int) := ⟨_, rfl⟩
     have hgi := HPO.out.gp G (by rw [hG]; exact grp_mem hlt)
     rw [← hG] at y0 y1 hgt
     have g0 := hgi.1.1
     have g1 := hgi.1.2
     have g2 := hgi.2.1
     have g3 := hgi.2.2
     have HGT := zh hgt
     clear hG hgi hgt
     have e6 : IntKind.i64.wrap (S + G.f1) = S + G.f1 := IntWalk.i64_in _ (by omega)
     obtain ⟨R, hR⟩ : ∃ R, hasS D G.f0 0 = R := ⟨_, rfl⟩
     have HRR := zh hR
     clear hR
     have HH : Hid (∀ W, Below w3.heap.size w3 W → Calls Tryz.prog 51 #[.map (some b9), .int .i64 G.f0, .int .i64 0] W fun e w' => e = .returned (.bool R) ∧ Below W.heap.size W w') := zh (fun W hW => has_walk b9 X.length D G.f0 0 R W (setAs_below HS.out hW) (small_wf (by omega) (by omega)) (by decide) HRR.out.symm)
     cases R with
     |true =>
      go_wp2_with (go_at_call 51; refine (HH.out _ ?s1).mono ?_; (case s1 => exact below_alloc HL.out.2.1 _); rintro e w7 ⟨rfl, hb⟩; have HB7 := zh (And.intro (below_step (below_alloc HL.out.2.1 _) hb) (below_step (below_alloc HL.out.2.2 _) hb)); clear hb)
      go_roundg (p.length - i)
      case measure => omega
      case rel => exact ⟨i + 1, S, by omega, rfl, by go_num, by omega, s0, by omega, zh ⟨by rw [HGT.out, HL.out.1, HRR.out, if_neg (by decide)]; omega, HB7.out⟩⟩
     |false =>
      go_wp2_with (go_at_call 51; refine (HH.out _ ?s1).mono ?_; (case s1 => exact below_alloc HL.out.2.1 _); rintro e w7 ⟨rfl, hb⟩; have HB7 := zh (And.intro (below_step (below_alloc HL.out.2.1 _) hb) (below_step (below_alloc HL.out.2.2 _) hb)); have y1 : w7.cell? ⟨wr.heap.size, 1, none⟩ = some (.int .i64 G.f1) := (blk_cell (blk_below (heap_alloc_new wr (.cells #[.int .i64 G.f0, .int .i64 G.f1] 59)) hb) 1).trans rfl; clear hb)
      go_roundg (p.length - i)
      case measure => omega
      case rel => exact ⟨i + 1, S + G.f1, by omega, rfl, by go_num, by omega, by omega, by omega, zh ⟨by rw [HGT.out, HL.out.1, HRR.out, if_pos (by decide)]; omega, HB7.out⟩⟩
    ·have e : i = p.length := by omega
     subst e
     have HT2 : Hid (S = T + gS (fun g => !hasS D g.f0 0) p) := zh (by have := HL.out.1; rwa [List.take_length] at this)
     have HB6 := zh HL.out.2
     clear HL
     go_wp2
     go_loopg [17, 83] (q.length + 1) (fun k sv iv W => ∃ (i : Nat) (s : Int), i ≤ q.length ∧ sv = .int .i64 s ∧ iv = .int .i64 i ∧ k = q.length + 1 - i ∧ 0 ≤ s ∧ s ≤ 12100000000000 + (i : Int) * 1048576 ∧ Hid (s = S + gS (fun g => hasS D g.f0 h) (q.take i) ∧ Below w3.heap.size w3 W ∧ Below w.heap.size w W))
     case atStart => exact ⟨0, S, Nat.zero_le _, rfl, rfl, rfl, s0, by omega, zh ⟨by rw [List.take_zero, gS]; omega, HB6.out⟩⟩
     case round =>
      obtain ⟨i, s, hi, rfl, rfl, rfl, s0, s1, HL⟩ := hrel
      clear HB6
      by_cases hlt : i < q.length
      ·have i0 : (0 : Int) ≤ (i : Int) := by omega
       have i1 : (i : Int) < (q.length : Int) := by omega
       obtain ⟨ad, ea, y0, y1⟩ := at_T59 (Kd.C_below HQ.out HL.out.2.2) (i : Int) i0 i1
       subst ea
       rw [Int.toNat_natCast] at y0 y1
       have hgt := gS_take (fun g => hasS D g.f0 h) hlt
       obtain ⟨G, hG⟩ : ∃ G, G = rd_T59 q (i : Int) := ⟨_, rfl⟩
       have hgi := HPO.out.gq G (by rw [hG]; exact grp_mem hlt)
       rw [← hG] at y0 y1 hgt
       have g0 := hgi.1.1
       have g1 := hgi.1.2
       have g2 := hgi.2.1
       have g3 := hgi.2.2
       have HGT := zh hgt
       clear hG hgi hgt
       have e6 : IntKind.i64.wrap (s + G.f1) = s + G.f1 := IntWalk.i64_in _ (by omega)
       obtain ⟨R, hR⟩ : ∃ R, hasS D G.f0 h = R := ⟨_, rfl⟩
       have HRR := zh hR
       clear hR
       have HH : Hid (∀ W, Below w3.heap.size w3 W → Calls Tryz.prog 51 #[.map (some b9), .int .i64 G.f0, .int .i64 h] W fun e w' => e = .returned (.bool R) ∧ Below W.heap.size W w') := zh (fun W hW => has_walk b9 X.length D G.f0 h R W (setAs_below HS.out hW) (small_wf (by omega) (by omega)) (small_wf (by omega) (by omega)) HRR.out.symm)
       cases R with
       |false =>
        go_wp2_with (go_at_call 51; refine (HH.out _ ?s1).mono ?_; (case s1 => exact below_alloc HL.out.2.1 _); rintro e w7 ⟨rfl, hb⟩; have HB7 := zh (And.intro (below_step (below_alloc HL.out.2.1 _) hb) (below_step (below_alloc HL.out.2.2 _) hb)); clear hb)
        go_roundg (q.length - i)
        case measure => omega
        case rel => exact ⟨i + 1, s, by omega, rfl, by go_num, by omega, s0, by omega, zh ⟨by rw [HGT.out, HL.out.1, HRR.out, if_neg (by decide)]; omega, HB7.out⟩⟩
       |true =>
        go_wp2_with (go_at_call 51; refine (HH.out _ ?s1).mono ?_; (case s1 => exact below_alloc HL.out.2.1 _); rintro e w7 ⟨rfl, hb⟩; have HB7 := zh (And.intro (below_step (below_alloc HL.out.2.1 _) hb) (below_step (below_alloc HL.out.2.2 _) hb)); have y1 : w7.cell? ⟨wr.heap.size, 1, none⟩ = some (.int .i64 G.f1) := (blk_cell (blk_below (heap_alloc_new wr (.cells #[.int .i64 G.f0, .int .i64 G.f1] 59)) hb) 1).trans rfl; clear hb)
        go_roundg (q.length - i)
        case measure => omega
        case rel => exact ⟨i + 1, s + G.f1, by omega, rfl, by go_num, by omega, by omega, by omega, zh ⟨by rw [HGT.out, HL.out.1, HRR.out, if_pos (by decide)]; omega, HB7.out⟩⟩
      ·have e : i = q.length := by omega
       subst e
       go_wp2
       go_ret2
       have h9 := HL.out.1
       rw [List.take_length, HT2.out, HT.out] at h9
       refine ⟨HL.out.2.2, .inr ⟨HOK.out, .inr ⟨?_, ?_⟩⟩⟩
       ·rw [← HD.out]
        unfold capV
        rw [← h9]
        rfl
       ·rw [← HD.out]
        exact HKR.out
end Go.Proofs.YtcgdloldkcmhnaaGreat.H
end
section
namespace Go.Proofs.YtcgdloldkcmhnaaGreat.H
open Go Go.RowKit Go.Proofs.YtcgdloldkcmhnaaGreat.PrintC Go.Proofs.YtcgdloldkcmhnaaGreat.PrintE
set_option linter.unusedVariables false
def WfM (x : Mv) : Prop := Wf x.f0 ∧ Wf x.f1
def gIdx (l : List Mv) (i : Nat) (x : Mv) : List Int := ((List.range i).filter fun k => sameK x (mvAt l k)).map fun k : Nat => (k : Int)
theorem gIdx_next (l : List Mv) (i : Nat) (x : Mv) : gIdx l (i + 1) x = gIdx l i x ++ (if sameK x (mvAt l i) = true then [(i : Int)] else []) := by
 unfold gIdx
 rw [List.range_succ, List.filter_append, List.map_append]
 congr 1
 by_cases e : sameK x (mvAt l i) = true <;> simp [e]
theorem gIdx_mem {l : List Mv} {i : Nat} {x : Mv} {k : Int} (h : k ∈ gIdx l i x) : ∃ t : Nat, t < i ∧ k = t ∧ sameK x (mvAt l t) = true := by
 unfold gIdx at h
 obtain ⟨t, ht, rfl⟩ := List.mem_map.1 h
 obtain ⟨h1, h2⟩ := List.mem_filter.1 ht
 exact ⟨t, List.mem_range.1 h1, rfl, h2⟩
theorem gIdx_len (l : List Mv) (i : Nat) (x : Mv) : (gIdx l i x).length ≤ i := by
 unfold gIdx
 rw [List.length_map]
 exact Nat.le_trans (List.length_filter_le _ _) (by rw [List.length_range]; exact Nat.le_refl _)
theorem gIdx_nums {l : List Mv} (x : Mv) : ∀ {i : Nat}, i ≤ l.length → (gIdx l i x).map (fun k => (mvAt l k.toNat).f2) = ((l.take i).filter (sameK x)).map (·.f2)
 |0, _ => by simp [gIdx]
 |i + 1, h => by
  rw [gIdx_next, mvAt_take (by omega), List.map_append, List.filter_append, List.map_append, gIdx_nums x (by omega)]
  congr 1
  by_cases e : sameK x (mvAt l i) = true
  ·rw [if_pos e, List.filter_cons_of_pos e]
   rfl
  ·rw [if_neg e, List.filter_cons_of_neg e]
   rfl
structure GaI (l : List Mv) (i : Nat) (hs : List Mv) (D : DataW Unit) : Prop where
 dst : hs.Pairwise (fun a b => sameK a b = false)
 mem : ∀ x, x ∈ hs → ∃ k, k < i ∧ x = mvAt l k
 all : ∀ k, k < i → ∃ y, y ∈ hs ∧ sameK y (mvAt l k) = true
 isM : Maps.IsMap D
 has : ∀ x : Mv, WfM x → Maps.has D (slotKey x.f0 x.f1) = hs.any (fun y => sameK y x)
 atK : ∀ (j : Nat) (y : Mv), hs[j]? = some y → D.atKey (slotKey y.f0 y.f1) (.lit (.int .i64 0)) = .lit (.int .i64 j)
theorem GaI.zero (l : List Mv) : GaI l 0 [] (.map []) := ⟨List.Pairwise.nil, fun _ h => (nomatch h), fun _ h => absurd h (Nat.not_lt_zero _), ⟨_, rfl⟩, fun x _ => rfl, fun j y h => by simp at h⟩
theorem sameK_refl (x : Mv) : sameK x x = true := sameK_iff.2 ⟨rfl, rfl⟩
theorem sameK_trans {a b c : Mv} (h : sameK a b = true) (k : sameK b c = true) : sameK a c = true := by
 rw [sameK_iff] at *
 exact ⟨h.1.trans k.1, h.2.trans k.2⟩
section
variable {l hs : List Mv} {i : Nat} {D : DataW Unit}
theorem GaI.other (h : GaI l i hs D) {j t : Nat} {y z x : Mv} (hj : hs[j]? = some y) (ht : hs[t]? = some z) (hy : sameK y x = true) (hz : sameK z x = true) : t = j := by
 have h1 := List.pairwise_iff_getElem.1 h.dst
 obtain ⟨p1, p2⟩ := List.getElem?_eq_some_iff.1 hj
 obtain ⟨q1, q2⟩ := List.getElem?_eq_some_iff.1 ht
 rcases Nat.lt_trichotomy t j with c | c | c
 ·have := h1 t j q1 p1 c
  rw [q2, p2, sameK_trans hz (sameK_sym hy)] at this
  cases this
 ·exact c
 ·have := h1 j t p1 q1 c
  rw [q2, p2, sameK_trans hy (sameK_sym hz)] at this
  cases this
theorem GaI.had (h : GaI l i hs D) {j : Nat} {y : Mv} (hj : hs[j]? = some y) (hy : sameK y (mvAt l i) = true) :
  GaI l (i + 1) hs D ∧ (hs.map (gIdx l i)).set j (gIdx l i y ++ [(i : Int)]) = hs.map (gIdx l (i + 1)) := by
 refine ⟨⟨h.dst, fun x hx => ?_, fun k hk => ?_, h.isM, h.has, h.atK⟩, ?_⟩
 ·obtain ⟨k, hk, e⟩ := h.mem x hx
  exact ⟨k, by omega, e⟩
 ·by_cases e : k = i
  ·rw [e]
   exact ⟨y, List.mem_of_getElem? hj, hy⟩
  ·exact h.all k (by omega)
 ·refine List.ext_getElem? fun t => ?_
  by_cases e : j = t
  ·subst e
   have hl : j < (hs.map (gIdx l i)).length := by rw [List.length_map]; exact (List.getElem?_eq_some_iff.1 hj).1
   rw [List.getElem?_set_self hl, List.getElem?_map, hj, Option.map_some, gIdx_next, if_pos hy]
  ·rw [List.getElem?_set_ne e, List.getElem?_map, List.getElem?_map]
   cases ht : hs[t]? with
   |none => rfl
   |some z =>
    rw [Option.map_some, Option.map_some, gIdx_next]
    by_cases hz : sameK z (mvAt l i) = true
    ·exact absurd (h.other hj ht hy hz).symm e
    ·rw [if_neg hz, List.append_nil]
theorem GaI.put (h : GaI l i hs D) (hx : WfM (mvAt l i)) (hw : ∀ y, y ∈ hs → WfM y) (hn : hs.any (fun y => sameK y (mvAt l i)) = false) :
  GaI l (i + 1) (hs ++ [mvAt l i]) (D.put (slotKey (mvAt l i).f0 (mvAt l i).f1) (.lit (.int .i64 (hs.length : Int)))) ∧ (hs.map (gIdx l i) ++ [[]]).set hs.length ([] ++ [(i : Int)]) = (hs ++ [mvAt l i]).map (gIdx l (i + 1)) := by
 have hn' : ∀ y, y ∈ hs → sameK y (mvAt l i) = false := fun y hy => by
  have := List.any_eq_false.1 hn y hy
  simpa using this
 have hk : ∀ y : Mv, WfM y → sameK y (mvAt l i) = false → slotKey y.f0 y.f1 ≠ slotKey (mvAt l i).f0 (mvAt l i).f1 := fun y wy e1 e2 => by
  obtain ⟨a, b⟩ := slotKey_inj wy.1 wy.2 hx.1 hx.2 e2
  rw [sameK_iff.2 ⟨a, b⟩] at e1
  cases e1
 have hkl := slotLaw.key (slotKeyOf (mvAt l i).f0 (mvAt l i).f1 hx.1 hx.2)
 refine ⟨⟨?_, ?_, ?_, ?_, ?_, ?_⟩, ?_⟩
 ·exact List.pairwise_append.2 ⟨h.dst, List.pairwise_singleton _ _, fun a ha b hb => by rw [List.mem_singleton.1 hb]; exact hn' a ha⟩
 ·intro x hx
  rcases List.mem_append.1 hx with hx | hx
  ·obtain ⟨k, hk, e⟩ := h.mem x hx
   exact ⟨k, by omega, e⟩
  ·exact ⟨i, by omega, List.mem_singleton.1 hx⟩
 ·intro k hk
  by_cases e : k = i
  ·rw [e]
   exact ⟨_, List.mem_append_right _ (List.mem_singleton.2 rfl), sameK_refl _⟩
  ·obtain ⟨y, hy, e2⟩ := h.all k (by omega)
   exact ⟨y, List.mem_append_left _ hy, e2⟩
 ·obtain ⟨es, rfl⟩ := h.isM
  exact ⟨_, rfl⟩
 ·intro x wx
  rw [List.any_append]
  by_cases e : sameK (mvAt l i) x = true
  ·obtain ⟨a, b⟩ := sameK_iff.1 e
   rw [← a, ← b, Maps.has_put_same h.isM hkl]
   simp [sameK_iff, a, b]
  ·have e' : sameK (mvAt l i) x = false := by simpa using e
   rw [Maps.has_put_other (hk x wx (by cases c : sameK x (mvAt l i) with
    |false => rfl
    |true => exact absurd (sameK_sym c) e)), h.has x wx]
   simp [e']
 ·intro j y hj
  by_cases e : j < hs.length
  ·rw [List.getElem?_append_left e] at hj
   have hy := List.mem_of_getElem? hj
   rw [Maps.atKey_put_other (hk y (hw y hy) (hn' y hy))]
   exact h.atK j y hj
  ·rw [List.getElem?_append_right (by omega)] at hj
   have e2 : j - hs.length = 0 := by
    rcases Nat.eq_zero_or_pos (j - hs.length) with c | c
    ·exact c
    ·rw [List.getElem?_eq_none (by rw [List.length_singleton]; omega)] at hj
     cases hj
   rw [e2] at hj
   have e3 : mvAt l i = y := by simpa using hj
   rw [← e3, Maps.atKey_put_same h.isM hkl, show j = hs.length by omega]
 ·have hz : gIdx l i (mvAt l i) = [] := by
   rw [List.eq_nil_iff_forall_not_mem]
   intro k hk
   obtain ⟨t, ht, -, e⟩ := gIdx_mem hk
   obtain ⟨y, hy, e2⟩ := h.all t ht
   have := hn' y hy
   rw [sameK_trans e2 (sameK_sym e)] at this
   cases this
  have e1 : (hs.map (gIdx l i) ++ [[]]).set hs.length ([] ++ [(i : Int)]) = hs.map (gIdx l i) ++ [[(i : Int)]] := by
   rw [List.set_append_right _ _ (by rw [List.length_map]; exact Nat.le_refl _), List.length_map, Nat.sub_self]
   rfl
  rw [e1, List.map_append]
  congr 1
  ·refine List.map_congr_left fun y hy => ?_
   rw [gIdx_next, if_neg (by rw [hn' y hy]; decide), List.append_nil]
  ·show [[(i : Int)]] = [gIdx l (i + 1) (mvAt l i)]
   rw [gIdx_next, hz, if_pos (sameK_refl _)]
   rfl
end
def mOf (l : List Mv) (x : Mv) : Mv := ⟨x.f0, x.f1, amt l x⟩
def mAll (l hs : List Mv) : List Mv := (hs.map (mOf l)).filter fun x => decide (x.f2 ≠ 0)
theorem mAll_snoc (l hs : List Mv) (x : Mv) : mAll l (hs ++ [x]) = mAll l hs ++ (if amt l x ≠ 0 then [mOf l x] else []) := by
 unfold mAll
 rw [List.map_append, List.filter_append]
 congr 1
 by_cases e : amt l x ≠ 0
 ·rw [if_pos e]
  exact List.filter_cons_of_pos (decide_eq_true e)
 ·rw [if_neg e]
  exact List.filter_cons_of_neg (by rw [decide_eq_true_eq]; exact e)
theorem mAll_len (l hs : List Mv) : (mAll l hs).length ≤ hs.length := by
 unfold mAll
 exact Nat.le_trans (List.length_filter_le _ _) (by rw [List.length_map]; exact Nat.le_refl _)
theorem merged_of {l hs ys : List Mv} {D : DataW Unit} (h : GaI l l.length hs D) (hf : ∀ x, x ∈ hs → fits (amt l x) = true) (hp : ys.Perm (mAll l hs)) (hs' : ys.Pairwise (fun a b => ¬ mlt b a)) : MgOf l ys := by
 have hd : ys.Pairwise (fun a b => sameK a b = false) := by
  refine (List.Perm.pairwise_iff (fun {a b} e => ?_) hp).2 ?_
  ·cases c : sameK b a with
   |false => rfl
   |true =>
    rw [sameK_sym c] at e
    cases e
  ·unfold mAll
   refine List.Pairwise.filter _ ?_
   rw [List.pairwise_map]
   exact h.dst
 refine ⟨?_, ?_, ?_⟩
 ·refine List.Pairwise.imp ?_ (hs'.and hd)
  intro a b hab
  exact mlt_of hab.1 hab.2
 ·intro y hy
  have h1 := hp.mem_iff.1 hy
  unfold mAll at h1
  obtain ⟨h2, h3⟩ := List.mem_filter.1 h1
  obtain ⟨x, hx, rfl⟩ := List.mem_map.1 h2
  have e : sameK x (mOf l x) = true := sameK_iff.2 ⟨rfl, rfl⟩
  obtain ⟨k, hk, ek⟩ := h.mem x hx
  refine ⟨(amt_same e), of_decide_eq_true h3, x, ?_, e⟩
  rw [ek]
  exact at_mem_take (Nat.le_refl _) hk
 ·intro x hx
  obtain ⟨k, hk, rfl⟩ := mem_take_at (Nat.le_refl _) hx
  obtain ⟨y, hy, e⟩ := h.all k hk
  rw [← amt_same e]
  refine ⟨hf y hy, fun h0 => ⟨mOf l y, ?_, sameK_iff.2 ⟨(sameK_iff.1 e).1.symm, (sameK_iff.1 e).2.symm⟩⟩⟩
  rw [hp.mem_iff]
  exact List.mem_filter.2 ⟨List.mem_map.2 ⟨y, hy, rfl⟩, decide_eq_true h0⟩
end Go.Proofs.YtcgdloldkcmhnaaGreat.H
end
section
namespace Go.Proofs.YtcgdloldkcmhnaaGreat.H
open Go Go.RowKit Go.Proofs.YtcgdloldkcmhnaaGreat.PrintC Go.Proofs.YtcgdloldkcmhnaaGreat.PrintE Go.Proofs.YtcgdloldkcmhnaaGreatW.PrintWords Go.Proofs.YtcgdloldkcmhnaaGreatW.PrintLast Go.Proofs.YtcgdloldkcmhnaaGreatW.PrintMore
set_option linter.unusedVariables false
set_option linter.unusedSimpArgs false
theorem pairRow : (132 : TypeId) < Tryz.prog.types.size := of_decide_eq_true (by kernel_rfl)
theorem pairWide : (match Tryz.prog.underlying 132 with | some (.array _ _) | some (.struct _) => true | _ => false) = true := by rw [Tryz.underlying132]
theorem pairKeyType : Tryz.prog.keyTypeAt 2 132 = true := by kernel_rfl
set_option maxRecDepth 100000 in
theorem pairLaw : Maps.Keyed Tryz.prog 132 := Maps.Keyed.of_law (deep_law_laid slotLaid (m := 2) (by omega) pairRow pairKeyType pairWide)
theorem pairKeyOf (a b : Int) (ha : (Lit.int .i64 a).wf = true) (hb : (Lit.int .i64 b).wf = true) : keyOf Tryz.prog 132 (.agg #[.int .i64 a, .int .i64 b]) = some (slotKey a b) := by
 have h1 : Tryz.prog.keyType 132 = true := by kernel_rfl
 have h2 : (Value.agg #[.int .i64 a, .int .i64 b]).formed Tryz.prog 132 = true := by
  simp [Value.formed, Tryz.underlying132, show Tryz.prog.cellsOf 132 = 2 by kernel_rfl]
 unfold keyOf
 rw [Tryz.underlying132]
 simp only [h1, h2, Bool.and_self, if_true, Value.cells]
 obtain ⟨m, hm⟩ : ∃ m, Tryz.prog.types.size = m + 1 := Nat.exists_eq_succ_of_ne_zero (Nat.ne_of_gt (Nat.lt_of_le_of_lt (Nat.zero_le _) pairRow))
 rw [hm]
 have e1 : ∀ x : Int, (Lit.int .i64 x).wf = true → Tryz.prog.keyLits (m + 1) 3 [.int .i64 x] = some [.int .i64 x] := fun x hx => by
  simp [Program.keyLits, Tryz.underlying3, hx]
 have e2 : Tryz.prog.keyLits (m + 1 + 1) 132 [.int .i64 a, .int .i64 b] = some [.int .i64 a, .int .i64 b] := by
  unfold Program.keyLits
  simp [Tryz.underlying132, show Tryz.prog.cellsOf 132 = 2 by kernel_rfl, show Tryz.prog.cellsOf 3 = 1 by kernel_rfl]
  refine ⟨[[.int .i64 a], [.int .i64 b]], ?_, rfl⟩
  rw [show List.range 2 = [0, 1] from rfl]
  simp [e1 a ha, e1 b hb]
 have e3 : (#[Value.int .i64 a, Value.int .i64 b].flatMap Value.cells).toList = [.int .i64 a, .int .i64 b] := by simp [Value.cells]
 simp [e2, slotKey]
set_option maxRecDepth 100000 in
theorem key_walk (x : Mv) (w : World) : Calls Tryz.prog 71 #[.agg #[.int .i64 x.f0, .int .i64 x.f1, .int .i64 x.f2]] w fun e w' => e = .returned (.agg #[.int .i64 x.f0, .int .i64 x.f1]) ∧ Below w.heap.size w w' := by
 have hu := Tryz.underlying132
 go_enter Tryz.func71, Tryz.ntmps71
 go_wp2
 refine bodyPost_ret (results_cell_row rfl _ _ (w.heap.size + 1) 132 #[.int .i64 x.f0, .int .i64 x.f1] (0, 0) _ rfl (alloc_at (by simp)) hu rfl (by kernel_rfl)) rfl ?_
 exact ⟨rfl, below_alloc (below_alloc (Below.refl _ _) _) _⟩
theorem num_walk (x : Mv) (w : World) : Calls Tryz.prog 73 #[.agg #[.int .i64 x.f0, .int .i64 x.f1, .int .i64 x.f2]] w fun e w' => e = .returned (.int .i64 x.f2) ∧ Below w.heap.size w w' := by
 go_enter Tryz.func73, Tryz.ntmps73
 go_wp2
 go_ret
 exact ⟨rfl, below_alloc (Below.refl _ _) _⟩
structure GtI (w0 : World) (mb kn : Nat) (D : DataW Unit) (Ao : Option Addr) (co : Nat) (rows : List (List Int)) (W : World) : Prop where
 tab : Kd.S kInts 68 W w0.heap.size (fun _ => True) (.slice Ao rows.length co) rows
 mp : MapAs W 132 mb kn D
 mbl : w0.heap.size ≤ mb
 low : Below w0.heap.size w0 W
section
variable {w0 : World} {mb kn : Nat} {D : DataW Unit} {Ao : Option Addr} {co : Nat} {rows : List (List Int)} {W W1 : World}
theorem GtI.below (h : GtI w0 mb kn D Ao co rows W) (hb : Below W.heap.size W W1) : GtI w0 mb kn D Ao co rows W1 :=
 ⟨Kd.S_below h.tab hb, mapAs_eq h.mp (hb.block _ h.mp.lt), h.mbl, below_step h.low hb⟩
theorem GtI.put {kl : Lit} {d : DataW Unit} (h : GtI w0 mb kn D Ao co rows W) (ho : MapAs W1 132 mb (kn + 1) (D.put kl d)) (hg : W.grownBy W1 (some mb)) : GtI w0 mb (kn + 1) (D.put kl d) Ao co rows W1 := by
 have hne : ∀ {g : Nat}, g ≠ mb → g < W.heap.size → W1.heap[g]? = W.heap[g]? := fun {g} hn hlt => hg.block g hlt (fun e => hn (by injection e))
 refine ⟨?_, ho, h.mbl, ?_⟩
 ·refine Kd.S_mono (Kd.S_step (Kd.S_bound h.tab) (fun k hk hlt => hne ?_ hlt)) (fun _ _ => trivial)
  obtain ⟨-, -, -, q, -, cs, hcs⟩ := hk
  exact fun e => mapAs_ne h.mp hcs e.symm
 ·have h9 := h.mbl
  exact ⟨hg.os.trans h.low.os, hg.tape.trans h.low.tape, hg.output.trans h.low.output, Nat.le_trans h.low.size hg.size, fun k hlt => (hne (by omega) (by have := h.low.size; omega)).trans (h.low.block k hlt)⟩
theorem GtI.more {v1 : Value} (h : GtI w0 mb kn D Ao co rows W) (h1 : Below W.heap.size W W1) {w1 : World} (hs : Kd.S kInts 68 w1 w0.heap.size (fun _ => True) v1 (rows ++ [[]])) (hb : Below w0.heap.size w0 w1) (hg : W1.grownBy w1 (Value.slice Ao rows.length co).ownBlock) :
  ∃ A1 c1, v1 = .slice A1 (rows.length + 1) c1 ∧ GtI w0 mb kn D A1 c1 (rows ++ [[]]) w1 := by
 obtain ⟨A1, c1, rfl⟩ := Kd.R_slice (Kd.S_R hs)
 have hl : (rows ++ [([] : List Int)]).length = rows.length + 1 := by simp
 have h2 := h.below h1
 have hm : MapAs w1 132 mb kn D := h2.mp.kept hg (fun e => by
  obtain ⟨cs, hcs⟩ := Kd.R_typed (Kd.S_R h2.tab) mb e.symm
  exact mapAs_ne h2.mp hcs rfl)
 exact ⟨A1, c1, by rw [hl], hs, hm, h.mbl, hb⟩
structure GtO (w0 : World) (g i : Nat) (co : Nat) (rows : List (List Int)) (row : List Int) (W : World) (A : Option Addr) (c : Nat) (oki : Nat → Prop) : Prop where
 at_ : W.cell? ⟨g, i, none⟩ = some (.slice A row.length c)
 free : W.frozen? ⟨g, i, none⟩ = false
 cont : Kd.R (Kd.int .i64) 3 W w0.heap.size oki (.slice A row.length c) row
 rest : Kd.H kInts 68 W w0.heap.size (fun _ => True) (.slice (some ⟨g, 0, none⟩) rows.length co) rows i oki [.slice A row.length c]
theorem GtI.form (h : GtI w0 mb kn D Ao co rows W) (hp : 0 < rows.length) : ∃ g, Ao = some ⟨g, 0, none⟩ := by
 obtain ⟨g, cap, e, _⟩ := Kd.S_form h.tab hp
 injection e with e1
 exact ⟨g, e1⟩
theorem GtI.open_ {g : Nat} (h : GtI w0 mb kn D (some ⟨g, 0, none⟩) co rows W) {i : Nat} {row : List Int} (hr : rows[i]? = some row) : ∃ A c oki, GtO w0 g i co rows row W A c oki := by
 have hi : i < rows.length := (List.getElem?_eq_some_iff.1 hr).1
 obtain ⟨oki, ce, hl, hM, hcc, hfr, hok, hH⟩ := Kd.S_elem h.tab [] (i : Int) (by omega) (by omega)
 obtain ⟨v, rfl, hR⟩ := hM
 have hv := hcc 0 _ rfl
 have hf := hfr 0
 simp only [Nat.add_zero, Int.toNat_natCast, show kInts.sz = 1 from rfl, Nat.mul_one] at hv hf hR hH
 rw [List.getD_eq_getElem?_getD, hr] at hR
 obtain ⟨A, c, rfl⟩ := Kd.R_slice hR
 exact ⟨A, c, oki, hv, hf, hR, hH⟩
theorem GtO.moved {g i : Nat} {row : List Int} {A : Option Addr} {c : Nat} {oki : Nat → Prop} (h : GtO w0 g i co rows row W A c oki) (hb : Below W.heap.size W W1) : GtO w0 g i co rows row W1 A c oki :=
 ⟨pw_cell_below hb h.at_, by
  have hl := World.block_lt_of_cell? W _ h.at_
  have := h.free
  simp only [World.frozen?] at this ⊢
  rw [hb.block g hl]
  exact this, Kd.R_below h.cont hb, Kd.H_below h.rest hb⟩
theorem GtO.spot {g i : Nat} {row : List Int} {A : Option Addr} {c : Nat} {oki : Nat → Prop} {w1 : World} (h : GtO w0 g i co rows row W A c oki) (hi : i < rows.length) (hg : W.grownBy w1 (Value.slice A row.length c).ownBlock) :
  w1.cell? ⟨g, i, none⟩ = some (.slice A row.length c) ∧ w1.frozen? ⟨g, i, none⟩ = false := by
 have hH := Kd.H_grown (Kd.H_widen h.rest) hg (fun k e => .inl (h.cont.1 k e))
 obtain ⟨_, _, hraw, _, _, hcc, _⟩ := Kd.H_raw hH (by omega : (0 : Int) ≤ (i : Int)) (by omega)
 obtain ⟨cs, hcs⟩ := Kd.R_typed hraw g (by simp [Value.ownBlock])
 refine ⟨?_, blk_frozen hcs i⟩
 have := hcc 0 _ rfl
 rw [show kInts.sz = 1 from rfl, Nat.mul_one, Nat.add_zero, Int.toNat_natCast] at this
 exact this
theorem GtI.close {g i : Nat} {row x' : List Int} {A : Option Addr} {c : Nat} {oki : Nat → Prop} {v1 : Value} {w1 : World} (h : GtI w0 mb kn D (some ⟨g, 0, none⟩) co rows W) (hi : i < rows.length) (ho : GtO w0 g i co rows row W A c oki) (hg : W.grownBy w1 (Value.slice A row.length c).ownBlock) (hb : Below w0.heap.size w0 w1)
  (hR : Kd.R (Kd.int .i64) 3 w1 w0.heap.size (fun k => oki k ∨ True ∧ W.heap.size ≤ k) v1 x') : GtI w0 mb kn D (some ⟨g, 0, none⟩) co (rows.set i x') (w1.setCell ⟨g, i, none⟩ v1) := by
 have hH := Kd.H_grown (Kd.H_widen ho.rest) hg (fun k e => .inl (ho.cont.1 k e))
 have h0 : (0 : Int) ≤ (i : Int) := by omega
 have h1 : (i : Int) < (rows.length : Int) := by omega
 obtain ⟨_, _, hraw, _, _, hcc, _⟩ := Kd.H_raw hH h0 h1
 have hS := Kd.S_seg0 hH h0 h1 (seg := [v1]) (j := 0) (show 1 ≤ 1 from by decide) (x' := x') (Kd.M_row hR) (fun _ hk => hk)
 have e1 : w1.setCells g ((i : Int).toNat * kInts.sz + 0) [v1] = w1.setCell ⟨g, i, none⟩ v1 := by
  rw [show kInts.sz = 1 from rfl, Nat.mul_one, Nat.add_zero, Int.toNat_natCast]
  rfl
 rw [e1, Int.toNat_natCast] at hS
 have hgl : w0.heap.size ≤ g := Kd.S_base h.tab g (by simp [Value.ownBlock])
 have m1 : MapAs w1 132 mb kn D := h.mp.kept hg (fun e => by
  obtain ⟨cs, hcs⟩ := Kd.R_typed ho.cont mb e.symm
  exact mapAs_ne h.mp hcs rfl)
 have m2 : MapAs (w1.setCell ⟨g, i, none⟩ v1) 132 mb kn D := m1.kept hS.2 (fun e => by
  obtain ⟨cs, hcs⟩ := Kd.R_typed hraw g (by simp [Value.ownBlock])
  injection e with e
  exact mapAs_ne m1 hcs e)
 have hl : (rows.set i x').length = rows.length := List.length_set ..
 exact ⟨by rw [hl]; exact hS.1, m2, h.mbl, below_set hb hgl⟩
end
theorem infoRow : (Tryz.prog.info? 68).map (fun i => (i.zero, i.size, i.bytes)) = some (some (.slice none 0 0), 1, 24) := by kernel_rfl
theorem gt_start (w : World) : GtI w (w.heap.size + 1) 0 (.map []) (some ⟨w.heap.size, 0, none⟩) 0 [] ((w.alloc (.cells #[] 68)).alloc (.map #[] 0)) := by
 refine ⟨?_, ?_, by omega, below_alloc (below_alloc (Below.refl _ _) _) _⟩
 ·have h1 : (w.alloc (.cells #[] 68)).heap[w.heap.size]? = some (.cells #[] 68 (0, 0)) := heap_alloc_new _ _
  exact Kd.S_below (Kd.S_bare ⟨fun _ _ => trivial, [], ⟨rfl, .inr ⟨w.heap.size, 0, #[], rfl, Nat.le_refl _, h1, Nat.le_refl _, by decide, rfl, rfl⟩⟩, ⟨rfl, fun j p hj => by simp at hj⟩⟩) (below_alloc (Below.refl _ _) _)
 ·have := World.ownsMap_made (H := Unit) (w.alloc (.cells #[] 68)) Tryz.prog 132 (plainElem Tryz.prog 3)
  rw [alloc_size] at this
  exact this
def rowsOf (l hs : List Mv) : List (List Int) := hs.map (gIdx l l.length)
def GatherAt (l : List Mv) (w : World) (e : Ending) (w' : World) : Prop := Below w.heap.size w w' ∧ ∃ (hs : List Mv) (D : DataW Unit) (A1 : Option Addr) (c1 : Nat), e = .returned (.slice A1 hs.length c1) ∧ Kd.S kInts 68 w' w.heap.size (fun _ => True) (.slice A1 hs.length c1) (rowsOf l hs) ∧ GaI l l.length hs D ∧ hs.length ≤ l.length
set_option maxHeartbeats 8000000 in
set_option maxRecDepth 100000 in
theorem gather_walk (A : Option Addr) (c : Nat) (l : List Mv) (w : World) (hr : Kd.C kMv w A l.length l) (hw : ∀ x, x ∈ l → WfM x) (hl : l.length ≤ 100000) :
  Calls Tryz.prog 70 #[.slice A l.length c, .func (.func 71) #[] #[]] w (GatherAt l w) := by
 have HR := zh hr
 have HW := zh hw
 have hu := Tryz.underlying76
 have hu2 := Tryz.underlying132
 have hmm := @run_makeMap Tryz.prog
 clear hr hw
 go_enter Tryz.func70, Tryz.ntmps70
 go_wp2
 have HX := zh (gt_start w)
 generalize (w.alloc (.cells #[] 68)).alloc (.map #[] 0) = ws at HX ⊢
 go_loopg [5, 16] (l.length + 1) (fun k ov iv W => ∃ (i : Nat) (hs : List Mv) (D : DataW Unit) (kn : Nat) (Ao : Option Addr) (co : Nat), i ≤ l.length ∧ ov = .slice Ao hs.length co ∧ iv = .int .i64 i ∧ k = l.length + 1 - i ∧ Hid (GtI w (w.heap.size + 1) kn D Ao co (hs.map (gIdx l i)) W ∧ GaI l i hs D ∧ hs.length ≤ i ∧ kn ≤ i))
 case atStart => exact ⟨0, [], .map [], 0, _, _, Nat.zero_le _, rfl, rfl, rfl, zh ⟨HX.out, GaI.zero l, Nat.le_refl _, Nat.le_refl _⟩⟩
 case round =>
  obtain ⟨i, hs, D, kn, Ao, co, hi, rfl, rfl, rfl, HL⟩ := hrel
  clear HX hmm
  by_cases hlt : i < l.length
  ·have i0 : (0 : Int) ≤ (i : Int) := by omega
   have i1 : (i : Int) < (l.length : Int) := by omega
   obtain ⟨ad, ea, y0, y1, y2⟩ := at_T76 (Kd.C_below HR.out HL.out.1.low) (i : Int) i0 i1
   subst ea
   obtain ⟨X, hX⟩ : ∃ X, X = mvAt l i := ⟨_, rfl⟩
   have hX2 : rd_T76 l (i : Int) = X := by rw [hX]; rfl
   rw [Int.toNat_natCast, hX2] at y0 y1 y2
   have HXE := zh hX
   have HXW : Hid (WfM X) := zh (HW.out X (by rw [hX]; exact mvAt_mem hlt))
   have HKO := zh (pairKeyOf X.f0 X.f1 HXW.out.1 HXW.out.2)
   have HLN := zh (And.intro hl (And.intro HL.out.2.2.1 HL.out.2.2.2))
   clear hX hX2
   cases hn : hs.any (fun y => sameK y X) with
   |true =>
    obtain ⟨y, hy, hyx⟩ := List.any_eq_true.1 hn
    obtain ⟨j, hj⟩ := List.getElem?_of_mem hy
    have hjl : j < hs.length := (List.getElem?_eq_some_iff.1 hj).1
    have HY := zh (And.intro hj (And.intro hyx hn))
    have HHS : Hid (Maps.has D (slotKey X.f0 X.f1) = true) := zh (by rw [HL.out.2.1.has X HXW.out, hn])
    have HAT : Hid (D.atKey (slotKey X.f0 X.f1) (.lit (.int .i64 0)) = .lit (.int .i64 j)) := zh (by
     have := HL.out.2.1.atK j y hj
     rw [(sameK_iff.1 hyx).1, (sameK_iff.1 hyx).2] at this
     exact this)
    clear hy hyx hj hn
    have j0 : (0 : Int) ≤ (j : Int) := by omega
    have j1 : (j : Int) < (hs.length : Int) := by omega
    have hjm : j < (hs.map (gIdx l i)).length := by rw [List.length_map]; exact hjl
    obtain ⟨g, rfl⟩ := HL.out.1.form (Nat.lt_of_le_of_lt (Nat.zero_le _) hjm)
    have HJM := zh hjm
    obtain ⟨row, hrow⟩ : ∃ row, row = gIdx l i y := ⟨_, rfl⟩
    have HROW : Hid (row = gIdx l i y ∧ (hs.map (gIdx l i))[j]? = some row ∧ row.length ≤ i) := zh ⟨hrow, by rw [List.getElem?_map, HY.out.1, hrow]; rfl, by rw [hrow]; exact gIdx_len l i y⟩
    obtain ⟨Ar, cr, oki, hop⟩ := HL.out.1.open_ HROW.out.2.1
    have HOP := zh hop
    clear hop hrow hjm
    have HLE : Hid ((row.length + 1) * 8 ≤ 140737488355328) := zh (by have := HROW.out.2.2; have := HLN.out.1; omega)
    go_wp2_with (first
     |(go_at_call 71; (with_reducible refine (key_walk X _).mono ?_); rintro e w1 ⟨rfl, hb⟩; have HI1 := zh ((HL.out.1.below (below_alloc (Below.refl _ _) (.cells #[.int .i64 X.f0, .int .i64 X.f1, .int .i64 X.f2] 76))).below hb); have HOP1 := zh ((HOP.out.moved (below_alloc (Below.refl _ _) (.cells #[.int .i64 X.f0, .int .i64 X.f1, .int .i64 X.f2] 76))).moved hb); clear hb)
     |(at_lookup; refine wpList_lookup_own_ok_int _ rfl _ _ 154 rfl 132 3 .i64 pairLaw Tryz.underlying154 Tryz.underlying3 (Tryz.zeroValue3 _) (w.heap.size + 1) kn D rfl (HI1.out.below (below_alloc (Below.refl _ _) _)).mp (.agg #[.int .i64 X.f0, .int .i64 X.f1]) (slotKey X.f0 X.f1) (by first | rfl | simp) HKO.out ?_; intro cc hcc hwc; rw [HHS.out]; obtain rfl : cc = (j : Int) := (by have h9 := hcc; rw [HAT.out] at h9; injection h9 with h9; injection h9 with _ h9; exact h9.symm); have HI2 := zh (HI1.out.below (below_alloc (Below.refl _ _) (.cells #[.int .i64 X.f0, .int .i64 X.f1] 132))); have HOP2 := zh (HOP1.out.moved (below_alloc (Below.refl _ _) (.cells #[.int .i64 X.f0, .int .i64 X.f1] 132))); generalize w1.alloc (.cells #[.int .i64 X.f0, .int .i64 X.f1] 132) = w2 at HI2 HOP2 ⊢; have hat0 := HOP2.out.at_; clear hcc hwc)
     |((with_reducible refine gate_dst (N := 48) rfl ?_); go_loud (refine Kd.R_append (Kd.int .i64) (w0 := w) w.heap.size rfl (.tmp 45) (.tmp 47) 68 3 (.int .i64 0) 8 rfl Tryz.underlying68 infoNum rfl (by decide) (by decide) (.slice Ar row.length cr) row (i : Int) [.int .i64 (i : Int)] (fun k => oki k ∨ True ∧ w2.heap.size ≤ k) (fun _ => False) rfl rfl ?aP (fun _ hk => hk.elim) ?aF ?aO ?aB ?aS ?aL ?_; (case aP => exact rfl); (case aF => exact fun _ hk => .inr ⟨trivial, hk⟩); (case aO => exact Kd.R_mono HOP2.out.cont (fun _ hk => .inl hk)); (case aB => exact HI2.out.low); (case aS => exact HI2.out.low.size); (case aL => exact HLE.out); intro v1 w9 ho hb hg hat; obtain ⟨A9, c9, rfl⟩ := Kd.R_slice ho; rw [show (row ++ [(i : Int)]).length = row.length + 1 by simp] at ho ⊢; obtain ⟨zc, zf⟩ := HOP2.out.spot HJM.out hg; have HF := zh (HI2.out.close HJM.out HOP2.out hg hb ho); clear ho hb hg hat)))
    go_roundg (l.length - i)
    case measure => omega
    case rel => exact ⟨i + 1, hs, D, kn, _, _, by omega, rfl, by go_num, by omega, zh (by
     have h9 := HL.out.2.1.had HY.out.1 (by rw [← HXE.out]; exact HY.out.2.1)
     have h8 := HF.out
     have h7 := h9.2
     rw [← HROW.out.1] at h7
     rw [h7] at h8
     exact ⟨h8, h9.1, by have := HLN.out; omega, by have := HLN.out; omega⟩)⟩
   |false =>
    have HN := zh hn
    have HHS : Hid (Maps.has D (slotKey X.f0 X.f1) = false) := zh (by rw [HL.out.2.1.has X HXW.out, hn])
    clear hn
    obtain ⟨h, hh⟩ : ∃ h, hs.length = h := ⟨_, rfl⟩
    have HHL : Hid (hs.length = h ∧ (hs.map (gIdx l i)).length = h) := zh ⟨hh, by rw [List.length_map, hh]⟩
    have h1 : h ≤ 100000 := by have := HLN.out; omega
    have HWF : Hid ((Lit.int .i64 (h : Int)).wf = true) := zh (small_wf (by omega) (by omega))
    rw [hh]
    clear hh
    go_wp2_with (first
     |(go_at_call 71; (with_reducible refine (key_walk X _).mono ?_); rintro e w1 ⟨rfl, hb⟩; have HI1 := zh ((HL.out.1.below (below_alloc (Below.refl _ _) (.cells #[.int .i64 X.f0, .int .i64 X.f1, .int .i64 X.f2] 76))).below hb); clear hb)
     |(at_lookup; refine wpList_lookup_own_ok_int _ rfl _ _ 154 rfl 132 3 .i64 pairLaw Tryz.underlying154 Tryz.underlying3 (Tryz.zeroValue3 _) (w.heap.size + 1) kn D rfl (HI1.out.below (below_alloc (Below.refl _ _) _)).mp (.agg #[.int .i64 X.f0, .int .i64 X.f1]) (slotKey X.f0 X.f1) (by first | rfl | simp) HKO.out ?_; intro cc hcc hwc; rw [HHS.out]; have HIM := zh (HI1.out.below (below_alloc (Below.refl _ _) (.cells #[.int .i64 X.f0, .int .i64 X.f1] 132))); have k0 : (w1.alloc (.cells #[.int .i64 X.f0, .int .i64 X.f1] 132)).cell? ⟨w1.heap.size, 0, none⟩ = some (.int .i64 X.f0) := (by simp); have k1 : (w1.alloc (.cells #[.int .i64 X.f0, .int .i64 X.f1] 132)).cell? ⟨w1.heap.size, 1, none⟩ = some (.int .i64 X.f1) := (by simp); generalize w1.alloc (.cells #[.int .i64 X.f0, .int .i64 X.f1] 132) = wm at HIM k0 k1 ⊢; clear hcc hwc)
     |(at_mapUpdate; refine wpList_mapUpdate_own _ rfl _ _ _ 154 rfl 132 3 pairLaw Tryz.underlying154 _ (w.heap.size + 1) kn D rfl HIM.out.mp (by have := HLN.out; unfold maxLen; omega) (.agg #[.int .i64 X.f0, .int .i64 X.f1]) (.int .i64 (h : Int)) (slotKey X.f0 X.f1) (by first | rfl | simp) rfl HKO.out _ [] (plainElem_int Tryz.underlying3 HWF.out) ?_; intro w2 ho hg; have HI2 := zh (HIM.out.put ho hg); clear ho hg)
     |((with_reducible refine gate_dst (N := 39) rfl ?_); go_loud (refine Kd.S_append kInts (w0 := w) w.heap.size rfl (.tmp 37) (.tmp 38) 90 68 (.slice none 0 0) 24 rfl Tryz.underlying90 infoRow rfl (by decide) (by decide) (.slice Ao h co) (hs.map (gIdx l i)) [] [.slice none 0 0] (fun _ => True) (fun _ => False) rfl rfl ?aP (fun _ hk => hk.elim) ?aF ?aO ?aB ?aS ?aL ?_; (case aP => exact ⟨_, rfl, Kd.R_nil _ _ _ _ _⟩); (case aF => exact fun _ _ => trivial); (case aO => have h9 := HI2.out.tab; rw [HHL.out.2] at h9; exact Kd.S_mono h9 (fun _ _ => ⟨trivial, fun e => e⟩)); (case aB => exact HI2.out.low); (case aS => exact HI2.out.low.size); (case aL => rw [HHL.out.2]; exact Nat.le_trans (Nat.mul_le_mul_right 24 (Nat.succ_le_succ h1)) (by decide)); intro v1 w3 ho hb hg hat; rw [← HHL.out.2] at hg; obtain ⟨A1, c1, rfl, hI3⟩ := HI2.out.more (Below.refl _ _) ho hb hg; rw [HHL.out.2]; have hjm : h < (hs.map (gIdx l i) ++ [([] : List Int)]).length := (by rw [List.length_append, HHL.out.2]; exact Nat.lt_succ_self h); obtain ⟨g, rfl⟩ := hI3.form (Nat.lt_of_le_of_lt (Nat.zero_le _) hjm); have HI3 := zh hI3; have HJM := zh hjm; obtain ⟨Ar, cr, oki, hop⟩ := hI3.open_ (i := h) (row := []) (by rw [List.getElem?_append_right (by rw [HHL.out.2]; exact Nat.le_refl _), HHL.out.2, Nat.sub_self]; rfl); have HOP := zh hop; have hat0 : w3.cell? ⟨g, h, none⟩ = some (.slice Ar 0 cr) := hop.at_; have j0 : (0 : Int) ≤ (h : Int) := (by omega); have j1 : (h : Int) < ((h + 1 : Nat) : Int) := (by omega); clear ho hb hg hat hop hI3 hjm))
     |((with_reducible refine gate_dst (N := 48) rfl ?_); go_loud (refine Kd.R_append (Kd.int .i64) (w0 := w) w.heap.size rfl (.tmp 45) (.tmp 47) 68 3 (.int .i64 0) 8 rfl Tryz.underlying68 infoNum rfl (by decide) (by decide) (.slice Ar 0 cr) ([] : List Int) (i : Int) [.int .i64 (i : Int)] (fun k => oki k ∨ True ∧ w3.heap.size ≤ k) (fun _ => False) rfl rfl ?aP (fun _ hk => hk.elim) ?aF ?aO ?aB ?aS ?aL ?_; (case aP => exact rfl); (case aF => exact fun _ hk => .inr ⟨trivial, hk⟩); (case aO => exact Kd.R_mono HOP.out.cont (fun _ hk => .inl hk)); (case aB => exact HI3.out.low); (case aS => exact HI3.out.low.size); (case aL => exact (by decide)); intro v1 w9 ho hb hg hat; obtain ⟨A9, c9, rfl⟩ := Kd.R_slice ho; rw [show (([] : List Int) ++ [(i : Int)]).length = 0 + 1 by simp] at ho ⊢; obtain ⟨zc, zf⟩ := HOP.out.spot HJM.out hg; have HF := zh (HI3.out.close HJM.out HOP.out hg hb ho); clear ho hb hg hat)))
    go_roundg (l.length - i)
    case measure => omega
    case rel => exact ⟨i + 1, hs ++ [X], D.put (slotKey X.f0 X.f1) (.lit (.int .i64 (h : Int))), kn + 1, _, _, by omega, by rw [List.length_append, HHL.out.1]; rfl, by go_num, by omega, zh (by
     have h9 := HL.out.2.1.put (by rw [← HXE.out]; exact HXW.out) (fun y hy => by
      obtain ⟨k, hk, e⟩ := HL.out.2.1.mem y hy
      rw [e]
      exact HW.out _ (mvAt_mem (by omega))) (by rw [← HXE.out]; exact HN.out)
     rw [← HXE.out, HHL.out.1] at h9
     have h8 := HF.out
     rw [h9.2] at h8
     exact ⟨h8, h9.1, by rw [List.length_append, HHL.out.1]; have := HLN.out; have := HHL.out.1; simp; omega, by have := HLN.out; omega⟩)⟩
  ·have e : i = l.length := by omega
   subst e
   go_wp2
   go_ret
   exact ⟨HL.out.1.low, hs, D, _, _, rfl, by have h9 := HL.out.1.tab; rw [List.length_map] at h9; exact h9, HL.out.2.1, HL.out.2.2.1⟩
def rowF (n : Nat) (f : Nat → Int) : List Int := (List.range n).map f
def mat (h n : Nat) (f : Nat → Nat → Int) : List (List Int) := (List.range h).map fun a => rowF n (f a)
def updF (f : Nat → Nat → Int) (a v : Nat) (x : Int) : Nat → Nat → Int := fun b u => if b = a ∧ u = v then x else f b u
theorem rowF_len (n : Nat) (f : Nat → Int) : (rowF n f).length = n := by unfold rowF; rw [List.length_map, List.length_range]
theorem mat_len (h n : Nat) (f : Nat → Nat → Int) : (mat h n f).length = h := by unfold mat; rw [List.length_map, List.length_range]
theorem rowF_get {n : Nat} {f : Nat → Int} {v : Nat} (h : v < n) : (rowF n f)[v]? = some (f v) := by
 unfold rowF
 rw [List.getElem?_map, List.getElem?_range h]
 rfl
theorem mat_get {h n : Nat} {f : Nat → Nat → Int} {a : Nat} (ha : a < h) : (mat h n f)[a]? = some (rowF n (f a)) := by
 unfold mat
 rw [List.getElem?_map, List.getElem?_range ha]
 rfl
theorem rowF_set {n : Nat} {f : Nat → Int} {v : Nat} (x : Int) : (rowF n f).set v x = rowF n (fun u => if u = v then x else f u) := by
 refine List.ext_getElem? fun t => ?_
 by_cases ht : t < n
 ·rw [rowF_get ht]
  by_cases e : v = t
  ·subst e
   rw [List.getElem?_set_self (by rw [rowF_len]; exact ht), if_pos rfl]
  ·rw [List.getElem?_set_ne e, rowF_get ht, if_neg (Ne.symm e)]
 ·rw [List.getElem?_eq_none (by rw [List.length_set, rowF_len]; omega), List.getElem?_eq_none (by rw [rowF_len]; omega)]
theorem mat_set {h n : Nat} {f : Nat → Nat → Int} {a v : Nat} (x : Int) : (mat h n f).set a ((rowF n (f a)).set v x) = mat h n (updF f a v x) := by
 refine List.ext_getElem? fun t => ?_
 by_cases ht : t < h
 ·rw [mat_get ht]
  by_cases e : a = t
  ·subst e
   rw [List.getElem?_set_self (by rw [mat_len]; exact ht), rowF_set]
   congr 2
   funext u
   unfold updF
   by_cases c : u = v
   ·rw [if_pos c, if_pos ⟨rfl, c⟩]
   ·rw [if_neg c, if_neg (fun e => c e.2)]
  ·rw [List.getElem?_set_ne e, mat_get ht]
   congr 2
   funext u
   unfold updF
   rw [if_neg (fun e2 => e e2.1.symm)]
 ·rw [List.getElem?_eq_none (by rw [List.length_set, mat_len]; omega), List.getElem?_eq_none (by rw [mat_len]; omega)]
theorem mat_congr {h n : Nat} {f g : Nat → Nat → Int} (e : ∀ a v, a < h → v < n → f a v = g a v) : mat h n f = mat h n g := by
 refine List.map_congr_left fun a ha => ?_
 exact List.map_congr_left fun v hv => e a v (List.mem_range.1 ha) (List.mem_range.1 hv)
structure MxI (w0 : World) (g cT h n : Nat) (f : Nat → Nat → Int) (W : World) : Prop where
 tab : Kd.S kInts 68 W w0.heap.size (fun _ => True) (.slice (some ⟨g, 0, none⟩) h cT) (mat h n f)
 low : Below w0.heap.size w0 W
section
variable {w0 : World} {g cT h n : Nat} {f : Nat → Nat → Int} {W W1 : World}
theorem MxI.below (k : MxI w0 g cT h n f W) (hb : Below W.heap.size W W1) : MxI w0 g cT h n f W1 := ⟨Kd.S_below k.tab hb, below_step k.low hb⟩
theorem MxI.congr (k : MxI w0 g cT h n f W) {f2 : Nat → Nat → Int} (e : ∀ a v, a < h → v < n → f a v = f2 a v) : MxI w0 g cT h n f2 W := ⟨by rw [← mat_congr e]; exact k.tab, k.low⟩
theorem MxI.cell (k : MxI w0 g cT h n f W) {a v : Nat} (ha : a < h) (hv : v < n) : ∃ gr c, gr ≠ g ∧ W.cell? ⟨g, a, none⟩ = some (.slice (some ⟨gr, 0, none⟩) n c) ∧ W.cell? ⟨gr, v, none⟩ = some (.int .i64 (f a v)) ∧ W.frozen? ⟨gr, v, none⟩ = false ∧
  ∀ W1, Below W.heap.size W W1 → ∀ x : Int, MxI w0 g cT h n (updF f a v x) (W1.setCell ⟨gr, v, none⟩ (.int .i64 x)) := by
 have key : ∀ W1, Below W.heap.size W W1 → ∃ gr c, gr ≠ g ∧ W1.cell? ⟨g, a, none⟩ = some (.slice (some ⟨gr, 0, none⟩) n c) ∧ W1.cell? ⟨gr, v, none⟩ = some (.int .i64 (f a v)) ∧ W1.frozen? ⟨gr, v, none⟩ = false ∧ ∀ x : Int, MxI w0 g cT h n (updF f a v x) (W1.setCell ⟨gr, v, none⟩ (.int .i64 x)) := fun W1 hW => by
  have k1 := k.below hW
  have hl := mat_len h n f
  have h0 : (0 : Int) ≤ (a : Int) := by omega
  have h1 : (a : Int) < (h : Int) := by omega
  obtain ⟨oki, ce, hcl, hM, hcc, hfr, hok, hH⟩ := Kd.S_elem k1.tab [] (a : Int) h0 h1
  obtain ⟨vv, rfl, hR⟩ := hM
  obtain ⟨_, _, hraw, _, _, _, _⟩ := Kd.H_raw hH h0 h1
  obtain ⟨cs, hcs⟩ := Kd.R_typed hraw g (by simp [Value.ownBlock])
  have hz := hcc 0 _ rfl
  simp only [Nat.add_zero, Int.toNat_natCast, show kInts.sz = 1 from rfl, Nat.mul_one] at hz hR hH
  rw [List.getD_eq_getElem?_getD, mat_get ha] at hR
  have hrl : (rowF n (f a)).length = n := rowF_len n (f a)
  obtain ⟨gr, c, e1, hbg, -, cs2, hcs2⟩ := Kd.R_form hR (by show 0 < (rowF n (f a)).length; omega)
  have hne : gr ≠ g := fun e => by
   rw [e, hcs] at hcs2
   injection hcs2 with hcs2
   injection hcs2 with _ e9
   exact absurd e9 (by decide)
  rw [show ((some (rowF n (f a))).getD ([] : List Int)) = rowF n (f a) from rfl] at hR e1
  rw [hrl] at e1
  subst e1
  have hcv := Kd.R_celln (0 : Int) hR (v : Int) (by omega) (by omega)
  rw [Int.toNat_natCast] at hcv
  have ev : rdOf (0 : Int) (rowF n (f a)) (v : Int) = f a v := by
   unfold rdOf
   rw [Int.toNat_natCast, List.getD_eq_getElem?_getD, rowF_get hv]
   rfl
  rw [ev] at hcv
  refine ⟨gr, c, hne, hz, hcv.1, hcv.2, fun x => ?_⟩
  obtain ⟨p1, p2⟩ := Kd.R_putg hR (v : Int) x
  rw [Int.toNat_natCast] at p1 p2
  have hS := Kd.H_back (Kd.H_grown hH p2 (fun j e => by injection e with e; rw [← e]; exact hR.1 gr rfl)) (Kd.M_row p1) (fun _ hj => hj)
  rw [Int.toNat_natCast, mat_set x] at hS
  exact ⟨hS, k1.low.setCell hbg _⟩
 obtain ⟨gr, c, h0, h1, h2, h3, -⟩ := key W (Below.refl _ _)
 refine ⟨gr, c, h0, h1, h2, h3, fun W1 hW x => ?_⟩
 obtain ⟨gr2, c2, q0, q1, q2, q3, q4⟩ := key W1 hW
 have := pw_cell_below hW h1
 rw [q1] at this
 injection this with this
 injection this with this
 injection this with this
 injection this with this
 subst this
 exact q4 x
end
def matPre (h n i : Nat) : List (List Int) := (List.range h).map fun a => if a < i then rowF n (fun _ => 0) else []
theorem matPre_len (h n i : Nat) : (matPre h n i).length = h := by unfold matPre; rw [List.length_map, List.length_range]
theorem matPre_zero (h n : Nat) : matPre h n 0 = List.replicate h [] := by
 unfold matPre
 refine List.ext_getElem? fun t => ?_
 by_cases ht : t < h
 ·rw [List.getElem?_map, List.getElem?_range ht, List.getElem?_replicate, if_pos ht]
  rfl
 ·rw [List.getElem?_eq_none (by rw [List.length_map, List.length_range]; omega), List.getElem?_eq_none (by rw [List.length_replicate]; omega)]
theorem matPre_get {h n i a : Nat} (ha : a < h) : (matPre h n i)[a]? = some (if a < i then rowF n (fun _ => 0) else []) := by
 unfold matPre
 rw [List.getElem?_map, List.getElem?_range ha]
 rfl
theorem matPre_next {h n i : Nat} (hi : i < h) : (matPre h n i).set i (rowF n (fun _ => 0)) = matPre h n (i + 1) := by
 refine List.ext_getElem? fun t => ?_
 by_cases ht : t < h
 ·rw [matPre_get ht]
  by_cases e : i = t
  ·subst e
   rw [List.getElem?_set_self (by rw [matPre_len]; exact ht), if_pos (by omega)]
  ·rw [List.getElem?_set_ne e, matPre_get ht]
   by_cases c : t < i
   ·rw [if_pos c, if_pos (by omega)]
   ·rw [if_neg c, if_neg (by omega)]
 ·rw [List.getElem?_eq_none (by rw [List.length_set, matPre_len]; omega), List.getElem?_eq_none (by rw [matPre_len]; omega)]
theorem matPre_end (h n : Nat) : matPre h n h = mat h n (fun _ _ => 0) := by
 refine List.map_congr_left fun a ha => ?_
 rw [if_pos (List.mem_range.1 ha)]
theorem rowF_zero (n : Nat) : rowF n (fun _ => 0) = List.replicate n (0 : Int) := by
 refine List.ext_getElem? fun t => ?_
 by_cases ht : t < n
 ·rw [rowF_get ht, List.getElem?_replicate, if_pos ht]
 ·rw [List.getElem?_eq_none (by rw [rowF_len]; omega), List.getElem?_eq_none (by rw [List.length_replicate]; omega)]
theorem row_put {w0 W w1 : World} {g cT h n i : Nat} {v1 : Value} (hS : Kd.S kInts 68 W w0.heap.size (fun _ => True) (.slice (some ⟨g, 0, none⟩) h cT) (matPre h n i)) (hi : i < h) (hg : W.grownBy w1 none) (hR : Kd.R (Kd.int .i64) 3 w1 w0.heap.size (fun k => W.heap.size ≤ k) v1 (rowF n (fun _ => 0))) :
  (∃ u, w1.cell? ⟨g, i, none⟩ = some u) ∧ w1.frozen? ⟨g, i, none⟩ = false ∧ Kd.S kInts 68 (w1.setCell ⟨g, i, none⟩ v1) w0.heap.size (fun _ => True) (.slice (some ⟨g, 0, none⟩) h cT) (matPre h n (i + 1)) := by
 obtain ⟨oki, ce, hl, hM, hcc, hfr, hok, hH⟩ := Kd.S_elem hS [] (i : Int) (by omega) (by omega)
 obtain ⟨u, hu⟩ : ∃ u, ce = [u] := by
  match ce, hl with
  |[u], _ => exact ⟨u, rfl⟩
 subst hu
 have hH2 := Kd.H_grown (Kd.H_widen hH) hg (fun k e => by cases e)
 have h0 : (0 : Int) ≤ (i : Int) := by omega
 have h1 : (i : Int) < (h : Int) := by omega
 obtain ⟨_, _, hraw, _, _, hcc2, _⟩ := Kd.H_raw hH2 h0 h1
 obtain ⟨cs, hcs⟩ := Kd.R_typed hraw g (by simp [Value.ownBlock])
 have hS2 := Kd.S_seg0 hH2 h0 h1 (seg := [v1]) (j := 0) (show 1 ≤ 1 from by decide) (x' := rowF n (fun _ => 0)) (Kd.M_row (Kd.R_mono hR (ok' := fun k => oki k ∨ True ∧ W.heap.size ≤ k) (fun k hk => .inr ⟨trivial, hk⟩))) (fun _ hk => hk)
 have e1 : w1.setCells g ((i : Int).toNat * kInts.sz + 0) [v1] = w1.setCell ⟨g, i, none⟩ v1 := by
  rw [show kInts.sz = 1 from rfl, Nat.mul_one, Nat.add_zero, Int.toNat_natCast]
  rfl
 rw [e1, Int.toNat_natCast, matPre_next hi] at hS2
 have h9 := hcc2 0 _ rfl
 rw [show kInts.sz = 1 from rfl, Nat.mul_one, Nat.add_zero, Int.toNat_natCast] at h9
 exact ⟨⟨u, h9⟩, blk_frozen hcs i, hS2.1⟩
end Go.Proofs.YtcgdloldkcmhnaaGreat.H
end
section
namespace Go.Proofs.YtcgdloldkcmhnaaGreat.H
open Go Go.RowKit Go.Proofs.YtcgdloldkcmhnaaGreat.PrintC Go.Proofs.YtcgdloldkcmhnaaGreat.PrintE Go.Proofs.YtcgdloldkcmhnaaGreatW.PrintWords Go.Proofs.YtcgdloldkcmhnaaGreatW.PrintLast Go.Proofs.YtcgdloldkcmhnaaGreatW.PrintMore Go.Proofs.YtcgdloldkcmhnaaGreat.Flow
set_option linter.unusedVariables false
set_option linter.unusedSimpArgs false
def g0 (p : List Grp) (v : Nat) : Int := gS (fun g => decide (g.f0 = (v : Int))) p
def d1 (l : List Arc) (a v : Nat) (x : Mv) : Int := (if (arcOf l x).f1 = v ∧ x.f1 + (arcOf l x).f3 = a then x.f2 else 0) - (if (arcOf l x).f0 = v ∧ x.f1 = a then x.f2 else 0)
def dS (l : List Arc) (m : List Mv) (a v : Nat) : Int := sumL (m.map (d1 l a v))
def rawF (l : List Arc) (p : List Grp) (m : List Mv) (a v : Nat) : Int := (if a = 0 then g0 p v else 0) + dS l m a v
theorem stock1_zero {l : List Arc} {x : Mv} (v : Nat) (h0 : 0 ≤ x.f1) (h1 : 0 ≤ (arcOf l x).f3) : stock1 l v 0 x = d1 l 0 v x := by
 unfold stock1 d1
 have e1 : ((arcOf l x).f1 = v ∧ x.f1 + (arcOf l x).f3 ≤ 0) ↔ ((arcOf l x).f1 = v ∧ x.f1 + (arcOf l x).f3 = ((0 : Nat) : Int)) := by omega
 have e2 : ((arcOf l x).f0 = v ∧ x.f1 ≤ 0) ↔ ((arcOf l x).f0 = v ∧ x.f1 = ((0 : Nat) : Int)) := by omega
 simp only [e1, e2]
theorem stock1_next (l : List Arc) (x : Mv) (v a : Nat) : stock1 l v ((a + 1 : Nat) : Int) x = stock1 l v a x + d1 l (a + 1) v x := by
 unfold stock1 d1
 have key : ∀ (c : Prop) [Decidable c] (t N : Int), (if c ∧ t ≤ ((a + 1 : Nat) : Int) then N else 0) = (if c ∧ t ≤ (a : Int) then N else 0) + (if c ∧ t = ((a + 1 : Nat) : Int) then N else 0) := fun c _ t N => by
  by_cases h : c
  ·by_cases h1 : t ≤ (a : Int)
   ·rw [if_pos ⟨h, by omega⟩, if_pos ⟨h, h1⟩, if_neg (fun e => by omega)]
    omega
   ·by_cases h2 : t = ((a + 1 : Nat) : Int)
    ·rw [if_pos ⟨h, by omega⟩, if_neg (fun e => h1 e.2), if_pos ⟨h, h2⟩]
     omega
    ·rw [if_neg (fun e => by omega), if_neg (fun e => h1 e.2), if_neg (fun e => h2 e.2)]
     omega
  ·rw [if_neg (fun e => h e.1), if_neg (fun e => h e.1), if_neg (fun e => h e.1)]
   omega
 have k1 := key ((arcOf l x).f1 = v) (x.f1 + (arcOf l x).f3) x.f2
 have k2 := key ((arcOf l x).f0 = v) x.f1 x.f2
 rw [k1, k2]
 omega
theorem stockV_zero {l : List Arc} (v : Nat) : ∀ {m : List Mv}, (∀ x, x ∈ m → 0 ≤ x.f1 ∧ 0 ≤ (arcOf l x).f3) → stockV l m v 0 = dS l m 0 v
 |[], _ => rfl
 |x :: m, h => by
  have ih := stockV_zero v (m := m) (fun y hy => h y (List.mem_cons_of_mem _ hy))
  have h1 := h x (List.mem_cons_self ..)
  have e := stock1_zero (l := l) (x := x) v h1.1 h1.2
  unfold stockV dS at ih ⊢
  rw [List.map_cons, List.map_cons, sumL, sumL, ih, e]
theorem stockV_next (l : List Arc) (v a : Nat) : ∀ m : List Mv, stockV l m v ((a + 1 : Nat) : Int) = stockV l m v a + dS l m (a + 1) v
 |[] => rfl
 |x :: m => by
  have ih := stockV_next l v a m
  have e := stock1_next l x v a
  unfold stockV dS at ih ⊢
  rw [List.map_cons, List.map_cons, List.map_cons, sumL, sumL, sumL, ih, e]
  omega
theorem dS_snoc (l : List Arc) (a v : Nat) {m : List Mv} {i : Nat} (h : i < m.length) : dS l (m.take (i + 1)) a v = dS l (m.take i) a v + d1 l a v (mvAt m i) := by
 unfold dS
 rw [mvAt_take h, List.map_append]
 exact sumL_snoc _ _
theorem g0_snoc (v : Nat) {p : List Grp} {i : Nat} (h : i < p.length) : g0 (p.take (i + 1)) v = g0 (p.take i) v + (if (rd_T59 p (i : Int)).f0 = v then (rd_T59 p (i : Int)).f1 else 0) := by
 unfold g0
 rw [gS_take _ h]
 simp only [decide_eq_true_eq]
theorem g0_is (v : Nat) : ∀ {p : List Grp}, (p.map fun g => g.f0).Nodup → (∀ g, g ∈ p → 0 ≤ g.f1) → g0 p v = max (gOf v p) 0
 |[], _, _ => by unfold g0 gS gOf; rfl
 |g :: p, hd, h0 => by
  rw [List.map_cons, List.nodup_cons] at hd
  have ih := g0_is v hd.2 (fun x hx => h0 x (List.mem_cons_of_mem _ hx))
  have h1 := h0 g (List.mem_cons_self ..)
  unfold g0 at ih ⊢
  unfold gS gOf
  by_cases e : g.f0 = v
  ·rw [if_pos (decide_eq_true e), if_pos e, ih]
   have hn : gOf v p < 0 := by
    refine (gOf_neg v (fun x hx => h0 x (List.mem_cons_of_mem _ hx))).2 ?_
    rw [hasK_putGs, List.any_eq_false]
    intro x hx e2
    exact hd.1 (by rw [e]; exact List.mem_map.2 ⟨x, hx, of_decide_eq_true e2⟩)
   omega
  ·rw [if_neg (by rw [decide_eq_false e]; decide), if_neg e, ih]
   omega
theorem stock_zero {l : List Arc} {p : List Grp} {m : List Mv} (v : Nat) (hd : (p.map fun g => g.f0).Nodup) (h0 : ∀ g, g ∈ p → 0 ≤ g.f1) (h : ∀ x, x ∈ m → 0 ≤ x.f1 ∧ 0 ≤ (arcOf l x).f3) : stockK l p m v 0 = rawF l p m 0 v := by
 unfold stockK rawF
 rw [if_pos rfl, g0_is v hd h0, stockV_zero v h]
theorem stock_next (l : List Arc) (p : List Grp) (m : List Mv) (v a : Nat) : stockK l p m v ((a + 1 : Nat) : Int) = stockK l p m v a + rawF l p m (a + 1) v := by
 unfold stockK rawF
 rw [if_neg (by omega), stockV_next]
 omega
theorem g0_bd {n : Nat} {p : List Grp} (hp : GrpsIn n p) (v : Nat) : 0 ≤ g0 p v ∧ g0 p v ≤ p.length * 1048576 := gS_bd _ hp
theorem dS_bd {l : List Arc} {a v : Nat} : ∀ {m : List Mv}, (∀ x, x ∈ m → MvIn l x) → -(m.length * 1099511627776 : Int) ≤ dS l m a v ∧ dS l m a v ≤ m.length * 1099511627776
 |[], _ => by
  show -(0 * 1099511627776 : Int) ≤ 0 ∧ (0 : Int) ≤ 0 * 1099511627776
  decide
 |x :: m, h => by
  have h1 := dS_bd (a := a) (v := v) (m := m) (fun y hy => h y (List.mem_cons_of_mem _ hy))
  have h2 := h x (List.mem_cons_self ..)
  have h3 := h2.n0
  have h4 := h2.n1
  have h5 : -1099511627776 ≤ d1 l a v x ∧ d1 l a v x ≤ 1099511627776 := by
   unfold d1
   split <;> split <;> omega
  unfold dS at h1 ⊢
  rw [List.map_cons, sumL, List.length_cons]
  omega
def accF (l : List Arc) (p : List Grp) (m : List Mv) (t u : Nat) (a v : Nat) : Int := if a ≤ t ∨ (a = t + 1 ∧ v < u) then stockK l p m v a else rawF l p m a v
theorem upd_add (G : Nat → Nat → Int) (a0 u0 : Nat) (N : Int) (a v : Nat) : updF G a0 u0 (G a0 u0 + N) a v = G a v + (if (u0 : Int) = v ∧ (a0 : Int) = a then N else 0) := by
 unfold updF
 by_cases c : a = a0 ∧ v = u0
 ·rw [if_pos c, c.1, c.2, if_pos ⟨rfl, rfl⟩]
 ·rw [if_neg c, if_neg (fun e => c ⟨by omega, by omega⟩)]
  omega
theorem upd_sub (G : Nat → Nat → Int) (a0 u0 : Nat) (N : Int) (a v : Nat) : updF G a0 u0 (G a0 u0 - N) a v = G a v - (if (u0 : Int) = v ∧ (a0 : Int) = a then N else 0) := by
 unfold updF
 by_cases c : a = a0 ∧ v = u0
 ·rw [if_pos c, c.1, c.2, if_pos ⟨rfl, rfl⟩]
 ·rw [if_neg c, if_neg (fun e => c ⟨by omega, by omega⟩)]
  omega
theorem acc_start {l : List Arc} {p : List Grp} {m : List Mv} (hd : (p.map fun g => g.f0).Nodup) (h0 : ∀ g, g ∈ p → 0 ≤ g.f1) (h : ∀ x, x ∈ m → 0 ≤ x.f1 ∧ 0 ≤ (arcOf l x).f3) (a v : Nat) : rawF l p m a v = accF l p m 0 0 a v := by
 unfold accF
 by_cases c : a = 0
 ·subst c
  rw [if_pos (.inl (Nat.le_refl _))]
  exact (stock_zero v hd h0 h).symm
 ·rw [if_neg (by omega)]
theorem acc_turn (l : List Arc) (p : List Grp) (m : List Mv) (t n : Nat) {a v : Nat} (hv : v < n) : accF l p m t n a v = accF l p m (t + 1) 0 a v := by
 unfold accF
 by_cases c : a ≤ t + 1
 ·rw [if_pos (by omega), if_pos (.inl c)]
 ·rw [if_neg (by omega), if_neg (by omega)]
theorem acc_next (l : List Arc) (p : List Grp) (m : List Mv) (t u a v : Nat) : updF (accF l p m t u) (t + 1) u (accF l p m t u (t + 1) u + stockK l p m u t) a v = accF l p m t (u + 1) a v := by
 unfold updF
 by_cases c : a = t + 1 ∧ v = u
 ·rw [if_pos c, c.1, c.2]
  have e1 : accF l p m t u (t + 1) u = rawF l p m (t + 1) u := if_neg (by omega)
  have e2 : accF l p m t (u + 1) (t + 1) u = stockK l p m u ((t + 1 : Nat) : Int) := if_pos (by omega)
  rw [e1, e2, stock_next]
  omega
 ·rw [if_neg c]
  unfold accF
  by_cases d : a ≤ t ∨ (a = t + 1 ∧ v < u)
  ·rw [if_pos d, if_pos (by omega)]
  ·rw [if_neg d, if_neg (by omega)]
theorem rawF_bd {n : Nat} {l : List Arc} {p : List Grp} {m : List Mv} (hp : GrpsIn n p) (hlp : p.length ≤ 1000) (hm : ∀ x, x ∈ m → MvIn l x) (hml : m.length ≤ 100000) (a v : Nat) : -110000000000000000 ≤ rawF l p m a v ∧ rawF l p m a v ≤ 111000000000000000 := by
 have h1 := g0_bd hp v
 have h2 := dS_bd (a := a) (v := v) hm
 unfold rawF
 split <;> omega
theorem stockK_bd {n : Nat} {l : List Arc} {p : List Grp} {m : List Mv} (hp : GrpsIn n p) (hm : ∀ x, x ∈ m → MvIn l x) (hml : m.length ≤ 100000) (v z : Int) : -110000000000000000 ≤ stockK l p m v z ∧ stockK l p m v z ≤ 111000000000000000 := by
 have h1 := gOf_le (v := v) (show (-1 : Int) ≤ 1048576 by decide) (fun g hg => (hp g hg).2.2)
 have h2 := stock_bd (v := v) (z := z) hm
 unfold stockK
 omega
def skT17 : Bool × List (List Nat × List Nat) := (true, [([], []), ([], []), ([1], [1]), ([], []), ([3], [3]), ([2, 4], [2, 4]), ([0, 5], [0, 5]), ([6], [6]), ([], []), ([8], [8]), ([7, 9], [7, 9]), ([10], [10]), ([], []), ([12], [12]), ([11, 13], [11, 13]), ([7, 9, 0, 1, 2, 3, 4, 5, 6, 7, 8, 9, 10, 11, 12, 13, 14], [7, 9]), ([15, 14, 0, 1, 2, 3, 4, 5, 6, 7, 8, 9, 10, 11, 12, 13, 14], [14, 15])])
def StocksAt (n h : Nat) (l : List Arc) (p : List Grp) (m : List Mv) (w : World) (e : Ending) (w' : World) : Prop := ∃ g cT, e = .returned (.slice (some ⟨g, 0, none⟩) (h + 1 : Nat) cT) ∧ MxI w g cT (h + 1) n (fun a v => stockK l p m v a) w'
theorem nat_of {z : Int} (h : 0 ≤ z) : ∃ t : Nat, z = t := ⟨z.toNat, by omega⟩
set_option maxHeartbeats 8000000 in
set_option maxRecDepth 100000 in
theorem stocks_walk (gp n h : Nat) (b : Bool) (A : Option Addr) (c : Nat) (l : List Arc) (Ap : Option Addr) (cp : Nat) (p : List Grp) (Aq : Option Addr) (lq cq : Nat) (bh br kh kr : Nat) (Dh Dr : DataW Unit) (Am : Option Addr) (cm : Nat) (m : List Mv) (w : World)
  (hP : PlI gp (placeCells n b A l.length c Ap p.length cp Aq lq cq bh br) bh br kh kr Dh Dr w) (hr : Kd.C kArc w A l.length l) (hp : Kd.C kGrp w Ap p.length p) (hm : Kd.C kMv w Am m.length m) (hN : NetIn n h l) (hG : GrpsIn n p) (hd : (p.map fun g => g.f0).Nodup) (hlp : p.length ≤ 1000) (hh : h ≤ 1024)
  (hok : ∀ x, x ∈ m → MvIn l x ∧ x.f1 + (arcOf l x).f3 ≤ h) (hml : m.length ≤ 100000) :
  Calls Tryz.prog 44 #[.pointer (some ⟨gp, 0, none⟩), .int .i64 h, .slice Am m.length cm] w (StocksAt n h l p m w) := by
 have hu := Tryz.underlying115
 have hu2 := Tryz.underlying33
 have hu3 := Tryz.underlying59
 have hu4 := Tryz.underlying76
 have hu5 := Tryz.underlying104
 have HP := zh hP
 have HR := zh hr
 have HPP := zh hp
 have HM := zh hm
 have HG := zh hG
 have HD := zh hd
 have HOK := zh hok
 have HN := zh hN
 have n0 := hN.n0
 have n1 := hN.n1
 have HMI : Hid (∀ x, x ∈ m → MvIn l x) := zh fun x hx => (hok x hx).1
 have HAR : Hid (∀ x, x ∈ m → ((0 ≤ (arcOf l x).f0 ∧ (arcOf l x).f0 < n) ∧ (0 ≤ (arcOf l x).f1 ∧ (arcOf l x).f1 < n)) ∧ 0 ≤ (arcOf l x).f3) := zh fun x hx => by
  have h1 := (hok x hx).1
  have h2 := h1.a0
  have h3 := h1.a1
  have e : arcAt l x.f0.toNat = arcOf l x := by
   unfold arcAt arcOf
   rw [Int.toNat_of_nonneg h2]
  have he := hN.ends x.f0.toNat (by omega)
  have ht := hN.time x.f0.toNat (by omega)
  rw [e] at he ht
  exact ⟨he, ht.1⟩
 clear hP hr hp hm hG hd hok hN
 obtain ⟨H1, hH1⟩ : ∃ H1, H1 = h + 1 := ⟨_, rfl⟩
 have EH : Hid (((h : Int) + 1).toNat = H1) := zh (by omega)
 have HH1 := zh hH1
 have hh1 : h < H1 := by omega
 have hh2 : H1 ≤ 1025 := by omega
 clear hH1
 go_enter Tryz.func44, Tryz.ntmps44
 go_wp2_with ((with_reducible refine gate_dst (N := 19) rfl ?_); go_loud (refine Kd.S_make kInts (w0 := w) w.heap.size 68 rfl rfl 90 (.tmp 18) (.tmp 18) rfl ((h : Int) + 1) rfl rfl Tryz.underlying90 (.slice none 0 0) 24 infoRow rfl (by decide) (by decide) ([] : List Int) (ok := fun _ => True) (okp := fun _ => False) ⟨_, rfl, Kd.R_nil _ _ _ _ _⟩ (fun _ h => h.elim) trivial (by omega) (by rw [EH.out]; omega) (Below.refl _ _) (Nat.le_refl _) ?_; intro v1 w1 ho hb hgr hat; rw [EH.out] at ho; obtain ⟨fS, hRS⟩ := id ho; obtain ⟨ga, ca, e1, hga, -⟩ := Kd.R_form hRS (by rw [List.length_zipIdx, List.length_replicate]; omega); rw [List.length_zipIdx, List.length_replicate] at e1; subst e1; clear hRS; have HX : Hid (Kd.S kInts 68 w1 w.heap.size (fun _ => True) (.slice (some ⟨ga, 0, none⟩) H1 ca) (matPre H1 n 0) ∧ Below w.heap.size w w1) := zh ⟨(by rw [matPre_zero]; exact ho), hb⟩; have HGA := zh hga; clear ho hb hgr hat hga))
 go_loopg [22] (H1 + 1) (fun k iv W => ∃ i : Nat, i ≤ H1 ∧ iv = .int .i64 i ∧ k = H1 + 1 - i ∧ Hid (Kd.S kInts 68 W w.heap.size (fun _ => True) (.slice (some ⟨ga, 0, none⟩) H1 ca) (matPre H1 n i) ∧ Below w.heap.size w W))
 case atStart => exact ⟨0, Nat.zero_le _, rfl, rfl, HX⟩
 case round =>
  obtain ⟨i, hi, rfl, rfl, HL⟩ := hrel
  clear HX
  by_cases hlt : i < H1
  ·have i0 : (0 : Int) ≤ (i : Int) := by omega
   have i1 : (i : Int) < (H1 : Int) := by omega
   have x0 : wr.cell? ⟨gp, 0, none⟩ = some (.int .i64 n) := (blk_cell (HP.out.below HL.out.2).bx 0).trans rfl
   go_wp2_with ((with_reducible refine gate_dst (N := 32) rfl ?_); go_loud (refine Kd.R_make (Kd.int .i64) (w0 := w) w.heap.size 3 rfl rfl 68 (.tmp 31) (.tmp 31) rfl (n : Int) rfl rfl Tryz.underlying68 (.int .i64 0) 8 infoNum rfl (by decide) (by decide) (0 : Int) (ok := fun k => wr.heap.size ≤ k) (okp := fun _ => False) rfl (fun _ h => h.elim) (Nat.le_refl _) (by omega) (by rw [Int.toNat_natCast]; omega) HL.out.2 HL.out.2.size ?_; intro v1 w1 ho hb hgr hat; rw [Int.toNat_natCast, ← rowF_zero] at ho; obtain ⟨gr, cr, e1, -⟩ := Kd.R_form ho (by rw [rowF_len]; omega); rw [rowF_len] at e1; subst e1; obtain ⟨⟨u, q1⟩, q2, hS⟩ := row_put HL.out.1 hlt hgr ho; have HF : Hid (Kd.S kInts 68 (w1.setCell ⟨ga, i, none⟩ (.slice (some ⟨gr, 0, none⟩) n cr)) w.heap.size (fun _ => True) (.slice (some ⟨ga, 0, none⟩) H1 ca) (matPre H1 n (i + 1)) ∧ Below w.heap.size w (w1.setCell ⟨ga, i, none⟩ (.slice (some ⟨gr, 0, none⟩) n cr))) := zh ⟨hS, hb.setCell HGA.out _⟩; clear ho hb hgr hat hS))
   go_roundg (H1 - i)
   case measure => omega
   case rel => exact ⟨i + 1, by omega, by go_num, by omega, HF⟩
  ·have e : H1 = i := by omega
   subst e
   have hs := HL.out.1
   rw [matPre_end] at hs
   have HX : Hid (MxI w ga ca H1 n (rawF l (p.take 0) []) wr) := zh (MxI.congr ⟨hs, HL.out.2⟩ fun a v _ _ => by
    unfold rawF
    rw [List.take_zero]
    show (0 : Int) = (if a = 0 then 0 else 0) + 0
    split <;> rfl)
   have x3 : wr.cell? ⟨gp, 3, none⟩ = some (.slice Ap p.length cp) := (blk_cell (HP.out.below HL.out.2).bx 3).trans rfl
   clear hs HL hi hlt
   go_wp2
   go_loopg [40] (p.length + 1) (fun k jv W => ∃ j : Nat, j ≤ p.length ∧ jv = .int .i64 j ∧ k = p.length + 1 - j ∧ Hid (MxI w ga ca H1 n (rawF l (p.take j) []) W))
   case atStart => exact ⟨0, Nat.zero_le _, rfl, rfl, HX⟩
   case round =>
    obtain ⟨j, hj, rfl, rfl, HL⟩ := hrel
    clear HX x3
    by_cases hlt : j < p.length
    ·have i0 : (0 : Int) ≤ (j : Int) := by omega
     have i1 : (j : Int) < (p.length : Int) := by omega
     obtain ⟨ad, ea, y0, y1⟩ := at_T59 (Kd.C_below HPP.out HL.out.low) (j : Int) i0 i1
     subst ea
     rw [Int.toNat_natCast] at y0 y1
     have hgt := fun v => g0_snoc v hlt
     obtain ⟨G, hG⟩ : ∃ G, G = rd_T59 p (j : Int) := ⟨_, rfl⟩
     have hgi := HG.out G (by rw [hG]; exact grp_mem hlt)
     rw [← hG] at y0 y1 hgt
     obtain ⟨u, hu0⟩ := nat_of hgi.1.1
     have g1 := hgi.1.2
     have g2 := hgi.2.1
     have g3 := hgi.2.2
     rw [hu0] at y0 g1 hgt
     obtain ⟨N, hN⟩ : ∃ N, N = G.f1 := ⟨_, rfl⟩
     rw [← hN] at y1 g2 g3 hgt
     have HGT := zh hgt
     clear hG hgi hgt hu0 hN
     obtain ⟨gr, cr, hne, z0, z1, z2, hput⟩ := HL.out.cell (a := 0) (v := u) (by omega) (by omega)
     have hbd := g0_bd (p := p.take j) (fun g hg => HG.out g (List.mem_of_mem_take hg)) u
     rw [List.length_take, Nat.min_eq_left hj] at hbd
     obtain ⟨x, hx⟩ : ∃ x, x = rawF l (p.take j) [] 0 u := ⟨_, rfl⟩
     have hx2 : x = g0 (p.take j) u := by
      rw [hx]
      unfold rawF
      rw [if_pos rfl]
      exact Int.add_zero _
     rw [← hx2] at hbd
     rw [← hx] at z1
     have HXX := zh (And.intro hx hx2)
     have HPUT := zh hput
     have e6 : IntKind.i64.wrap (x + N) = x + N := IntWalk.i64_in _ (by omega)
     clear hput hx hx2
     obtain ⟨wa, hwa⟩ : ∃ wa, wa = wr.alloc (.cells #[.int .i64 u, .int .i64 N] 59) := ⟨_, rfl⟩
     have HB : Hid (Below wr.heap.size wr wa.drew ∧ wa.drew.heap[wr.heap.size]? = some (.cells #[.int .i64 u, .int .i64 N] 59 (0, 0))) := zh (by rw [hwa]; exact ⟨below_drew1 (below_alloc (Below.refl _ _) _), blk_drew (heap_alloc_new _ _)⟩)
     have q0 := pw_cell_below HB.out.1 z0
     have q1 := pw_cell_below HB.out.1 z1
     have q2 : wa.drew.frozen? ⟨gr, u, none⟩ = false := (HB.out.1.frozen (World.block_lt_of_cell? wr _ z1)).trans z2
     have r0 : wa.drew.cell? ⟨wr.heap.size, 0, none⟩ = some (.int .i64 u) := (blk_cell HB.out.2 0).trans rfl
     have r1 : wa.drew.cell? ⟨wr.heap.size, 1, none⟩ = some (.int .i64 N) := (blk_cell HB.out.2 1).trans rfl
     clear z0 z1 z2
     go_wp2
     rw [← hwa]
     refine stepS (S := fun w' => w'.cell? ⟨ga, 0, none⟩ = some (.slice (some ⟨gr, 0, none⟩) n cr) ∧ w'.cell? ⟨gr, u, none⟩ = some (.int .i64 x) ∧ w'.cell? ⟨wr.heap.size, 0, none⟩ = some (.int .i64 u) ∧ w'.cell? ⟨wr.heap.size, 1, none⟩ = some (.int .i64 N)) (ds := [11]) 12 (by kernel_rfl) rfl ⟨q0, q1, r0, r1⟩ (fun hHeld => ?_)
     clear hwa y0 y1
     have u0 : (0 : Int) ≤ (u : Int) := by omega
     have hp1 : (0 : Int) < (H1 : Int) := by omega
     have hp2 : 0 < H1 := by omega
     generalize wa.drew = wd at HB hHeld q0 q1 q2 r0 r1 ⊢
     obtain ⟨gb, hgb⟩ : ∃ gb, gb = wr.heap.size := ⟨_, rfl⟩
     rw [← hgb] at hHeld r0 r1 ⊢
     clear hgb
     repeat (first | refine rP 12 ?_ | refine rT 12 hHeld ?_)
     refine sS 11 ?_
     refine done_ (by kernel_rfl) ?_
     have HF : Hid (MxI w ga ca H1 n (rawF l (p.take (j + 1)) []) (wd.setCell ⟨gr, u, none⟩ (.int .i64 (x + N)))) := zh ((HPUT.out wd HB.out.1 (x + N)).congr fun a v _ _ => by
      unfold updF
      by_cases ca0 : a = 0 ∧ v = u
      ·rw [if_pos ca0, ca0.1, ca0.2, HXX.out.2]
       unfold rawF
       rw [if_pos rfl, HGT.out, if_pos rfl]
       exact (Int.add_zero _).symm
      ·rw [if_neg ca0]
       unfold rawF
       by_cases cb : a = 0
       ·rw [if_pos cb, if_pos cb, HGT.out, if_neg (fun e9 => ca0 ⟨cb, by omega⟩), Int.add_zero]
       ·rw [if_neg cb, if_neg cb])
     clear hHeld
     go_wp2
     go_roundg (p.length - j)
     case measure => omega
     case rel => exact ⟨j + 1, by omega, by go_num, by omega, HF⟩
    ·have e : j = p.length := by omega
     subst e
     have HX : Hid (MxI w ga ca H1 n (rawF l p (m.take 0)) wr) := zh (by
      have h9 := HL.out
      rw [List.take_length] at h9
      rw [List.take_zero]
      exact h9)
     clear HL hj hlt
     go_wp2
     go_loopg [58] (m.length + 1) (fun k jv W => ∃ j : Nat, j ≤ m.length ∧ jv = .int .i64 j ∧ k = m.length + 1 - j ∧ Hid (MxI w ga ca H1 n (rawF l p (m.take j)) W))
     case atStart => exact ⟨0, Nat.zero_le _, rfl, rfl, HX⟩
     case round =>
      obtain ⟨j, hj, rfl, rfl, HL⟩ := hrel
      clear HX
      by_cases hlt : j < m.length
      ·have i0 : (0 : Int) ≤ (j : Int) := by omega
       have i1 : (j : Int) < (m.length : Int) := by omega
       obtain ⟨ad, ea, y0, y1, y2⟩ := at_T76 (Kd.C_below HM.out HL.out.low) (j : Int) i0 i1
       subst ea
       rw [Int.toNat_natCast] at y0 y1 y2
       obtain ⟨X, hX⟩ : ∃ X, X = mvAt m j := ⟨_, rfl⟩
       have hX2 : rd_T76 m (j : Int) = X := by rw [hX]; rfl
       rw [hX2] at y0 y1 y2
       have hXm : X ∈ m := by rw [hX]; exact mvAt_mem hlt
       have hsn : ∀ a v, dS l (m.take (j + 1)) a v = dS l (m.take j) a v + d1 l a v X := fun a v => by rw [hX]; exact dS_snoc l a v hlt
       have hin := HMI.out X hXm
       have har := HAR.out X hXm
       have hle := (HOK.out X hXm).2
       have a0 := hin.a0
       have a1 := hin.a1
       have b1 := hin.t1
       have n2 := hin.n0
       have n3 := hin.n1
       obtain ⟨Y, hY⟩ : ∃ Y, Y = arcOf l X := ⟨_, rfl⟩
       rw [← hY] at har hle
       obtain ⟨ae, eb, q0, q1, q2, q3⟩ := at_T104 (Kd.C_below HR.out HL.out.low) X.f0 a0 a1
       subst eb
       rw [show rd_T104 l X.f0 = Y from hY.symm] at q0 q1 q2 q3
       obtain ⟨z, hz⟩ := nat_of hin.t0
       obtain ⟨u, hu0⟩ := nat_of har.1.1.1
       obtain ⟨u2, hu1⟩ := nat_of har.1.2.1
       obtain ⟨z2, hz2⟩ : ∃ z2 : Nat, X.f1 + Y.f3 = z2 := nat_of (by have := hin.t0; have := har.2; omega)
       have hd1 : ∀ a v : Nat, d1 l a v X = (if (u2 : Int) = v ∧ (z2 : Int) = a then X.f2 else 0) - (if (u : Int) = v ∧ (z : Int) = a then X.f2 else 0) := fun a v => by
        unfold d1
        rw [← hY, hu1, hz2, hu0, hz]
       have c0 := har.1.1.2
       have c1 := har.1.2.2
       have c2 := har.2
       rw [hu0] at q0 c0
       rw [hu1] at q1 c1
       rw [hz2] at hle
       rw [hz] at y1 b1 hz2
       obtain ⟨K, hK⟩ : ∃ K, K = X.f0 := ⟨_, rfl⟩
       obtain ⟨N, hN⟩ : ∃ N, N = X.f2 := ⟨_, rfl⟩
       obtain ⟨T, hT⟩ : ∃ T, T = Y.f3 := ⟨_, rfl⟩
       obtain ⟨C, hC⟩ : ∃ C, C = Y.f2 := ⟨_, rfl⟩
       rw [← hK] at y0 a0 a1 q0 q1 q2 q3
       rw [← hN] at y2 n2 n3 hd1
       rw [← hT] at q3 hz2 c2
       rw [← hC] at q2
       have HD1 := zh (And.intro hsn hd1)
       clear hX hX2 hXm hsn hin har hY hz hu0 hu1 hK hN hT hC hd1
       have e5 : IntKind.i64.wrap ((z : Int) + T) = (z : Int) + T := IntWalk.i64_in _ (by omega)
       have w0 : 0 ≤ (z : Int) + T := by omega
       have w1 : (z : Int) + T < (H1 : Int) := by omega
       have HZT : Hid (z2 = ((z : Int) + T).toNat) := zh (by omega)
       have hzz : z ≤ z2 := by omega
       have z0 : (0 : Int) ≤ (z : Int) := by omega
       have z1 : (z : Int) < (H1 : Int) := by omega
       have z3 : (0 : Int) ≤ (z2 : Int) := by omega
       have z4 : (z2 : Int) < (H1 : Int) := by omega
       have u0 : (0 : Int) ≤ (u : Int) := by omega
       have u1 : (0 : Int) ≤ (u2 : Int) := by omega
       clear hz2
       obtain ⟨gr, cr, hne, k0, k1, k2, hput⟩ := HL.out.cell (a := z) (v := u) (by omega) (by omega)
       have hbd := rawF_bd (m := m.take j) HG.out hlp (fun x hx => HMI.out x (List.mem_of_mem_take hx)) (by rw [List.length_take]; omega)
       have HBD := zh hbd
       have hbx := hbd z u
       obtain ⟨F, hF⟩ : ∃ F, F = rawF l p (m.take j) := ⟨_, rfl⟩
       have HFF := zh hF
       rw [← hF] at k1 hput hbx
       obtain ⟨x, hx⟩ : ∃ x, x = F z u := ⟨_, rfl⟩
       rw [← hx] at k1 hbx
       have HXX := zh hx
       have HPUT := zh hput
       have e6 : IntKind.i64.wrap (x - N) = x - N := IntWalk.i64_in _ (by omega)
       have HLT := zh (World.block_lt_of_cell? wr _ k1)
       clear hput hx hF hbd
       obtain ⟨wa, hwa⟩ : ∃ wa, wa = wr.alloc (.cells #[.int .i64 K, .int .i64 z, .int .i64 N] 76) := ⟨_, rfl⟩
       have HB : Hid (Below wr.heap.size wr wa.drew ∧ wa.drew.heap[wr.heap.size]? = some (.cells #[.int .i64 K, .int .i64 z, .int .i64 N] 76 (0, 0))) := zh (by rw [hwa]; exact ⟨below_drew1 (below_alloc (Below.refl _ _) _), blk_drew (heap_alloc_new _ _)⟩)
       have p2 : wa.drew.cell? ⟨gp, 2, none⟩ = some (.slice (some ae) l.length c) := (blk_cell (HP.out.below (below_step HL.out.low HB.out.1)).bx 2).trans rfl
       have r0 : wa.drew.cell? ⟨wr.heap.size, 0, none⟩ = some (.int .i64 K) := (blk_cell HB.out.2 0).trans rfl
       have q0 := pw_cell_below HB.out.1 q0
       have q1 := pw_cell_below HB.out.1 q1
       have q2 := pw_cell_below HB.out.1 q2
       have q3 := pw_cell_below HB.out.1 q3
       have HK := zh (And.intro k0 (And.intro k1 k2))
       clear k0 k1 k2
       go_wp2
       rw [← hwa]
       refine stepS (S := fun w' => w'.cell? ⟨gp, 2, none⟩ = some (.slice (some ae) l.length c) ∧ w'.cell? ⟨wr.heap.size, 0, none⟩ = some (.int .i64 K) ∧ w'.cell? (ae.add (K.toNat * 4)) = some (.int .i64 u) ∧ w'.cell? ⟨(ae.add (K.toNat * 4)).block, (ae.add (K.toNat * 4)).off + 1, none⟩ = some (.int .i64 u2) ∧ w'.cell? ⟨(ae.add (K.toNat * 4)).block, (ae.add (K.toNat * 4)).off + 2, none⟩ = some (.int .i64 C) ∧ w'.cell? ⟨(ae.add (K.toNat * 4)).block, (ae.add (K.toNat * 4)).off + 3, none⟩ = some (.int .i64 T)) (ds := [10]) 11 (by kernel_rfl) rfl ⟨p2, r0, q0, q1, q2, q3⟩ (fun hHeld => ?_)
       clear hwa y0 y1 y2
       generalize wa.drew = wd at HB hHeld p2 r0 q0 q1 q2 q3 ⊢
       obtain ⟨gb, hgb⟩ : ∃ gb, gb = wr.heap.size := ⟨_, rfl⟩
       rw [← hgb] at hHeld r0 ⊢
       have HGB := zh hgb
       clear hgb
       repeat (first | refine rP 11 ?_ | refine rT 11 hHeld ?_)
       refine sB 9 hHeld (fun hHeld => ?_)
       refine sS 10 ?_
       refine done_ (by kernel_rfl) ?_
       clear hHeld p2 r0 q0 q1 q2 q3
       obtain ⟨wb, hwb⟩ : ∃ wb, wb = wd.alloc (.cells #[.int .i64 u, .int .i64 u2, .int .i64 C, .int .i64 T] 104) := ⟨_, rfl⟩
       obtain ⟨ge, hge⟩ : ∃ ge, ge = wd.heap.size := ⟨_, rfl⟩
       have HB2 : Hid (Below wr.heap.size wr wb.drew ∧ wb.drew.heap[gb]? = some (.cells #[.int .i64 K, .int .i64 z, .int .i64 N] 76 (0, 0)) ∧ wb.drew.heap[ge]? = some (.cells #[.int .i64 u, .int .i64 u2, .int .i64 C, .int .i64 T] 104 (0, 0)) ∧ gr ≠ gb ∧ gr ≠ ge) := zh (by
        have s1 := HB.out.1.size
        have s2 := HLT.out
        have s3 := HGB.out
        rw [hwb, hge]
        refine ⟨below_drew1 (below_alloc HB.out.1 _), blk_drew (blk_alloc (by rw [s3]; exact HB.out.2) _), blk_drew (heap_alloc_new _ _), ?_, ?_⟩
        ·intro e9; rw [e9] at s2; omega
        ·intro e9; rw [e9] at s2; omega)
       rw [← hwb, ← hge]
       clear hwb hge HB
       have k0 := pw_cell_below HB2.out.1 HK.out.1
       have k1 := pw_cell_below HB2.out.1 HK.out.2.1
       have k2 : wb.drew.frozen? ⟨gr, u, none⟩ = false := (HB2.out.1.frozen HLT.out).trans HK.out.2.2
       have r1 : wb.drew.cell? ⟨gb, 1, none⟩ = some (.int .i64 z) := (blk_cell HB2.out.2.1 1).trans rfl
       have r2 : wb.drew.cell? ⟨gb, 2, none⟩ = some (.int .i64 N) := (blk_cell HB2.out.2.1 2).trans rfl
       have s0 : wb.drew.cell? ⟨ge, 0, none⟩ = some (.int .i64 u) := (blk_cell HB2.out.2.2.1 0).trans rfl
       have s1 : wb.drew.cell? ⟨ge, 1, none⟩ = some (.int .i64 u2) := (blk_cell HB2.out.2.2.1 1).trans rfl
       have s3 : wb.drew.cell? ⟨ge, 3, none⟩ = some (.int .i64 T) := (blk_cell HB2.out.2.2.1 3).trans rfl
       go_wp2
       refine stepS (S := fun w' => w'.cell? ⟨ga, z, none⟩ = some (.slice (some ⟨gr, 0, none⟩) n cr) ∧ w'.cell? ⟨gr, u, none⟩ = some (.int .i64 x) ∧ w'.cell? ⟨gb, 1, none⟩ = some (.int .i64 z) ∧ w'.cell? ⟨gb, 2, none⟩ = some (.int .i64 N) ∧ w'.cell? ⟨ge, 0, none⟩ = some (.int .i64 u)) (ds := [13]) 14 (by kernel_rfl) rfl ⟨k0, k1, r1, r2, s0⟩ (fun hHeld => ?_)
       generalize wb.drew = wf at HB2 hHeld k0 k1 k2 r1 r2 s0 s1 s3 ⊢
       repeat (first | refine rP 14 ?_ | refine rT 14 hHeld ?_)
       refine sS 13 ?_
       refine done_ (by kernel_rfl) ?_
       clear hHeld k0 k1 k2 s0
       obtain ⟨wc, hwc⟩ : ∃ wc, wc = wf.setCell ⟨gr, u, none⟩ (.int .i64 (x - N)) := ⟨_, rfl⟩
       have hM1 : MxI w ga ca H1 n (updF F z u (x - N)) wc.drew := by
        rw [hwc]
        exact (HPUT.out wf HB2.out.1 (x - N)).below (below_drew1 (Below.refl _ _))
       have far : ∀ (g9 t9 : Nat) (v9 : Value), gr ≠ g9 → wf.cell? ⟨g9, t9, none⟩ = some v9 → wc.drew.cell? ⟨g9, t9, none⟩ = some v9 := fun g9 t9 v9 h9 h8 => by
        rw [hwc]
        exact (World.cell?_setCell_far wf ⟨gr, u, none⟩ ⟨g9, t9, none⟩ (.int .i64 (x - N)) h9).trans h8
       have r1 := far gb 1 _ HB2.out.2.2.2.1 r1
       have r2 := far gb 2 _ HB2.out.2.2.2.1 r2
       have s1 := far ge 1 _ HB2.out.2.2.2.2 s1
       have s3 := far ge 3 _ HB2.out.2.2.2.2 s3
       clear far
       rw [← hwc]
       clear hwc
       obtain ⟨gr2, cr2, hne2, k0, k1, k2, hput2⟩ := hM1.cell (a := z2) (v := u2) (by omega) (by omega)
       obtain ⟨G2, hG2⟩ : ∃ G2, G2 = updF F z u (x - N) := ⟨_, rfl⟩
       rw [← hG2] at k1 hput2
       obtain ⟨x2, hx2⟩ : ∃ x2, x2 = G2 z2 u2 := ⟨_, rfl⟩
       rw [← hx2] at k1
       have hbx2 : -120000000000000000 ≤ x2 ∧ x2 ≤ 120000000000000000 := by
        have h9 := HBD.out z2 u2
        rw [← HFF.out] at h9
        rw [hx2, hG2]
        unfold updF
        split <;> omega
       have HG2 := zh (And.intro hG2 hx2)
       have HPUT2 := zh hput2
       clear hput2 hG2 hx2 hM1
       rw [HZT.out] at k0
       have e7 : IntKind.i64.wrap (x2 + N) = x2 + N := IntWalk.i64_in _ (by omega)
       go_wp2
       refine stepS (S := fun w' => w'.cell? ⟨ga, ((z : Int) + T).toNat, none⟩ = some (.slice (some ⟨gr2, 0, none⟩) n cr2) ∧ w'.cell? ⟨gr2, u2, none⟩ = some (.int .i64 x2) ∧ w'.cell? ⟨gb, 1, none⟩ = some (.int .i64 z) ∧ w'.cell? ⟨gb, 2, none⟩ = some (.int .i64 N) ∧ w'.cell? ⟨ge, 1, none⟩ = some (.int .i64 u2) ∧ w'.cell? ⟨ge, 3, none⟩ = some (.int .i64 T)) (ds := [16]) 17 (by kernel_rfl) rfl ⟨k0, k1, r1, r2, s1, s3⟩ (fun hHeld => ?_)
       generalize wc.drew = wg at HPUT2 hHeld k0 k1 k2 r1 r2 s1 s3 ⊢
       refine wT skT17 (fun hT => ?_)
       repeat (first | refine qP 17 hT ?_ | refine qT 17 hT hHeld ?_)
       refine sS 16 ?_
       refine done_ (by kernel_rfl) ?_
       clear hHeld hT
       have HF : Hid (MxI w ga ca H1 n (rawF l p (m.take (j + 1))) (wg.setCell ⟨gr2, u2, none⟩ (.int .i64 (x2 + N)))) := zh ((HPUT2.out wg (Below.refl _ _) (x2 + N)).congr fun a v _ _ => by
        rw [HG2.out.2, upd_add, HG2.out.1, HXX.out, upd_sub]
        have h8 := HD1.out.1 a v
        have h9 := HD1.out.2 a v
        rw [HFF.out]
        unfold rawF
        rw [h8, h9]
        omega)
       clear k0 k1 k2 r1 r2 s1 s3
       go_wp2
       go_roundg (m.length - j)
       case measure => omega
       case rel => exact ⟨j + 1, by omega, by go_num, by omega, HF⟩
      ·have e : j = m.length := by omega
       subst e
       have HX : Hid (MxI w ga ca H1 n (accF l p m 0 0) wr) := zh (by
        have h9 := HL.out
        rw [List.take_length] at h9
        exact h9.congr fun a v _ _ => acc_start HD.out (fun g hg => (HG.out g hg).2.1) (fun x hx => ⟨(HMI.out x hx).t0, (HAR.out x hx).2⟩) a v)
       clear HL hj hlt
       go_wp2
       go_loopg [102] (h + 1) (fun k tv W => ∃ t : Nat, t ≤ h ∧ tv = .int .i64 t ∧ k = h + 1 - t ∧ Hid (MxI w ga ca H1 n (accF l p m t 0) W))
       case atStart => exact ⟨0, Nat.zero_le _, rfl, rfl, HX⟩
       case round =>
        obtain ⟨t, ht, rfl, rfl, HL⟩ := hrel
        clear HX
        by_cases hlt : t < h
        ·have i0 : (0 : Int) ≤ (t : Int) := by omega
         have i1 : (t : Int) < (h : Int) := by omega
         have i2 : (t : Int) < (H1 : Int) := by omega
         obtain ⟨gr, cr, hne, k0, -, -, -⟩ := HL.out.cell (a := t) (v := 0) (by omega) n0
         have HX := zh (And.intro HL.out k0)
         go_wp2
         go_loopg [110] (n + 1) (fun k uv W => ∃ u : Nat, u ≤ n ∧ uv = .int .i64 u ∧ k = n + 1 - u ∧ Hid (MxI w ga ca H1 n (accF l p m t u) W ∧ W.cell? ⟨ga, t, none⟩ = some (.slice (some ⟨gr, 0, none⟩) n cr)))
         case atStart => exact ⟨0, Nat.zero_le _, rfl, rfl, HX⟩
         case round =>
          obtain ⟨u, hu0, rfl, rfl, HL⟩ := hrel
          clear HX k0
          by_cases hul : u < n
          ·have v0 : (0 : Int) ≤ (u : Int) := by omega
           have v1 : (u : Int) < (n : Int) := by omega
           obtain ⟨g3, c3, -, k0, k1, -, -⟩ := HL.out.1.cell (a := t) (v := u) (by omega) hul
           have k9 := HL.out.2
           rw [k0] at k9
           injection k9 with k9
           injection k9 with k9 _ k8
           injection k9 with k9
           injection k9 with k9
           subst k9 k8
           have t2 : (0 : Int) ≤ (t : Int) + 1 := by omega
           have t3 : (t : Int) + 1 < (H1 : Int) := by omega
           obtain ⟨gr2, cr2, hne2, q0, q1, q2, hput⟩ := HL.out.1.cell (a := t + 1) (v := u) (by omega) hul
           have hs := stockK_bd HG.out HMI.out hml (u : Int) (t : Int)
           have hb := rawF_bd HG.out hlp HMI.out hml (t + 1) u
           obtain ⟨K1, hK1⟩ : ∃ K1, K1 = stockK l p m u t := ⟨_, rfl⟩
           have e1 : accF l p m t u t u = K1 := by rw [hK1]; exact if_pos (.inl (Nat.le_refl _))
           have e2 : accF l p m t u (t + 1) u = rawF l p m (t + 1) u := if_neg (by omega)
           obtain ⟨x, hx⟩ : ∃ x, x = accF l p m t u (t + 1) u := ⟨_, rfl⟩
           rw [← hK1] at hs
           rw [← e2, ← hx] at hb
           rw [e1] at k1
           rw [← hx] at q1
           have e6 : IntKind.i64.wrap (x + K1) = x + K1 := IntWalk.i64_in _ (by omega)
           have HF : Hid (MxI w ga ca H1 n (accF l p m t (u + 1)) (wr.setCell ⟨gr2, u, none⟩ (.int .i64 (x + K1))) ∧ (wr.setCell ⟨gr2, u, none⟩ (.int .i64 (x + K1))).cell? ⟨ga, t, none⟩ = some (.slice (some ⟨g3, 0, none⟩) n c3)) := zh ⟨(hput wr (Below.refl _ _) (x + K1)).congr (fun a v _ _ => by rw [hx, hK1]; exact acc_next l p m t u a v), (World.cell?_setCell_far wr ⟨gr2, u, none⟩ ⟨ga, t, none⟩ (.int .i64 (x + K1)) hne2).trans k0⟩
           clear hK1 e1 e2 hx hput hne2
           go_wp2
           go_roundg (n - u)
           case measure => omega
           case rel => exact ⟨u + 1, by omega, by go_num, by omega, HF⟩
          ·have e : u = n := by omega
           subst e
           have HF : Hid (MxI w ga ca H1 u (accF l p m (t + 1) 0) wr) := zh (HL.out.1.congr fun a v _ hv => acc_turn l p m t u hv)
           clear HL
           go_wp2
           go_roundg (h - t)
           case measure => omega
           case rel => exact ⟨t + 1, by omega, by go_num, by omega, HF⟩
        ·have e : t = h := by omega
         subst e
         go_wp2
         go_ret
         refine ⟨ga, ca, by rw [← HH1.out]; rfl, ?_⟩
         have h9 := HL.out
         rw [HH1.out] at h9
         exact h9.congr fun a v ha _ => if_pos (.inl (by omega))
end Go.Proofs.YtcgdloldkcmhnaaGreat.H
end
section
namespace Go.Proofs.YtcgdloldkcmhnaaGreat.H
open Go Go.RowKit Go.Proofs.YtcgdloldkcmhnaaGreat.PrintC Go.Proofs.YtcgdloldkcmhnaaGreatW.PrintWords Go.Proofs.YtcgdloldkcmhnaaGreatW.PrintLast Go.Proofs.YtcgdloldkcmhnaaGreatW.PrintMore
set_option linter.unusedVariables false
set_option linter.unusedSimpArgs false
theorem add64_run (x y c : Int) (hx : 0 ≤ x) (hy : 0 ≤ y) (hc0 : 0 ≤ c) (hc : c ≤ 1) (w : World) : (callFunc 100 #[.int .u64 x, .int .u64 y, .int .u64 c]).run Tryz.prog w = .ok (.value (.tuple #[.int .u64 ((x + y + c) % 18446744073709551616), .int .u64 ((x + y + c) / 18446744073709551616)])) w := by
 rw [run_callFunc_extern Tryz.func100 (by kernel_rfl) (by kernel_rfl) (by kernel_rfl) (e := add64Entry) (by kernel_rfl), run_add64 x y c hx hy hc0 hc]
 rfl
theorem half_step {x : Int} (hx : -9223372036854775808 ≤ x ∧ x ≤ 9223372036854775807) {L : Int} (h0 : 0 ≤ L) (h1 : L < 18446744073709551616) :
  ∃ U C s L2 : Int, IntKind.u64.wrap x = U ∧ 0 ≤ U ∧ x / 9223372036854775808 = s ∧ -1 ≤ s ∧ s ≤ 0 ∧ (L + U + 0) % 18446744073709551616 = L2 ∧ (L + U + 0) / 18446744073709551616 = C ∧ 0 ≤ C ∧ C ≤ 1 ∧ 0 ≤ L2 ∧ L2 < 18446744073709551616 ∧ (s + C) * 18446744073709551616 + L2 = L + x := by
 have e2 : IntKind.u64.wrap x = x % 18446744073709551616 := by
  simp [IntKind.wrap, IntKind.bits, IntKind.signed]
 rw [e2]
 refine ⟨_, _, _, _, rfl, ?_, rfl, ?_, ?_, rfl, rfl, ?_, ?_, ?_, ?_, ?_⟩ <;> omega
set_option maxHeartbeats 4000000 in
set_option maxRecDepth 100000 in
theorem csum_walk (A : Option Addr) (c : Nat) (l : List Int) (w : World) (hr : Kd.C (Kd.int .i64) w A l.length l) (hi : I64s l) (hl : l.length ≤ 1000000) :
  Calls Tryz.prog 90 #[.slice A l.length c] w (SumAt l w) := by
 have HR := zh hr
 have HI := zh hi
 clear hr hi
 go_enter Tryz.func90, Tryz.ntmps90
 go_wp2
 go_loopg [4, 5, 11] (l.length + 1) (fun k hv lv iv W => ∃ (i : Nat) (H L : Int), i ≤ l.length ∧ hv = .int .i64 H ∧ lv = .int .u64 L ∧ iv = .int .i64 i ∧ k = l.length + 1 - i ∧ Hid (H * 18446744073709551616 + L = sumL (l.take i) ∧ 0 ≤ L ∧ L < 18446744073709551616 ∧ -(i : Int) ≤ H ∧ H ≤ i ∧ Below w.heap.size w W))
 case atStart => exact ⟨0, 0, 0, Nat.zero_le _, rfl, rfl, rfl, rfl, zh ⟨rfl, by decide, by decide, by decide, by decide, Below.refl _ _⟩⟩
 case round =>
  obtain ⟨i, H, L, hi, rfl, rfl, rfl, rfl, HS⟩ := hrel
  by_cases hlt : i < l.length
  ·have i0 : (0 : Int) ≤ (i : Int) := by omega
   have i1 : (i : Int) < (l.length : Int) := by omega
   obtain ⟨ae, eb, z0⟩ := Kd.at_int (Kd.C_below HR.out HS.out.2.2.2.2.2) (i : Int) i0 i1
   subst eb
   rw [Int.toNat_natCast] at z0
   have hx := rd_i64 HI.out hlt
   have HT := zh (take_snoc hlt)
   obtain ⟨x, hxe⟩ : ∃ x, x = rd l (i : Int) := ⟨_, rfl⟩
   rw [← hxe] at z0 hx
   have HXE := zh hxe
   clear hxe
   obtain ⟨U, C, s, L2, e1, u0, e2, s0, s1, e3, e4, c0, c1, l0, l1, he⟩ := half_step hx HS.out.2.1 HS.out.2.2.1
   have hadd : ∀ W : World, (callFunc 100 #[.int .u64 L, .int .u64 U, .int .u64 0]).run Tryz.prog W = .ok (.value (.tuple #[.int .u64 L2, .int .u64 C])) W := fun W => by
    rw [add64_run L U 0 HS.out.2.1 u0 (by decide) (by decide), e3, e4]
   have e5 : IntKind.i64.wrap C = C := IntWalk.i64_in _ (by omega)
   have e6 : wrap64 (s + C) = s + C := by unfold wrap64; omega
   have e7 : wrap64 (H + (s + C)) = H + (s + C) := by have := HS.out.2.2.2; unfold wrap64; omega
   have HE := zh (And.intro he (And.intro (And.intro l0 l1) (And.intro (And.intro s0 s1) (And.intro c0 c1))))
   clear e3 e4 u0 s0 s1 c0 c1 l0 l1 he hx
   go_wp2
   go_roundg (l.length - i)
   case measure => omega
   case rel => exact ⟨i + 1, H + (s + C), L2, by omega, (by rw [e7]), rfl, by go_num, by omega, zh ⟨by rw [HT.out, sumL_snoc, ← HXE.out]; have := HE.out.1; have := HS.out.1; omega, HE.out.2.1.1, HE.out.2.1.2, by have := HE.out.2; have := HS.out.2.2.2; omega, by have := HE.out.2; have := HS.out.2.2.2; omega, HS.out.2.2.2.2.2⟩⟩
  ·have e : i = l.length := by omega
   subst e
   have hs := HS.out.1
   rw [List.take_length] at hs
   obtain ⟨T, hT⟩ : ∃ T, T = sumL l := ⟨_, rfl⟩
   rw [← hT] at hs
   have HTE := zh hT
   clear hT
   have l0 := HS.out.2.1
   have l1 := HS.out.2.2.1
   obtain ⟨Z, hZ, z0⟩ : ∃ Z : Int, IntKind.i64.wrap L = Z ∧ ((L < 9223372036854775808 ∧ Z = L) ∨ (9223372036854775808 ≤ L ∧ Z = L - 18446744073709551616)) := by
    refine ⟨_, rfl, ?_⟩
    by_cases c : L < 9223372036854775808
    ·exact .inl ⟨c, IntWalk.i64_in _ (by omega)⟩
    ·refine .inr ⟨by omega, ?_⟩
     rw [IntWalk.i64_left]
     unfold wrap64
     omega
   obtain ⟨g, hg, g0⟩ : ∃ g : Int, Z / 9223372036854775808 = g ∧ ((L < 9223372036854775808 ∧ g = 0) ∨ (9223372036854775808 ≤ L ∧ g = -1)) := by
    refine ⟨_, rfl, ?_⟩
    omega
   by_cases c1 : H = g
   ·have HF : Hid (fits T = true ∧ Z = T) := zh ⟨by unfold fits; rw [decide_eq_true_eq]; omega, by omega⟩
    have d1 : (H == g) = true := beq_iff_eq.2 c1
    have d2 : (H != g) = false := by rw [bne, d1]; rfl
    clear hs l0 l1 z0 g0 c1
    go_wp2
    go_ret2
    unfold SumAt
    rw [← HTE.out, HF.out.1]
    exact ⟨by rw [HF.out.2]; rfl, HS.out.2.2.2.2.2⟩
   ·have HF : Hid (fits T = false) := zh (by unfold fits; rw [decide_eq_false_iff_not]; omega)
    have d1 : (H == g) = false := beq_eq_false_iff_ne.2 c1
    have d2 : (H != g) = true := by rw [bne, d1]; rfl
    clear hs l0 l1 z0 g0 c1
    go_wp2
    go_ret2
    unfold SumAt
    rw [← HTE.out, HF.out]
    exact ⟨rfl, HS.out.2.2.2.2.2⟩
end Go.Proofs.YtcgdloldkcmhnaaGreat.H
end
section
namespace Go.Proofs.YtcgdloldkcmhnaaGreat.H
open Go Go.RowKit Go.Proofs.YtcgdloldkcmhnaaGreat.PrintC Go.Proofs.YtcgdloldkcmhnaaGreat.PrintE Go.Proofs.YtcgdloldkcmhnaaGreatW.PrintWords Go.Proofs.YtcgdloldkcmhnaaGreatW.PrintLast Go.Proofs.YtcgdloldkcmhnaaGreatW.PrintMore
set_option linter.unusedVariables false
set_option linter.unusedSimpArgs false
def f2s (l : List Mv) (g : List Int) : List Int := g.map fun k => (mvAt l k.toNat).f2
def part (v : List Int) (i : Nat) : List Int := v.take i ++ List.replicate (v.length - i) 0
theorem part_next {v : List Int} {i : Nat} {x : Int} (h : v[i]? = some x) : (part v i).set i x = part v (i + 1) := by
 have hi : i < v.length := (List.getElem?_eq_some_iff.1 h).1
 unfold part
 have hl : (v.take i).length = i := by rw [List.length_take]; omega
 rw [List.set_append_right _ _ (by omega), hl, Nat.sub_self, List.take_add_one, h, show v.length - i = (v.length - (i + 1)) + 1 by omega, List.replicate_succ, List.set_cons_zero, List.append_assoc]
 rfl
theorem part_end (v : List Int) : part v v.length = v := by
 unfold part
 rw [Nat.sub_self, List.take_length]
 exact List.append_nil _
set_option maxHeartbeats 8000000 in
set_option maxRecDepth 100000 in
theorem tot_walk (A : Option Addr) (c : Nat) (l : List Mv) (Ag : Option Addr) (cg : Nat) (g : List Int) (w : World) (hr : Kd.C kMv w A l.length l) (hg : Kd.C (Kd.int .i64) w Ag g.length g) (hk : ∀ k, k ∈ g → ∃ t : Nat, t < l.length ∧ k = t) (hi : ∀ x, x ∈ l → -9223372036854775808 ≤ x.f2 ∧ x.f2 ≤ 9223372036854775807) (h0 : 0 < g.length) (hl : g.length ≤ 100000) :
  Calls Tryz.prog 72 #[.slice A l.length c, .slice Ag g.length cg, .func (.func 73) #[] #[]] w (SumAt (f2s l g) w) := by
 have HR := zh hr
 have HG := zh hg
 have HK := zh hk
 have HI := zh hi
 obtain ⟨vs, hvs⟩ : ∃ vs, vs = f2s l g := ⟨_, rfl⟩
 have HVL : Hid (vs.length = g.length) := zh (by rw [hvs]; exact List.length_map ..)
 have HV := zh hvs
 rw [← hvs]
 clear hr hg hk hi hvs
 go_enter Tryz.func72, Tryz.ntmps72
 go_wp2_with ((with_reducible refine gate_dst (N := 13) rfl ?_); go_loud (refine Kd.R_make (Kd.int .i64) (w0 := w) w.heap.size 3 rfl rfl 68 (.tmp 12) (.tmp 12) rfl (g.length : Int) rfl rfl Tryz.underlying68 (.int .i64 0) 8 infoNum rfl (by decide) (by decide) (0 : Int) (ok := fun _ => True) (okp := fun _ => False) rfl (fun _ h => h.elim) trivial (by omega) (by rw [Int.toNat_natCast]; exact Nat.le_trans (Nat.mul_le_mul_right 8 hl) (by decide)) (Below.refl _ _) (Nat.le_refl _) ?_; intro v1 w1 ho hb hgr hat; rw [Int.toNat_natCast] at ho; obtain ⟨ga, ca, rfl, -⟩ := Kd.R_form ho (by rw [List.length_replicate]; exact h0); rw [List.length_replicate] at ho ⊢; have HX : Hid (Kd.R (Kd.int .i64) 3 w1 w.heap.size (fun _ => True) (.slice (some ⟨ga, 0, none⟩) g.length ca) (part vs 0) ∧ Below w.heap.size w w1) := zh ⟨(by unfold part; rw [Nat.sub_zero, HVL.out]; exact ho), hb⟩; clear ho hb hgr hat))
 go_loopg [16] (g.length + 1) (fun k iv W => ∃ i : Nat, i ≤ g.length ∧ iv = .int .i64 i ∧ k = g.length + 1 - i ∧ Hid (Kd.R (Kd.int .i64) 3 W w.heap.size (fun _ => True) (.slice (some ⟨ga, 0, none⟩) g.length ca) (part vs i) ∧ Below w.heap.size w W))
 case atStart => exact ⟨0, Nat.zero_le _, rfl, rfl, HX⟩
 case round =>
  obtain ⟨i, hi, rfl, rfl, HL⟩ := hrel
  clear HX
  by_cases hlt : i < g.length
  ·have i0 : (0 : Int) ≤ (i : Int) := by omega
   have i1 : (i : Int) < (g.length : Int) := by omega
   obtain ⟨ae, eb, z0⟩ := Kd.at_int (Kd.C_below HG.out HL.out.2) (i : Int) i0 i1
   subst eb
   rw [Int.toNat_natCast] at z0
   have hmem : rd g (i : Int) ∈ g := by
    unfold rd
    rw [Int.toNat_natCast, List.getD_eq_getElem?_getD, List.getElem?_eq_getElem hlt]
    exact List.getElem_mem hlt
   obtain ⟨t, ht, et⟩ := HK.out _ hmem
   have HRD : Hid (g[i]? = some (t : Int)) := zh (by
    rw [← et]
    unfold rd
    rw [Int.toNat_natCast, List.getD_eq_getElem?_getD, List.getElem?_eq_getElem hlt]
    rfl)
   rw [et] at z0
   clear hmem et
   have t0 : (0 : Int) ≤ (t : Int) := by omega
   have t1 : (t : Int) < (l.length : Int) := by omega
   obtain ⟨ad, ea, y0, y1, y2⟩ := at_T76 (Kd.C_below HR.out HL.out.2) (t : Int) t0 t1
   subst ea
   obtain ⟨X, hX⟩ : ∃ X, X = mvAt l t := ⟨_, rfl⟩
   have hX2 : rd_T76 l (t : Int) = X := by rw [hX]; rfl
   rw [Int.toNat_natCast, hX2] at y0 y1 y2
   have HXE := zh hX
   clear hX hX2
   go_wp2_with (go_at_call 73; (with_reducible refine (num_walk X _).mono ?_); rintro e w1 ⟨rfl, hb⟩; have HI1 := zh (And.intro (Kd.R_below HL.out.1 hb) (below_step HL.out.2 hb)); obtain ⟨za, zf⟩ := Kd.R_celln (0 : Int) HI1.out.1 (i : Int) i0 i1; rw [Int.toNat_natCast] at za zf; clear hb)
   have HF := zh (And.intro (Kd.R_putn HI1.out.1 (i : Int) X.f2) (HI1.out.2.setCell (p := ⟨ga, i, none⟩) (Kd.R_base HI1.out.1 ga rfl) (.int .i64 X.f2)))
   go_roundg (g.length - i)
   case measure => omega
   case rel => exact ⟨i + 1, by omega, by go_num, by omega, zh (by
    have h9 := HF.out
    rw [Int.toNat_natCast, part_next (x := X.f2) (by
     rw [HV.out]
     unfold f2s
     rw [List.getElem?_map, HRD.out, Option.map_some, Int.toNat_natCast, ← HXE.out])] at h9
    exact h9)⟩
  ·have e : i = g.length := by omega
   subst e
   have hs := HL.out.1
   rw [← HVL.out, part_end, HVL.out] at hs
   have HS := zh hs
   clear hs
   have HI64 : Hid (I64s vs) := zh (fun x hx => by
    rw [HV.out] at hx
    unfold f2s at hx
    obtain ⟨k, hk, rfl⟩ := List.mem_map.1 hx
    obtain ⟨t, ht, rfl⟩ := HK.out k hk
    exact HI.out _ (mvAt_mem (by rw [Int.toNat_natCast]; exact ht)))
   have HLV : Hid (vs.length ≤ 1000000) := zh (by rw [HVL.out]; omega)
   obtain ⟨T, hT⟩ : ∃ T, T = if fits (sumL vs) = true then sumL vs else 0 := ⟨_, rfl⟩
   obtain ⟨F, hF⟩ : ∃ F, F = fits (sumL vs) := ⟨_, rfl⟩
   have HTF := zh (And.intro hT hF)
   have HSUM : Hid (∀ W, Kd.C (Kd.int .i64) W (some ⟨ga, 0, none⟩) g.length vs → Calls Tryz.prog 90 #[.slice (some ⟨ga, 0, none⟩) g.length ca] W fun e w' => e = .returned (.tuple #[.int .i64 T, .bool F]) ∧ Below W.heap.size W w') := zh (fun W h => by
    rw [← HVL.out] at h ⊢
    rw [hT, hF]
    exact csum_walk (some ⟨ga, 0, none⟩) ca vs W h HI64.out HLV.out)
   clear hT hF
   go_wp2_with (go_at_call 90; (with_reducible refine (HSUM.out _ ?s1).mono ?_); (case s1 => have h9 := (Kd.R_reads' HS.out).2.2; rw [HVL.out] at h9; exact h9); rintro e w3 ⟨rfl, hb⟩; have HB3 := zh (below_step HL.out.2 hb); clear hb)
   go_ret2
   unfold SumAt
   rw [← HTF.out.1, ← HTF.out.2]
   exact ⟨rfl, HB3.out⟩
end Go.Proofs.YtcgdloldkcmhnaaGreat.H
end
section
namespace Go.Proofs
open Go.Shelf
def Tryz.sortMv_ren : Go.Shelf.Ren := ⟨fun | 6 => 74 | 15 => 92 | 14 => 91 | 28 => 109 | 29 => 110 | 20 => 101 | 21 => 102 | 22 => 103 | 23 => 104 | 24 => 105 | 25 => 106 | 26 => 107 | 27 => 108 | 46 => 123 | 47 => 124 | 48 => 125 | 49 => 126 | 50 => 127 | 57 => 137 | n => n, fun | 22 => 40 | 24 => 76 | 25 => 138 | 3 => 3 | 39 => 127 | 0 => 0 | 53 => 177 | 55 => 166 | 4 => 4 | 46 => 171 | 45 => 170 | 50 => 77 | 5 => 5 | 9 => 9 | 66 => 191 | 70 => 195 | 76 => 207 | 77 => 118 | n => n, fun | n => n⟩
theorem Tryz.sortMv : Go.Proofs.SlLaysF0.n6 Tryz.prog Tryz.sortMv_ren := {
 mixed := by kernel_rfl
 f6 := ⟨Tryz.f74.name, by decide, Tryz.func74.trans (congrArg some (by kernel_rfl))⟩
 f14 := ⟨Tryz.f91.name, by decide, Tryz.func91.trans (congrArg some (by kernel_rfl))⟩
 f15 := Tryz.func92.trans (congrArg some (by kernel_rfl))
 f20 := ⟨Tryz.f101.name, by decide, Tryz.func101.trans (congrArg some (by kernel_rfl))⟩
 f21 := ⟨Tryz.f102.name, by decide, Tryz.func102.trans (congrArg some (by kernel_rfl))⟩
 f22 := ⟨Tryz.f103.name, by decide, Tryz.func103.trans (congrArg some (by kernel_rfl))⟩
 f23 := ⟨Tryz.f104.name, by decide, Tryz.func104.trans (congrArg some (by kernel_rfl))⟩
 f24 := ⟨Tryz.f105.name, by decide, Tryz.func105.trans (congrArg some (by kernel_rfl))⟩
 f25 := ⟨Tryz.f106.name, by decide, Tryz.func106.trans (congrArg some (by kernel_rfl))⟩
 f26 := ⟨Tryz.f107.name, by decide, Tryz.func107.trans (congrArg some (by kernel_rfl))⟩
 f27 := ⟨Tryz.f108.name, by decide, Tryz.func108.trans (congrArg some (by kernel_rfl))⟩
 f28 := Tryz.func109.trans (congrArg some (by kernel_rfl))
 f29 := Tryz.func110.trans (congrArg some (by kernel_rfl))
 f46 := ⟨Tryz.f123.name, by decide, Tryz.func123.trans (congrArg some (by kernel_rfl))⟩
 f47 := Tryz.func124.trans (congrArg some (by kernel_rfl))
 f48 := Tryz.func125.trans (congrArg some (by kernel_rfl))
 f49 := ⟨Tryz.f126.name, by decide, Tryz.func126.trans (congrArg some (by kernel_rfl))⟩
 f50 := ⟨Tryz.f127.name, by decide, Tryz.func127.trans (congrArg some (by kernel_rfl))⟩
 f57 := ⟨Tryz.f137.name, by decide, Tryz.func137.trans (congrArg some (by kernel_rfl))⟩
 t0 := Tryz.underlying0
 a0 := Tryz.isAgg0
 z0 := Tryz.sizeOf0
 v0 := Tryz.zeroValue0
 t3 := Tryz.underlying3
 a3 := Tryz.isAgg3
 z3 := Tryz.sizeOf3
 v3 := Tryz.zeroValue3
 t4 := Tryz.underlying4
 a4 := Tryz.isAgg4
 z4 := Tryz.sizeOf4
 v4 := Tryz.zeroValue4
 t5 := Tryz.underlying5
 a5 := Tryz.isAgg5
 z5 := Tryz.sizeOf5
 v5 := Tryz.zeroValue5
 t9 := Tryz.underlying9
 a9 := Tryz.isAgg9
 z9 := Tryz.sizeOf9
 v9 := Tryz.zeroValue9
 t22 := Tryz.underlying40
 a22 := Tryz.isAgg40
 z22 := Tryz.sizeOf40
 v22 := Tryz.zeroValue40
 t25 := Tryz.underlying138
 a25 := Tryz.isAgg138
 z25 := Tryz.sizeOf138
 v25 := Tryz.zeroValue138
 t39 := Tryz.underlying127
 a39 := Tryz.isAgg127
 z39 := Tryz.sizeOf127
 v39 := Tryz.zeroValue127
 t45 := Tryz.underlying170
 a45 := Tryz.isAgg170
 z45 := Tryz.sizeOf170
 v45 := Tryz.zeroValue170
 t46 := Tryz.underlying171
 a46 := Tryz.isAgg171
 z46 := Tryz.sizeOf171
 v46 := Tryz.zeroValue171
 t50 := Tryz.underlying77
 a50 := Tryz.isAgg77
 z50 := Tryz.sizeOf77
 v50 := Tryz.zeroValue77
 t53 := Tryz.underlying177
 a53 := Tryz.isAgg177
 z53 := Tryz.sizeOf177
 v53 := Tryz.zeroValue177
 t55 := Tryz.underlying166
 a55 := Tryz.isAgg166
 z55 := Tryz.sizeOf166
 v55 := Tryz.zeroValue166
 t66 := Tryz.underlying191
 a66 := Tryz.isAgg191
 z66 := Tryz.sizeOf191
 v66 := Tryz.zeroValue191
 t70 := Tryz.underlying195
 a70 := Tryz.isAgg195
 z70 := Tryz.sizeOf195
 v70 := Tryz.zeroValue195
 t76 := Tryz.underlying207
 a76 := Tryz.isAgg207
 z76 := Tryz.sizeOf207
 v76 := Tryz.zeroValue207
 t77 := Tryz.underlying118
 a77 := Tryz.isAgg118
 z77 := Tryz.sizeOf118
 v77 := Tryz.zeroValue118 }
end Go.Proofs
end
section
namespace Go.Proofs.YtcgdloldkcmhnaaGreat.H
open Go Go.RowKit Go.Proofs.YtcgdloldkcmhnaaGreat.PrintC Go.Proofs.YtcgdloldkcmhnaaGreat.PrintE Go.Proofs.YtcgdloldkcmhnaaGreatW.PrintWords Go.Proofs.YtcgdloldkcmhnaaGreatW.PrintLast Go.Proofs.YtcgdloldkcmhnaaGreatW.PrintMore
set_option linter.unusedVariables false
set_option linter.unusedSimpArgs false
instance : Inhabited Mv := ⟨z76⟩
def encMv (x : Mv) : List Value := [.int .i64 x.f0, .int .i64 x.f1, .int .i64 x.f2]
def cmpI (x y : Int) : Int := if x < y then -1 else if y < x then 1 else 0
def cmpMv (a b : Mv) : Int := if cmpI a.f1 b.f1 = 0 then cmpI a.f0 b.f0 else cmpI a.f1 b.f1
theorem cmpMv_iff (a b : Mv) : cmpMv a b < 0 ↔ mlt a b := by
 unfold cmpMv cmpI mlt
 repeat' split
 all_goals omega
section
variable (w : World)
theorem nan_walk (x : Int) : Calls Tryz.prog 93 #[.int .i64 x] w fun e w' => e = .returned (.bool false) ∧ w' = w := by
 have hx : (x != x) = false := bne_self_eq_false x
 go_enter Tryz.func93, Tryz.ntmps93
 go_wp2
 go_ret
 exact ⟨rfl, rfl⟩
set_option maxHeartbeats 1000000 in
theorem compare_walk (x y R : Int) (hR : cmpI x y = R) : Calls Tryz.prog 77 #[.int .i64 x, .int .i64 y] w fun e w' => e = .returned (.int .i64 R) ∧ w' = w := by
 unfold cmpI at hR
 by_cases c1 : x < y
 ·rw [if_pos c1] at hR
  subst hR
  go_enter Tryz.func77, Tryz.ntmps77
  go_wp2_with (go_at_call 93; refine (nan_walk _ _).mono ?_; rintro e w1 ⟨rfl, rfl⟩)
  go_ret
  exact ⟨rfl, rfl⟩
 ·rw [if_neg c1] at hR
  by_cases c2 : y < x
  ·rw [if_pos c2] at hR
   subst hR
   go_enter Tryz.func77, Tryz.ntmps77
   go_wp2_with (go_at_call 93; refine (nan_walk _ _).mono ?_; rintro e w1 ⟨rfl, rfl⟩)
   go_ret
   exact ⟨rfl, rfl⟩
  ·rw [if_neg c2] at hR
   subst hR
   go_enter Tryz.func77, Tryz.ntmps77
   go_wp2_with (go_at_call 93; refine (nan_walk _ _).mono ?_; rintro e w1 ⟨rfl, rfl⟩)
   go_ret
   exact ⟨rfl, rfl⟩
set_option maxHeartbeats 1000000 in
theorem or_walk (g : Nat) (x y R : Int) (hR : (if x = 0 then y else x) = R) (z0 : w.cell? ⟨g, 0, none⟩ = some (.int .i64 x)) (z1 : w.cell? ⟨g, 1, none⟩ = some (.int .i64 y)) :
  Calls Tryz.prog 76 #[.slice (some ⟨g, 0, none⟩) 2 2] w fun e w' => e = .returned (.int .i64 R) ∧ w' = w := by
 have HR := zh hR
 clear hR
 go_enter Tryz.func76, Tryz.ntmps76
 go_wp2
 go_loopg [8] 3 (fun k iv W => W = w ∧ ((iv = .int .i64 0 ∧ k = 3) ∨ (iv = .int .i64 1 ∧ k = 2 ∧ Hid (x = 0)) ∨ (iv = .int .i64 2 ∧ k = 1 ∧ Hid (x = 0 ∧ y = 0))))
 case atStart => exact ⟨rfl, .inl ⟨rfl, rfl⟩⟩
 case round =>
  obtain ⟨rfl, (⟨rfl, rfl⟩ | ⟨rfl, rfl, HX⟩ | ⟨rfl, rfl, HX⟩)⟩ := hrel
  ·by_cases c : x = 0
   ·have d1 : (x == 0) = true := beq_iff_eq.2 c
    have d2 : (x != 0) = false := by rw [bne, d1]; rfl
    have HC := zh c
    clear c
    go_wp2
    go_roundg 2
    case measure => omega
    case rel => exact ⟨rfl, .inr (.inl ⟨rfl, rfl, HC⟩)⟩
   ·have d1 : (x == 0) = false := beq_eq_false_iff_ne.2 c
    have d2 : (x != 0) = true := by rw [bne, d1]; rfl
    have HC := zh c
    clear c
    go_wp2
    go_ret
    exact ⟨by rw [← HR.out, if_neg HC.out]; rfl, rfl⟩
  ·by_cases c : y = 0
   ·have d1 : (y == 0) = true := beq_iff_eq.2 c
    have d2 : (y != 0) = false := by rw [bne, d1]; rfl
    have HC := zh c
    clear c
    go_wp2
    go_roundg 1
    case measure => omega
    case rel => exact ⟨rfl, .inr (.inr ⟨rfl, rfl, zh ⟨HX.out, HC.out⟩⟩)⟩
   ·have d1 : (y == 0) = false := beq_eq_false_iff_ne.2 c
    have d2 : (y != 0) = true := by rw [bne, d1]; rfl
    have HC := zh c
    clear c
    go_wp2
    go_ret
    exact ⟨by rw [← HR.out, if_pos HX.out]; rfl, rfl⟩
  ·go_wp2
   go_ret
   exact ⟨by rw [← HR.out, if_pos HX.out.1, HX.out.2]; rfl, rfl⟩
end
def Grew (W w' : World) : Prop := ∃ q os', w' = Go.Sort.grow (W.drewN q) os'
theorem Grew.refl (W : World) : Grew W W := ⟨0, #[], by rw [Go.Sort.grow_empty]; rfl⟩
theorem Grew.alloc {W w' : World} (h : Grew W w') (o : Obj) : Grew W (w'.alloc o) := by
 obtain ⟨q, os, rfl⟩ := h
 exact ⟨q, _, by rw [Go.Sort.alloc_eq_grow, Go.Sort.grow_grow]⟩
theorem Grew.drew {W w' : World} (h : Grew W w') : Grew W w'.drew := by
 obtain ⟨q, os, rfl⟩ := h
 exact ⟨q + 1, os, rfl⟩
set_option maxHeartbeats 4000000 in
set_option maxRecDepth 100000 in
theorem cmp3_walk (x y : Mv) (W : World) : Calls Tryz.prog 75 #[.agg #[.int .i64 x.f0, .int .i64 x.f1, .int .i64 x.f2], .agg #[.int .i64 y.f0, .int .i64 y.f1, .int .i64 y.f2]] W fun e w' => e = .returned (.int .i64 (cmpMv x y)) ∧ Grew W w' := by
 obtain ⟨R, hR⟩ : ∃ R, R = cmpMv x y := ⟨_, rfl⟩
 obtain ⟨R1, hR1⟩ : ∃ R1, cmpI x.f1 y.f1 = R1 := ⟨_, rfl⟩
 obtain ⟨R2, hR2⟩ : ∃ R2, cmpI x.f0 y.f0 = R2 := ⟨_, rfl⟩
 have HR : Hid ((if R1 = 0 then R2 else R1) = R ∧ cmpI x.f1 y.f1 = R1 ∧ cmpI x.f0 y.f0 = R2) := zh ⟨by rw [hR, ← hR1, ← hR2]; rfl, hR1, hR2⟩
 rw [← hR]
 clear hR hR1 hR2
 go_enter Tryz.func75, Tryz.ntmps75
 go_wp2
 obtain ⟨wr, hwr⟩ : ∃ wr, wr = (W.alloc (.cells #[.int .i64 x.f0, .int .i64 x.f1, .int .i64 x.f2] 76)).alloc (.cells #[.int .i64 y.f0, .int .i64 y.f1, .int .i64 y.f2] 76) := ⟨_, rfl⟩
 have HG : Hid (Grew W wr) := zh (by rw [hwr]; exact ((Grew.refl W).alloc _).alloc _)
 have hc : wr.drew.cell? ⟨W.heap.size, 1, none⟩ = some (.int .i64 x.f1) ∧ wr.drew.cell? ⟨W.heap.size + 1, 1, none⟩ = some (.int .i64 y.f1) ∧ wr.drew.cell? ⟨W.heap.size, 0, none⟩ = some (.int .i64 x.f0) ∧ wr.drew.cell? ⟨W.heap.size + 1, 0, none⟩ = some (.int .i64 y.f0) := by
  rw [hwr]
  refine ⟨?_, ?_, ?_, ?_⟩ <;> simp
 rw [← hwr]
 clear hwr
 refine stepS (S := fun w' => w'.cell? ⟨W.heap.size, 1, none⟩ = some (.int .i64 x.f1) ∧ w'.cell? ⟨W.heap.size + 1, 1, none⟩ = some (.int .i64 y.f1) ∧ w'.cell? ⟨W.heap.size, 0, none⟩ = some (.int .i64 x.f0) ∧ w'.cell? ⟨W.heap.size + 1, 0, none⟩ = some (.int .i64 y.f0)) (ds := [11]) 13 (by kernel_rfl) rfl hc (fun hHeld => ?_)
 have HG1 := zh HG.out.drew
 generalize wr.drew = wd at HG1 hHeld ⊢
 clear hc HG
 refine sP 0 ?_
 refine sT 1 hHeld ?_
 refine sP 2 ?_
 refine sT 3 hHeld ?_
 refine sP 5 ?_
 refine sT 6 hHeld ?_
 refine sP 7 ?_
 refine sT 8 hHeld ?_
 refine sC 4 Tryz.func77 #[.int .i64 x.f1, .int .i64 y.f1] (compare_walk wd x.f1 y.f1 R1 HR.out.2.1) ?_
 rintro e w5 ⟨rfl, rfl⟩
 refine ⟨_, rfl, hHeld, fun hHeld => ?_⟩
 refine sN ?_
 refine sC 9 Tryz.func77 #[.int .i64 x.f0, .int .i64 y.f0] (compare_walk w5 x.f0 y.f0 R2 HR.out.2.2) ?_
 rintro e w6 ⟨rfl, rfl⟩
 refine ⟨_, rfl, hHeld, fun hHeld => ?_⟩
 refine sN ?_
 refine sB 10 hHeld (fun hHeld => ?_)
 have HG2 := zh (HG1.out.alloc (.cells #[.int .i64 R1, .int .i64 R2] 3))
 refine sCL 11 Tryz.func76 #[.slice (some ⟨w6.heap.size, 0, none⟩) 2 2] (or_walk _ w6.heap.size R1 R2 R HR.out.1 (by simp) (by simp)) ?_
 rintro e w7 ⟨rfl, rfl⟩
 refine ⟨_, rfl, ?_⟩
 refine sN ?_
 refine sP 12 ?_
 refine done_ (by kernel_rfl) ?_
 clear hHeld
 go_wp2
 go_ret
 exact ⟨rfl, HG2.out⟩
theorem mv_swo : Go.Sort.SWO (Go.Proofs.ltOf cmpMv) where
 irrefl x := by
  unfold Go.Proofs.ltOf
  rw [decide_eq_false_iff_not, cmpMv_iff]
  unfold mlt
  omega
 trans x y z h1 h2 := by
  unfold Go.Proofs.ltOf at *
  rw [decide_eq_true_eq, cmpMv_iff] at *
  exact mlt_trans h1 h2
 ntrans x y z h1 h2 := by
  unfold Go.Proofs.ltOf at *
  rw [decide_eq_false_iff_not, cmpMv_iff] at *
  unfold mlt at *
  omega
theorem flat_put (d : Array Mv) (j : Nat) (x : Mv) (hj : j < d.size) : Go.Sort.setMany (Go.Sort.flatK encMv 3 d) (j * 3) (encMv x) = Go.Sort.flatK encMv 3 (d.setIfInBounds j x) := by
 refine Go.Sort.ext_get! (by simp) fun t ht => ?_
 have ht' : t < d.size * 3 := by simpa using ht
 rw [Go.Sort.get_setMany _ _ _ t (by simpa using ht'), Go.Sort.get_flatK _ _ _ t ht', Go.Sort.get_flatK _ _ _ t (by simpa using ht'), show (encMv x).length = 3 from rfl]
 have e : (d.setIfInBounds j x)[t / 3]! = if t / 3 = j then x else d[t / 3]! := by
  by_cases a : t / 3 = j
  ·rw [a, if_pos rfl, Go.Sort.getElem!_set_same _ _ _ hj]
  ·rw [if_neg a]
   rw [getElem!_pos _ (t / 3) (by rw [Array.size_setIfInBounds]; omega), getElem!_pos _ (t / 3) (by omega), Array.getElem_setIfInBounds, if_neg (Ne.symm a)]
 rw [e]
 by_cases a : t / 3 = j
 ·rw [if_pos (by omega), if_pos a, show t - j * 3 = t % 3 by omega]
 ·rw [if_neg (by omega), if_neg a]
section
variable {W : World} {base g n c : Nat}
theorem mv_holds {xs : List Mv} (h : Kd.R kMv 76 W base (fun _ => True) (.slice (some ⟨g, 0, none⟩) n c) xs) : Go.Sort.HoldsK encMv 3 W g 0 xs.toArray := by
 intro j hj
 have hj' : j < xs.length * 3 := by simpa using hj
 have hn : n = xs.length := (Kd.R_reads' h).1
 obtain ⟨ce, hcl, hM, hcc, hfr⟩ := Kd.R_elem h z76 ((j / 3 : Nat) : Int) (by omega) (by omega)
 obtain rfl := k76_openM hM
 rw [Go.Sort.get_flatK _ _ _ j (by simpa using hj')]
 have e : xs.toArray[j / 3]! = xs.getD (j / 3) z76 := by
  rw [List.getD_eq_getElem?_getD, List.getElem?_eq_getElem (by omega), getElem!_pos _ _ (by simp; omega)]
  simp
 rw [e]
 simp only [Int.toNat_natCast, show k76.sz = 3 from rfl] at hcc hfr
 have hk : j = j / 3 * 3 + j % 3 := by omega
 have hr := hfr (j % 3)
 rw [← hk] at hr
 refine ⟨?_, by rw [Nat.zero_add]; exact hr⟩
 have hm : j % 3 = 0 ∨ j % 3 = 1 ∨ j % 3 = 2 := by omega
 rw [Nat.zero_add]
 rcases hm with h0 | h0 | h0
 ·have := hcc 0 _ rfl
  rw [← h0, ← hk] at this
  rw [this, h0]
  rfl
 ·have := hcc 1 _ rfl
  rw [← h0, ← hk] at this
  rw [this, h0]
  rfl
 ·have := hcc 2 _ rfl
  rw [← h0, ← hk] at this
  rw [this, h0]
  rfl
def mixA (d e : Array Mv) : Nat → Array Mv
 |0 => d
 |j + 1 => (mixA d e j).setIfInBounds j e[j]!
theorem mixA_size (d e : Array Mv) : ∀ j, (mixA d e j).size = d.size
 |0 => rfl
 |j + 1 => by rw [mixA, Array.size_setIfInBounds, mixA_size d e j]
theorem mixA_get (d e : Array Mv) (t : Nat) (ht : t < d.size) : ∀ j, (mixA d e j)[t]! = if t < j then e[t]! else d[t]!
 |0 => by rw [if_neg (by omega)]; rfl
 |j + 1 => by
  rw [mixA]
  by_cases a : j = t
  ·subst a
   rw [if_pos (by omega), Go.Sort.getElem!_set_same _ _ _ (by rw [mixA_size]; exact ht)]
  ·have h1 : ((mixA d e j).setIfInBounds j e[j]!)[t]! = (mixA d e j)[t]! := by
    rw [getElem!_pos _ t (by rw [Array.size_setIfInBounds, mixA_size]; exact ht), getElem!_pos _ t (by rw [mixA_size]; exact ht), Array.getElem_setIfInBounds, if_neg a]
   rw [h1, mixA_get d e t ht j]
   by_cases b : t < j
   ·rw [if_pos b, if_pos (by omega)]
   ·rw [if_neg b, if_neg (by omega)]
theorem mixA_end (d e : Array Mv) (h : e.size = d.size) : mixA d e d.size = e := by
 refine Array.ext (by rw [mixA_size, h]) fun t h1 h2 => ?_
 have := mixA_get d e t (by rw [mixA_size] at h1; exact h1) d.size
 rw [if_pos (by rw [mixA_size] at h1; exact h1), getElem!_pos _ t h1, getElem!_pos _ t h2] at this
 exact this
theorem mv_mix {w0 : World} {xs : List Mv} (h : Kd.R kMv 76 W base (fun _ => True) (.slice (some ⟨g, 0, none⟩) n c) xs) (hb : Below base w0 W) (e : Array Mv) :
  ∀ j, j ≤ xs.length → Kd.R kMv 76 (Go.Sort.putRowK encMv 3 W g 0 (mixA xs.toArray e j)) base (fun _ => True) (.slice (some ⟨g, 0, none⟩) n c) (mixA xs.toArray e j).toList ∧ Below base w0 (Go.Sort.putRowK encMv 3 W g 0 (mixA xs.toArray e j))
 |0, _ => by
  show Kd.R _ _ (Go.Sort.putRowK encMv 3 W g 0 xs.toArray) base _ _ xs ∧ Below base w0 (Go.Sort.putRowK encMv 3 W g 0 xs.toArray)
  rw [Go.Sort.putRowK_self encMv 3 W g 0 _ (mv_holds h)]
  exact ⟨h, hb⟩
 |j + 1, hj => by
  obtain ⟨h1, h2⟩ := mv_mix h hb e j (by omega)
  have hn : n = xs.length := (Kd.R_reads' h).1
  have hs : (mixA xs.toArray e j).size = xs.length := by rw [mixA_size]; simp
  obtain ⟨ce, hcl, hM, hcc, hfr⟩ := Kd.R_elem h1 z76 (j : Int) (by omega) (by omega)
  obtain rfl := k76_openM hM
  have hg := Kd.R_base h g rfl
  have s1 := (Kd.R_seg h1 (j : Int) (by omega) (by omega) (seg := encMv e[j]!) (j := 0) hcl hcc (show 3 ≤ 3 from by decide) (x' := e[j]!) (k76_mkM _ _ _ _) (fun _ hk => hk)).1
  have ew : (Go.Sort.putRowK encMv 3 W g 0 (mixA xs.toArray e j)).setCells g (0 + j * 3) (encMv e[j]!) = Go.Sort.putRowK encMv 3 W g 0 (mixA xs.toArray e (j + 1)) := by
   unfold Go.Sort.putRowK
   rw [Go.Sort.setCells_putRow _ _ _ _ _ _ (by rw [Go.Sort.size_flatK, hs, show (encMv e[j]!).length = 3 from rfl]; omega), flat_put _ _ _ (by omega)]
   rfl
  rw [Int.toNat_natCast, show k76.sz = 3 from rfl, Nat.add_zero, ← Nat.zero_add (j * 3), ew] at s1
  refine ⟨?_, ?_⟩
  ·rw [show (mixA xs.toArray e (j + 1)).toList = (mixA xs.toArray e j).toList.set j e[j]! from Array.toList_setIfInBounds ..]
   exact s1
  ·rw [← ew]
   exact ((h2.setCell hg _).setCell hg _).setCell hg _
end
theorem below_grow (W : World) (os : Array Obj) : Below W.heap.size W (Go.Sort.grow W os) := ⟨rfl, rfl, rfl, by rw [Go.Sort.size_grow]; omega, fun k hk => Go.Sort.heap_grow_old W os hk⟩
theorem sortmv_walk {base : Nat} {w0 W : World} {Ao : Option Addr} {co : Nat} {xs : List Mv} (h : Kd.R kMv 76 W base (fun _ => True) (.slice Ao xs.length co) xs) (hb : Below base w0 W) (hbs : base ≤ W.heap.size) (hl : xs.length ≤ 1000000) :
  Calls Tryz.prog 74 #[.slice Ao xs.length co, .func (.func 75) #[] #[]] W fun e w' => e = .returned (.tuple #[]) ∧ ∃ ys : List Mv, ys.Perm xs ∧ ys.Pairwise (fun a b => ¬ mlt b a) ∧ Kd.R kMv 76 w' base (fun _ => True) (.slice Ao xs.length co) ys ∧ Below base w0 w' := by
 by_cases h0 : 0 < xs.length
 case neg =>
  have e0 : xs = [] := List.length_eq_zero_iff.1 (by omega)
  subst e0
  have hcon := Go.Proofs.AnyF.slices_SortFunc_none Tryz.sortMv Ao co (.func (.func 75) #[] #[]) W
  change Calls Tryz.prog 74 _ _ _ at hcon
  refine hcon.mono ?_
  rintro e w' ⟨rfl, rfl⟩
  exact ⟨rfl, [], List.Perm.refl _, List.Pairwise.nil, h, hb⟩
 obtain ⟨g, cap, e1, hbg, hgl, -⟩ := Kd.R_form h h0
 injection e1 with e1 _ e2
 subst e1
 subst e2
 have eg : ∀ args w, (callFunc 75 args).run Tryz.prog w = .ok (.enter 75 args) w := enters_of Tryz.func75 (by kernel_rfl) rfl
 have hcmp : Go.Proofs.CmpLays Tryz.prog 75 #[] encMv 3 cmpMv g 0 xs.toArray.size W := fun _ _ _ _ x y => cmp3_walk x y _
 have hcon := Go.Proofs.AnyQ.slices_SortFunc Tryz.sortMv 3 Tryz.isAgg76 Tryz.sizeOf76 encMv (fun _ => rfl) (fun x v hv => by simp [encMv] at hv; rcases hv with rfl | rfl | rfl <;> rfl) cmpMv mv_swo 75 #[] g 0 co xs.toArray W eg hcmp (mv_holds h) hgl (by simp; omega)
 change Calls Tryz.prog 74 _ _ _ at hcon
 rw [List.size_toArray] at hcon
 refine hcon.mono ?_
 rintro e w' ⟨rfl, d', m, os, hp, hs, rfl⟩
 obtain ⟨hsz, -, hpm⟩ := hp
 have hsz : d'.size = xs.length := by simpa using hsz
 have hx : ∀ a : Array Mv, a.size = xs.length → (a.extract 0 xs.length).toList = a.toList := fun a ha => by rw [← ha, Array.extract_size]
 rw [hx d' hsz, hx xs.toArray (List.size_toArray ..)] at hpm
 have h1 := Kd.R_below h (show Below W.heap.size W (Go.Sort.ahead W m) from ⟨rfl, rfl, rfl, Nat.le_refl _, fun _ _ => rfl⟩)
 have hb1 : Below base w0 (Go.Sort.ahead W m) := hb.trans (show Below base W (Go.Sort.ahead W m) from ⟨rfl, rfl, rfl, Nat.le_refl _, fun _ _ => rfl⟩)
 have hm := mv_mix h1 hb1 d' xs.length (Nat.le_refl _)
 have he : mixA xs.toArray d' xs.length = d' := by
  have := mixA_end xs.toArray d' (by rw [hsz]; simp)
  rwa [List.size_toArray] at this
 rw [he] at hm
 have hgw := below_grow (Go.Sort.putRowK encMv 3 (Go.Sort.ahead W m) g 0 d') os
 refine ⟨rfl, d'.toList, hpm, ?_, Kd.R_below hm.1 hgw, hm.2.trans (hgw.mono (Nat.le_of_lt (Nat.lt_of_le_of_lt hbg (Kd.R_lt hm.1 g rfl))))⟩
 rw [List.pairwise_iff_getElem]
 intro i j hi hj hij
 have h3 := hs i j (Nat.zero_le _) hij (by rw [← hsz]; simpa using hj)
 unfold Go.Proofs.ltOf at h3
 rw [decide_eq_false_iff_not, cmpMv_iff, getElem!_pos _ _ (by simpa using hj), getElem!_pos _ _ (by simpa using hi)] at h3
 simpa using h3
theorem mvApp : AppK Tryz.prog kMv 40 76 (fun x => [.int .i64 x.f0, .int .i64 x.f1, .int .i64 x.f2]) := ⟨Tryz.underlying40, ⟨_, 24, infoMv, rfl, by decide, by decide⟩, by decide, k76_mkM⟩
theorem mv_empty {W : World} {g base : Nat} (hb : W.heap[g]? = some (.cells #[] 76 (0, 0))) (hg : base ≤ g) : Kd.R kMv 76 W base (fun _ => True) (.slice (some ⟨g, 0, none⟩) 0 0) [] := by
 exact ⟨fun _ _ => trivial, [], ⟨rfl, .inr ⟨g, 0, #[], rfl, hg, hb, Nat.le_refl _, by decide, rfl, rfl⟩⟩, ⟨rfl, fun j p hj => by simp at hj⟩⟩
theorem group_of {l hs : List Mv} {D : DataW Unit} (h : GaI l l.length hs D) {y : Mv} (hy : y ∈ hs) :
  ∃ (t : Nat) (r : List Int), gIdx l l.length y = (t : Int) :: r ∧ t < l.length ∧ (mvAt l t).f0 = y.f0 ∧ (mvAt l t).f1 = y.f1 := by
 obtain ⟨k, hk, e⟩ := h.mem y hy
 have hm : (k : Int) ∈ gIdx l l.length y := by
  unfold gIdx
  exact List.mem_map.2 ⟨k, List.mem_filter.2 ⟨List.mem_range.2 hk, by rw [e]; exact sameK_refl _⟩, rfl⟩
 cases hg : gIdx l l.length y with
 |nil =>
  rw [hg] at hm
  cases hm
 |cons a r =>
  obtain ⟨t, ht, rfl, hs⟩ := gIdx_mem (show a ∈ gIdx l l.length y by rw [hg]; exact List.mem_cons_self ..)
  exact ⟨t, r, rfl, ht, (sameK_iff.1 hs).1.symm, (sameK_iff.1 hs).2.symm⟩
theorem group_sum (l : List Mv) (y : Mv) : sumL (f2s l (gIdx l l.length y)) = amt l y := by
 unfold f2s
 rw [gIdx_nums y (Nat.le_refl _), List.take_length]
 rfl
theorem group_lt {l : List Mv} {y : Mv} {k : Int} (h : k ∈ gIdx l l.length y) : ∃ t : Nat, t < l.length ∧ k = t := by
 obtain ⟨t, ht, e, -⟩ := gIdx_mem h
 exact ⟨t, ht, e⟩
set_option maxHeartbeats 8000000 in
set_option maxRecDepth 100000 in
theorem moves_walk (A : Option Addr) (c : Nat) (l : List Mv) (w : World) (hr : Kd.C kMv w A l.length l) (hw : ∀ x, x ∈ l → WfM x) (hi : ∀ x, x ∈ l → -9223372036854775808 ≤ x.f2 ∧ x.f2 ≤ 9223372036854775807) (hl : l.length ≤ 100000) :
  Calls Tryz.prog 40 #[.slice A l.length c] w (MovesAt l w) := by
 have HR := zh hr
 have HW := zh hw
 have HI := zh hi
 have hu := Tryz.underlying76
 clear hr hw hi
 go_enter Tryz.func40, Tryz.ntmps40
 go_wp2_with (go_at_call 70; go_loud ((with_reducible refine (gather_walk A c l _ ?s1 HW.out hl).mono ?_); (case s1 => exact Kd.C_below HR.out (below_alloc (Below.refl _ _) _)); rintro e w1 ⟨hb, hs, D, Ag, cg, rfl, hS, hGa, hle⟩; have HX : Hid (Kd.S kInts 68 w1 w.heap.size (fun _ => True) (.slice Ag hs.length cg) (rowsOf l hs) ∧ Kd.R kMv 76 w1 w.heap.size (fun _ => True) (.slice (some ⟨w.heap.size, 0, none⟩) (mAll l (hs.take 0)).length 0) (mAll l (hs.take 0)) ∧ Below w.heap.size w w1) := zh ⟨Kd.S_lower hS (by rw [alloc_size]; omega), Kd.R_below (mv_empty (heap_alloc_new w _) (Nat.le_refl _)) hb, below_step (below_alloc (Below.refl _ _) _) hb⟩; have HGA := zh (And.intro hGa hle); clear hb hS hGa hle))
 go_loopg [4, 13] (hs.length + 1) (fun k ov iv W => ∃ (i : Nat) (Ao : Option Addr) (co : Nat), i ≤ hs.length ∧ ov = .slice Ao (mAll l (hs.take i)).length co ∧ iv = .int .i64 i ∧ k = hs.length + 1 - i ∧ Hid (Kd.S kInts 68 W w.heap.size (fun _ => True) (.slice Ag hs.length cg) (rowsOf l hs) ∧ Kd.R kMv 76 W w.heap.size (fun _ => True) (.slice Ao (mAll l (hs.take i)).length co) (mAll l (hs.take i)) ∧ Below w.heap.size w W ∧ ∀ y, y ∈ hs.take i → fits (amt l y) = true))
 case atStart => exact ⟨0, _, 0, Nat.zero_le _, rfl, rfl, rfl, zh ⟨HX.out.1, HX.out.2.1, HX.out.2.2, fun y hy => by simp at hy⟩⟩
 case round =>
  obtain ⟨i, Ao, co, hi, rfl, rfl, rfl, HL⟩ := hrel
  clear HX
  by_cases hlt : i < hs.length
  ·have hhl := HGA.out.2
   have i0 : (0 : Int) ≤ (i : Int) := by omega
   have i1 : (i : Int) < (hs.length : Int) := by omega
   obtain ⟨y, hy⟩ : ∃ y, hs[i]? = some y := ⟨_, List.getElem?_eq_getElem hlt⟩
   have hym : y ∈ hs := List.mem_of_getElem? hy
   have hrow : (rowsOf l hs).getD i [] = gIdx l l.length y := by
    unfold rowsOf
    rw [List.getD_eq_getElem?_getD, List.getElem?_map, hy]
    rfl
   obtain ⟨go, Ar, cr, eg, z0, hrr⟩ := list_at HL.out.1 i (by unfold rowsOf; rw [List.length_map]; exact hlt)
   subst eg
   rw [hrow] at z0 hrr
   obtain ⟨t, r, hgr, ht, hf0, hf1⟩ := group_of HGA.out.1 hym
   obtain ⟨m, hm⟩ : ∃ m, (gIdx l l.length y).length = m := ⟨_, rfl⟩
   have HMM : Hid ((gIdx l l.length y).length = m ∧ 0 < m ∧ m ≤ 100000) := zh ⟨hm, by rw [← hm, hgr]; simp, by rw [← hm]; exact Nat.le_trans (gIdx_len l l.length y) hl⟩
   rw [hm] at z0 hrr
   have m0 : (0 : Int) < (m : Int) := by have := HMM.out.2.1; omega
   have HRR := zh hrr
   obtain ⟨ae, eb, q0⟩ := Kd.at_int (show Kd.C (Kd.int .i64) wr Ar m (gIdx l l.length y) by have h9 := (Kd.R_reads' hrr).2.2; rw [hm] at h9; exact h9) (0 : Int) (by decide) m0
   subst eb
   have q9 : rd (gIdx l l.length y) (0 : Int) = (t : Int) := by rw [hgr]; rfl
   rw [q9, show (0 : Int).toNat = 0 from rfl, show ae.add 0 = ae from by cases ae; simp [Addr.add]] at q0
   have t0 : (0 : Int) ≤ (t : Int) := by omega
   have t1 : (t : Int) < (l.length : Int) := by omega
   obtain ⟨ad, ea, y0, y1, y2⟩ := at_T76 (Kd.C_below HR.out HL.out.2.2.1) (t : Int) t0 t1
   subst ea
   obtain ⟨X, hX⟩ : ∃ X, X = mvAt l t := ⟨_, rfl⟩
   have hX2 : rd_T76 l (t : Int) = X := by rw [hX]; rfl
   rw [Int.toNat_natCast, hX2] at y0 y1 y2
   obtain ⟨T, hT⟩ : ∃ T, T = amt l y := ⟨_, rfl⟩
   have HY : Hid (hs[i]? = some y ∧ y ∈ hs ∧ X.f0 = y.f0 ∧ X.f1 = y.f1 ∧ T = amt l y ∧ hs.take (i + 1) = hs.take i ++ [y]) := zh ⟨hy, hym, by rw [hX]; exact hf0, by rw [hX]; exact hf1, hT, by rw [List.take_add_one, hy]; rfl⟩
   have HTOT : Hid (∀ W, Below w.heap.size w W → Kd.C (Kd.int .i64) W (some ae) m (gIdx l l.length y) → Calls Tryz.prog 72 #[.slice (some ad) l.length c, .slice (some ae) m cr, .func (.func 73) #[] #[]] W (SumAt (f2s l (gIdx l l.length y)) W)) := zh (fun W hW hC => by
    rw [← hm] at hC ⊢
    exact tot_walk (some ad) c l (some ae) cr _ W (Kd.C_below HR.out hW) hC (fun k hk => group_lt hk) HI.out (by rw [hm]; exact HMM.out.2.1) (by rw [hm]; exact HMM.out.2.2))
   have HRC : Hid (∀ W, Below wr.heap.size wr W → Kd.C (Kd.int .i64) W (some ae) m (gIdx l l.length y)) := zh (fun W hW => by
    have h9 := (Kd.R_reads' HRR.out).2.2
    rw [hm] at h9
    exact Kd.C_below h9 hW)
   have HSM : Hid (sumL (f2s l (gIdx l l.length y)) = T) := zh (by rw [group_sum, hT])
   clear hy hym hrow hrr hgr hf0 hf1 hm hX hX2 q9 hT ht
   obtain ⟨F, hF⟩ : ∃ F, fits T = F := ⟨_, rfl⟩
   cases F with
   |false =>
    have HF := zh hF
    clear hF
    go_wp2_with (go_at_call 72; go_loud ((with_reducible refine (HTOT.out _ ?s1 ?s2).mono ?_); (case s1 => exact below_alloc HL.out.2.2.1 _); (case s2 => exact HRC.out _ (below_alloc (Below.refl _ _) _)); intro e w2 hsum; obtain ⟨rfl, hb⟩ := SumAt.no hsum HSM.out HF.out; have HBW := zh (below_step (below_alloc (Below.refl wr.heap.size wr) (.cells #[.int .i64 X.f0, .int .i64 X.f1, .int .i64 X.f2] 76)) hb); have HBX := zh (blk_below (heap_alloc_new wr (.cells #[.int .i64 X.f0, .int .i64 X.f1, .int .i64 X.f2] 76)) hb); have b0 := (blk_cell HBX.out 0).trans rfl; have b1 := (blk_cell HBX.out 1).trans rfl; have b2 := (blk_cell HBX.out 2).trans rfl; have f2 := blk_frozen HBX.out 2; clear hsum hb))
    go_ret2
    refine ⟨below_step HL.out.2.2.1 (below_set HBW.out (Nat.le_refl _)), .inl ⟨rfl, y, ?_, by rw [← HY.out.2.2.2.2.1]; exact HF.out⟩⟩
    obtain ⟨k, hk, e⟩ := HGA.out.1.mem y HY.out.2.1
    rw [e]
    exact mvAt_mem hk
   |true =>
    have HF := zh hF
    clear hF
    by_cases c0 : T = 0
    ·have d1 : (T == 0) = true := beq_iff_eq.2 c0
     have d2 : (T != 0) = false := by rw [bne, d1]; rfl
     have HC := zh c0
     clear c0
     go_wp2_with (go_at_call 72; go_loud ((with_reducible refine (HTOT.out _ ?s1 ?s2).mono ?_); (case s1 => exact below_alloc HL.out.2.2.1 _); (case s2 => exact HRC.out _ (below_alloc (Below.refl _ _) _)); intro e w2 hsum; obtain ⟨rfl, hb⟩ := SumAt.yes hsum HSM.out HF.out; have HBW := zh (below_step (below_alloc (Below.refl wr.heap.size wr) (.cells #[.int .i64 X.f0, .int .i64 X.f1, .int .i64 X.f2] 76)) hb); have HBX := zh (blk_below (heap_alloc_new wr (.cells #[.int .i64 X.f0, .int .i64 X.f1, .int .i64 X.f2] 76)) hb); have b0 := (blk_cell HBX.out 0).trans rfl; have b1 := (blk_cell HBX.out 1).trans rfl; have b2 := (blk_cell HBX.out 2).trans rfl; have f2 := blk_frozen HBX.out 2; clear hsum hb))
     have HB3 : Hid (Below wr.heap.size wr (w2.setCell ⟨wr.heap.size, 2, none⟩ (.int .i64 T))) := zh (below_set HBW.out (Nat.le_refl _))
     go_roundg (hs.length - i)
     case measure => omega
     case rel => exact ⟨i + 1, Ao, co, by omega, by rw [HY.out.2.2.2.2.2, mAll_snoc, if_neg (by rw [← HY.out.2.2.2.2.1]; exact not_not_intro HC.out), List.append_nil], by go_num, by omega, zh (by
      rw [HY.out.2.2.2.2.2, mAll_snoc, if_neg (by rw [← HY.out.2.2.2.2.1]; exact not_not_intro HC.out), List.append_nil]
      refine ⟨Kd.S_below HL.out.1 HB3.out, Kd.R_below HL.out.2.1 HB3.out, below_step HL.out.2.2.1 HB3.out, fun z hz => ?_⟩
      rcases List.mem_append.1 hz with hz | hz
      ·exact HL.out.2.2.2 z hz
      ·rw [List.mem_singleton.1 hz, ← HY.out.2.2.2.2.1]
       exact HF.out)⟩
    ·have d1 : (T == 0) = false := beq_eq_false_iff_ne.2 c0
     have d2 : (T != 0) = true := by rw [bne, d1]; rfl
     have HC := zh c0
     have HLN : Hid ((mAll l (hs.take i)).length ≤ 1000000) := zh (by have h1 := mAll_len l (hs.take i); have h2 := HGA.out.2; have h3 : (hs.take i).length ≤ hs.length := by { rw [List.length_take]; omega }; omega)
     clear c0
     go_wp2_with (first
      |(go_at_call 72; go_loud ((with_reducible refine (HTOT.out _ ?s1 ?s2).mono ?_); (case s1 => exact below_alloc HL.out.2.2.1 _); (case s2 => exact HRC.out _ (below_alloc (Below.refl _ _) _)); intro e w2 hsum; obtain ⟨rfl, hb⟩ := SumAt.yes hsum HSM.out HF.out; have HBW := zh (below_step (below_alloc (Below.refl wr.heap.size wr) (.cells #[.int .i64 X.f0, .int .i64 X.f1, .int .i64 X.f2] 76)) hb); have HBX := zh (blk_below (heap_alloc_new wr (.cells #[.int .i64 X.f0, .int .i64 X.f1, .int .i64 X.f2] 76)) hb); have b0 := (blk_cell HBX.out 0).trans rfl; have b1 := (blk_cell HBX.out 1).trans rfl; have b2 := (blk_cell HBX.out 2).trans rfl; have f2 := blk_frozen HBX.out 2; clear hsum hb))
      |((with_reducible refine gate_dst (N := 38) rfl ?_); go_loud ((refine gA (w0 := w) (base := w.heap.size) mvApp (mAll l (hs.take i)) (⟨X.f0, X.f1, T⟩ : Mv) ?aO ?aB ?aS ?aL ?_); (case aO => exact Kd.R_below HL.out.2.1 (below_set HBW.out (Nat.le_refl _))); (case aB => exact below_step HL.out.2.2.1 (below_set HBW.out (Nat.le_refl _))); (case aS => exact (below_step HL.out.2.2.1 (below_set HBW.out (Nat.le_refl _))).size); (case aL => exact HLN.out); intro A1 c1 w9 ho hb hg; have HFF := zh (And.intro ho (And.intro hb (Kd.S_over' (Kd.S_below HL.out.1 (below_set HBW.out (Nat.le_refl _))) (Kd.R_typed (Kd.R_below HL.out.2.1 (below_set HBW.out (Nat.le_refl _)))) (by decide) hg))); clear ho hb hg)))
     go_roundg (hs.length - i)
     case measure => omega
     case rel => exact ⟨i + 1, A1, c1, by omega, by rw [HY.out.2.2.2.2.2, mAll_snoc, if_pos (by rw [← HY.out.2.2.2.2.1]; exact HC.out), List.length_append]; rfl, by go_num, by omega, zh (by
      have e9 : (⟨X.f0, X.f1, T⟩ : Mv) = mOf l y := by
       unfold mOf
       rw [HY.out.2.2.1, HY.out.2.2.2.1, HY.out.2.2.2.2.1]
      have h9 := HFF.out.1
      rw [e9] at h9
      rw [HY.out.2.2.2.2.2, mAll_snoc, if_pos (by rw [← HY.out.2.2.2.2.1]; exact HC.out), List.length_append]
      refine ⟨HFF.out.2.2, h9, HFF.out.2.1, fun z hz => ?_⟩
      rcases List.mem_append.1 hz with hz | hz
      ·exact HL.out.2.2.2 z hz
      ·rw [List.mem_singleton.1 hz, ← HY.out.2.2.2.2.1]
       exact HF.out)⟩
  ·have e : i = hs.length := by omega
   subst e
   have hl2 := HL.out
   rw [List.take_length] at hl2 ⊢
   have HE := zh hl2
   have HLN : Hid ((mAll l hs).length ≤ 1000000) := zh (by have := mAll_len l hs; have := HGA.out.2; omega)
   clear hl2
   obtain ⟨m, hm⟩ : ∃ m, (mAll l hs).length = m := ⟨_, rfl⟩
   have HMM := zh hm
   have HSRT : Hid (Calls Tryz.prog 74 #[.slice Ao m co, .func (.func 75) #[] #[]] wr fun e w' => e = .returned (.tuple #[]) ∧ ∃ ys : List Mv, ys.Perm (mAll l hs) ∧ ys.Pairwise (fun a b => ¬ mlt b a) ∧ Kd.R kMv 76 w' w.heap.size (fun _ => True) (.slice Ao (mAll l hs).length co) ys ∧ Below w.heap.size w w') := zh (by
    rw [← hm]
    exact sortmv_walk HE.out.2.1 HE.out.2.2.1 HE.out.2.2.1.size HLN.out)
   rw [hm]
   clear hm
   go_wp2_with (go_at_call 74; go_loud ((with_reducible refine (HSRT.out).mono ?_); rintro e w3 ⟨rfl, ys, hp, hs1, ho, hb⟩; have HF := zh (And.intro hp (And.intro hs1 (And.intro ho hb))); clear hp hs1 ho hb))
   go_ret2
   have hlen : ys.length = m := by rw [HF.out.1.length_eq, HMM.out]
   refine ⟨HF.out.2.2.2, .inr ⟨ys, Ao, co, by rw [hlen]; rfl, ?_, merged_of HGA.out.1 HE.out.2.2.2 HF.out.1 HF.out.2.1, ?_⟩⟩
   ·have h9 := HF.out.2.2.1
    rw [HMM.out, ← hlen] at h9
    exact h9
   ·rw [hlen, ← HMM.out]
    exact Nat.le_trans (mAll_len l hs) HGA.out.2
end Go.Proofs.YtcgdloldkcmhnaaGreat.H
end
