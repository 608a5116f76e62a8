/- Texts of this proof, joined; what the statement doesn't need is left out. -/
import Derived.Test.YtcgdloldkcmhnaaGreatM4
set_option maxHeartbeats 8000000
set_option maxRecDepth 100000
section
namespace Go.Proofs.YtcgdloldkcmhnaaGreat.H
open Go Go.RowKit Go.Proofs.YtcgdloldkcmhnaaGreat.PrintC Go.Proofs.YtcgdloldkcmhnaaGreat.PrintE Go.Proofs.YtcgdloldkcmhnaaGreatW.PrintWords Go.Proofs.YtcgdloldkcmhnaaGreatW.PrintLast Go.Proofs.YtcgdloldkcmhnaaGreatW.PrintMore
set_option linter.unusedVariables false
set_option linter.unusedSimpArgs false
theorem x6e : x5f Tryz.prog kMv 40 76 (fun x => [.int .i64 x.f0, .int .i64 x.f1, .int .i64 x.f2]) := ⟨Tryz.underlying40, ⟨_, 24, x3e, rfl, by decide, by decide⟩, by decide, z8h⟩
theorem y76 {W : World} {base g n c : Nat} {a b : List Mv} {X Y : Mv} (h2 : Kd.R kMv 76 W base (fun _ => True) (.slice (some ⟨g, 0, none⟩) n c) (a ++ Y :: X :: b)) {j q : Nat} (hj : j = a.length + 1) (hq : q = a.length) :
  (W.cell? ⟨g, q * 3, none⟩ = some (.int .i64 Y.f0) ∧ W.cell? ⟨g, q * 3 + 1, none⟩ = some (.int .i64 Y.f1) ∧ W.cell? ⟨g, q * 3 + 2, none⟩ = some (.int .i64 Y.f2) ∧
   W.cell? ⟨g, j * 3, none⟩ = some (.int .i64 X.f0) ∧ W.cell? ⟨g, j * 3 + 1, none⟩ = some (.int .i64 X.f1) ∧ W.cell? ⟨g, j * 3 + 2, none⟩ = some (.int .i64 X.f2)) ∧
  (W.frozen? ⟨g, j * 3, none⟩ = false ∧ W.frozen? ⟨g, j * 3 + 1, none⟩ = false ∧ W.frozen? ⟨g, j * 3 + 2, none⟩ = false) ∧
  ∃ W1, W1 = ((W.setCell ⟨g, j * 3, none⟩ (.int .i64 Y.f0)).setCell ⟨g, j * 3 + 1, none⟩ (.int .i64 Y.f1)).setCell ⟨g, j * 3 + 2, none⟩ (.int .i64 Y.f2) ∧
  (∃ u0 u1 u2, W1.cell? ⟨g, q * 3, none⟩ = some u0 ∧ W1.cell? ⟨g, q * 3 + 1, none⟩ = some u1 ∧ W1.cell? ⟨g, q * 3 + 2, none⟩ = some u2) ∧ (W1.frozen? ⟨g, q * 3, none⟩ = false ∧ W1.frozen? ⟨g, q * 3 + 1, none⟩ = false ∧ W1.frozen? ⟨g, q * 3 + 2, none⟩ = false) ∧
  Kd.R kMv 76 (((W1.setCell ⟨g, q * 3, none⟩ (.int .i64 X.f0)).setCell ⟨g, q * 3 + 1, none⟩ (.int .i64 X.f1)).setCell ⟨g, q * 3 + 2, none⟩ (.int .i64 X.f2)) base (fun _ => True) (.slice (some ⟨g, 0, none⟩) n c) (a ++ X :: Y :: b) ∧
  (∀ w0 : World, Below base w0 W → Below base w0 (((W1.setCell ⟨g, q * 3, none⟩ (.int .i64 X.f0)).setCell ⟨g, q * 3 + 1, none⟩ (.int .i64 X.f1)).setCell ⟨g, q * 3 + 2, none⟩ (.int .i64 X.f2))) := by
 have hn : n = (a ++ Y :: X :: b).length := (Kd.R_reads' h2).1
 have hl : (a ++ Y :: X :: b).length = a.length + (b.length + 2) := by rw [List.length_append]; rfl
 have eY : (a ++ Y :: X :: b).getD q z76 = Y := by
  rw [hq, List.getD_eq_getElem?_getD, List.getElem?_append_right (Nat.le_refl _), Nat.sub_self]
  rfl
 have eX : (a ++ Y :: X :: b).getD j z76 = X := by
  rw [hj, List.getD_eq_getElem?_getD, List.getElem?_append_right (by omega), show a.length + 1 - a.length = 1 by omega]
  rfl
 have i0 : (0 : Int) ≤ (j : Int) := by omega
 have i1 : (j : Int) < n := by omega
 have k0 : (0 : Int) ≤ (q : Int) := by omega
 have k1 : (q : Int) < n := by omega
 obtain ⟨ce, hcl, hM, hcc, hfr⟩ := Kd.R_elem h2 z76 (j : Int) i0 i1
 obtain rfl := z4v hM
 obtain ⟨ce, hcl', hM', hcc', hfr'⟩ := Kd.R_elem h2 z76 (q : Int) k0 k1
 obtain rfl := z4v hM'
 have hg := Kd.R_base h2 g rfl
 have s1 := (Kd.R_seg h2 (j : Int) i0 i1 (seg := [.int .i64 Y.f0, .int .i64 Y.f1, .int .i64 Y.f2]) (j := 0) hcl hcc (show 3 ≤ 3 from by decide) (x' := Y) (z8h _ _ _ _) (fun _ hk => hk)).1
 obtain ⟨ce, hcl2, hM2, hcc2, hfr2⟩ := Kd.R_elem s1 z76 (q : Int) k0 k1
 obtain rfl := z4v hM2
 have s2 := (Kd.R_seg s1 (q : Int) k0 k1 (seg := [.int .i64 X.f0, .int .i64 X.f1, .int .i64 X.f2]) (j := 0) hcl2 hcc2 (show 3 ≤ 3 from by decide) (x' := X) (z8h _ _ _ _) (fun _ hk => hk)).1
 have es : ((a ++ Y :: X :: b).set j Y).set q X = a ++ X :: Y :: b := by
  rw [hj, hq, List.set_append_right _ _ (by omega), show a.length + 1 - a.length = 1 by omega, List.set_append_right _ _ (by omega), Nat.sub_self]
  rfl
 simp only [World.setCells, show k76.sz = 3 from rfl, Nat.add_zero, Int.toNat_natCast, eX, eY] at hcc hcc' hfr hfr' hcc2 hfr2 s1 s2
 rw [es] at s2
 refine ⟨⟨hcc' 0 _ rfl, hcc' 1 _ rfl, hcc' 2 _ rfl, hcc 0 _ rfl, hcc 1 _ rfl, hcc 2 _ rfl⟩, ⟨hfr 0, hfr 1, hfr 2⟩, _, rfl, ⟨_, _, _, hcc2 0 _ rfl, hcc2 1 _ rfl, hcc2 2 _ rfl⟩, ⟨hfr2 0, hfr2 1, hfr2 2⟩, s2, fun w0 hw => ?_⟩
 exact (((((hw.setCell hg _).setCell hg _).setCell hg _).setCell hg _).setCell hg _).setCell hg _
def y0m (l : List Mv) (i j : Nat) : List Int := ((l.take j).filter (z03 (z1q l i))).map (·.f2)
theorem y9t {l : List Mv} {i j : Nat} (hj : j < l.length) : y0m l i (j + 1) = y0m l i j ++ (if z03 (z1q l i) (z1q l j) = true then [(z1q l j).f2] else []) := by
 unfold y0m
 rw [z1f hj, List.filter_append, List.map_append]
 congr 1
 by_cases e : z03 (z1q l i) (z1q l j) = true
 ·rw [if_pos e, List.filter_cons_of_pos e]
  rfl
 ·rw [if_neg e, List.filter_cons_of_neg e]
  rfl
theorem y6t {l : List Mv} {i : Nat} (hi : i ≤ l.length) (h : ∀ k, k < i → z03 (z1q l k) (z1q l i) = false) : y0m l i i = [] := by
 unfold y0m
 rw [List.filter_eq_nil_iff.2 fun x hx e => ?_]
 ·rfl
 ·obtain ⟨k, hk, rfl⟩ := z33 hi hx
  exact absurd (z2n e) (by rw [h k hk]; decide)
theorem y4z (l : List Mv) (i j : Nat) : (y0m l i j).length ≤ l.length := by
 unfold y0m
 rw [List.length_map]
 exact Nat.le_trans (List.length_filter_le _ _) (by rw [List.length_take]; omega)
theorem y0l {l : List Mv} (h : ∀ x, x ∈ l → -9223372036854775808 ≤ x.f2 ∧ x.f2 ≤ 9223372036854775807) (i j : Nat) : x5l (y0m l i j) := fun y hy => by
 unfold y0m at hy
 obtain ⟨x, hx, rfl⟩ := List.mem_map.1 hy
 exact h x (List.mem_of_mem_take (List.mem_filter.1 hx).1)
theorem x6f : x5f Tryz.prog (Kd.int .i64) 68 3 (fun x => [.int .i64 x]) := ⟨Tryz.underlying68, ⟨_, 8, z8k, rfl, by decide, by decide⟩, by decide, fun _ _ _ _ => rfl⟩
def mvT9 : Bool × List (List Nat × List Nat) := (true, [([], []), ([0], [0]), ([1], [1]), ([1], [1]), ([2, 3, 1], [1, 2, 3]), ([4, 1], [1, 4]), ([5, 1], [1, 5]), ([1], [1]), ([1], [1]), ([7, 8, 1], [1, 7, 8]), ([9, 1], [1, 9]), ([10, 1], [1, 10]), ([6, 11, 1], [1, 6, 11]), ([12, 1, 1], [1, 12]), ([13], [13]), ([13], [13]), ([14, 15, 13], [13, 14, 15]), ([16, 13], [13, 16]), ([17, 13], [13, 17]), ([13], [13]), ([13], [13]), ([19, 20, 13], [13, 19, 20]), ([21, 13], [13, 21]), ([22, 13], [13, 22]), ([18, 23, 13], [13, 18, 23]), ([13, 24, 1], [1, 13, 24]), ([1, 25], [1, 25]), ([26, 13, 0, 1, 2, 3, 4, 5, 6, 7, 8, 9, 10, 11, 12, 13, 14, 15, 16, 17, 18, 19, 20, 21, 22, 23, 24, 25, 26], [0, 26])])
def mvT15 : Bool × List (List Nat × List Nat) := (true, [([], []), ([], []), ([0, 1], [0, 1]), ([2], [2]), ([3], [3]), ([], []), ([], []), ([5, 6], [5, 6]), ([7], [7]), ([8], [8]), ([4, 9], [4, 9]), ([10], [10]), ([11], [11]), ([11], [11]), ([12, 13, 11], [11, 12, 13]), ([14, 11], [11, 14]), ([15, 11], [11, 15]), ([11], [11]), ([11], [11]), ([17, 18, 11], [11, 17, 18]), ([19, 11], [11, 19]), ([20, 11], [11, 20]), ([16, 21, 11], [11, 16, 21]), ([11, 22], [11, 22])])
def x5w : Bool × List (List Nat × List Nat) := (true, [([], []), ([0], [0]), ([1], [1]), ([2], [2]), ([2], [2]), ([3, 4, 2], [2, 3, 4]), ([5, 2], [2, 5]), ([6, 2], [2, 6]), ([2], [2]), ([2], [2]), ([9, 2], [2, 9]), ([8, 10, 2], [2, 8, 10]), ([11, 2], [2, 11]), ([12, 2], [2, 12]), ([7, 13, 2], [2, 7, 13]), ([14, 2, 2], [2, 14]), ([15], [15]), ([15], [15]), ([16, 17, 15], [15, 16, 17]), ([18, 15], [15, 18]), ([19, 15], [15, 19]), ([15], [15]), ([15], [15]), ([22, 15], [15, 22]), ([21, 23, 15], [15, 21, 23]), ([24, 15], [15, 24]), ([25, 15], [15, 25]), ([20, 26, 15], [15, 20, 26]), ([27, 15, 15], [15, 27]), ([28], [28]), ([28], [28]), ([29, 30, 28], [28, 29, 30]), ([31, 28], [28, 31]), ([32, 28], [28, 32]), ([28], [28]), ([28], [28]), ([35, 28], [28, 35]), ([34, 36, 28], [28, 34, 36]), ([37, 28], [28, 37]), ([38, 28], [28, 38]), ([33, 39, 28], [28, 33, 39]), ([28, 40, 15], [15, 28, 40]), ([15, 41, 2], [2, 15, 41]), ([2, 42], [2, 42])])
theorem y2o (A : Option Addr) (c : Nat) (l : List Mv) (w : World) (hr : Kd.C kMv w A l.length l) (hi : ∀ x, x ∈ l → -9223372036854775808 ≤ x.f2 ∧ x.f2 ≤ 9223372036854775807) (hl : l.length ≤ 100000) :
  Calls Tryz.prog 12 #[.slice A l.length c] w (y90 l w) := by
 have HR := zh hr
 have HI := zh hi
 have hu2 := Tryz.underlying76
 clear hr hi
 go_enter Tryz.func12, Tryz.ntmps12
 go_wp2
 go_loopg [4, 5] (l.length + 1) (fun k ov iv W => ∃ (i : Nat) (m : List Mv) (Ao : Option Addr) (co : Nat), i ≤ l.length ∧ ov = .slice Ao m.length co ∧ iv = .int .i64 i ∧ k = l.length + 1 - i ∧ Hid (Kd.R kMv 76 W w.heap.size (fun _ => True) (.slice Ao m.length co) m ∧ Below w.heap.size w W ∧ MgI l i m ∧ m.length ≤ i))
 case atStart => exact ⟨0, [], none, 0, Nat.zero_le _, rfl, rfl, rfl, zh ⟨Kd.R_nil _ _ _ _ _, Below.refl _ _, MgI.zero l, Nat.le_refl _⟩⟩
 case round =>
  obtain ⟨i, m, Ao, co, hi, rfl, rfl, rfl, HL⟩ := hrel
  by_cases hlt : i < l.length
  ·have i0 : (0 : Int) ≤ (i : Int) := by omega
   have i1 : (i : Int) < (l.length : Int) := by omega
   obtain ⟨ad, ea, -⟩ := z4j HR.out (i : Int) i0 i1
   subst ea
   obtain ⟨X, hX⟩ : ∃ X, X = z1q l i := ⟨_, rfl⟩
   have CI : Hid (∀ W, Below w.heap.size w W → W.cell? (ad.add (i * 3)) = some (.int .i64 X.f0) ∧ W.cell? ⟨(ad.add (i * 3)).block, (ad.add (i * 3)).off + 1, none⟩ = some (.int .i64 X.f1) ∧ W.cell? ⟨(ad.add (i * 3)).block, (ad.add (i * 3)).off + 2, none⟩ = some (.int .i64 X.f2)) := zh (fun W hW => by
    obtain ⟨ad2, e2, z0, z1, z2⟩ := z4j (Kd.C_below HR.out hW) (i : Int) i0 i1
    injection e2 with e2
    subst e2
    rw [Int.toNat_natCast] at z0 z1 z2
    rw [hX]
    exact ⟨z0, z1, z2⟩)
   have HX := zh hX
   clear hX
   go_wp2
   go_loopg [6, 7] (i + 1) (fun k fv jv W => ∃ (j : Nat) (fb : Bool), j ≤ i ∧ fv = .bool fb ∧ jv = .int .i64 j ∧ k = i + 1 - j ∧ Hid ((fb = true ↔ ∀ t, t < j → z03 (z1q l t) X = false) ∧ Kd.R kMv 76 W w.heap.size (fun _ => True) (.slice Ao m.length co) m ∧ Below w.heap.size w W))
   case atStart => exact ⟨0, true, Nat.zero_le _, rfl, rfl, rfl, zh ⟨⟨fun _ t ht => absurd ht (Nat.not_lt_zero _), fun _ => rfl⟩, HL.out.1, HL.out.2.1⟩⟩
   case round =>
    obtain ⟨j, fb, hj, rfl, rfl, rfl, HJ⟩ := hrel
    by_cases hjt : j < i
    ·have j0 : (0 : Int) ≤ (j : Int) := by omega
     have j1 : (j : Int) < (l.length : Int) := by omega
     have hji : (j : Int) < (i : Int) := by omega
     obtain ⟨ad2, e2, y0, y1, -⟩ := z4j (Kd.C_drew (Kd.C_below HR.out HJ.out.2.2)) (j : Int) j0 j1
     injection e2 with e2
     subst e2
     rw [Int.toNat_natCast] at y0 y1
     obtain ⟨Y, hY⟩ : ∃ Y, Y = z1q l j := ⟨_, rfl⟩
     have hY2 : z3h l (j : Int) = Y := by rw [hY]; rfl
     rw [hY2] at y0 y1
     have HY := zh hY
     clear hY hY2
     obtain ⟨x0, x1, -⟩ := CI.out _ (q6 HJ.out.2.2)
     have HO := zh (And.intro (Kd.R_drew HJ.out.2.1) (q6 HJ.out.2.2))
     obtain ⟨nf, hnf, HN⟩ : ∃ nf : Bool, nf = (fb && (decide (Y.f0 ≠ X.f0) || decide (Y.f1 ≠ X.f1))) ∧ Hid (nf = true ↔ ∀ t, t < j + 1 → z03 (z1q l t) X = false) := by
      refine ⟨_, rfl, zh ?_⟩
      have hs : z03 Y X = false ↔ (Y.f0 ≠ X.f0 ∨ Y.f1 ≠ X.f1) := by
       unfold z03
       rw [decide_eq_false_iff_not]
       omega
      rw [Bool.and_eq_true, Bool.or_eq_true, decide_eq_true_iff, decide_eq_true_iff, ← hs, HJ.out.1, HY.out]
      constructor
      ·rintro ⟨h1, h2⟩ t ht
       by_cases e : t = j
       ·rw [e]; exact h2
       ·exact h1 t (by omega)
      ·exact fun h => ⟨fun t ht => h t (by omega), h j (by omega)⟩
     have HJ2 := zh HJ.out.1
     clear HL HJ
     go_wp2
     refine z1u (S := fun w' => w'.cell? (ad.add (j * 3)) = some (.int .i64 Y.f0) ∧ w'.cell? ⟨(ad.add (j * 3)).block, (ad.add (j * 3)).off + 1, none⟩ = some (.int .i64 Y.f1) ∧ w'.cell? (ad.add (i * 3)) = some (.int .i64 X.f0) ∧ w'.cell? ⟨(ad.add (i * 3)).block, (ad.add (i * 3)).off + 1, none⟩ = some (.int .i64 X.f1)) (ds := []) 28 (by kernel_rfl) rfl ⟨y0, y1, x0, x1⟩ (fun hHeld => ?_)
     generalize wr.drew = wd at HO hHeld ⊢
     refine wT mvT9 (fun hT => ?_)
     clear y0 y1 x0 x1
     cases fb with
     |false =>
      have hn2 : nf = false := by rw [hnf]; rfl
      subst hn2
      clear hnf
      as_aux_lemma =>
       repeat (first | refine qP 28 hT ?_ | refine qT 28 hT hHeld ?_)
       refine z1e (by kernel_rfl) ?_
       go_wp2
       go_roundg (i - j)
       case measure => omega
       case rel => exact ⟨j + 1, false, by omega, rfl, by go_num, by omega, zh ⟨by simpa using HN.out, HO.out.1, HO.out.2⟩⟩
     |true =>
      by_cases c0 : Y.f0 = X.f0
      ·have d0 : (Y.f0 != X.f0) = false := bne_eq_false_iff_eq.2 c0
       have d1 : (Y.f0 == X.f0) = true := beq_iff_eq.2 c0
       by_cases c1 : Y.f1 = X.f1
       ·have d2 : (Y.f1 != X.f1) = false := bne_eq_false_iff_eq.2 c1
        have d3 : (Y.f1 == X.f1) = true := beq_iff_eq.2 c1
        have hn2 : nf = false := by rw [hnf, c0, c1]; simp
        subst hn2
        have HC := zh (And.intro c0 c1)
        clear hnf c0 c1
        as_aux_lemma =>
         repeat (first | refine qP 28 hT ?_ | refine qT 28 hT hHeld ?_)
         refine z1e (by kernel_rfl) ?_
         go_wp2
         go_roundg (i - j)
         case measure => omega
         case rel => exact ⟨j + 1, false, by omega, rfl, by go_num, by omega, zh ⟨by simpa using HN.out, HO.out.1, HO.out.2⟩⟩
       ·have d2 : (Y.f1 != X.f1) = true := bne_iff_ne.2 c1
        have d3 : (Y.f1 == X.f1) = false := beq_eq_false_iff_ne.2 c1
        have hn2 : nf = true := by rw [hnf]; simp [c1]
        subst hn2
        have HC := zh (And.intro c0 c1)
        clear hnf c0 c1
        as_aux_lemma =>
         repeat (first | refine qP 28 hT ?_ | refine qT 28 hT hHeld ?_)
         refine z1e (by kernel_rfl) ?_
         go_wp2
         go_roundg (i - j)
         case measure => omega
         case rel => exact ⟨j + 1, true, by omega, rfl, by go_num, by omega, zh ⟨by simpa using HN.out, HO.out.1, HO.out.2⟩⟩
      ·have d0 : (Y.f0 != X.f0) = true := bne_iff_ne.2 c0
       have d1 : (Y.f0 == X.f0) = false := beq_eq_false_iff_ne.2 c0
       have hn2 : nf = true := by rw [hnf]; simp [c0]
       subst hn2
       have HC := zh c0
       clear hnf c0
       as_aux_lemma =>
        repeat (first | refine qP 28 hT ?_ | refine qT 28 hT hHeld ?_)
        refine z1e (by kernel_rfl) ?_
        go_wp2
        go_roundg (i - j)
        case measure => omega
        case rel => exact ⟨j + 1, true, by omega, rfl, by go_num, by omega, zh ⟨by simpa using HN.out, HO.out.1, HO.out.2⟩⟩
    ·have e : j = i := by omega
     subst e
     cases fb with
     |false =>
      have HH : Hid (∃ t, t < j ∧ z03 (z1q l t) X = true) := zh (by
       apply Classical.byContradiction
       intro h
       have := HJ.out.1.2 (fun t ht => by
        cases e : z03 (z1q l t) X with
        |false => rfl
        |true => exact absurd ⟨t, ht, e⟩ h)
       cases this)
      go_wp2
      go_roundg (l.length - j)
      case measure => omega
      case rel =>
       refine ⟨j + 1, m, Ao, co, by omega, rfl, by go_num, by omega, zh ⟨HJ.out.2.1, HJ.out.2.2, ?_, by have := HL.out.2.2.2; omega⟩⟩
       obtain ⟨t, ht, e⟩ := HH.out
       rw [HX.out] at e
       exact HL.out.2.2.1.had hlt ht e
     |true =>
      have HNH : Hid (∀ t, t < j → z03 (z1q l t) (z1q l j) = false) := zh (fun t ht => by have := HJ.out.1.1 rfl t ht; rw [HX.out] at this; exact this)
      have HA0 : Hid (y0m l j j = []) := zh (y6t (by omega) HNH.out)
      have HO := zh (And.intro HJ.out.2.1 HJ.out.2.2)
      have HM := zh HL.out.2.2
      have hmj : m.length ≤ j := HL.out.2.2.2
      clear HL HJ
      go_wp2
      obtain ⟨W2, hW2⟩ : ∃ W2, W2 = wr := ⟨_, rfl⟩
      rw [← hW2] at HO ⊢
      clear hW2
      go_loopg [8, 9] (l.length + 1 - j) (fun k av tv W => ∃ (t : Nat) (Aa : Option Addr) (ca : Nat), j ≤ t ∧ t ≤ l.length ∧ av = .slice Aa (y0m l j t).length ca ∧ tv = .int .i64 t ∧ k = l.length + 1 - t ∧ Hid (Kd.R (Kd.int .i64) 3 W W2.heap.size (fun _ => True) (.slice Aa (y0m l j t).length ca) (y0m l j t) ∧ Below W2.heap.size W2 W))
      case atStart => exact ⟨j, none, 0, Nat.le_refl _, by omega, by rw [HA0.out]; rfl, rfl, rfl, zh ⟨by rw [HA0.out]; exact Kd.R_nil _ _ _ _ _, Below.refl _ _⟩⟩
      case round =>
       obtain ⟨t, Aa, ca, ht1, ht, rfl, rfl, rfl, HT⟩ := hrel
       have HB := zh (v6 HO.out.2 HT.out.2)
       by_cases htl : t < l.length
       ·have j0 : (0 : Int) ≤ (t : Int) := by omega
        have j1 : (t : Int) < (l.length : Int) := by omega
        obtain ⟨ad2, e2, y0, y1, y2⟩ := z4j (Kd.C_drew (Kd.C_below HR.out HB.out)) (t : Int) j0 j1
        injection e2 with e2
        subst e2
        rw [Int.toNat_natCast] at y0 y1 y2
        obtain ⟨Y, hY⟩ : ∃ Y, Y = z1q l t := ⟨_, rfl⟩
        have hY2 : z3h l (t : Int) = Y := by rw [hY]; rfl
        rw [hY2] at y0 y1 y2
        clear hY2
        obtain ⟨x0, x1, -⟩ := CI.out _ (q6 HB.out)
        have HO2 := zh (And.intro (Kd.R_drew HT.out.1) (q6 HT.out.2))
        have hnx := y9t (i := j) htl
        rw [← hY, ← HX.out] at hnx
        go_wp2
        refine z1u (S := fun w' => w'.cell? (ad.add (t * 3)) = some (.int .i64 Y.f0) ∧ w'.cell? ⟨(ad.add (t * 3)).block, (ad.add (t * 3)).off + 1, none⟩ = some (.int .i64 Y.f1) ∧ w'.cell? (ad.add (j * 3)) = some (.int .i64 X.f0) ∧ w'.cell? ⟨(ad.add (j * 3)).block, (ad.add (j * 3)).off + 1, none⟩ = some (.int .i64 X.f1)) (ds := []) 24 (by kernel_rfl) rfl ⟨y0, y1, x0, x1⟩ (fun hHeld => ?_)
        generalize wr.drew = wd at HO2 hHeld y2 ⊢
        refine wT mvT15 (fun hT => ?_)
        clear y0 y1 x0 x1 HT HB
        by_cases c0 : Y.f0 = X.f0
        ·have d0 : (Y.f0 != X.f0) = false := bne_eq_false_iff_eq.2 c0
         have d1 : (Y.f0 == X.f0) = true := beq_iff_eq.2 c0
         by_cases c1 : Y.f1 = X.f1
         ·have d2 : (Y.f1 != X.f1) = false := bne_eq_false_iff_eq.2 c1
          have d3 : (Y.f1 == X.f1) = true := beq_iff_eq.2 c1
          rw [if_pos (z0n.2 ⟨c0.symm, c1.symm⟩)] at hnx
          have HNX := zh hnx
          have HC := zh (And.intro c0 c1)
          clear hnx c0 c1 hY
          as_aux_lemma =>
           repeat (first | refine qP 24 hT ?_ | refine qT 24 hT hHeld ?_)
           refine z1e (by kernel_rfl) ?_
           clear hHeld
           go_wp2_with (first
            |((with_reducible refine r5 (N := 91) rfl ?_); (refine gA (w0 := W2) (base := W2.heap.size) x6f (y0m l j t) Y.f2 ?aO ?aB ?aS ?aL ?_); (case aO => exact HO2.out.1); (case aB => exact HO2.out.2); (case aS => exact HO2.out.2.size); (case aL => have := y4z l j t; omega); go_loud (intro A1 c1 w9 ho hb hg; have HO9 := zh (And.intro ho hb); clear ho hb hg HO2)))
           go_roundg (l.length - t)
           case measure => omega
           case rel => exact ⟨t + 1, A1, c1, by omega, by omega, by rw [HNX.out, List.length_append]; rfl, by go_num, by omega, zh ⟨by rw [HNX.out, List.length_append]; exact HO9.out.1, HO9.out.2⟩⟩
         ·have d2 : (Y.f1 != X.f1) = true := bne_iff_ne.2 c1
          have d3 : (Y.f1 == X.f1) = false := beq_eq_false_iff_ne.2 c1
          rw [if_neg (fun e => c1 (z0n.1 e).2.symm), List.append_nil] at hnx
          have HNX := zh hnx
          have HC := zh (And.intro c0 c1)
          clear hnx c0 c1 hY
          as_aux_lemma =>
           repeat (first | refine qP 24 hT ?_ | refine qT 24 hT hHeld ?_)
           refine z1e (by kernel_rfl) ?_
           clear hHeld
           go_wp2
           go_roundg (l.length - t)
           case measure => omega
           case rel => exact ⟨t + 1, Aa, ca, by omega, by omega, by rw [HNX.out], by go_num, by omega, zh ⟨by rw [HNX.out]; exact HO2.out.1, HO2.out.2⟩⟩
        ·have d0 : (Y.f0 != X.f0) = true := bne_iff_ne.2 c0
         have d1 : (Y.f0 == X.f0) = false := beq_eq_false_iff_ne.2 c0
         rw [if_neg (fun e => c0 (z0n.1 e).1.symm), List.append_nil] at hnx
         have HNX := zh hnx
         have HC := zh c0
         clear hnx c0 hY
         as_aux_lemma =>
          repeat (first | refine qP 24 hT ?_ | refine qT 24 hT hHeld ?_)
          refine z1e (by kernel_rfl) ?_
          clear hHeld
          go_wp2
          go_roundg (l.length - t)
          case measure => omega
          case rel => exact ⟨t + 1, Aa, ca, by omega, by omega, by rw [HNX.out], by go_num, by omega, zh ⟨by rw [HNX.out]; exact HO2.out.1, HO2.out.2⟩⟩
       ·have e : t = l.length := by omega
        subst e
        obtain ⟨T, hT⟩ : ∃ T, T = amt l X := ⟨_, rfl⟩
        have HSUM : Hid (z3q (y0m l j l.length) = T) := zh (by rw [hT, HX.out]; unfold y0m amt; rw [List.take_length])
        have HTE := zh hT
        have hal := y4z l j l.length
        clear hT
        cases hf : z7b T with
        |false =>
         have HF := zh hf
         clear hf
         go_wp2_with (go_at_call 31; go_loud ((with_reducible refine (z73 Aa ca (y0m l j l.length) _ ?s1 ?s2 ?s3).mono ?_); (case s1 => exact (Kd.R_reads' HT.out.1).2.2); (case s2 => exact y0l HI.out j _); (case s3 => omega); rintro e w7 hs; obtain ⟨rfl, hb⟩ := hs.no HSUM.out HF.out; have HB7 := zh (v6 HB.out hb); clear hs hb))
         go_ret2
         refine ⟨HB7.out, .inl ⟨rfl, X, ?_, ?_⟩⟩
         ·rw [HX.out]
          exact z2z hlt
         ·rw [← HTE.out]
          exact HF.out
        |true =>
         have HF := zh hf
         clear hf
         by_cases c9 : T = 0
         ·have c1 : (T == 0) = true := beq_iff_eq.2 c9
          have c2 : (T != 0) = false := bne_eq_false_iff_eq.2 c9
          have HC9 := zh c9
          clear c9
          go_wp2_with (go_at_call 31; go_loud ((with_reducible refine (z73 Aa ca (y0m l j l.length) _ ?s1 ?s2 ?s3).mono ?_); (case s1 => exact (Kd.R_reads' HT.out.1).2.2); (case s2 => exact y0l HI.out j _); (case s3 => omega); rintro e w7 hs; obtain ⟨rfl, hb⟩ := hs.yes HSUM.out HF.out; have HB7 := zh (And.intro (Kd.R_below (Kd.R_below HO.out.1 HT.out.2) hb) (v6 HB.out hb)); clear hs hb))
          go_roundg (l.length - j)
          case measure => omega
          case rel =>
           exact ⟨j + 1, m, Ao, co, by omega, rfl, by go_num, by omega, zh ⟨HB7.out.1, HB7.out.2, HM.out.1.none hlt (by rw [← HX.out, ← HTE.out]; exact HC9.out), by omega⟩⟩
         ·have c1 : (T == 0) = false := beq_eq_false_iff_ne.2 c9
          have c2 : (T != 0) = true := bne_iff_ne.2 c9
          have HC9 := zh c9
          clear c9
          go_wp2_with (go_at_call 31; go_loud ((with_reducible refine (z73 Aa ca (y0m l j l.length) _ ?s1 ?s2 ?s3).mono ?_); (case s1 => exact (Kd.R_reads' HT.out.1).2.2); (case s2 => exact y0l HI.out j _); (case s3 => omega); rintro e w7 hs; obtain ⟨rfl, hb⟩ := hs.yes HSUM.out HF.out; have HB7 := zh (And.intro (Kd.R_below (Kd.R_below HO.out.1 HT.out.2) hb) (v6 HB.out hb)); clear hs hb))
          obtain ⟨x0, x1, -⟩ := CI.out _ (q6 HB7.out.2)
          refine z1u (S := fun w' => w'.cell? (ad.add (j * 3)) = some (.int .i64 X.f0) ∧ w'.cell? ⟨(ad.add (j * 3)).block, (ad.add (j * 3)).off + 1, none⟩ = some (.int .i64 X.f1)) (ds := [14]) 16 (by kernel_rfl) rfl ⟨x0, x1⟩ (fun hHeld => ?_)
          have HO9 := zh (And.intro (Kd.R_drew HB7.out.1) (q6 HB7.out.2))
          generalize w7.drew = wd at HO9 hHeld ⊢
          clear x0 x1 HB7 HO HB HT
          as_aux_lemma =>
           repeat (first | refine rP 16 ?_ | refine rT 16 hHeld ?_)
           refine sB 13 hHeld (fun hHeld => ?_)
           obtain ⟨XX, hXX⟩ : ∃ XX : Mv, XX = ⟨X.f0, X.f1, T⟩ := ⟨_, rfl⟩
           refine sA 14 x6e m ⟨X.f0, X.f1, T⟩ HO9.out.1 HO9.out.2 HO9.out.2.size (by omega) (fun A1 c1 w9 ho hb hg => ?_)
           refine sN ?_
           refine rP 16 ?_
           refine z1e (by kernel_rfl) ?_
           rw [← hXX] at ho
           have HXX := zh hXX
           obtain ⟨n1, hn1⟩ : ∃ n1, n1 = m.length + 1 := ⟨_, rfl⟩
           rw [← hn1] at ho ⊢
           obtain ⟨g, cap, ev, -⟩ := Kd.R_form ho (by simp)
           injection ev with ev1 ev2 ev3
           subst ev1
           clear ev2 ev3 hXX hg hHeld HO9
           have HO9 := zh (And.intro ho hb)
           clear ho hb
           have HM9 := zh HM.out
           have hn1b : 1 ≤ n1 ∧ n1 ≤ 100001 := by omega
           have HN1 := zh hn1
           clear hn1
           go_wp2
           go_loopg [12] n1 (fun k jv W => ∃ (J : Int) (a b : List Mv), jv = .int .i64 J ∧ J = (a.length : Int) ∧ k = J.toNat + 1 ∧ J ≤ 100000 ∧ Hid (a ++ b = m ∧ (∀ y, y ∈ b → mlt XX y) ∧ Kd.R kMv 76 W w.heap.size (fun _ => True) (.slice (some ⟨g, 0, none⟩) n1 c1) (a ++ XX :: b) ∧ Below w.heap.size w W))
           case atStart => exact ⟨(n1 : Int) - 1, m, [], rfl, by have := HN1.out; omega, by omega, by omega, zh ⟨List.append_nil m, fun _ h => (nomatch h), HO9.out.1, HO9.out.2⟩⟩
           case round =>
            obtain ⟨J, a, b, rfl, hJ, rfl, hJb, HK⟩ := hrel
            rcases List.eq_nil_or_concat a with rfl | ⟨a', Y, ha⟩
            ·have hJ0 : J = 0 := by rw [hJ]; rfl
             subst hJ0
             clear hJ
             go_wp2
             refine z1u (S := fun _ => True) (ds := []) 44 (by kernel_rfl) rfl trivial (fun hHeld => ?_)
             have HO9 := zh (And.intro (Kd.R_drew HK.out.2.2.1) (q6 HK.out.2.2.2))
             generalize wr.drew = wd at HO9 ⊢
             refine wT x5w (fun hT => ?_)
             repeat refine qP 44 hT ?_
             refine z1e (by kernel_rfl) ?_
             go_wp2
             go_roundg (l.length - j)
             case measure => omega
             case rel => exact ⟨j + 1, XX :: b, some ⟨g, 0, none⟩, c1, by omega, by rw [List.length_cons, ← List.nil_append b, HK.out.1, ← HN1.out], by go_num, by omega, zh ⟨by rw [List.length_cons, ← List.nil_append b, HK.out.1, ← HN1.out, ← HK.out.1]; exact HO9.out.1, HO9.out.2, MgI.ins (a := []) (by rw [HK.out.1]; exact HM9.out.1) hlt HNH.out (by rw [HXX.out, HTE.out, HX.out]) (by rw [← HX.out, ← HTE.out]; exact HF.out) (by rw [← HX.out, ← HTE.out]; exact HC9.out) HK.out.2.1 (fun a' y e => by simp at e), by rw [List.length_cons, ← List.nil_append b, HK.out.1]; omega⟩⟩
            ·rw [List.concat_eq_append] at ha
             subst ha
             rw [List.length_append, List.length_singleton] at hJ
             obtain ⟨Z, hZ⟩ : ∃ Z : Int, Z = J - 1 := ⟨_, rfl⟩
             have eZ : IntKind.i64.wrap (J - 1) = Z := by rw [IntWalk.i64_in _ (by omega), hZ]
             have ep : J.toNat = a'.length + 1 := by omega
             have eq : Z.toNat = a'.length := by omega
             have hlen : n1 = a'.length + b.length + 2 := by
              have := (Kd.R_reads' HK.out.2.2.1).1
              rw [this]
              simp
              omega
             have z0 : 0 ≤ Z := by omega
             have z1 : Z < (n1 : Int) := by omega
             have J0 : 0 < J := by omega
             have J1 : J < (n1 : Int) := by omega
             have hR9 := HK.out.2.2.1
             rw [List.append_assoc] at hR9
             have HR9 := zh (show Kd.R kMv 76 wr w.heap.size (fun _ => True) (.slice (some ⟨g, 0, none⟩) n1 c1) (a' ++ Y :: XX :: b) from hR9)
             clear hR9
             obtain ⟨q0, q1, -, p0, p1, -⟩ := (y76 (Kd.R_drew HR9.out) ep eq).1
             have J00 : 0 ≤ J := by omega
             have HZ := zh (And.intro hZ (And.intro ep (And.intro eq (And.intro hlen hJ))))
             have HK2 := zh (And.intro HK.out.1 (And.intro HK.out.2.1 (q6 (q6 HK.out.2.2.2))))
             have HR10 := zh (Kd.R_drew HR9.out)
             clear hZ ep eq hlen hJ HO9
             go_wp2
             refine z1u (S := fun w' => w'.cell? ⟨g, Z.toNat * 3, none⟩ = some (.int .i64 Y.f0) ∧ w'.cell? ⟨g, Z.toNat * 3 + 1, none⟩ = some (.int .i64 Y.f1) ∧ w'.cell? ⟨g, J.toNat * 3, none⟩ = some (.int .i64 XX.f0) ∧ w'.cell? ⟨g, J.toNat * 3 + 1, none⟩ = some (.int .i64 XX.f1)) (ds := []) 44 (by kernel_rfl) rfl ⟨q0, q1, p0, p1⟩ (fun hHeld => ?_)
             have HB10 := zh (q6 HK.out.2.2.2)
             generalize wr.drew = wd at hHeld HR10 HK2 HB10 ⊢
             refine wT x5w (fun hT => ?_)
             clear q0 q1 p0 p1 HR9 HK
             by_cases hm : mlt XX Y
             ·have go9 : XX.f1 < Y.f1 ∨ (¬ XX.f1 < Y.f1 ∧ (XX.f1 == Y.f1) = true ∧ XX.f0 < Y.f0) := by
               unfold mlt at hm
               by_cases h : XX.f1 < Y.f1
               ·exact .inl h
               ·exact .inr ⟨h, beq_iff_eq.2 (by omega), by omega⟩
              have HMT := zh hm
              clear hm
              rcases go9 with g1 | ⟨g1, g2, g3⟩
              all_goals
               repeat (first | refine qP 44 hT ?_ | refine qT 44 hT hHeld ?_)
               refine z1e (by kernel_rfl) ?_
               clear hHeld
               go_wp2
               obtain ⟨⟨q0, q1, q2, p0, p1, p2⟩, ⟨f0, f1, f2⟩, W1, hW1, ⟨u0, u1, u2, v0, v1, v2⟩, ⟨f3, f4, f5⟩, hR2, hB2⟩ := y76 (Kd.R_drew HR10.out) HZ.out.2.1 HZ.out.2.2.1
               refine z1u (S := fun w' => w'.cell? ⟨g, Z.toNat * 3, none⟩ = some (.int .i64 Y.f0) ∧ w'.cell? ⟨g, Z.toNat * 3 + 1, none⟩ = some (.int .i64 Y.f1) ∧ w'.cell? ⟨g, Z.toNat * 3 + 2, none⟩ = some (.int .i64 Y.f2) ∧ w'.cell? ⟨g, J.toNat * 3, none⟩ = some (.int .i64 XX.f0) ∧ w'.cell? ⟨g, J.toNat * 3 + 1, none⟩ = some (.int .i64 XX.f1) ∧ w'.cell? ⟨g, J.toNat * 3 + 2, none⟩ = some (.int .i64 XX.f2)) (ds := [15, 17]) 18 (by kernel_rfl) rfl ⟨q0, q1, q2, p0, p1, p2⟩ (fun hHeld => ?_)
               have HN := zh (And.intro hR2 (hB2 _ (q6 HB10.out)))
               have HW1 := zh hW1
               generalize wd.drew = we at q0 q1 q2 p0 p1 p2 f0 f1 f2 HW1 hHeld ⊢
               clear hR2 hB2 hW1
               repeat (first | refine rP 18 ?_ | refine rT 18 hHeld ?_)
               refine sS 15 ?_
               clear hHeld q0 q1 q2 p0 p1 p2 f0 f1 f2
               rw [← HW1.out]
               refine rP 18 ?_
               refine sS 17 ?_
               refine z1e (by kernel_rfl) ?_
               clear u0 u1 u2 v0 v1 v2 f3 f4 f5
               go_wp2
               go_roundg (Z.toNat + 1)
               case measure => have := HZ.out.1; omega
               case rel => exact ⟨Z, a', Y :: b, by first | rfl | go_num, by have := HZ.out.1; have := HZ.out.2.2.2.2; omega, rfl, by have := HZ.out.1; omega, zh ⟨by have := HK2.out.1; rwa [List.append_assoc] at this, fun y hy => (List.mem_cons.1 hy).elim (fun e => e ▸ HMT.out) (HK2.out.2.1 y), HN.out.1, HN.out.2⟩⟩
             ·have go9 : ¬ XX.f1 < Y.f1 ∧ ((XX.f1 == Y.f1) = false ∨ ((XX.f1 == Y.f1) = true ∧ ¬ XX.f0 < Y.f0)) := by
               unfold mlt at hm
               refine ⟨by omega, ?_⟩
               by_cases h : XX.f1 = Y.f1
               ·exact .inr ⟨beq_iff_eq.2 h, by omega⟩
               ·exact .inl (beq_eq_false_iff_ne.2 h)
              have HMT := zh hm
              clear hm
              obtain ⟨g1, (g2 | ⟨g2, g3⟩)⟩ := go9
              all_goals
               repeat (first | refine qP 44 hT ?_ | refine qT 44 hT hHeld ?_)
               refine z1e (by kernel_rfl) ?_
               clear hHeld
               go_wp2
               have hm9 : (a' ++ [Y]).length + (b.length + 1) = n1 := by have := HZ.out.2.2.2.1; simp; omega
               have hmm : ((a' ++ [Y]) ++ XX :: b).length = n1 := by rw [List.length_append, List.length_cons]; exact hm9
               have HMM := zh hmm
               clear hm9 hmm
               go_roundg (l.length - j)
               case measure => omega
               case rel => exact ⟨j + 1, (a' ++ [Y]) ++ XX :: b, some ⟨g, 0, none⟩, c1, by omega, by rw [HMM.out], by go_num, by omega, zh ⟨by rw [HMM.out, List.append_assoc]; exact HR10.out, HB10.out, MgI.ins (by rw [HK2.out.1]; exact HM9.out.1) hlt HNH.out (by rw [HXX.out, HTE.out, HX.out]) (by rw [← HX.out, ← HTE.out]; exact HF.out) (by rw [← HX.out, ← HTE.out]; exact HC9.out) HK2.out.2.1 (fun a2 y e => by
                obtain ⟨_, e2⟩ := List.append_inj' e rfl
                injection e2 with e2
                rw [← e2]
                exact HMT.out), by rw [HMM.out]; have := HN1.out; omega⟩⟩
  ·have e : i = l.length := by omega
   subst e
   go_wp2
   go_ret2
   exact ⟨HL.out.2.1, .inr ⟨m, Ao, co, rfl, HL.out.1, HL.out.2.2.1, HL.out.2.2.2⟩⟩
end Go.Proofs.YtcgdloldkcmhnaaGreat.H
end
section
namespace Go.Proofs.YtcgdloldkcmhnaaGreat.H
open Go Go.RowKit Go.Proofs.YtcgdloldkcmhnaaGreat.PrintC Go.Proofs.YtcgdloldkcmhnaaGreat.PrintE Go.Proofs.YtcgdloldkcmhnaaGreatW.PrintWords Go.Proofs.YtcgdloldkcmhnaaGreatW.PrintLast Go.Proofs.YtcgdloldkcmhnaaGreatW.PrintMore Go.Proofs.YtcgdloldkcmhnaaGreat.Flow
set_option linter.unusedVariables false
set_option linter.unusedSimpArgs false
def gOf (v : Int) : List Grp → Int
 |[] => -1
 |g :: l => if g.f0 = v then g.f1 else gOf v l
theorem x1l {l : List Grp} (v : Int) {i : Nat} (hi : i < l.length) : gOf v (l.drop i) = if (z0q l (i : Int)).f0 = v then (z0q l (i : Int)).f1 else gOf v (l.drop (i + 1)) := by
 have e : z0q l (i : Int) = l[i] := by
  unfold z0q
  rw [Int.toNat_natCast, List.getD_eq_getElem?_getD, List.getElem?_eq_getElem hi]
  rfl
 rw [List.drop_eq_getElem_cons hi, e]
 rfl
theorem z2t (v : Int) : ∀ {l : List Grp}, (∀ g, g ∈ l → 0 ≤ g.f1) → (gOf v l < 0 ↔ z1a (z0a l) v = false) := by
 intro l
 rw [z1j]
 induction l with
 |nil => intro _; exact ⟨fun _ => rfl, fun _ => by unfold gOf; decide⟩
 |cons g l ih =>
  intro h
  have h0 := h g (List.mem_cons_self ..)
  have h1 := ih (fun x hx => h x (List.mem_cons_of_mem _ hx))
  unfold gOf
  rw [List.any_cons]
  by_cases e : g.f0 = v
  ·rw [if_pos e, decide_eq_true e]
   exact ⟨fun h => by omega, fun h => by cases h⟩
  ·rw [if_neg e, decide_eq_false e, Bool.false_or]
   exact h1
theorem z0y (m : Nat) (A : Option Addr) (c : Nat) (l : List Grp) (v : Int) (w : World) (hm : l.length = m) (hr : Kd.C z1v w A l.length l) (hl : m ≤ 1000000) :
  Calls Tryz.prog 24 #[.slice A m c, .int .i64 v] w fun e w' => e = .returned (.int .i64 (gOf v l)) ∧ Below w.heap.size w w' := by
 subst hm
 have HR := zh hr
 clear hr
 go_enter Tryz.func24, Tryz.ntmps24
 go_wp2
 go_loopg [5] l.length (fun k iv W => ∃ i : Nat, i ≤ l.length ∧ iv = .int .i64 i ∧ k = l.length - i ∧ Hid (gOf v (l.drop i) = gOf v l ∧ Below w.heap.size w W))
 case atStart => exact ⟨0, Nat.zero_le _, rfl, rfl, zh ⟨rfl, by first | exact Below.refl _ _ | exact j8 (Below.refl _ _) _⟩⟩
 case round =>
  obtain ⟨i, hi, rfl, rfl, HL⟩ := hrel
  by_cases d1 : i < l.length
  ·have i0 : (0 : Int) ≤ (i : Int) := by omega
   have i1 : (i : Int) < (l.length : Int) := by omega
   obtain ⟨ad, ea, y0, y1⟩ := z2y (Kd.C_below HR.out HL.out.2) (i : Int) i0 i1
   subst ea
   rw [Int.toNat_natCast] at y0 y1
   have HD := zh (x1l v d1)
   obtain ⟨g, hg⟩ : ∃ g, g = z0q l (i : Int) := ⟨_, rfl⟩
   rw [← hg] at HD y0 y1
   clear hg
   by_cases d2 : g.f0 = v
   ·have d3 : (g.f0 == v) = true := by simpa using d2
    have d4 : (g.f0 != v) = false := by simpa using d2
    have HD2 : Hid (gOf v (l.drop i) = g.f1) := zh (by rw [HD.out, if_pos d2])
    clear d2
    go_wp2
    go_ret
    refine ⟨?_, HL.out.2⟩
    rw [← HL.out.1, HD2.out]
    rfl
   ·have d3 : (g.f0 == v) = false := by simpa using d2
    have d4 : (g.f0 != v) = true := by simpa using d2
    have HD2 : Hid (gOf v (l.drop i) = gOf v (l.drop (i + 1))) := zh (by rw [HD.out, if_neg d2])
    clear d2
    go_wp2
    go_roundg (l.length - (i + 1))
    case measure => omega
    case rel => exact ⟨i + 1, by omega, by go_num, by omega, zh ⟨by rw [← HL.out.1, HD2.out], HL.out.2⟩⟩
  ·have d2 : ¬ (i : Int) < (l.length : Int) := by omega
   have HE : Hid (l.drop i = []) := zh (List.drop_of_length_le (by omega))
   go_wp2
   go_ret
   refine ⟨?_, HL.out.2⟩
   rw [← HL.out.1, HE.out]
   rfl
theorem z1l (n : Int) (b : Bool) (vl : Value) (Ap : Option Addr) (cp : Nat) (p : List Grp) (Aq : Option Addr) (cq : Nat) (q : List Grp) (v : Int) (w : World) (hp : Kd.C z1v w Ap p.length p) (hq : Kd.C z1v w Aq q.length q) (lp : p.length ≤ 1000000) (lq : q.length ≤ 1000000) (gp : ∀ g, g ∈ p → 0 ≤ g.f1) (gq : ∀ g, g ∈ q → 0 ≤ g.f1) :
  Calls Tryz.prog 30 #[.agg #[.int .i64 n, .bool b, vl], .slice Ap p.length cp, .slice Aq q.length cq, .int .i64 v] w fun e w' => e = .returned (.bool (b || (z1a (z0a p) v || z1a (z0a q) v))) ∧ Below w.heap.size w w' := by
 have hu := Tryz.underlying33
 have HP := zh hp
 have HQ := zh hq
 have HGP := zh (z2t v gp)
 have HGQ := zh (z2t v gq)
 clear hp hq gp gq
 obtain ⟨x, hx⟩ : ∃ x, x = gOf v p := ⟨_, rfl⟩
 obtain ⟨y, hy⟩ : ∃ y, y = gOf v q := ⟨_, rfl⟩
 have HX := zh hx
 have HY := zh hy
 clear hx hy
 cases b with
 |true =>
  go_enter Tryz.func30, Tryz.ntmps30
  go_wp2
  go_ret
  exact ⟨rfl, y8 (Below.refl _ _) _⟩
 |false =>
  by_cases c1 : x < 0
  ·have c2 : ¬ 0 ≤ x := by omega
   by_cases c3 : y < 0
   ·have c4 : ¬ 0 ≤ y := by omega
    go_enter Tryz.func30, Tryz.ntmps30
    go_wp2_with (go_at_call 24; go_loud (first | ((with_reducible refine (z0y p.length Ap cp p v _ ?s1 ?s2 ?s3).mono ?_); (case s1 => rfl); (case s2 => exact Kd.C_below HP.out (y8 (Below.refl _ _) _)); (case s3 => exact lp); rintro e w1 ⟨rfl, hb⟩; rw [← HX.out]; have HB := zh (v6 (y8 (Below.refl _ _) _) hb); clear hb) | ((with_reducible refine (z0y q.length Aq cq q v _ ?s1 ?s2 ?s3).mono ?_); (case s1 => rfl); (case s2 => exact Kd.C_below HQ.out HB.out); (case s3 => exact lq); rintro e w2 ⟨rfl, hb⟩; rw [← HY.out]; have HB2 := zh (v6 HB.out hb); clear hb)))
    go_ret
    refine ⟨?_, HB2.out⟩
    rw [HGP.out.1 (by rw [← HX.out]; exact c1), HGQ.out.1 (by rw [← HY.out]; exact c3)]
    first | rfl | (simp; exact ⟨c1, c3⟩)
   ·have c4 : 0 ≤ y := by omega
    go_enter Tryz.func30, Tryz.ntmps30
    go_wp2_with (go_at_call 24; go_loud (first | ((with_reducible refine (z0y p.length Ap cp p v _ ?s1 ?s2 ?s3).mono ?_); (case s1 => rfl); (case s2 => exact Kd.C_below HP.out (y8 (Below.refl _ _) _)); (case s3 => exact lp); rintro e w1 ⟨rfl, hb⟩; rw [← HX.out]; have HB := zh (v6 (y8 (Below.refl _ _) _) hb); clear hb) | ((with_reducible refine (z0y q.length Aq cq q v _ ?s1 ?s2 ?s3).mono ?_); (case s1 => rfl); (case s2 => exact Kd.C_below HQ.out HB.out); (case s3 => exact lq); rintro e w2 ⟨rfl, hb⟩; rw [← HY.out]; have HB2 := zh (v6 HB.out hb); clear hb)))
    go_ret
    refine ⟨?_, HB2.out⟩
    have : z1a (z0a q) v = true := by
     cases h : z1a (z0a q) v
     ·have := HGQ.out.2 h; rw [← HY.out] at this; omega
     ·rfl
    rw [this, Bool.or_true, Bool.or_true]
    rfl
  ·have c2 : 0 ≤ x := by omega
   go_enter Tryz.func30, Tryz.ntmps30
   go_wp2_with (go_at_call 24; go_loud ((with_reducible refine (z0y p.length Ap cp p v _ ?s1 ?s2 ?s3).mono ?_); (case s1 => rfl); (case s2 => exact Kd.C_below HP.out (y8 (Below.refl _ _) _)); (case s3 => exact lp); rintro e w1 ⟨rfl, hb⟩; rw [← HX.out]; have HB := zh (v6 (y8 (Below.refl _ _) _) hb); clear hb))
   go_ret
   refine ⟨?_, HB.out⟩
   have : z1a (z0a p) v = true := by
    cases h : z1a (z0a p) v
    ·have := HGP.out.2 h; rw [← HX.out] at this; omega
    ·rfl
   rw [this, Bool.true_or, Bool.or_true]
   rfl
end Go.Proofs.YtcgdloldkcmhnaaGreat.H
end
section
namespace Go.Proofs.YtcgdloldkcmhnaaGreat.H
open Go Go.RowKit Go.Proofs.YtcgdloldkcmhnaaGreat.PrintC Go.Proofs.YtcgdloldkcmhnaaGreat.PrintE Go.Proofs.YtcgdloldkcmhnaaGreatW.PrintWords Go.Proofs.YtcgdloldkcmhnaaGreatW.PrintLast Go.Proofs.YtcgdloldkcmhnaaGreatW.PrintMore
set_option linter.unusedVariables false
set_option linter.unusedSimpArgs false
def mok (l : List Arc) (h : Int) (q : List Grp) (x : Mv) : Bool := y1a l h (-1) (-1) x && decide (gOf (z1i l x).f0 q < 0)
def x6r (l : List Arc) (h : Int) (q : List Grp) (L : List Mv) (k : Int) : Prop := (k = 10 ∧ ∃ x, x ∈ L ∧ z7b (amt L x) = false) ∨ (k = 140 ∧ ∃ m, z82 L m ∧ ∃ x, x ∈ m ∧ mok l h q x = false)
def RMvAt (l : List Arc) (h : Int) (q : List Grp) (L : List Mv) (w : World) (e : Ending) (w' : World) : Prop := Below w.heap.size w w' ∧ ((∃ k : Int, (k == 0) = false ∧ (k != 0) = true ∧ e = .returned (.tuple #[.slice none 0 0, .int .i64 k]) ∧ x6r l h q L k) ∨
 ∃ (m : List Mv) (A1 : Option Addr) (c1 : Nat), e = .returned (.tuple #[.slice A1 m.length c1, .int .i64 0]) ∧ Kd.R kMv 76 w' w.heap.size (fun _ => True) (.slice A1 m.length c1) m ∧ z82 L m ∧ (∀ x, x ∈ m → mok l h q x = true) ∧ m.length ≤ L.length)
theorem y7m (n : Int) (b : Bool) (A : Option Addr) (c : Nat) (l : List Arc) (Aq : Option Addr) (cq : Nat) (q : List Grp) (h : Int) (AL : Option Addr) (cL : Nat) (L : List Mv) (w : World) (hr : Kd.C z4w w A l.length l) (hq : Kd.C z1v w Aq q.length q) (hL : Kd.C kMv w AL L.length L) (hlq : q.length ≤ 1000000)
  (hti : ∀ i : Int, 0 ≤ i → i < l.length → 0 ≤ (j7 l i).f3 ∧ (j7 l i).f3 ≤ 1048576) (h0 : 0 ≤ h) (h1 : h ≤ 100000) (hi : ∀ x, x ∈ L → -9223372036854775808 ≤ x.f2 ∧ x.f2 ≤ 9223372036854775807) (hl : L.length ≤ 100000) :
  Calls Tryz.prog 28 #[.agg #[.int .i64 n, .bool b, .slice A l.length c], .slice Aq q.length cq, .int .i64 h, .slice AL L.length cL] w (RMvAt l h q L w) := by
 have hu := Tryz.underlying33
 have hu2 := Tryz.underlying76
 have hu3 := Tryz.underlying104
 have HR := zh hr
 have HQ := zh hq
 have HLL := zh hL
 have HTI := zh hti
 have HI := zh hi
 clear hr hq hL hti hi
 go_enter Tryz.func28, Tryz.ntmps28
 obtain ⟨w1, hw1⟩ : ∃ w1, w1 = w.alloc (.cells #[.int .i64 n, .bool b, .slice A l.length c] 33) := ⟨_, rfl⟩
 have HX : Hid (w1.heap[w.heap.size]? = some (.cells #[.int .i64 n, .bool b, .slice A l.length c] 33 (0, 0)) ∧ Below w.heap.size w w1) := zh (by rw [hw1]; exact ⟨heap_alloc_new _ _, y8 (Below.refl _ _) _⟩)
 have HS1 : Hid (w.heap.size ≤ w1.heap.size) := zh HX.out.2.size
 go_wp2_with (go_at_call 12; rw [← hw1]; go_loud ((with_reducible refine (y2o AL cL L _ ?s1 ?s2 ?s3).mono ?_); (case s1 => exact Kd.C_below HLL.out HX.out.2); (case s2 => exact HI.out); (case s3 => exact hl); rintro e w3 ⟨hb, (⟨rfl, hov⟩ | ⟨m, A1, c1, rfl, hm, hmg, hml⟩)⟩; all_goals (have HX3 := zh (And.intro (j5 HX.out.1 hb) (v6 HX.out.2 hb)); clear HX)))
 ·go_ret2
  exact ⟨HX3.out.2, .inl ⟨10, rfl, rfl, rfl, .inl ⟨rfl, hov⟩⟩⟩
 have HM := zh (And.intro hm hmg)
 have HMC := zh (Kd.R_reads' hm).2.2
 have hmb := Nat.le_trans hml hl
 clear hm hmg hb
 go_loopg [12] (m.length + 1) (fun k iv W => ∃ i : Nat, i ≤ m.length ∧ iv = .int .i64 i ∧ k = m.length + 1 - i ∧ Hid (Below w3.heap.size w3 W ∧ ∀ x, x ∈ m.take i → mok l h q x = true))
 case atStart => exact ⟨0, Nat.zero_le _, rfl, rfl, zh ⟨Below.refl _ _, fun x hx => by simp at hx⟩⟩
 case round =>
  obtain ⟨i, hi, rfl, rfl, HL⟩ := hrel
  have HB := zh (v6 HX3.out.2 HL.out.1)
  by_cases hlt : i < m.length
  ·have i0 : (0 : Int) ≤ (i : Int) := by omega
   have i1 : (i : Int) < (m.length : Int) := by omega
   obtain ⟨ad, ea, x0, x1, x2⟩ := z4j (Kd.C_drew (Kd.C_below HMC.out HL.out.1)) (i : Int) i0 i1
   subst ea
   rw [Int.toNat_natCast] at x0 x1 x2
   obtain ⟨X, hX⟩ : ∃ X, X = z1q m i := ⟨_, rfl⟩
   have hX2 : z3h m (i : Int) = X := by rw [hX]; rfl
   rw [hX2] at x0 x1 x2
   have HXE := zh hX
   clear hX hX2
   have z0 : wr.drew.cell? ⟨w.heap.size, 0, none⟩ = some (.int .i64 n) := (y7 (n7 (j5 HX3.out.1 HL.out.1)) 0).trans rfl
   have z1 : wr.drew.cell? ⟨w.heap.size, 1, none⟩ = some (.bool b) := (y7 (n7 (j5 HX3.out.1 HL.out.1)) 1).trans rfl
   have z2 : wr.drew.cell? ⟨w.heap.size, 2, none⟩ = some (.slice A l.length c) := (y7 (n7 (j5 HX3.out.1 HL.out.1)) 2).trans rfl
   have HB9 := zh (And.intro (q6 HB.out) (q6 HL.out.1))
   have HXM : Hid (X ∈ m) := zh (by rw [HXE.out]; exact z2z hlt)
   cases hRe : y1a l h (-1) (-1) ⟨X.f0, X.f1, X.f2⟩ with
   |false =>
    have HRE := zh hRe
    clear hRe
    go_wp2
    refine z1u (S := fun w' => w'.cell? ⟨w.heap.size, 0, none⟩ = some (.int .i64 n) ∧ w'.cell? ⟨w.heap.size, 1, none⟩ = some (.bool b) ∧ w'.cell? ⟨w.heap.size, 2, none⟩ = some (.slice A l.length c) ∧ w'.cell? (ad.add (i * 3)) = some (.int .i64 X.f0) ∧ w'.cell? ⟨(ad.add (i * 3)).block, (ad.add (i * 3)).off + 1, none⟩ = some (.int .i64 X.f1) ∧ w'.cell? ⟨(ad.add (i * 3)).block, (ad.add (i * 3)).off + 2, none⟩ = some (.int .i64 X.f2)) (ds := [6]) 23 (by kernel_rfl) rfl ⟨z0, z1, z2, x0, x1, x2⟩ (fun hHeld => ?_)
    generalize wr.drew = wd at HB9 hHeld ⊢
    clear z0 z1 z2 x0 x1 x2
    repeat (first | refine rP 23 ?_ | refine rT 23 hHeld ?_)
    refine sCL 6 Tryz.func65 #[.agg #[.int .i64 n, .bool b, .slice A l.length c], .int .i64 (-1), .int .i64 (-1), .int .i64 h, .agg #[.int .i64 X.f0, .int .i64 X.f1, .int .i64 X.f2]] (z9e n b A c l (-1) (-1) h X.f0 X.f1 X.f2 false HRE.out.symm _ (Kd.C_below HR.out HB9.out.1) HTI.out h0 h1) ?_
    rintro e w5 ⟨rfl, hb⟩
    refine ⟨_, rfl, ?_⟩
    refine sN ?_
    repeat refine rP 23 ?_
    refine z1e (by kernel_rfl) ?_
    have HB5 := zh (v6 HB9.out.1 hb)
    clear hb hHeld
    go_wp2
    go_ret2
    exact ⟨HB5.out, .inl ⟨140, rfl, rfl, rfl, .inr ⟨rfl, m, HM.out.2, X, HXM.out, by unfold mok; rw [show X = ⟨X.f0, X.f1, X.f2⟩ from rfl, HRE.out]; rfl⟩⟩⟩
   |true =>
    have hmo := of_decide_eq_true hRe
    have a0 : 0 ≤ X.f0 := hmo.1
    have a1 : X.f0 < l.length := hmo.2.1
    have HRE := zh hRe
    clear hRe hmo
    obtain ⟨ae, eb, -⟩ := z07 HR.out X.f0 a0 a1
    subst eb
    obtain ⟨ae2, e2, y0, -⟩ := z07 (Kd.C_below HR.out HB9.out.1) X.f0 a0 a1
    injection e2 with e2
    subst e2
    obtain ⟨Y, hY⟩ : ∃ Y, Y = z1i l X := ⟨_, rfl⟩
    have hY2 : j7 l X.f0 = Y := by rw [hY]; rfl
    rw [hY2] at y0
    have HY := zh hY
    clear hY hY2
    obtain ⟨G, hG⟩ : ∃ G, G = gOf Y.f0 q := ⟨_, rfl⟩
    have HG := zh hG
    clear hG
    have hg : (0 ≤ G ∧ Hid (mok l h q X = false)) ∨ (¬ 0 ≤ G ∧ Hid (mok l h q X = true)) := by
     by_cases g : 0 ≤ G
     ·refine .inl ⟨g, zh ?_⟩
      unfold mok
      rw [← HY.out, ← HG.out, decide_eq_false (by omega), Bool.and_false]
     ·refine .inr ⟨g, zh ?_⟩
      unfold mok
      rw [← HY.out, ← HG.out, decide_eq_true (by omega), Bool.and_true]
      exact HRE.out
    go_wp2
    refine z1u (S := fun w' => w'.cell? ⟨w.heap.size, 0, none⟩ = some (.int .i64 n) ∧ w'.cell? ⟨w.heap.size, 1, none⟩ = some (.bool b) ∧ w'.cell? ⟨w.heap.size, 2, none⟩ = some (.slice (some ae) l.length c) ∧ w'.cell? (ad.add (i * 3)) = some (.int .i64 X.f0) ∧ w'.cell? ⟨(ad.add (i * 3)).block, (ad.add (i * 3)).off + 1, none⟩ = some (.int .i64 X.f1) ∧ w'.cell? ⟨(ad.add (i * 3)).block, (ad.add (i * 3)).off + 2, none⟩ = some (.int .i64 X.f2) ∧ w'.cell? (ae.add (X.f0.toNat * 4)) = some (.int .i64 Y.f0)) (ds := [20]) 23 (by kernel_rfl) rfl ⟨z0, z1, z2, x0, x1, x2, y0⟩ (fun hHeld => ?_)
    generalize wr.drew = wd at HB9 hHeld ⊢
    clear z0 z1 z2 x0 x1 x2 y0
    repeat (first | refine rP 23 ?_ | refine rT 23 hHeld ?_)
    refine sC 6 Tryz.func65 #[.agg #[.int .i64 n, .bool b, .slice (some ae) l.length c], .int .i64 (-1), .int .i64 (-1), .int .i64 h, .agg #[.int .i64 X.f0, .int .i64 X.f1, .int .i64 X.f2]] (z9e n b (some ae) c l (-1) (-1) h X.f0 X.f1 X.f2 true HRE.out.symm _ (Kd.C_below HR.out HB9.out.1) HTI.out h0 h1) ?_
    rintro e w5 ⟨rfl, hb⟩
    refine ⟨_, rfl, ⟨j6 hb hHeld.1, j6 hb hHeld.2.1, j6 hb hHeld.2.2.1, j6 hb hHeld.2.2.2.1, j6 hb hHeld.2.2.2.2.1, j6 hb hHeld.2.2.2.2.2.1, j6 hb hHeld.2.2.2.2.2.2⟩, fun hHeld => ?_⟩
    refine sN ?_
    have HB5 := zh (And.intro (v6 HB9.out.1 hb) (v6 HB9.out.2 hb))
    clear hb
    repeat (first | refine rP 23 ?_ | refine rT 23 hHeld ?_)
    refine sCL 20 Tryz.func24 #[.slice Aq q.length cq, .int .i64 Y.f0] (z0y q.length Aq cq q Y.f0 _ rfl (Kd.C_below HQ.out HB5.out.1) hlq) ?_
    rintro e w6 ⟨rfl, hb⟩
    refine ⟨_, rfl, ?_⟩
    rw [← HG.out]
    refine sN ?_
    repeat refine rP 23 ?_
    refine z1e (by kernel_rfl) ?_
    have HB6 := zh (And.intro (v6 HB5.out.1 hb) (v6 HB5.out.2 hb))
    clear hb hHeld
    rcases hg with ⟨g1, HMK⟩ | ⟨g1, HMK⟩
    ·go_wp2
     go_ret2
     exact ⟨HB6.out.1, .inl ⟨140, rfl, rfl, rfl, .inr ⟨rfl, m, HM.out.2, X, HXM.out, HMK.out⟩⟩⟩
    ·go_wp2
     go_roundg (m.length - i)
     case measure => omega
     case rel => exact ⟨i + 1, by omega, by go_num, by omega, zh ⟨HB6.out.2, fun x hx => by
      rw [z1f hlt, List.mem_append, List.mem_singleton] at hx
      rcases hx with hx | rfl
      ·exact HL.out.2 x hx
      ·rw [← HXE.out]
       exact HMK.out⟩⟩
  ·have e : i = m.length := by omega
   subst e
   go_wp2
   go_ret2
   exact ⟨HB.out, .inr ⟨m, A1, c1, rfl, Kd.R_lower (Kd.R_below HM.out.1 HL.out.1) HS1.out, HM.out.2, fun x hx => HL.out.2 x (by rw [List.take_length]; exact hx), hml⟩⟩
end Go.Proofs.YtcgdloldkcmhnaaGreat.H
end
section
namespace Go.Proofs.YtcgdloldkcmhnaaGreat.H
open Go Go.RowKit Go.Proofs.YtcgdloldkcmhnaaGreat.PrintC Go.Proofs.YtcgdloldkcmhnaaGreat.PrintE Go.Proofs.YtcgdloldkcmhnaaGreatW.PrintWords Go.Proofs.YtcgdloldkcmhnaaGreatW.PrintLast Go.Proofs.YtcgdloldkcmhnaaGreatW.PrintMore Go.Proofs.YtcgdloldkcmhnaaGreat.Flow
set_option linter.unusedVariables false
set_option linter.unusedSimpArgs false
def myT1 : Bool × List (List Nat × List Nat) := (true, [([], []), ([0], [0]), ([1], [1]), ([2], [2]), ([3], [3]), ([4, 3], [3, 4]), ([3], [3]), ([6, 3], [3, 6]), ([7, 3], [3, 7]), ([8, 3], [3, 8]), ([9, 3], [3, 9]), ([10, 3], [3, 10]), ([5, 11, 3], [3, 5, 11]), ([3, 12], [3, 12]), ([13, 3], [13]), ([14], [14]), ([15, 14], [14, 15]), ([16, 14], [14, 16]), ([14, 17], [14, 17]), ([18, 14], [18]), ([19], [19]), ([20, 19], [19, 20]), ([19], [19]), ([21, 22, 19], [19, 21, 22]), ([19, 23], [19, 23]), ([24, 19], [24]), ([25], [25]), ([26, 25], [25, 26]), ([27, 25], [25, 27]), ([25, 28], [25, 28])])
theorem y8c (L h x0 x1 x2 : Int) (R : Bool) (P : Prop) [Decidable P] (hR : R = decide (0 ≤ x0 ∧ x0 < L ∧ 0 ≤ x1 ∧ x1 ≤ h ∧ 0 ≤ x2 ∧ P)) :
  ((decide (x0 < 0) = true ∧ R = false) ∨ (decide (x0 < 0) = false ∧ decide (L ≤ x0) = true ∧ R = false) ∨ (decide (x0 < 0) = false ∧ decide (L ≤ x0) = false ∧ decide (x1 < 0) = true ∧ R = false) ∨ (decide (x0 < 0) = false ∧ decide (L ≤ x0) = false ∧ decide (x1 < 0) = false ∧ decide (h < x1) = true ∧ R = false) ∨ (decide (x0 < 0) = false ∧ decide (L ≤ x0) = false ∧ decide (x1 < 0) = false ∧ decide (h < x1) = false ∧ decide (x2 < 0) = true ∧ R = false)) ∨ (decide (x0 < 0) = false ∧ decide (L ≤ x0) = false ∧ decide (x1 < 0) = false ∧ decide (h < x1) = false ∧ decide (x2 < 0) = false ∧ R = decide P) := by
 by_cases c1 : x0 < 0
 ·exact .inl (.inl ⟨decide_eq_true c1, by rw [hR]; exact decide_eq_false (fun e => by omega)⟩)
 ·have d1 := decide_eq_false c1
  by_cases c2 : L ≤ x0
  ·exact .inl (.inr (.inl ⟨d1, decide_eq_true c2, by rw [hR]; exact decide_eq_false (fun e => by omega)⟩))
  ·have d2 := decide_eq_false c2
   by_cases c3 : x1 < 0
   ·exact .inl (.inr (.inr (.inl ⟨d1, d2, decide_eq_true c3, by rw [hR]; exact decide_eq_false (fun e => by omega)⟩)))
   ·have d3 := decide_eq_false c3
    by_cases c4 : h < x1
    ·exact .inl (.inr (.inr (.inr (.inl ⟨d1, d2, d3, decide_eq_true c4, by rw [hR]; exact decide_eq_false (fun e => by omega)⟩))))
    ·have d4 := decide_eq_false c4
     by_cases c5 : x2 < 0
     ·exact .inl (.inr (.inr (.inr (.inr ⟨d1, d2, d3, d4, decide_eq_true c5, by rw [hR]; exact decide_eq_false (fun e => by omega)⟩))))
     ·refine .inr ⟨d1, d2, d3, d4, decide_eq_false c5, ?_⟩
      rw [hR]
      by_cases c6 : P
      ·rw [decide_eq_true c6]
       exact decide_eq_true ⟨by omega, by omega, by omega, by omega, by omega, c6⟩
      ·rw [decide_eq_false c6]
       exact decide_eq_false (fun e => c6 e.2.2.2.2.2)
theorem x4a {n h : Nat} {l : List Arc} {q : List Grp} {x : Mv} (hn : z4g n h l) (hq : ∀ g, g ∈ q → 0 ≤ g.f1) :
  mok l h q x = decide (0 ≤ x.f0 ∧ x.f0 < l.length ∧ 0 ≤ x.f1 ∧ x.f1 ≤ h ∧ 0 ≤ x.f2 ∧ (x.f1 + (z1i l x).f3 ≤ h ∧ x.f2 ≤ (z1i l x).f2 ∧ z1a (z0a q) (z1i l x).f0 = false)) := by
 unfold mok y1a
 rw [← Bool.decide_and]
 apply decide_eq_decide.2
 constructor
 ·rintro ⟨⟨a1, a2, a3, a4, a5, a6, a7, a8, a9⟩, a10⟩
  exact ⟨a1, a2, a3, a4, a6, a5, a7, (z2t _ hq).1 a10⟩
 ·rintro ⟨a1, a2, a3, a4, a6, a5, a7, a10⟩
  have he := hn.ends x.f0.toNat (by omega)
  have e : z0i l x.f0.toNat = z1i l x := by
   unfold z0i z1i
   rw [Int.toNat_of_nonneg a1]
  rw [e] at he
  exact ⟨⟨a1, a2, a3, a4, a5, a6, a7, by omega, by omega⟩, (z2t _ hq).2 a10⟩
theorem x02 (gp : Nat) (n : Int) (b : Bool) (A : Option Addr) (c : Nat) (l : List Arc) (Ap : Option Addr) (lp cp : Nat) (Aq : Option Addr) (lq cq : Nat) (bh br kh kr : Nat) (Dh Dr : DataW Unit) (h x0 x1 x2 : Int) (R : Bool) (Y : Arc) (hY : Y = j7 l x0)
  (hR : R = decide (0 ≤ x0 ∧ x0 < l.length ∧ 0 ≤ x1 ∧ x1 ≤ h ∧ 0 ≤ x2 ∧ (x1 + Y.f3 ≤ h ∧ x2 ≤ Y.f2 ∧ z1a Dr Y.f0 = false))) (w : World) (hP : PlI gp (z0f n b A l.length c Ap lp cp Aq lq cq bh br) bh br kh kr Dh Dr w) (hr : Kd.C z3l w A l.length l)
  (hti : ∀ i : Int, 0 ≤ i → i < l.length → 0 ≤ (j7 l i).f3 ∧ (j7 l i).f3 ≤ 1048576 ∧ Wf (j7 l i).f0) (h0 : 0 ≤ h) (h1 : h ≤ 100000) :
  Calls Tryz.prog 43 #[.pointer (some ⟨gp, 0, none⟩), .int .i64 h, .agg #[.int .i64 x0, .int .i64 x1, .int .i64 x2]] w (z7a R w) := by
 have hu := Tryz.underlying115
 have hu2 := Tryz.underlying76
 have hu3 := Tryz.underlying104
 have hu4 := Tryz.underlying33
 have HP := zh hP
 have HR := zh hr
 have HTI := zh hti
 clear hP hr hti
 have hcs := y8c _ _ _ _ _ _ _ hR
 clear hR
 have HY := zh hY
 clear hY
 go_enter Tryz.func43, Tryz.ntmps43
 obtain ⟨w1, hw1⟩ : ∃ w1, w1 = w.alloc (.cells #[.int .i64 x0, .int .i64 x1, .int .i64 x2] 76) := ⟨_, rfl⟩
 have HX : Hid (w1.drew.heap[w.heap.size]? = some (.cells #[.int .i64 x0, .int .i64 x1, .int .i64 x2] 76 (0, 0)) ∧ Below w.heap.size w w1.drew) := zh (by rw [hw1]; exact ⟨n7 (heap_alloc_new _ _), q6 (y8 (Below.refl _ _) _)⟩)
 go_wp2
 rw [← hw1]
 clear hw1
 have y2 : w1.drew.cell? ⟨gp, 2, none⟩ = some (.slice A l.length c) := (y7 (HP.out.below HX.out.2).bx 2).trans rfl
 have z0 : w1.drew.cell? ⟨w.heap.size, 0, none⟩ = some (.int .i64 x0) := (y7 HX.out.1 0).trans rfl
 have z1 : w1.drew.cell? ⟨w.heap.size, 1, none⟩ = some (.int .i64 x1) := (y7 HX.out.1 1).trans rfl
 have z2 : w1.drew.cell? ⟨w.heap.size, 2, none⟩ = some (.int .i64 x2) := (y7 HX.out.1 2).trans rfl
 refine z1u (S := fun w' => w'.cell? ⟨gp, 2, none⟩ = some (.slice A l.length c) ∧ w'.cell? ⟨w.heap.size, 0, none⟩ = some (.int .i64 x0) ∧ w'.cell? ⟨w.heap.size, 1, none⟩ = some (.int .i64 x1) ∧ w'.cell? ⟨w.heap.size, 2, none⟩ = some (.int .i64 x2)) (ds := []) 30 (by kernel_rfl) rfl ⟨y2, z0, z1, z2⟩ (fun hHeld => ?_)
 generalize w1.drew = wd at HX hHeld y2 z0 z1 z2 ⊢
 obtain ⟨g, hg⟩ : ∃ g, g = w.heap.size := ⟨_, rfl⟩
 rw [← hg] at hHeld z0 z1 z2 ⊢
 have HG := zh hg
 clear hg
 refine wT myT1 (fun hT => ?_)
 rcases hcs with hcs | ⟨c1, c2, c3, c4, c5, hf⟩
 ·rcases hcs with ⟨c1, hf⟩ | ⟨c1, c2, hf⟩ | ⟨c1, c2, c3, hf⟩ | ⟨c1, c2, c3, c4, hf⟩ | ⟨c1, c2, c3, c4, c5, hf⟩
  all_goals
   subst hf
   as_aux_lemma =>
    repeat (first | refine qP 30 hT ?_ | refine qT 30 hT hHeld ?_)
    refine z1e (by kernel_rfl) ?_
    clear hHeld hT
    go_wp2
    go_ret
    exact ⟨rfl, HX.out.2⟩
 ·have HF := zh hf
  clear hf
  as_aux_lemma =>
   repeat (first | refine qP 30 hT ?_ | refine qT 30 hT hHeld ?_)
   refine z1e (by kernel_rfl) ?_
   clear hHeld hT
   have i0 : 0 ≤ x0 := by have := of_decide_eq_false c1; omega
   have i1 : x0 < (l.length : Int) := by have := of_decide_eq_false c2; omega
   have i2 : 0 ≤ x1 := by have := of_decide_eq_false c3; omega
   have i3 : x1 ≤ h := by have := of_decide_eq_false c4; omega
   have hy3 := HTI.out x0 i0 i1
   obtain ⟨ae, ea, q0, q1, q2, q3⟩ := z07 (Kd.C_below HR.out (q6 HX.out.2)) x0 i0 i1
   subst ea
   rw [← HY.out] at hy3 q0 q1 q2 q3
   have HWF := zh hy3.2.2
   have hy4 := hy3.1
   have hy5 := hy3.2.1
   clear hy3
   have HB := zh (And.intro (n7 HX.out.1) (q6 HX.out.2))
   go_wp2
   have y2 : wd.drew.cell? ⟨gp, 2, none⟩ = some (.slice (some ae) l.length c) := (y7 (HP.out.below HB.out.2).bx 2).trans rfl
   have z0 : wd.drew.cell? ⟨g, 0, none⟩ = some (.int .i64 x0) := (y7 (HG.out ▸ HB.out.1) 0).trans rfl
   refine z1u (S := fun w' => w'.cell? ⟨gp, 2, none⟩ = some (.slice (some ae) l.length c) ∧ w'.cell? ⟨g, 0, none⟩ = some (.int .i64 x0) ∧ w'.cell? (ae.add (x0.toNat * 4)) = some (.int .i64 Y.f0) ∧ w'.cell? ⟨(ae.add (x0.toNat * 4)).block, (ae.add (x0.toNat * 4)).off + 1, none⟩ = some (.int .i64 Y.f1) ∧ w'.cell? ⟨(ae.add (x0.toNat * 4)).block, (ae.add (x0.toNat * 4)).off + 2, none⟩ = some (.int .i64 Y.f2) ∧ w'.cell? ⟨(ae.add (x0.toNat * 4)).block, (ae.add (x0.toNat * 4)).off + 3, none⟩ = some (.int .i64 Y.f3)) (ds := [10]) 11 (by kernel_rfl) rfl ⟨y2, z0, q0, q1, q2, q3⟩ (fun hHeld => ?_)
   generalize wd.drew = we at HB hHeld ⊢
   clear y2 z0 z1 z2 q0 q1 q2 q3 HX
   repeat (first | refine rP 11 ?_ | refine rT 11 hHeld ?_)
   refine sB 9 hHeld (fun hHeld => ?_)
   refine sS 10 ?_
   refine z1e (by kernel_rfl) ?_
   obtain ⟨wf, hwf⟩ : ∃ wf, wf = we.alloc (.cells #[.int .i64 Y.f0, .int .i64 Y.f1, .int .i64 Y.f2, .int .i64 Y.f3] 104) := ⟨_, rfl⟩
   have HB2 : Hid (wf.heap[we.heap.size]? = some (.cells #[.int .i64 Y.f0, .int .i64 Y.f1, .int .i64 Y.f2, .int .i64 Y.f3] 104 (0, 0)) ∧ wf.heap[g]? = some (.cells #[.int .i64 x0, .int .i64 x1, .int .i64 x2] 76 (0, 0)) ∧ Below w.heap.size w wf) := zh (by rw [hwf]; exact ⟨heap_alloc_new _ _, j9 (HG.out ▸ HB.out.1) _, y8 HB.out.2 _⟩)
   rw [← hwf]
   clear hwf hHeld HB
   generalize we.heap.size = g2 at HB2 ⊢
   have k0 : wf.cell? ⟨g2, 0, none⟩ = some (.int .i64 Y.f0) := (y7 HB2.out.1 0).trans rfl
   have k1 : wf.cell? ⟨g2, 1, none⟩ = some (.int .i64 Y.f1) := (y7 HB2.out.1 1).trans rfl
   have k2 : wf.cell? ⟨g2, 2, none⟩ = some (.int .i64 Y.f2) := (y7 HB2.out.1 2).trans rfl
   have k3 : wf.cell? ⟨g2, 3, none⟩ = some (.int .i64 Y.f3) := (y7 HB2.out.1 3).trans rfl
   have z1 : wf.cell? ⟨g, 1, none⟩ = some (.int .i64 x1) := (y7 HB2.out.2.1 1).trans rfl
   have z2 : wf.cell? ⟨g, 2, none⟩ = some (.int .i64 x2) := (y7 HB2.out.2.1 2).trans rfl
   have e5 : IntKind.i64.wrap (x1 + Y.f3) = x1 + Y.f3 := IntWalk.i64_in _ (by omega)
   have hc : (¬ x1 + Y.f3 ≤ h ∧ R = false) ∨ (x1 + Y.f3 ≤ h ∧ ¬ x2 ≤ Y.f2 ∧ R = false) ∨ (x1 + Y.f3 ≤ h ∧ x2 ≤ Y.f2 ∧ R = !z1a Dr Y.f0) := by
    rw [HF.out]
    by_cases d1 : x1 + Y.f3 ≤ h
    ·by_cases d2 : x2 ≤ Y.f2
     ·refine .inr (.inr ⟨d1, d2, ?_⟩)
      cases z1a Dr Y.f0 with
      |false => exact decide_eq_true ⟨d1, d2, rfl⟩
      |true => exact decide_eq_false (fun e => by cases e.2.2)
     ·exact .inr (.inl ⟨d1, d2, decide_eq_false (fun e => d2 e.2.1)⟩)
    ·exact .inl ⟨d1, decide_eq_false (fun e => d1 e.1)⟩
   rcases hc with ⟨d1, hf⟩ | ⟨d1, d2, hf⟩ | ⟨d1, d2, hf⟩
   ·subst hf
    clear HF
    go_wp2
    go_ret
    exact ⟨rfl, HB2.out.2.2⟩
   ·subst hf
    clear HF
    go_wp2
    go_ret
    exact ⟨rfl, HB2.out.2.2⟩
   ·subst hf
    clear HF
    go_wp2_with (go_at_call 50; go_loud ((with_reducible refine (z9y gp n b (some ae) l.length c Ap lp cp Aq lq cq bh br kh kr Dh Dr Y _ ?s1 ?s2).mono ?_); (case s1 => exact HP.out.below HB2.out.2.2); (case s2 => exact HWF.out); rintro e w9 ⟨rfl, hb⟩; have HB3 := zh (v6 HB2.out.2.2 hb); clear hb))
    go_ret
    exact ⟨rfl, HB3.out⟩
end Go.Proofs.YtcgdloldkcmhnaaGreat.H
end
section
namespace Go.Proofs.YtcgdloldkcmhnaaGreat.H
open Go Go.RowKit Go.Proofs.YtcgdloldkcmhnaaGreat.PrintC Go.Proofs.YtcgdloldkcmhnaaGreat.PrintE Go.Proofs.YtcgdloldkcmhnaaGreatW.PrintWords Go.Proofs.YtcgdloldkcmhnaaGreatW.PrintLast Go.Proofs.YtcgdloldkcmhnaaGreatW.PrintMore
set_option linter.unusedVariables false
set_option linter.unusedSimpArgs false
theorem x2b (gp pb hb : Nat) (h : Int) (X : Mv) (R : Bool) (w : World) (h1 : w.heap[pb]? = some (.cells #[.pointer (some ⟨gp, 0, none⟩)] 64 (0, 0))) (h2 : w.heap[hb]? = some (.cells #[.int .i64 h] 3 (0, 0)))
  (hM : ∀ W, Below w.heap.size w W → Calls Tryz.prog 43 #[.pointer (some ⟨gp, 0, none⟩), .int .i64 h, .agg #[.int .i64 X.f0, .int .i64 X.f1, .int .i64 X.f2]] W (z7a R W)) :
  Calls Tryz.prog 42 #[.agg #[.int .i64 X.f0, .int .i64 X.f1, .int .i64 X.f2], .pointer (some ⟨pb, 0, none⟩), .pointer (some ⟨hb, 0, none⟩)] w (z7a (!R) w) := by
 have HM := zh hM
 have x0 : w.cell? ⟨pb, 0, none⟩ = some (.pointer (some ⟨gp, 0, none⟩)) := (y7 h1 0).trans rfl
 have x1 : w.cell? ⟨hb, 0, none⟩ = some (.int .i64 h) := (y7 h2 0).trans rfl
 have hu2 := Tryz.underlying76
 have y0 : (w.alloc (.cells #[.int .i64 X.f0, .int .i64 X.f1, .int .i64 X.f2] 76)).cell? ⟨pb, 0, none⟩ = some (.pointer (some ⟨gp, 0, none⟩)) := j6 (y8 (Below.refl _ _) _) x0
 have y1 : (w.alloc (.cells #[.int .i64 X.f0, .int .i64 X.f1, .int .i64 X.f2] 76)).cell? ⟨hb, 0, none⟩ = some (.int .i64 h) := j6 (y8 (Below.refl _ _) _) x1
 clear hM h1 h2
 go_enter Tryz.func42, Tryz.ntmps42
 go_wp2_with (go_at_call 43; go_loud ((with_reducible refine (HM.out _ ?s1).mono ?_); (case s1 => exact y8 (Below.refl _ _) _); rintro e w2 ⟨rfl, hb9⟩; have HB := zh (v6 (y8 (Below.refl w.heap.size w) (.cells #[.int .i64 X.f0, .int .i64 X.f1, .int .i64 X.f2] 76)) hb9); clear hb9))
 go_ret
 exact ⟨rfl, HB.out⟩
def IdxAt (t : Mv → Bool) (m : List Mv) (w : World) (e : Ending) (w' : World) : Prop := ∃ r : Int, e = .returned (.int .i64 r) ∧ Below w.heap.size w w' ∧ ((decide (0 ≤ r) = true ∧ m.any t = true) ∨ (decide (0 ≤ r) = false ∧ m.any t = false))
theorem y59 (pb hb : Nat) (t : Mv → Bool) (Am : Option Addr) (cm : Nat) (m : List Mv) (w : World) (hm : Kd.C kMv w Am m.length m) (hml : m.length ≤ 100000)
  (hT : ∀ x, x ∈ m → ∀ W, Below w.heap.size w W → Calls Tryz.prog 42 #[.agg #[.int .i64 x.f0, .int .i64 x.f1, .int .i64 x.f2], .pointer (some ⟨pb, 0, none⟩), .pointer (some ⟨hb, 0, none⟩)] W (z7a (t x) W)) :
  Calls Tryz.prog 78 #[.slice Am m.length cm, .func (.func 42) #[] #[.pointer (some ⟨pb, 0, none⟩), .pointer (some ⟨hb, 0, none⟩)]] w (IdxAt t m w) := by
 have HM := zh hm
 have HT := zh hT
 have hu2 := Tryz.underlying76
 clear hm hT
 go_enter Tryz.func78, Tryz.ntmps78
 go_wp2
 go_loopg [8] (m.length + 1) (fun k iv W => ∃ i : Nat, i ≤ m.length ∧ iv = .int .i64 i ∧ k = m.length + 1 - i ∧ Hid (Below w.heap.size w W ∧ (m.take i).any t = false))
 case atStart => exact ⟨0, Nat.zero_le _, rfl, rfl, zh ⟨Below.refl _ _, by rw [List.take_zero]; rfl⟩⟩
 case round =>
  obtain ⟨i, hi, rfl, rfl, HL⟩ := hrel
  by_cases hlt : i < m.length
  ·have i0 : (0 : Int) ≤ (i : Int) := by omega
   have i1 : (i : Int) < (m.length : Int) := by omega
   obtain ⟨ad, ea, y0, y1, y2⟩ := z4j (Kd.C_below HM.out HL.out.1) (i : Int) i0 i1
   subst ea
   obtain ⟨X, hX⟩ : ∃ X, X = z1q m i := ⟨_, rfl⟩
   have hX2 : z3h m (i : Int) = X := by rw [hX]; rfl
   rw [Int.toNat_natCast, hX2] at y0 y1 y2
   have HXM : Hid (X ∈ m ∧ m.take (i + 1) = m.take i ++ [X]) := zh ⟨by rw [hX]; exact z2z hlt, by rw [hX]; exact z1f hlt⟩
   clear hX hX2
   cases hR : t X with
   |true =>
    have HR := zh hR
    clear hR
    go_wp2_with (go_at_call 42; (with_reducible refine (HT.out X HXM.out.1 _ HL.out.1).mono ?_); rintro e w2 ⟨rfl, hb9⟩; rw [HR.out]; have HB := zh (v6 HL.out.1 hb9); clear hb9)
    go_ret
    exact ⟨_, rfl, HB.out,   .inl ⟨decide_eq_true i0, List.any_eq_true.2 ⟨X, HXM.out.1, HR.out⟩⟩⟩
   |false =>
    have HR := zh hR
    clear hR
    go_wp2_with (go_at_call 42; (with_reducible refine (HT.out X HXM.out.1 _ HL.out.1).mono ?_); rintro e w2 ⟨rfl, hb9⟩; rw [HR.out]; have HB := zh (v6 HL.out.1 hb9); clear hb9)
    go_roundg (m.length - i)
    case measure => omega
    case rel => exact ⟨i + 1, by omega, by go_num, by omega, zh ⟨HB.out, by rw [HXM.out.2, List.any_append, HL.out.2]; simp [HR.out]⟩⟩
  ·have e : i = m.length := by omega
   subst e
   go_wp2
   go_ret
   refine ⟨_, rfl, HL.out.1, .inr ⟨by decide, ?_⟩⟩
   have h9 := HL.out.2
   rwa [List.take_length] at h9
theorem y0k (pb hb : Nat) (t : Mv → Bool) (Am : Option Addr) (cm : Nat) (m : List Mv) (w : World) (hm : Kd.C kMv w Am m.length m) (hml : m.length ≤ 100000)
  (hT : ∀ x, x ∈ m → ∀ W, Below w.heap.size w W → Calls Tryz.prog 42 #[.agg #[.int .i64 x.f0, .int .i64 x.f1, .int .i64 x.f2], .pointer (some ⟨pb, 0, none⟩), .pointer (some ⟨hb, 0, none⟩)] W (z7a (t x) W)) :
  Calls Tryz.prog 41 #[.slice Am m.length cm, .func (.func 42) #[] #[.pointer (some ⟨pb, 0, none⟩), .pointer (some ⟨hb, 0, none⟩)]] w (z7a (m.any t) w) := by
 have HI := zh (y59 pb hb t Am cm m w hm hml hT)
 clear hm hT
 go_enter Tryz.func41, Tryz.ntmps41
 go_wp2_with (go_at_call 78; (with_reducible refine (HI.out).mono ?_); rintro e w2 ⟨r, rfl, hb9, (⟨hr, ha⟩ | ⟨hr, ha⟩)⟩; all_goals (have HB := zh (And.intro hb9 ha); clear hb9 ha))
 ·go_ret
  exact ⟨by rw [HB.out.2]; rfl, HB.out.1⟩
 ·go_ret
  exact ⟨by rw [HB.out.2]; rfl, HB.out.1⟩
end Go.Proofs.YtcgdloldkcmhnaaGreat.H
end
section
namespace Go.Proofs.YtcgdloldkcmhnaaGreat.H
open Go Go.RowKit Go.Proofs.YtcgdloldkcmhnaaGreat.PrintC Go.Proofs.YtcgdloldkcmhnaaGreat.PrintE Go.Proofs.YtcgdloldkcmhnaaGreatW.PrintWords Go.Proofs.YtcgdloldkcmhnaaGreatW.PrintLast Go.Proofs.YtcgdloldkcmhnaaGreatW.PrintMore Go.Proofs.YtcgdloldkcmhnaaGreat.Flow
set_option linter.unusedVariables false
set_option linter.unusedSimpArgs false
abbrev x5k (w : World) (e : Ending) (w' : World) : Prop := e = .returned (.int .i64 0) ∧ Below w.heap.size w w'
theorem z9a (h : Nat) (w : World) (hh : h ≤ 1024) : Calls Tryz.prog 34 #[.int .i64 h] w (x5k w) := by
 have d1 : ¬ (h : Int) < 0 := by omega
 have d2 : (h : Int) ≤ 1024 := by omega
 go_enter Tryz.func34, Tryz.ntmps34
 go_wp2
 go_ret
 exact ⟨rfl, Below.refl _ _⟩
theorem y7x (n : Int) (x : Arc) (w : World) (h : (0 ≤ x.f0 ∧ x.f0 < n) ∧ (0 ≤ x.f1 ∧ x.f1 < n) ∧ (0 ≤ x.f2 ∧ x.f2 ≤ 1048576) ∧ 0 ≤ x.f3 ∧ x.f3 ≤ 1048576) :
  Calls Tryz.prog 67 #[.int .i64 n, .agg #[.int .i64 x.f0, .int .i64 x.f1, .int .i64 x.f2, .int .i64 x.f3]] w (x5k w) := by
 have d1 : decide (x.f0 < 0) = false := decide_eq_false (by omega)
 have d2 : decide (n ≤ x.f0) = false := decide_eq_false (by omega)
 have d3 : decide (x.f1 < 0) = false := decide_eq_false (by omega)
 have d4 : decide (n ≤ x.f1) = false := decide_eq_false (by omega)
 have d5 : decide (x.f2 < 0) = false := decide_eq_false (by omega)
 have d6 : decide (x.f3 < 0) = false := decide_eq_false (by omega)
 have d7 : decide (1048576 < x.f2) = false := decide_eq_false (by omega)
 have d8 : decide (1048576 < x.f3) = false := decide_eq_false (by omega)
 clear h
 have hu2 := Tryz.underlying104
 go_enter Tryz.func67, Tryz.ntmps67
 go_wp2
 go_ret
 exact ⟨rfl, y8 (Below.refl _ _) _⟩
theorem z8b (n : Nat) (b : Bool) (A : Option Addr) (c : Nat) (l : List Arc) (w : World) (hg : z5y n l) (hr : Kd.C z3l w A l.length l) :
  Calls Tryz.prog 32 #[.agg #[.int .i64 n, .bool b, .slice A l.length c]] w (x5k w) := by
 have hu := Tryz.underlying33
 have hu2 := Tryz.underlying104
 have HR := zh hr
 have HG := zh hg.arc
 have d1 : ¬ (n : Int) < 1 := by have := hg.n0; omega
 have d2 : ¬ 50 < (n : Int) := by have := hg.n1; omega
 have d3 : ¬ 200 < (l.length : Int) := by have := hg.ll; omega
 have hll := hg.ll
 clear hg hr
 go_enter Tryz.func32, Tryz.ntmps32
 obtain ⟨w1, hw1⟩ : ∃ w1, w1 = w.alloc (.cells #[.int .i64 n, .bool b, .slice A l.length c] 33) := ⟨_, rfl⟩
 have HX : Hid (w1.heap[w.heap.size]? = some (.cells #[.int .i64 n, .bool b, .slice A l.length c] 33 (0, 0)) ∧ Below w.heap.size w w1) := zh (by rw [hw1]; exact ⟨heap_alloc_new _ _, y8 (Below.refl _ _) _⟩)
 go_wp2
 rw [← hw1]
 clear hw1
 go_loopg [4] (l.length + 1) (fun k iv W => ∃ i : Nat, i ≤ l.length ∧ iv = .int .i64 i ∧ k = l.length + 1 - i ∧ Hid (W.heap[w.heap.size]? = some (.cells #[.int .i64 n, .bool b, .slice A l.length c] 33 (0, 0)) ∧ Below w.heap.size w W))
 case atStart => exact ⟨0, Nat.zero_le _, rfl, rfl, HX⟩
 case round =>
  obtain ⟨i, hi, rfl, rfl, HL⟩ := hrel
  clear HX
  have q2 : wr.cell? ⟨w.heap.size, 2, none⟩ = some (.slice A l.length c) := (y7 HL.out.1 2).trans rfl
  by_cases d4 : i < l.length
  ·have i0 : (0 : Int) ≤ (i : Int) := by omega
   have i1 : (i : Int) < (l.length : Int) := by omega
   have HXG := zh (HG.out i d4)
   go_wp2
   clear q2
   obtain ⟨ad, ea, y0, y1, y2, y3⟩ := z07 (Kd.C_drew (Kd.C_below HR.out HL.out.2)) (i : Int) i0 i1
   subst ea
   rw [Int.toNat_natCast] at y0 y1 y2 y3
   obtain ⟨x, hx⟩ : ∃ x, x = z0i l i := ⟨_, rfl⟩
   have hx2 : j7 l (i : Int) = x := by rw [hx]; rfl
   rw [hx2] at y0 y1 y2 y3
   rw [← hx] at HXG
   clear hx hx2
   have x0 : wr.drew.cell? ⟨w.heap.size, 0, none⟩ = some (.int .i64 n) := (y7 (n7 HL.out.1) 0).trans rfl
   have x2 : wr.drew.cell? ⟨w.heap.size, 2, none⟩ = some (.slice (some ad) l.length c) := (y7 (n7 HL.out.1) 2).trans rfl
   have HX1 := zh (And.intro (n7 HL.out.1) (q6 HL.out.2))
   refine z1u (S := fun w' => w'.cell? ⟨w.heap.size, 0, none⟩ = some (.int .i64 n) ∧ w'.cell? ⟨w.heap.size, 2, none⟩ = some (.slice (some ad) l.length c) ∧ w'.cell? (ad.add (i * 4)) = some (.int .i64 x.f0) ∧ w'.cell? ⟨(ad.add (i * 4)).block, (ad.add (i * 4)).off + 1, none⟩ = some (.int .i64 x.f1) ∧ w'.cell? ⟨(ad.add (i * 4)).block, (ad.add (i * 4)).off + 2, none⟩ = some (.int .i64 x.f2) ∧ w'.cell? ⟨(ad.add (i * 4)).block, (ad.add (i * 4)).off + 3, none⟩ = some (.int .i64 x.f3)) (ds := [7]) 9 (by kernel_rfl) rfl ⟨x0, x2, y0, y1, y2, y3⟩ (fun hHeld => ?_)
   generalize wr.drew = wd at HX1 hHeld x0 x2 y0 y1 y2 y3 ⊢
   repeat (first | refine rP 9 ?_ | refine rT 9 hHeld ?_)
   refine z5n 9 (N := some 30) rfl rfl (by kernel_rfl) (by decide) (fun K hK => ?_)
   refine y88 Tryz.func67 (by kernel_rfl) rfl #[.int .i64 n, .agg #[.int .i64 x.f0, .int .i64 x.f1, .int .i64 x.f2, .int .i64 x.f3]] (by rfl) rfl rfl (by (try simp only [List.map_toArray, List.map_cons, List.map_nil]); rfl) ?_
   refine (y7x n x _ HXG.out).mono ?_
   rintro e w5 ⟨rfl, hb⟩
   refine ⟨_, rfl, ?_⟩
   have HX2 := zh (And.intro (j5 HX1.out.1 hb) (v6 HX1.out.2 hb))
   refine hK.out _ _ ?_
   clear hK K hHeld hb HX1 x0 x2 y0 y1 y2 y3
   refine sN ?_
   refine rP 9 ?_
   refine z1e (by kernel_rfl) ?_
   go_wp2
   go_roundg (l.length - i)
   case measure => omega
   case rel => exact ⟨i + 1, by omega, by go_num, by omega, HX2⟩
  ·have d5 : ¬ (i : Int) < (l.length : Int) := by omega
   go_wp2
   go_ret
   exact ⟨rfl, HL.out.2⟩
theorem y5p (n : Int) (b : Bool) (vl : Value) (v : Int) (w : World) (h : 0 ≤ v ∧ v < n) :
  Calls Tryz.prog 86 #[.agg #[.int .i64 n, .bool b, vl], .int .i64 v] w fun e w' => e = .returned (.bool true) ∧ Below w.heap.size w w' := by
 have hu := Tryz.underlying33
 have d1 : decide (0 ≤ v) = true := decide_eq_true h.1
 have d2 : decide (v < n) = true := decide_eq_true h.2
 clear h
 go_enter Tryz.func86, Tryz.ntmps86
 go_wp2
 go_ret
 exact ⟨rfl, y8 (Below.refl _ _) _⟩
theorem y2q (n : Int) (b : Bool) (vl : Value) (A : Option Addr) (c : Nat) (L : List Grp) (m : Nat) (hm : L.length = m) (g : Grp) (w : World) (hr : Kd.C z1v w A L.length L) (hl : m ≤ 1000000) (h1 : 0 ≤ g.f0 ∧ g.f0 < n) (h2 : 0 ≤ g.f1 ∧ g.f1 ≤ 1048576) (h3 : gOf g.f0 L < 0) :
  Calls Tryz.prog 68 #[.agg #[.int .i64 n, .bool b, vl], .slice A m c, .agg #[.int .i64 g.f0, .int .i64 g.f1]] w (x5k w) := by
 have hu := Tryz.underlying33
 have hu3 := Tryz.underlying59
 have HR := zh hr
 obtain ⟨y, hy⟩ : ∃ y, y = gOf g.f0 L := ⟨_, rfl⟩
 rw [← hy] at h3
 have HY := zh hy
 have d1 : decide (0 ≤ g.f0) = true := decide_eq_true h1.1
 have d2 : decide (g.f0 < n) = true := decide_eq_true h1.2
 have d3 : decide (g.f1 < 0) = false := decide_eq_false (by omega)
 have d4 : decide (0 ≤ y) = false := decide_eq_false (by omega)
 have d5 : ¬ 1048576 < g.f1 := by omega
 have HM := zh hm
 clear hr hy h1 h2 hm
 go_enter Tryz.func68, Tryz.ntmps68
 obtain ⟨w1, hw1⟩ : ∃ w1, w1 = (w.alloc (.cells #[.int .i64 n, .bool b, vl] 33)).alloc (.cells #[.int .i64 g.f0, .int .i64 g.f1] 59) := ⟨_, rfl⟩
 have HB0 : Hid (Below w.heap.size w w1) := zh (by rw [hw1]; exact y8 (y8 (Below.refl _ _) _) _)
 have v0 : w1.cell? ⟨w.heap.size + 1, 0, none⟩ = some (.int .i64 g.f0) := by rw [hw1]; exact (y7 (z01 (by rw [z0k])) 0).trans rfl
 have v1 : w1.cell? ⟨w.heap.size + 1, 1, none⟩ = some (.int .i64 g.f1) := by rw [hw1]; exact (y7 (z01 (by rw [z0k])) 1).trans rfl
 go_wp2_with (first
  |(go_at_call 86; rw [← hw1]; go_loud ((with_reducible refine (y5p n b vl _ _ ?s1).mono ?_); (case s1 => exact ⟨of_decide_eq_true d1, of_decide_eq_true d2⟩); rintro e w2 ⟨rfl, hb⟩; have HB1 := zh (v6 HB0.out hb); have u0 := j6 hb v0; have u1 := j6 hb v1; clear hb))
  |(go_at_call 24; go_loud ((with_reducible refine (z0y m A c L _ _ ?s1 ?s2 ?s3).mono ?_); (case s1 => exact HM.out); (case s2 => exact Kd.C_below HR.out HB1.out); (case s3 => exact hl); rintro e w3 ⟨rfl, hb⟩; rw [← HY.out]; have HB2 := zh (v6 HB1.out hb); have t1 := j6 hb u1; clear hb)))
 go_ret
 exact ⟨rfl, HB2.out⟩
theorem y8v : (Tryz.prog.info? 59).map (fun i => (i.zero, i.size, i.bytes)) = some (some (.agg #[.int .i64 0, .int .i64 0]), 2, 16) := by kernel_rfl
theorem x3v {l : List Grp} {i : Nat} (h : i < l.length) : l.take (i + 1) = l.take i ++ [z0q l (i : Int)] := by
 have e : z0q l (i : Int) = l[i] := by
  unfold z0q
  rw [Int.toNat_natCast, List.getD_eq_getElem?_getD, List.getElem?_eq_getElem h]
  rfl
 rw [List.take_add_one, List.getElem?_eq_getElem h, e]
 rfl
theorem x30 {l : List Grp} {g : Grp} {i m : Nat} (hm : l.length = m) (h : i < m) : (l.take i ++ [g]).length = i + 1 := by
 rw [List.length_append, List.length_take, List.length_singleton]
 omega
theorem y4u (v : Int) : ∀ {l : List Grp}, (∀ g, g ∈ l → g.f0 ≠ v) → gOf v l < 0
 |[], _ => by unfold gOf; decide
 |g :: l, h => by
  unfold gOf
  rw [if_neg (h g (List.mem_cons_self ..))]
  exact y4u v (fun x hx => h x (List.mem_cons_of_mem _ hx))
theorem y84 {n : Int} {p q : List Grp} (h : z4h n p q) {i : Nat} (hi : i < (p ++ q).length) : ((0 ≤ (z0q (p ++ q) (i : Int)).f0 ∧ (z0q (p ++ q) (i : Int)).f0 < n) ∧ 0 ≤ (z0q (p ++ q) (i : Int)).f1 ∧ (z0q (p ++ q) (i : Int)).f1 ≤ 1048576) ∧ gOf (z0q (p ++ q) (i : Int)).f0 ((p ++ q).take i) < 0 := by
 have e : z0q (p ++ q) (i : Int) = (p ++ q)[i] := by
  unfold z0q
  rw [Int.toNat_natCast, List.getD_eq_getElem?_getD, List.getElem?_eq_getElem hi]
  rfl
 rw [e]
 have hm := List.getElem_mem hi
 refine ⟨(List.mem_append.1 hm).elim (h.gp _) (h.gq _), y4u _ (fun g hg e2 => ?_)⟩
 have hnd : ((p ++ q).map fun g => g.f0).Nodup := by
  rw [List.map_append, List.nodup_append]
  refine ⟨h.dp, h.dq, fun a ha c hc => ?_⟩
  obtain ⟨x, hx, rfl⟩ := List.mem_map.1 ha
  obtain ⟨y, hy, rfl⟩ := List.mem_map.1 hc
  exact h.apart y hy x hx
 obtain ⟨j, hj, rfl⟩ := List.getElem_of_mem hg
 rw [List.length_take] at hj
 rw [List.getElem_take] at e2
 have h1 : ((p ++ q).map fun g => g.f0)[j]'(by rw [List.length_map]; omega) = ((p ++ q).map fun g => g.f0)[i]'(by rw [List.length_map]; omega) := by rw [List.getElem_map, List.getElem_map, e2]
 have h2 := (List.getElem_inj hnd).1 h1
 omega
theorem y01 (n : Int) (b : Bool) (vl : Value) (Ap : Option Addr) (cp : Nat) (p : List Grp) (Aq : Option Addr) (cq : Nat) (q : List Grp) (w : World) (h : z4h n p q) (hp : Kd.C z1v w Ap p.length p) (hq : Kd.C z1v w Aq q.length q) (lp : p.length ≤ 1000) (lq : q.length ≤ 1000) :
  Calls Tryz.prog 33 #[.agg #[.int .i64 n, .bool b, vl], .slice Ap p.length cp, .slice Aq q.length cq] w (x5k w) := by
 have hu := Tryz.underlying33
 have hu3 := Tryz.underlying59
 have HP := zh hp
 have HQ := zh hq
 have HG := zh h
 have p1 : p.length ≠ 0 := fun e => h.p0 (List.length_eq_zero_iff.1 e)
 have q1 : q.length ≠ 0 := fun e => h.q0 (List.length_eq_zero_iff.1 e)
 have p0 : ((p.length : Int) == 0) = false := by rw [beq_eq_false_iff_ne]; omega
 have q0 : ((q.length : Int) == 0) = false := by rw [beq_eq_false_iff_ne]; omega
 clear hp hq h p1 q1
 go_enter Tryz.func33, Tryz.ntmps33
 obtain ⟨w1, hw1⟩ : ∃ w1, w1 = w.alloc (.cells #[.int .i64 n, .bool b, vl] 33) := ⟨_, rfl⟩
 have HX : Hid (w1.heap[w.heap.size]? = some (.cells #[.int .i64 n, .bool b, vl] 33 (0, 0)) ∧ Below w.heap.size w w1) := zh (by rw [hw1]; exact ⟨heap_alloc_new _ _, y8 (Below.refl _ _) _⟩)
 go_wp2_with (first
  |((with_reducible refine z3m (b := .append) (xs := #[.tmp 19, .tmp 20]) rfl ?_); (try (refine z2i (by rfl) ?_; dsimp only)); at_builtin; rw [← hw1]; go_loud (refine Kd.R_append_rows z1v (w0 := w) w.heap.size rfl (.tmp 19) (.tmp 20) 34 59 (.agg #[.int .i64 0, .int .i64 0]) 16 rfl Tryz.underlying34 y8v rfl (by decide) (by decide) (.slice none 0 0) ([] : List Grp) p _ _ _ (fun _ => True) (fun _ => False) rfl rfl ?aO ?aR (fun _ _ h => h) (fun _ h => h.elim) ?aF ?aB ?aS ?aL ?_); (case aR => exact Kd.C_below HP.out HX.out.2); (case aB => exact HX.out.2); (case aF => exact fun _ _ => trivial); (case aO => exact Kd.R_nil _ _ _ _ _); (case aS => exact (HX.out.2).size); (case aL => show (0 + p.length) * 16 ≤ 140737488355328; omega); go_loud ((intro v1 w2 ho hb hg hat; rw [List.nil_append] at ho; have HX2 := zh (And.intro (z0b HX.out.1 hg (Kd.R_ne (Kd.R_nil z1v 59 _ w.heap.size (fun _ => True)) HX.out.1 (by decide))) (And.intro hb ho)); obtain ⟨A1, c1, rfl⟩ := Kd.R_slice ho; clear ho hb hg hat)))
  |((with_reducible refine z3m (b := .append) (xs := #[.tmp 22, .tmp 23]) rfl ?_); (try (refine z2i (by rfl) ?_; dsimp only)); at_builtin; go_loud (refine Kd.R_append_rows z1v (w0 := w) w.heap.size rfl (.tmp 22) (.tmp 23) 34 59 (.agg #[.int .i64 0, .int .i64 0]) 16 rfl Tryz.underlying34 y8v rfl (by decide) (by decide) (.slice A1 p.length c1) (p) q _ _ _ (fun _ => True) (fun _ => False) rfl rfl ?aO ?aR (fun _ _ h => h) (fun _ h => h.elim) ?aF ?aB ?aS ?aL ?_); (case aR => exact Kd.C_below HQ.out HX2.out.2.1); (case aB => exact HX2.out.2.1); (case aF => exact fun _ _ => trivial); (case aO => exact HX2.out.2.2); (case aS => exact (HX2.out.2.1).size); (case aL => show (p.length + q.length) * 16 ≤ 140737488355328; omega); go_loud ((intro v1 w3 ho hb hg hat; have HX3 := zh (And.intro (z0b HX2.out.1 hg (Kd.R_ne HX2.out.2.2 HX2.out.1 (by decide))) (And.intro hb ho)); obtain ⟨A2, c2, rfl⟩ := Kd.R_slice ho; clear ho hb hg hat))))
 obtain ⟨L, hL⟩ : ∃ L, L = p ++ q := ⟨_, rfl⟩
 obtain ⟨m, hm⟩ : ∃ m : Nat, m = p.length + q.length := ⟨_, rfl⟩
 have hLm : L.length = m := by rw [hL, hm, List.length_append]
 have HGA : Hid (∀ i : Nat, i < L.length → ((0 ≤ (z0q L (i : Int)).f0 ∧ (z0q L (i : Int)).f0 < n) ∧ 0 ≤ (z0q L (i : Int)).f1 ∧ (z0q L (i : Int)).f1 ≤ 1048576) ∧ gOf (z0q L (i : Int)).f0 (L.take i) < 0) := zh (by rw [hL]; exact fun i hi => y84 HG.out hi)
 have HX4 : Hid (w3.heap[w.heap.size]? = some (.cells #[.int .i64 n, .bool b, vl] 33 (0, 0)) ∧ Below w.heap.size w w3 ∧ Kd.C z1v w3 A2 L.length L) := zh ⟨HX3.out.1, HX3.out.2.1, by rw [hL]; exact (Kd.R_reads' HX3.out.2.2).2.2⟩
 have hmb : m ≤ 2000 := by omega
 have HLM := zh hLm
 rw [← hm]
 clear hL hm hLm HX HX2 HX3 HG HP HQ hw1 p0 q0 lp lq w1 w2
 go_loopg [7, 9] (m + 1) (fun k ov iv W => ∃ (i : Nat) (A3 : Option Addr) (c3 : Nat), i ≤ m ∧ ov = .slice A3 i c3 ∧ iv = .int .i64 i ∧ k = m + 1 - i ∧ Hid (Kd.R z1v 59 W w3.heap.size (fun _ => True) (.slice A3 i c3) (L.take i) ∧ Below w3.heap.size w3 W))
 case atStart => exact ⟨0, none, 0, Nat.zero_le _, rfl, rfl, rfl, zh ⟨Kd.R_nil _ _ _ _ _, Below.refl _ _⟩⟩
 case round =>
  obtain ⟨i, A3, c3, hi, rfl, rfl, rfl, HL⟩ := hrel
  by_cases d4 : i < m
  ·have i0 : (0 : Int) ≤ (i : Int) := by omega
   have i1 : (i : Int) < (m : Int) := by omega
   have HXG := zh (HGA.out i (by rw [HLM.out]; exact d4))
   have HTK := zh (x3v (l := L) (i := i) (by rw [HLM.out]; exact d4))
   go_wp2
   obtain ⟨ad, ea, y0, y1⟩ := z2y (Kd.C_drew (Kd.C_below HX4.out.2.2 HL.out.2)) (i : Int) i0 (by rw [HLM.out]; exact i1)
   obtain ⟨g, hg⟩ : ∃ g, g = z0q L (i : Int) := ⟨_, rfl⟩
   have ZF : Hid (∀ W, Below w3.heap.size w3 W → W.cell? (ad.add (i * 2)) = some (.int .i64 g.f0) ∧ W.cell? ⟨(ad.add (i * 2)).block, (ad.add (i * 2)).off + 1, none⟩ = some (.int .i64 g.f1)) := zh (fun W hW => by
    obtain ⟨ad2, ea2, z0, z1⟩ := z2y (Kd.C_below HX4.out.2.2 hW) (i : Int) i0 (by rw [HLM.out]; exact i1)
    rw [ea] at ea2
    injection ea2 with ea2
    subst ea2
    rw [Int.toNat_natCast, ← hg] at z0 z1
    exact ⟨z0, z1⟩)
   subst ea
   rw [Int.toNat_natCast] at y0 y1
   rw [← hg] at y0 y1 HXG HTK
   clear hg
   have hbx := n7 (j5 HX4.out.1 HL.out.2)
   have x0 : wr.drew.cell? ⟨w.heap.size, 0, none⟩ = some (.int .i64 n) := (y7 hbx 0).trans rfl
   have x1 : wr.drew.cell? ⟨w.heap.size, 1, none⟩ = some (.bool b) := (y7 hbx 1).trans rfl
   have x2 : wr.drew.cell? ⟨w.heap.size, 2, none⟩ = some vl := (y7 hbx 2).trans rfl
   have HX1 := zh (And.intro (Kd.R_drew HL.out.1) (q6 HL.out.2))
   clear hbx
   refine z1u (S := fun w' => w'.cell? ⟨w.heap.size, 0, none⟩ = some (.int .i64 n) ∧ w'.cell? ⟨w.heap.size, 1, none⟩ = some (.bool b) ∧ w'.cell? ⟨w.heap.size, 2, none⟩ = some vl ∧ w'.cell? (ad.add (i * 2)) = some (.int .i64 g.f0) ∧ w'.cell? ⟨(ad.add (i * 2)).block, (ad.add (i * 2)).off + 1, none⟩ = some (.int .i64 g.f1)) (ds := [6]) 8 (by kernel_rfl) rfl ⟨x0, x1, x2, y0, y1⟩ (fun hHeld => ?_)
   generalize wr.drew = wd at HX1 hHeld x0 x1 x2 y0 y1 ⊢
   repeat (first | refine rP 8 ?_ | refine rT 8 hHeld ?_)
   refine z5n 8 (N := some 37) rfl rfl (by kernel_rfl) (by decide) (fun K hK => ?_)
   refine y88 Tryz.func68 (by kernel_rfl) rfl #[.agg #[.int .i64 n, .bool b, vl], .slice A3 i c3, .agg #[.int .i64 g.f0, .int .i64 g.f1]] (by rfl) rfl rfl (by (try simp only [List.map_toArray, List.map_cons, List.map_nil]); rfl) ?_
   have hti : (L.take i).length = i := by rw [List.length_take, HLM.out]; omega
   have hrc := (Kd.R_reads' (show Kd.R z1v 59 wd w3.heap.size (fun _ => True) (.slice A3 (L.take i).length c3) (L.take i) by rw [hti]; exact HX1.out.1)).2.2
   refine (y2q n b vl A3 c3 (L.take i) i hti g _ hrc (by omega) HXG.out.1.1 HXG.out.1.2 HXG.out.2).mono ?_
   rintro e w5 ⟨rfl, hb⟩
   refine ⟨_, rfl, ?_⟩
   have HX5 := zh (And.intro (Kd.R_below HX1.out.1 hb) (v6 HX1.out.2 hb))
   have z0 := (ZF.out _ HX5.out.2).1
   have z1 := (ZF.out _ HX5.out.2).2
   refine hK.out _ _ ?_
   clear hK K hHeld hb HX1 x0 x1 x2 y0 y1 hrc hti
   refine sN ?_
   refine rP 8 ?_
   refine z1e (by kernel_rfl) ?_
   go_wp2_with ((with_reducible refine r5 (N := 47) rfl ?_); go_loud (refine Kd.R_append z1v (w0 := w3) w3.heap.size rfl (.tmp 41) (.tmp 46) 34 59 (.agg #[.int .i64 0, .int .i64 0]) 16 rfl Tryz.underlying34 y8v rfl (by decide) (by decide) (.slice A3 i c3) (L.take i) g [.int .i64 g.f0, .int .i64 g.f1] (fun _ => True) (fun _ => False) rfl ?aX ?aP (fun _ hk => hk.elim) ?aF ?aO ?aB ?aS ?aL ?_); (case aX => first | rfl | (simp; done) | (simp; rfl)); (case aP => exact z8i _ _ _ g); (case aF => exact fun _ _ => trivial); (case aO => exact HX5.out.1); (case aB => exact HX5.out.2); (case aS => exact HX5.out.2.size); (case aL => rw [List.length_take]; omega); go_loud ((intro v1 w9 ho hb hg hat; obtain ⟨A9, c9, e9⟩ := Kd.R_slice ho; rw [x30 (l := L) (i := i) HLM.out d4] at e9; subst e9; have HX9 := zh (And.intro ho hb); clear ho hb hg hat)))
   go_roundg (m - i)
   case measure => omega
   case rel => exact ⟨i + 1, A9, c9, by omega, rfl, by go_num, by omega, zh ⟨by rw [HTK.out]; exact HX9.out.1, HX9.out.2⟩⟩
  ·have d5 : ¬ (i : Int) < (m : Int) := by omega
   go_wp2
   go_ret
   exact ⟨rfl, v6 HX4.out.2.1 HL.out.2⟩
theorem y5s (n h : Nat) (b : Bool) (A : Option Addr) (c : Nat) (l : List Arc) (w : World) (hg : z5y n l) (hr : Kd.C z3l w A l.length l) (hh : h ≤ 1024) (h1 : (h + 1) * n ≤ 4000) (h2 : (h + 1) * l.length ≤ 10000) :
  Calls Tryz.prog 35 #[.agg #[.int .i64 n, .bool b, .slice A l.length c], .int .i64 h] w fun e w' => e = .returned (.bool true) ∧ Below w.heap.size w w' := by
 have hu := Tryz.underlying33
 have HR := zh hr
 have HG := zh hg
 have hll := hg.ll
 have hn1 := hg.n1
 obtain ⟨x, hx⟩ : ∃ x : Nat, x = (h + 1) * n := ⟨_, rfl⟩
 obtain ⟨y, hy⟩ : ∃ y : Nat, y = (h + 1) * l.length := ⟨_, rfl⟩
 rw [← hx] at h1
 rw [← hy] at h2
 have e0 : IntKind.i64.wrap ((h : Int) + 1) = (h : Int) + 1 := IntWalk.i64_in _ (by omega)
 have e1 : IntKind.i64.wrap (((h : Int) + 1) * (n : Int)) = (x : Int) := by
  have h8 : ((h : Int) + 1) * (n : Int) = (x : Int) := by rw [hx, Int.natCast_mul]; rfl
  rw [h8]
  exact IntWalk.i64_in _ (by omega)
 have e2 : IntKind.i64.wrap (((h : Int) + 1) * (l.length : Int)) = (y : Int) := by
  have h8 : ((h : Int) + 1) * (l.length : Int) = (y : Int) := by rw [hy, Int.natCast_mul]; rfl
  rw [h8]
  exact IntWalk.i64_in _ (by omega)
 have d1 : decide ((x : Int) ≤ 4000) = true := decide_eq_true (by omega)
 have d2 : decide ((y : Int) ≤ 10000) = true := decide_eq_true (by omega)
 clear hr hg hx hy h1 h2
 go_enter Tryz.func35, Tryz.ntmps35
 obtain ⟨w1, hw1⟩ : ∃ w1, w1 = w.alloc (.cells #[.int .i64 n, .bool b, .slice A l.length c] 33) := ⟨_, rfl⟩
 have HX : Hid (w1.heap[w.heap.size]? = some (.cells #[.int .i64 n, .bool b, .slice A l.length c] 33 (0, 0)) ∧ Below w.heap.size w w1) := zh (by rw [hw1]; exact ⟨heap_alloc_new _ _, y8 (Below.refl _ _) _⟩)
 go_wp2_with (first
  |(go_at_call 32; rw [← hw1]; go_loud ((with_reducible refine (z8b n b A c l _ ?s1 ?s2).mono ?_); (case s1 => exact HG.out); (case s2 => exact Kd.C_below HR.out HX.out.2); rintro e w2 ⟨rfl, hb⟩; have HX2 := zh (And.intro (j5 HX.out.1 hb) (v6 HX.out.2 hb)); clear hb))
  |(go_at_call 34; go_loud ((with_reducible refine (z9a h _ ?s1).mono ?_); (case s1 => exact hh); rintro e w3 ⟨rfl, hb⟩; have HX3 := zh (And.intro (j5 HX2.out.1 hb) (v6 HX2.out.2 hb)); have x0 : w3.cell? ⟨w.heap.size, 0, none⟩ = some (.int .i64 n) := (y7 HX3.out.1 0).trans rfl; have x2 : w3.cell? ⟨w.heap.size, 2, none⟩ = some (.slice A l.length c) := (y7 HX3.out.1 2).trans rfl; clear hb)))
 go_ret
 exact ⟨rfl, HX3.out.2⟩
theorem z8c (n h : Nat) (b : Bool) (A : Option Addr) (c : Nat) (l : List Arc) (Ap : Option Addr) (cp : Nat) (p : List Grp) (Aq : Option Addr) (cq : Nat) (q : List Grp) (w : World) (a : z3f n h l p q) (hr : Kd.C z3l w A l.length l) (hp : Kd.C z1v w Ap p.length p) (hq : Kd.C z1v w Aq q.length q) :
  Calls Tryz.prog 14 #[.agg #[.int .i64 n, .bool b, .slice A l.length c], .slice Ap p.length cp, .slice Aq q.length cq, .int .i64 h] w (x5k w) := by
 have hu := Tryz.underlying33
 have HA := zh a
 have HR := zh hr
 have HP := zh hp
 have HQ := zh hq
 clear a hr hp hq
 go_enter Tryz.func14, Tryz.ntmps14
 obtain ⟨w1, hw1⟩ : ∃ w1, w1 = w.alloc (.cells #[.int .i64 n, .bool b, .slice A l.length c] 33) := ⟨_, rfl⟩
 have HX : Hid (w1.heap[w.heap.size]? = some (.cells #[.int .i64 n, .bool b, .slice A l.length c] 33 (0, 0)) ∧ Below w.heap.size w w1) := zh (by rw [hw1]; exact ⟨heap_alloc_new _ _, y8 (Below.refl _ _) _⟩)
 go_wp2_with (first
  |(go_at_call 32; rw [← hw1]; go_loud ((with_reducible refine (z8b n b A c l _ ?s1 ?s2).mono ?_); (case s1 => exact HA.out.net); (case s2 => exact Kd.C_below HR.out HX.out.2); rintro e w2 ⟨rfl, hb⟩; have HX2 := zh (And.intro (j5 HX.out.1 hb) (v6 HX.out.2 hb)); have x0 : w2.cell? ⟨w.heap.size, 0, none⟩ = some (.int .i64 n) := (y7 HX2.out.1 0).trans rfl; have x1 : w2.cell? ⟨w.heap.size, 1, none⟩ = some (.bool b) := (y7 HX2.out.1 1).trans rfl; have x2 : w2.cell? ⟨w.heap.size, 2, none⟩ = some (.slice A l.length c) := (y7 HX2.out.1 2).trans rfl; clear hb))
  |(go_at_call 33; go_loud ((with_reducible refine (y01 n b (.slice A l.length c) Ap cp p Aq cq q _ ?s1 ?s2 ?s3 ?s4 ?s5).mono ?_); (case s1 => exact HA.out.grp); (case s2 => exact Kd.C_below HP.out HX2.out.2); (case s3 => exact Kd.C_below HQ.out HX2.out.2); (case s4 => exact HA.out.place.lp); (case s5 => exact HA.out.place.lq); rintro e w3 ⟨rfl, hb⟩; have HX3 := zh (And.intro (j5 HX2.out.1 hb) (v6 HX2.out.2 hb)); clear hb))
  |(go_at_call 34; go_loud ((with_reducible refine (z9a h _ ?s1).mono ?_); (case s1 => exact HA.out.hh); rintro e w4 ⟨rfl, hb⟩; have HX4 := zh (And.intro (j5 HX3.out.1 hb) (v6 HX3.out.2 hb)); have z0 : w4.cell? ⟨w.heap.size, 0, none⟩ = some (.int .i64 n) := (y7 HX4.out.1 0).trans rfl; have z1 : w4.cell? ⟨w.heap.size, 1, none⟩ = some (.bool b) := (y7 HX4.out.1 1).trans rfl; have z2 : w4.cell? ⟨w.heap.size, 2, none⟩ = some (.slice A l.length c) := (y7 HX4.out.1 2).trans rfl; clear hb))
  |(go_at_call 35; go_loud ((with_reducible refine (y5s n h b A c l _ ?s1 ?s2 ?s3 ?s4 ?s5).mono ?_); (case s1 => exact HA.out.net); (case s2 => exact Kd.C_below HR.out HX4.out.2); (case s3 => exact HA.out.hh); (case s4 => exact HA.out.hn); (case s5 => exact HA.out.hl); rintro e w5 ⟨rfl, hb⟩; have HX5 := zh (v6 HX4.out.2 hb); clear hb)))
 go_ret
 exact ⟨rfl, HX5.out⟩
theorem x03 (k k' : IntKind) (x y : Int) : Builtin.max2 (.int k x) (.int k' y) = pure (.int k (max x y)) := by
 rw [z2m]
 have e : (if x < y then y else x) = max x y := by split <;> omega
 rw [e]
attribute [local go_sem] x03 z3t
set_option linter.unusedVariables false
set_option linter.unusedSimpArgs false
def z14 (l : List Arc) (p : List Grp) (m : List Mv) (v z : Int) : Int := max (gOf v p) 0 + z2w l m v z
def y41 (kb : Bool) (h po cr k z : Int) : Prop := k < 0 ∨ (0 ≤ cr ∧ cr < k) ∨ (0 < k ∧ kb = false) ∨ (z = h ∧ 0 < k ∧ cr < 0 ∧ po < 0)
theorem y9k (kb : Bool) (h po cr k z : Int) (hk : 0 ≤ cr → kb = true) :
  (((k < 0 ∧ Hid (y41 kb h po cr k z)) ∨ (¬ k < 0 ∧ 0 ≤ cr ∧ cr < k ∧ Hid (y41 kb h po cr k z)) ∨ (¬ k < 0 ∧ ¬ 0 ≤ cr ∧ 0 < k ∧ kb = false ∧ Hid (y41 kb h po cr k z)) ∨ (¬ k < 0 ∧ ¬ 0 ≤ cr ∧ cr < 0 ∧ 0 < k ∧ kb = true ∧ (z == h) = true ∧ po < 0 ∧ Hid (y41 kb h po cr k z)))) ∨
  (Hid (¬ y41 kb h po cr k z) ∧ ((¬ k < 0 ∧ 0 ≤ cr ∧ ¬ cr < 0 ∧ ¬ cr < k ∧ ¬ 0 < k ∧ (z == h) = false ∧ Hid (¬ z = h)) ∨ (¬ k < 0 ∧ 0 ≤ cr ∧ ¬ cr < 0 ∧ ¬ cr < k ∧ ¬ 0 < k ∧ (z == h) = true ∧ Hid (z = h)) ∨ (¬ k < 0 ∧ 0 ≤ cr ∧ ¬ cr < 0 ∧ ¬ cr < k ∧ 0 < k ∧ kb = true ∧ (z == h) = false ∧ Hid (¬ z = h)) ∨ (¬ k < 0 ∧ 0 ≤ cr ∧ ¬ cr < 0 ∧ ¬ cr < k ∧ 0 < k ∧ kb = true ∧ (z == h) = true ∧ Hid (z = h)) ∨
   (¬ k < 0 ∧ ¬ 0 ≤ cr ∧ cr < 0 ∧ ¬ 0 < k ∧ (z == h) = false ∧ Hid (¬ z = h)) ∨ (¬ k < 0 ∧ ¬ 0 ≤ cr ∧ cr < 0 ∧ ¬ 0 < k ∧ (z == h) = true ∧ Hid (z = h)) ∨ (¬ k < 0 ∧ ¬ 0 ≤ cr ∧ cr < 0 ∧ 0 < k ∧ kb = true ∧ (z == h) = false ∧ Hid (¬ z = h)) ∨ (¬ k < 0 ∧ ¬ 0 ≤ cr ∧ cr < 0 ∧ 0 < k ∧ kb = true ∧ (z == h) = true ∧ ¬ po < 0 ∧ Hid (z = h)))) := by
 have ez : (z == h) = decide (z = h) := by
  by_cases e : z = h
  ·rw [decide_eq_true e]; exact beq_iff_eq.2 e
  ·rw [decide_eq_false e]; exact beq_eq_false_iff_ne.2 e
 rw [ez]
 by_cases a : k < 0
 ·exact .inl (.inl ⟨a, zh (.inl a)⟩)
 ·by_cases b : 0 ≤ cr
  ·have hkb := hk b
   by_cases c : cr < k
   ·exact .inl (.inr (.inl ⟨a, b, c, zh (.inr (.inl ⟨b, c⟩))⟩))
   ·refine .inr ⟨zh (by unfold y41; rw [hkb]; simp only [Bool.true_eq_false, and_false, false_or]; omega), ?_⟩
    by_cases d : 0 < k
    ·by_cases e : z = h
     ·exact .inr (.inr (.inr (.inl ⟨a, b, by omega, c, d, hkb, decide_eq_true e, zh e⟩)))
     ·exact .inr (.inr (.inl ⟨a, b, by omega, c, d, hkb, decide_eq_false e, zh e⟩))
    ·by_cases e : z = h
     ·exact .inr (.inl ⟨a, b, by omega, c, d, decide_eq_true e, zh e⟩)
     ·exact .inl ⟨a, b, by omega, c, d, decide_eq_false e, zh e⟩
  ·by_cases d : 0 < k
   ·cases hkb : kb with
    |false => exact .inl (.inr (.inr (.inl ⟨a, b, d, rfl, zh (.inr (.inr (.inl ⟨d, rfl⟩)))⟩)))
    |true =>
     by_cases e : z = h
     ·by_cases f : po < 0
      ·exact .inl (.inr (.inr (.inr ⟨a, b, by omega, d, rfl, decide_eq_true e, f, zh (.inr (.inr (.inr ⟨e, d, by omega, f⟩)))⟩)))
      ·exact .inr ⟨zh (by unfold y41; simp only [Bool.true_eq_false, and_false, false_or]; omega), .inr (.inr (.inr (.inr (.inr (.inr (.inr ⟨a, b, by omega, d, rfl, decide_eq_true e, f, zh e⟩))))))⟩
     ·exact .inr ⟨zh (by unfold y41; simp only [Bool.true_eq_false, and_false, false_or]; omega), .inr (.inr (.inr (.inr (.inr (.inr (.inl ⟨a, b, by omega, d, rfl, decide_eq_false e, zh e⟩))))))⟩
   ·refine .inr ⟨zh (by unfold y41; omega), ?_⟩
    by_cases e : z = h
    ·exact .inr (.inr (.inr (.inr (.inr (.inl ⟨a, b, by omega, d, decide_eq_true e, zh e⟩)))))
    ·exact .inr (.inr (.inr (.inr (.inl ⟨a, b, by omega, d, decide_eq_false e, zh e⟩))))
def z6n (h : Nat) (b : Bool) (l : List Arc) (p q : List Grp) (m : List Mv) (v z : Nat) : Prop := y41 (d9 b p q v) h (gOf v p) (gOf v q) (z14 l p m v z) z
def x6q (n h : Nat) (b : Bool) (l : List Arc) (p q : List Grp) (L m : List Mv) : Prop := z82 L m ∧ (∀ x, x ∈ m → mok l h q x = true) ∧ ∀ v z : Nat, v < n → z ≤ h → ¬ z6n h b l p q m v z
def x6h (h : Nat) (l : List Arc) (p q : List Grp) (m : List Mv) (v : Nat) : Int := if 0 ≤ gOf v q then z14 l p m v h else 0
def x37 (n h : Nat) (l : List Arc) (p q : List Grp) (m : List Mv) : Int := z0s n (x6h h l p q m)
def x2v (n h : Nat) (b : Bool) (l : List Arc) (p q : List Grp) (L : List Mv) (w : World) (e : Ending) (w' : World) : Prop := Below w.heap.size w w' ∧
 ((∃ k : Int, (k == 0) = false ∧ (k != 0) = true ∧ e = .returned (.tuple #[.int .i64 0, .int .i64 k]) ∧ (x6r l h q L k ∨ (k = 141 ∧ ∃ m, z82 L m ∧ (∀ x, x ∈ m → mok l h q x = true) ∧ ∃ v z : Nat, v < n ∧ z ≤ h ∧ z6n h b l p q m v z))) ∨
  ∃ m, x6q n h b l p q L m ∧ e = .returned (.tuple #[.int .i64 (x37 n h l p q m), .int .i64 0]))
theorem y1m {v M : Int} (hM : -1 ≤ M) : ∀ {l : List Grp}, (∀ g, g ∈ l → g.f1 ≤ M) → gOf v l ≤ M
 |[], _ => hM
 |g :: l, h => by
  unfold gOf
  split
  ·exact h g (List.mem_cons_self ..)
  ·exact y1m hM (fun x hx => h x (List.mem_cons_of_mem _ hx))
theorem x3b {l : List Arc} {h : Nat} {q : List Grp} {x : Mv} (hh : h ≤ 1024) (hc : ∀ i : Nat, i < l.length → 0 ≤ (z0i l i).f2 ∧ (z0i l i).f2 ≤ 1048576) (k : mok l h q x = true) : y96 l x := by
 unfold mok at k
 have e := of_decide_eq_true (Bool.and_eq_true_iff.1 k).1
 have h2 : x.f2 ≤ 1048576 := by
  have h3 := (hc x.f0.toNat (by omega)).2
  have h4 : z0i l x.f0.toNat = z1i l x := by
   unfold z0i z1i
   rw [Int.toNat_of_nonneg e.1]
  rw [h4] at h3
  have := e.2.2.2.2.2.2.1
  omega
 exact ⟨e.1, e.2.1, e.2.2.1, by omega, e.2.2.2.2.2.1, by omega⟩
theorem x0h (n h : Nat) (b : Bool) (A : Option Addr) (c : Nat) (l : List Arc) (Ap : Option Addr) (cp : Nat) (p : List Grp) (Aq : Option Addr) (cq : Nat) (q : List Grp) (AL : Option Addr) (cL : Nat) (L : List Mv) (w : World) (a : z3f n h l p q) (hAS : ∀ W, Below w.heap.size w W → Calls Tryz.prog 14 #[.agg #[.int .i64 n, .bool b, .slice A l.length c], .slice Ap p.length cp, .slice Aq q.length cq, .int .i64 h] W fun e w' => e = .returned (.int .i64 0) ∧ Below W.heap.size W w') (hr : Kd.C z3l w A l.length l) (hp : Kd.C z1v w Ap p.length p) (hq : Kd.C z1v w Aq q.length q) (hL : Kd.C kMv w AL L.length L)
  (hi : ∀ x, x ∈ L → -9223372036854775808 ≤ x.f2 ∧ x.f2 ≤ 9223372036854775807) (hl : L.length ≤ 100000) :
  Calls Tryz.prog 11 #[.agg #[.int .i64 n, .bool b, .slice A l.length c], .slice Ap p.length cp, .slice Aq q.length cq, .int .i64 h, .slice AL L.length cL] w (x2v n h b l p q L w) := by
 have hu := Tryz.underlying33
 have HAS := zh hAS
 have HR := zh hr
 have HP := zh hp
 have HQ := zh hq
 have HLL := zh hL
 have HI := zh hi
 have HPL := zh a.place
 have hhb := a.hh
 have hn1 := a.place.net.n1
 have hlp := a.place.lp
 have hlq := a.place.lq
 have HTI : Hid (∀ i : Int, 0 ≤ i → i < l.length → 0 ≤ (j7 l i).f3 ∧ (j7 l i).f3 ≤ 1048576) := zh (fun i h0 h1 => by
  have h2 := a.place.net.time i.toNat (by omega)
  unfold z0i at h2
  rw [Int.toNat_of_nonneg h0] at h2
  exact h2)
 have HG0 : Hid ((∀ g, g ∈ p → 0 ≤ g.f1) ∧ (∀ g, g ∈ q → 0 ≤ g.f1)) := zh ⟨fun g hg => (a.place.gp g hg).2.1, fun g hg => (a.place.gq g hg).2.1⟩
 clear a hAS hr hp hq hL hi
 go_enter Tryz.func11, Tryz.ntmps11
 obtain ⟨w1, hw1⟩ : ∃ w1, w1 = w.alloc (.cells #[.int .i64 n, .bool b, .slice A l.length c] 33) := ⟨_, rfl⟩
 have HX : Hid (w1.heap[w.heap.size]? = some (.cells #[.int .i64 n, .bool b, .slice A l.length c] 33 (0, 0)) ∧ Below w.heap.size w w1) := zh (by rw [hw1]; exact ⟨heap_alloc_new _ _, y8 (Below.refl _ _) _⟩)
 go_wp2_with (first
  |(go_at_call 14; rw [← hw1]; go_loud ((with_reducible refine (HAS.out _ ?s1).mono ?_); (case s1 => exact HX.out.2); rintro e w2 ⟨rfl, hb⟩; have HX2 := zh (And.intro (j5 HX.out.1 hb) (v6 HX.out.2 hb)); have x0 : w2.cell? ⟨w.heap.size, 0, none⟩ = some (.int .i64 n) := (y7 HX2.out.1 0).trans rfl; have x1 : w2.cell? ⟨w.heap.size, 1, none⟩ = some (.bool b) := (y7 HX2.out.1 1).trans rfl; have x2 : w2.cell? ⟨w.heap.size, 2, none⟩ = some (.slice A l.length c) := (y7 HX2.out.1 2).trans rfl; clear hb))
  |(go_at_call 28; go_loud ((with_reducible refine (y7m _ b A c l Aq cq q _ AL cL L _ ?s1 ?s2 ?s3 ?s4 ?s5 ?s6 ?s7 ?s8 ?s9).mono ?_); (case s1 => exact Kd.C_below HR.out HX2.out.2); (case s2 => exact Kd.C_below HQ.out HX2.out.2); (case s3 => exact Kd.C_below HLL.out HX2.out.2); (case s4 => omega); (case s5 => exact HTI.out); (case s6 => omega); (case s7 => omega); (case s8 => exact HI.out); (case s9 => exact hl); rintro e w3 ⟨hb, (⟨k9, k0, k1, rfl, hbad⟩ | ⟨m, A1, c1, rfl, hm, hmg, hok, hml⟩)⟩; all_goals (have HX3 := zh (And.intro (j5 HX2.out.1 hb) (v6 HX2.out.2 hb)); clear HX HX2 x0 x1 x2))))
 ·have HBAD := zh hbad
  clear hbad hb
  go_wp2
  go_ret2
  exact ⟨HX3.out.2, .inl ⟨k9, by simpa using k0, by simpa using k1, rfl, .inl HBAD.out⟩⟩
 have HM := zh (And.intro hmg hok)
 have HMC := zh (Kd.R_reads' hm).2.2
 have HMI : Hid (∀ x, x ∈ m → y96 l x) := zh (fun x hx => x3b hhb HPL.out.caps (hok x hx))
 have hmb := Nat.le_trans hml hl
 clear hm hmg hok hb
 go_wp2
 go_loopg [15, 16] (n + 1) (fun k sv vv W => ∃ (v : Nat) (S : Int), v ≤ n ∧ sv = .int .i64 S ∧ vv = .int .i64 v ∧ k = n + 1 - v ∧ 0 ≤ S ∧ S ≤ (v : Int) * 1048576 ∧ Hid (S = z0s v (x6h h l p q m) ∧ W.heap[w.heap.size]? = some (.cells #[.int .i64 n, .bool b, .slice A l.length c] 33 (0, 0)) ∧ Below w3.heap.size w3 W ∧ ∀ v' z : Nat, v' < v → z ≤ h → ¬ z6n h b l p q m v' z))
 case atStart => exact ⟨0, 0, Nat.zero_le _, rfl, rfl, rfl, Int.le_refl _, by omega, zh ⟨rfl, HX3.out.1, Below.refl _ _, fun v' z hv => absurd hv (Nat.not_lt_zero _)⟩⟩
 case round =>
  obtain ⟨v, S, hv, rfl, rfl, rfl, s0, s1, HL⟩ := hrel
  have HB := zh (And.intro HL.out.2.1 (And.intro HL.out.2.2.1 (v6 HX3.out.2 HL.out.2.2.1)))
  have x0 : wr.cell? ⟨w.heap.size, 0, none⟩ = some (.int .i64 n) := (y7 HB.out.1 0).trans rfl; have x1 : wr.cell? ⟨w.heap.size, 1, none⟩ = some (.bool b) := (y7 HB.out.1 1).trans rfl; have x2 : wr.cell? ⟨w.heap.size, 2, none⟩ = some (.slice A l.length c) := (y7 HB.out.1 2).trans rfl
  by_cases hlt : v < n
  ·have hlt2 : (v : Int) < (n : Int) := by omega
   obtain ⟨po, hpo⟩ : ∃ po, po = gOf v p := ⟨_, rfl⟩
   obtain ⟨cr, hcr⟩ : ∃ cr, cr = gOf v q := ⟨_, rfl⟩
   obtain ⟨kb, hkb⟩ : ∃ kb, kb = d9 b p q v := ⟨_, rfl⟩
   obtain ⟨B, hB⟩ : ∃ B, max po 0 = B := ⟨_, rfl⟩
   have po1 : po ≤ 1048576 := by rw [hpo]; exact y1m (by decide) (fun g hg => (HPL.out.gp g hg).2.2)
   have cr1 : cr ≤ 1048576 := by rw [hcr]; exact y1m (by decide) (fun g hg => (HPL.out.gq g hg).2.2)
   have b0 : 0 ≤ B := by omega
   have b1 : B ≤ 1048576 := by omega
   have HKC : Hid (0 ≤ cr → kb = true) := zh (fun h9 => by
    have h8 := z2t (v : Int) HG0.out.2
    rw [hkb]
    unfold d9
    cases h7 : z1a (z0a q) (v : Int) with
    |true => simp
    |false =>
     rw [h7] at h8
     have := h8.2 rfl
     omega)
   have HPO := zh hpo
   have HCR := zh hcr
   have HKB := zh hkb
   have HBE := zh hB
   clear hpo hcr hkb
   go_wp2_with (first
    |(go_at_call 24; (with_reducible refine (z0y p.length Ap cp p _ _ ?s1 ?s2 ?s3).mono ?_); (case s1 => rfl); (case s2 => exact Kd.C_below HP.out HB.out.2.2); (case s3 => omega); rintro e w7 ⟨rfl, hb⟩; rw [← HPO.out]; have HN9 := zh (And.intro (j5 HB.out.1 hb) (And.intro (v6 HB.out.2.1 hb) (v6 HB.out.2.2 hb))); clear HB x0 x1 x2 hb; have HB := HN9; clear HN9; have x0 : w7.cell? ⟨w.heap.size, 0, none⟩ = some (.int .i64 n) := (y7 HB.out.1 0).trans rfl; have x1 : w7.cell? ⟨w.heap.size, 1, none⟩ = some (.bool b) := (y7 HB.out.1 1).trans rfl; have x2 : w7.cell? ⟨w.heap.size, 2, none⟩ = some (.slice A l.length c) := (y7 HB.out.1 2).trans rfl)
    |(go_at_call 24; (with_reducible refine (z0y q.length Aq cq q _ _ ?s1 ?s2 ?s3).mono ?_); (case s1 => rfl); (case s2 => exact Kd.C_below HQ.out HB.out.2.2); (case s3 => omega); rintro e w8 ⟨rfl, hb⟩; rw [← HCR.out]; have HN9 := zh (And.intro (j5 HB.out.1 hb) (And.intro (v6 HB.out.2.1 hb) (v6 HB.out.2.2 hb))); clear HB x0 x1 x2 hb; have HB := HN9; clear HN9; have x0 : w8.cell? ⟨w.heap.size, 0, none⟩ = some (.int .i64 n) := (y7 HB.out.1 0).trans rfl; have x1 : w8.cell? ⟨w.heap.size, 1, none⟩ = some (.bool b) := (y7 HB.out.1 1).trans rfl; have x2 : w8.cell? ⟨w.heap.size, 2, none⟩ = some (.slice A l.length c) := (y7 HB.out.1 2).trans rfl))
   clear hB
   have HL9 := zh (And.intro HL.out.1 HL.out.2.2.2)
   clear HL
   go_loopg [15, 19] (h + 2) (fun k sv zv W => ∃ (z : Nat) (s : Int), z ≤ h + 1 ∧ sv = .int .i64 s ∧ zv = .int .i64 z ∧ k = h + 2 - z ∧ 0 ≤ s ∧ s ≤ (v : Int) * 1048576 + 1048576 ∧ (z ≤ h → s ≤ (v : Int) * 1048576) ∧ Hid ((z ≤ h → s = S) ∧ (z = h + 1 → s = S + x6h h l p q m v) ∧ W.heap[w.heap.size]? = some (.cells #[.int .i64 n, .bool b, .slice A l.length c] 33 (0, 0)) ∧ Below w3.heap.size w3 W ∧ ∀ z' : Nat, z' < z → ¬ z6n h b l p q m v z'))
   case atStart => exact ⟨0, S, by omega, rfl, rfl, rfl, s0, by omega, fun _ => s1, zh ⟨fun _ => rfl, fun h9 => by omega, HB.out.1, HB.out.2.1, fun z' hz => absurd hz (Nat.not_lt_zero _)⟩⟩
   case round =>
    obtain ⟨z, s, hz, rfl, rfl, rfl, t0, t1, t2, HZ⟩ := hrel
    clear HB x0 x1 x2
    have HB := zh (And.intro HZ.out.2.2.1 (And.intro HZ.out.2.2.2.1 (v6 HX3.out.2 HZ.out.2.2.2.1)))
    have x0 : wr.cell? ⟨w.heap.size, 0, none⟩ = some (.int .i64 n) := (y7 HB.out.1 0).trans rfl; have x1 : wr.cell? ⟨w.heap.size, 1, none⟩ = some (.bool b) := (y7 HB.out.1 1).trans rfl; have x2 : wr.cell? ⟨w.heap.size, 2, none⟩ = some (.slice A l.length c) := (y7 HB.out.1 2).trans rfl
    by_cases hzl : z ≤ h
    ·have hzl2 : (z : Int) ≤ (h : Int) := by omega
     have t3 := t2 hzl
     have t4 : s ≤ 1048576000 := by omega
     obtain ⟨KS, hKS⟩ : ∃ KS, KS = z2w l m v z := ⟨_, rfl⟩
     have hkbd := z7g (v := v) (z := z) HMI.out
     rw [← hKS] at hkbd
     obtain ⟨K, hK⟩ : ∃ K, K = B + KS := ⟨_, rfl⟩
     have e5 : IntKind.i64.wrap (B + KS) = K := by rw [IntWalk.i64_in _ (by omega), hK]
     have e6 : IntKind.i64.wrap (s + K) = s + K := IntWalk.i64_in _ (by omega)
     have HK : Hid (z14 l p m v z = K) := zh (by unfold z14; rw [← HPO.out, HBE.out, ← hKS, hK])
     have HAM : Hid ((z : Int) = h → x6h h l p q m v = if 0 ≤ cr then K else 0) := zh (fun h9 => by
      unfold x6h
      rw [← HCR.out, ← h9, HK.out])
     have HKS := zh hKS
     clear hKS hK hkbd t2
     rcases y9k kb h po cr K z HKC.out with hbad | ⟨HNB, hgood⟩
     ·have HBD : Hid (y41 kb h po cr K z) := by
       rcases hbad with ⟨_, h9⟩ | ⟨_, _, _, h9⟩ | ⟨_, _, _, _, h9⟩ | ⟨_, _, _, _, _, _, _, h9⟩ <;> exact h9
      rcases hbad with ⟨g1, -⟩ | ⟨g1, g2, g3, -⟩ | ⟨g1, g2, g3, g4, -⟩ | ⟨g1, g2, g3, g4, g5, g6, g7, -⟩
      all_goals
       as_aux_lemma =>
        go_wp2_with (first
         |(go_at_call 29; go_loud ((with_reducible refine (z74 n b A c l A1 c1 m v z KS HKS.out _ ?s1 ?s2 ?s3 ?s4 ?s5).mono ?_); (case s1 => exact Kd.C_below HR.out HB.out.2.2); (case s2 => exact Kd.C_below HMC.out HB.out.2.1); (case s3 => exact HMI.out); (case s4 => exact HTI.out); (case s5 => omega); rintro e w5 ⟨rfl, hb⟩; have HN9 := zh (And.intro (j5 HB.out.1 hb) (And.intro (v6 HB.out.2.1 hb) (v6 HB.out.2.2 hb))); clear HB x0 x1 x2 hb; have HB := HN9; clear HN9; have x0 : w5.cell? ⟨w.heap.size, 0, none⟩ = some (.int .i64 n) := (y7 HB.out.1 0).trans rfl; have x1 : w5.cell? ⟨w.heap.size, 1, none⟩ = some (.bool b) := (y7 HB.out.1 1).trans rfl; have x2 : w5.cell? ⟨w.heap.size, 2, none⟩ = some (.slice A l.length c) := (y7 HB.out.1 2).trans rfl))
         |(go_at_call 30; go_loud ((with_reducible refine (z1l n b (.slice A l.length c) Ap cp p Aq cq q v _ ?s1 ?s2 ?s3 ?s4 ?s5 ?s6).mono ?_); (case s1 => exact Kd.C_below HP.out HB.out.2.2); (case s2 => exact Kd.C_below HQ.out HB.out.2.2); (case s3 => omega); (case s4 => omega); (case s5 => exact HG0.out.1); (case s6 => exact HG0.out.2); rintro e w6 ⟨rfl, hb⟩; rw [show (b || (z1a (z0a p) (v : Int) || z1a (z0a q) (v : Int))) = kb from HKB.out.symm]; have HN9 := zh (And.intro (j5 HB.out.1 hb) (And.intro (v6 HB.out.2.1 hb) (v6 HB.out.2.2 hb))); clear HB x0 x1 x2 hb; have HB := HN9; clear HN9; have x0 : w6.cell? ⟨w.heap.size, 0, none⟩ = some (.int .i64 n) := (y7 HB.out.1 0).trans rfl; have x1 : w6.cell? ⟨w.heap.size, 1, none⟩ = some (.bool b) := (y7 HB.out.1 1).trans rfl; have x2 : w6.cell? ⟨w.heap.size, 2, none⟩ = some (.slice A l.length c) := (y7 HB.out.1 2).trans rfl))
         |(go_at_call 24; (with_reducible refine (z0y p.length Ap cp p _ _ ?s1 ?s2 ?s3).mono ?_); (case s1 => rfl); (case s2 => exact Kd.C_below HP.out HB.out.2.2); (case s3 => omega); rintro e w7 ⟨rfl, hb⟩; rw [← HPO.out]; have HN9 := zh (And.intro (j5 HB.out.1 hb) (And.intro (v6 HB.out.2.1 hb) (v6 HB.out.2.2 hb))); clear HB x0 x1 x2 hb; have HB := HN9; clear HN9; have x0 : w7.cell? ⟨w.heap.size, 0, none⟩ = some (.int .i64 n) := (y7 HB.out.1 0).trans rfl; have x1 : w7.cell? ⟨w.heap.size, 1, none⟩ = some (.bool b) := (y7 HB.out.1 1).trans rfl; have x2 : w7.cell? ⟨w.heap.size, 2, none⟩ = some (.slice A l.length c) := (y7 HB.out.1 2).trans rfl))
        go_ret2
        exact ⟨HB.out.2.2, .inl ⟨141, rfl, rfl, rfl, .inr ⟨rfl, m, HM.out.1, HM.out.2, v, z, hlt, hzl, by unfold z6n; rw [← HKB.out, ← HPO.out, ← HCR.out, HK.out]; exact HBD.out⟩⟩⟩
     ·rcases hgood with ⟨g1, g2, g3, g4, g5, g6, HZH⟩ | ⟨g1, g2, g3, g4, g5, g6, HZH⟩ | ⟨g1, g2, g3, g4, g5, g6, g7, HZH⟩ | ⟨g1, g2, g3, g4, g5, g6, g7, HZH⟩ | ⟨g1, g2, g3, g4, g5, HZH⟩ | ⟨g1, g2, g3, g4, g5, HZH⟩ | ⟨g1, g2, g3, g4, g5, g6, HZH⟩ | ⟨g1, g2, g3, g4, g5, g6, g7, HZH⟩
      all_goals
       as_aux_lemma =>
        go_wp2_with (first
         |(go_at_call 29; go_loud ((with_reducible refine (z74 n b A c l A1 c1 m v z KS HKS.out _ ?s1 ?s2 ?s3 ?s4 ?s5).mono ?_); (case s1 => exact Kd.C_below HR.out HB.out.2.2); (case s2 => exact Kd.C_below HMC.out HB.out.2.1); (case s3 => exact HMI.out); (case s4 => exact HTI.out); (case s5 => omega); rintro e w5 ⟨rfl, hb⟩; have HN9 := zh (And.intro (j5 HB.out.1 hb) (And.intro (v6 HB.out.2.1 hb) (v6 HB.out.2.2 hb))); clear HB x0 x1 x2 hb; have HB := HN9; clear HN9; have x0 : w5.cell? ⟨w.heap.size, 0, none⟩ = some (.int .i64 n) := (y7 HB.out.1 0).trans rfl; have x1 : w5.cell? ⟨w.heap.size, 1, none⟩ = some (.bool b) := (y7 HB.out.1 1).trans rfl; have x2 : w5.cell? ⟨w.heap.size, 2, none⟩ = some (.slice A l.length c) := (y7 HB.out.1 2).trans rfl))
         |(go_at_call 30; go_loud ((with_reducible refine (z1l n b (.slice A l.length c) Ap cp p Aq cq q v _ ?s1 ?s2 ?s3 ?s4 ?s5 ?s6).mono ?_); (case s1 => exact Kd.C_below HP.out HB.out.2.2); (case s2 => exact Kd.C_below HQ.out HB.out.2.2); (case s3 => omega); (case s4 => omega); (case s5 => exact HG0.out.1); (case s6 => exact HG0.out.2); rintro e w6 ⟨rfl, hb⟩; rw [show (b || (z1a (z0a p) (v : Int) || z1a (z0a q) (v : Int))) = kb from HKB.out.symm]; have HN9 := zh (And.intro (j5 HB.out.1 hb) (And.intro (v6 HB.out.2.1 hb) (v6 HB.out.2.2 hb))); clear HB x0 x1 x2 hb; have HB := HN9; clear HN9; have x0 : w6.cell? ⟨w.heap.size, 0, none⟩ = some (.int .i64 n) := (y7 HB.out.1 0).trans rfl; have x1 : w6.cell? ⟨w.heap.size, 1, none⟩ = some (.bool b) := (y7 HB.out.1 1).trans rfl; have x2 : w6.cell? ⟨w.heap.size, 2, none⟩ = some (.slice A l.length c) := (y7 HB.out.1 2).trans rfl))
         |(go_at_call 24; (with_reducible refine (z0y p.length Ap cp p _ _ ?s1 ?s2 ?s3).mono ?_); (case s1 => rfl); (case s2 => exact Kd.C_below HP.out HB.out.2.2); (case s3 => omega); rintro e w7 ⟨rfl, hb⟩; rw [← HPO.out]; have HN9 := zh (And.intro (j5 HB.out.1 hb) (And.intro (v6 HB.out.2.1 hb) (v6 HB.out.2.2 hb))); clear HB x0 x1 x2 hb; have HB := HN9; clear HN9; have x0 : w7.cell? ⟨w.heap.size, 0, none⟩ = some (.int .i64 n) := (y7 HB.out.1 0).trans rfl; have x1 : w7.cell? ⟨w.heap.size, 1, none⟩ = some (.bool b) := (y7 HB.out.1 1).trans rfl; have x2 : w7.cell? ⟨w.heap.size, 2, none⟩ = some (.slice A l.length c) := (y7 HB.out.1 2).trans rfl))
        go_roundg (h + 1 - z)
        case measure => omega
        case rel =>
         have hzz := HZH.out
         refine ⟨z + 1, _, by omega, rfl, by go_num, by omega, by omega, by omega, fun _ => by omega, zh ⟨fun h9 => by have h8 := HZ.out.1 hzl; omega, fun h9 => ?_, HB.out.1, HB.out.2.1, fun z' hz' => ?_⟩⟩
         ·have h8 := HZ.out.1 hzl
          have h7 := HAM.out (by omega)
          first
           |(rw [if_pos (by omega)] at h7; omega)
           |(rw [if_neg (by omega)] at h7; omega)
         ·rcases Nat.lt_or_eq_of_le (Nat.le_of_lt_succ hz') with h9 | rfl
          ·exact HZ.out.2.2.2.2 z' h9
          ·unfold z6n
           rw [← HKB.out, ← HPO.out, ← HCR.out, HK.out]
           exact HNB.out
    ·have hzl2 : ¬ (z : Int) ≤ (h : Int) := by omega
     have ez : z = h + 1 := by omega
     go_wp2
     go_roundg (n - v)
     case measure => omega
     case rel =>
      refine ⟨v + 1, s, by omega, rfl, by go_num, by omega, t0, by omega, zh ⟨?_, HB.out.1, HB.out.2.1, fun v' z' hv' hz' => ?_⟩⟩
      ·rw [z0s, ← HL9.out.1]
       exact HZ.out.2.1 ez
      ·rcases Nat.lt_or_eq_of_le (Nat.le_of_lt_succ hv') with h9 | rfl
       ·exact HL9.out.2 v' z' h9 hz'
       ·exact HZ.out.2.2.2.2 z' (by omega)
  ·have e : v = n := by omega
   subst e
   go_wp2
   go_ret2
   refine ⟨HB.out.2.2, .inr ⟨m, ⟨HM.out.1, HM.out.2, fun v' z' hv' hz' => HL.out.2.2.2 v' z' hv' hz'⟩, ?_⟩⟩
   unfold x37
   rw [← HL.out.1]
   rfl
theorem y5n (n h : Nat) (b : Bool) (A : Option Addr) (c : Nat) (l : List Arc) (Ap : Option Addr) (cp : Nat) (p : List Grp) (Aq : Option Addr) (cq : Nat) (q : List Grp) (AL : Option Addr) (cL : Nat) (L : List Mv) (w : World) (a : z3f n h l p q) (hr : Kd.C z3l w A l.length l) (hp : Kd.C z1v w Ap p.length p) (hq : Kd.C z1v w Aq q.length q) (hL : Kd.C kMv w AL L.length L)
  (hi : ∀ x, x ∈ L → -9223372036854775808 ≤ x.f2 ∧ x.f2 ≤ 9223372036854775807) (hl : L.length ≤ 100000) :
  Calls Tryz.prog 11 #[.agg #[.int .i64 n, .bool b, .slice A l.length c], .slice Ap p.length cp, .slice Aq q.length cq, .int .i64 h, .slice AL L.length cL] w (x2v n h b l p q L w) :=
 x0h n h b A c l Ap cp p Aq cq q AL cL L w a (fun W hW => z8c n h b A c l Ap cp p Aq cq q W a (Kd.C_below hr hW) (Kd.C_below hp hW) (Kd.C_below hq hW)) hr hp hq hL hi hl
end Go.Proofs.YtcgdloldkcmhnaaGreat.H
end
section
namespace Go.Proofs.YtcgdloldkcmhnaaGreat.H
open Go Go.RowKit Go.Proofs.YtcgdloldkcmhnaaGreat.PrintC Go.Proofs.YtcgdloldkcmhnaaGreat.PrintE Go.Proofs.YtcgdloldkcmhnaaGreatW.PrintWords Go.Proofs.YtcgdloldkcmhnaaGreatW.PrintLast Go.Proofs.YtcgdloldkcmhnaaGreatW.PrintMore Go.Proofs.YtcgdloldkcmhnaaGreat.Flow
set_option linter.unusedVariables false
set_option linter.unusedSimpArgs false
theorem x34 {q : List Grp} (hd : (q.map fun g => g.f0).Nodup) (h0 : ∀ g, g ∈ q → 0 ≤ g.f1) (v : Int) : (z0a q).atKey (.int .i64 v) (.lit (.int .i64 0)) = .lit (.int .i64 (if 0 ≤ gOf v q then gOf v q else 0)) := by
 have key : ∀ (q : List Grp) (D : DataW Unit), Maps.IsMap D → (q.map fun g => g.f0).Nodup → (∀ g, g ∈ q → 0 ≤ g.f1) → (q.foldl y2z D).atKey (.int .i64 v) (.lit (.int .i64 0)) = if 0 ≤ gOf v q then .lit (.int .i64 (gOf v q)) else D.atKey (.int .i64 v) (.lit (.int .i64 0)) := fun q => by
  induction q with
  |nil =>
   intro D _ _ _
   rw [if_neg (by unfold gOf; decide)]
   rfl
  |cons g q ih =>
   intro D hD hd h0
   rw [List.map_cons, List.nodup_cons] at hd
   rw [List.foldl_cons, ih _ (z27 hD g) hd.2 (fun x hx => h0 x (List.mem_cons_of_mem _ hx))]
   by_cases e : g.f0 = v
   ·have hn : gOf v q < 0 := by
     refine (z2t v (fun x hx => h0 x (List.mem_cons_of_mem _ hx))).2 ?_
     rw [z1j, List.any_eq_false]
     intro x hx e2
     exact hd.1 (by rw [e]; exact List.mem_map.2 ⟨x, hx, of_decide_eq_true e2⟩)
    have h9 := h0 g (List.mem_cons_self ..)
    rw [if_neg (by omega)]
    unfold gOf
    rw [if_pos e, if_pos h9]
    unfold y2z
    rw [e]
    exact Maps.atKey_put_same hD (by trivial) _ _
   ·unfold y2z
    rw [Maps.atKey_put_other (fun e2 => e (by injection e2 with _ e2; exact e2.symm))]
    show _ = if 0 ≤ (if g.f0 = v then g.f1 else gOf v q) then _ else _
    rw [if_neg e]
    show _ = if 0 ≤ gOf v q then DataW.lit (Lit.int IntKind.i64 (if g.f0 = v then g.f1 else gOf v q)) else _
    rw [if_neg e]
 unfold z0a
 rw [key q _ Maps.isMap_empty hd h0]
 by_cases c : 0 ≤ gOf v q
 ·rw [if_pos c, if_pos c]
 ·rw [if_neg c, if_neg c]
  rfl
theorem y8f {W : World} {b k : Nat} {q : List Grp} (h : z2k W 3 b k (z0a q)) {v : Int} (hv : Wf v) (hd : (q.map fun g => g.f0).Nodup) (h0 : ∀ g, g ∈ q → 0 ≤ g.f1) :
  (Instr.lookup 113 (.map (some b)) (.int .i64 v) true).run Tryz.prog W = .ok (.tuple #[.int .i64 (if 0 ≤ gOf v q then gOf v q else 0), .bool (z1a (z0a q) v)]) W := by
 obtain ⟨u, ps, hrun, hR⟩ := h.look_ok z9k Tryz.underlying113 (z6i W) (plainElem_int Tryz.underlying3 (by decide)) (Maps.keyOf_int_mk Tryz.underlying3 hv)
 obtain ⟨c, rfl, hc, _⟩ := plainElem_int_inv Tryz.underlying3 hR
 simp only [Prod.mk.injEq] at hc
 have h1 := hc.1
 rw [x34 hd h0] at h1
 rw [(Lit.int.inj (DataW.lit.inj h1)).2]
 exact hrun
def z78 (r : Bool) (c : Int) (kb own en : Bool) (k : Int) : Bool := if r = true ∧ c < k then false else decide (k = 0) || (decide (0 < k) && (kb && (own || !en)))
theorem y2p (r : Bool) (c : Int) (kb own en : Bool) (k : Int) (R : Bool) (hR : R = z78 r c kb own en k) :
  (r = true ∧ c < k ∧ R = false) ∨ ((r = false ∨ (r = true ∧ ¬ c < k)) ∧ (((k == 0) = true ∧ R = true) ∨ ((k == 0) = false ∧ ¬ 0 < k ∧ R = false) ∨ ((k == 0) = false ∧ 0 < k ∧ kb = false ∧ R = false) ∨ ((k == 0) = false ∧ 0 < k ∧ kb = true ∧ own = true ∧ R = true) ∨ ((k == 0) = false ∧ 0 < k ∧ kb = true ∧ own = false ∧ R = !en))) := by
 unfold z78 at hR
 by_cases c1 : r = true ∧ c < k
 ·rw [if_pos c1] at hR
  exact .inl ⟨c1.1, c1.2, hR⟩
 ·rw [if_neg c1] at hR
  refine .inr ⟨?_, ?_⟩
  ·cases r with
   |false => exact .inl rfl
   |true => exact .inr ⟨rfl, fun e => c1 ⟨rfl, e⟩⟩
  ·by_cases c2 : k = 0
   ·rw [decide_eq_true c2, Bool.true_or] at hR
    exact .inl ⟨beq_iff_eq.2 c2, hR⟩
   ·rw [decide_eq_false c2, Bool.false_or] at hR
    have e2 : (k == 0) = false := beq_eq_false_iff_ne.2 c2
    by_cases c3 : 0 < k
    ·rw [decide_eq_true c3, Bool.true_and] at hR
     cases kb with
     |false => exact .inr (.inr (.inl ⟨e2, c3, rfl, hR⟩))
     |true =>
      cases own with
      |true => exact .inr (.inr (.inr (.inl ⟨e2, c3, rfl, rfl, hR⟩)))
      |false => exact .inr (.inr (.inr (.inr ⟨e2, c3, rfl, rfl, hR⟩)))
    ·rw [decide_eq_false c3, Bool.false_and] at hR
     exact .inr (.inl ⟨e2, c3, hR⟩)
theorem y5r (gp : Nat) (n : Int) (b : Bool) (A : Option Addr) (ll c : Nat) (Ap : Option Addr) (lp cp : Nat) (Aq : Option Addr) (lq cq : Nat) (bh br kh kr : Nat) (p q : List Grp) (v k : Int) (en R : Bool) (w : World) (h : PlI gp (z0f n b A ll c Ap lp cp Aq lq cq bh br) bh br kh kr (z0a p) (z0a q) w) (hv : Wf v) (hd : (q.map fun g => g.f0).Nodup) (h0 : ∀ g, g ∈ q → 0 ≤ g.f1)
  (hR : R = z78 (z1a (z0a q) v) (if 0 ≤ gOf v q then gOf v q else 0) (b || (z1a (z0a p) v || z1a (z0a q) v)) (z1a (z0a p) v || z1a (z0a q) v) en k) :
  Calls Tryz.prog 45 #[.pointer (some ⟨gp, 0, none⟩), .int .i64 v, .int .i64 k, .bool en] w fun e w' => e = .returned (.bool R) ∧ w' = w := by
 have x6 : w.cell? ⟨gp, 6, none⟩ = some (.map (some br)) := (y7 h.bx 6).trans rfl
 have hl := y8f h.mr hv hd h0
 have hu := Tryz.underlying115
 have HI := zh h
 have HV := zh hv
 clear hd h0 h hv
 obtain ⟨C, hC⟩ : ∃ C, C = if 0 ≤ gOf v q then gOf v q else 0 := ⟨_, rfl⟩
 obtain ⟨r, hr⟩ : ∃ r, r = z1a (z0a q) v := ⟨_, rfl⟩
 obtain ⟨ow, how⟩ : ∃ ow, ow = (z1a (z0a p) v || z1a (z0a q) v) := ⟨_, rfl⟩
 obtain ⟨kb, hkb⟩ : ∃ kb, kb = (b || (z1a (z0a p) v || z1a (z0a q) v)) := ⟨_, rfl⟩
 rw [← hkb, ← how, ← hr, ← hC] at hR
 rw [← hr, ← hC] at hl
 have HK : Hid (∀ W, W = w → Calls Tryz.prog 47 #[.pointer (some ⟨gp, 0, none⟩), .int .i64 v] W fun e w' => e = .returned (.bool kb) ∧ w' = w) := zh (fun W hW => by
  subst hW
  rw [hkb]
  exact z48 gp n b A ll c Ap lp cp Aq lq cq bh br kh kr (z0a p) (z0a q) v _ HI.out HV.out)
 have HO : Hid (∀ W, W = w → Calls Tryz.prog 79 #[.pointer (some ⟨gp, 0, none⟩), .int .i64 v] W fun e w' => e = .returned (.bool ow) ∧ w' = w) := zh (fun W hW => by
  subst hW
  rw [how]
  exact y4f gp n b A ll c Ap lp cp Aq lq cq bh br kh kr (z0a p) (z0a q) v _ HI.out HV.out)
 have hc := y2p _ _ _ _ _ _ _ hR
 clear hR hC hr how hkb HI
 rcases hc with ⟨c1, c2, c3⟩ | ⟨c0, c1⟩
 ·subst c1 c3
  go_enter Tryz.func45, Tryz.ntmps45
  go_wp2
  go_ret
  exact ⟨rfl, rfl⟩
 ·rcases c0 with c0 | ⟨c0, c9⟩
  all_goals
   subst c0
   rcases c1 with ⟨c2, c3⟩ | ⟨c2, c4, c3⟩ | ⟨c2, c4, c5, c3⟩ | ⟨c2, c4, c5, c6, c3⟩ | ⟨c2, c4, c5, c6, c3⟩
  all_goals
   subst c3
   (try subst c5)
   (try subst c6)
   go_enter Tryz.func45, Tryz.ntmps45
   go_wp2_with (first
    |(go_at_call 47; (with_reducible refine (HK.out _ ?s1).mono ?_); (case s1 => rfl); rintro e w2 ⟨rfl, rfl⟩)
    |(go_at_call 79; (with_reducible refine (HO.out _ ?s1).mono ?_); (case s1 => rfl); rintro e w2 ⟨rfl, rfl⟩))
   go_ret
   exact ⟨rfl, rfl⟩
theorem x0j {kb : Bool} {h po cr k z : Int} (hk : (decide (0 ≤ po) || decide (0 ≤ cr)) = true → kb = true) : z78 (decide (0 ≤ cr)) (if 0 ≤ cr then cr else 0) kb (decide (0 ≤ po) || decide (0 ≤ cr)) (decide (z = h)) k = true ↔ ¬ y41 kb h po cr k z := by
 unfold z78 y41
 by_cases a : 0 ≤ cr
 ·have hkb := hk (by rw [decide_eq_true a, Bool.or_true])
  subst hkb
  rw [decide_eq_true a, if_pos a, Bool.or_true]
  by_cases c : cr < k
  ·rw [if_pos ⟨rfl, c⟩]
   exact ⟨fun e => (by cases e), fun e => absurd (Or.inr (Or.inl ⟨a, c⟩)) e⟩
  ·rw [if_neg (fun e => c e.2)]
   simp only [Bool.true_or, Bool.and_true, Bool.true_and, Bool.or_eq_true, decide_eq_true_eq, Bool.true_eq_false, and_false, false_or]
   omega
 ·rw [decide_eq_false a, if_neg a, Bool.or_false, if_neg (fun e => by cases e.1)]
  cases kb with
  |false =>
   simp only [Bool.false_and, Bool.and_false, Bool.or_false, decide_eq_true_eq, and_true]
   have h9 : ¬ 0 ≤ po := fun e => by
    have := hk (by rw [decide_eq_true e, Bool.true_or])
    cases this
   omega
  |true =>
   simp only [Bool.true_and, Bool.or_eq_true, Bool.and_eq_true, decide_eq_true_eq, Bool.not_eq_true', decide_eq_false_iff_not, Bool.true_eq_false, and_false, false_or]
   omega
abbrev z8v (W : World) (b c : Nat) (D : DataW Unit) : Prop := W.ownsMap Tryz.prog 110 unitElem b c D
def z3w (D : DataW Unit) (v z : Int) : Bool := Maps.has D (z0r v z)
def x5g (D : DataW Unit) (s : z3p) : DataW Unit := D.put (z0r s.f0 s.f1) (.agg [])
def y0p (X : List z3p) : DataW Unit := X.foldl x5g (.map [])
def z28 (X : List z3p) (v z : Int) : Bool := X.any fun s => decide (s.f0 = v ∧ s.f1 = z)
theorem x1f {D : DataW Unit} (hD : Maps.IsMap D) (s : z3p) {v z : Int} (h0 : Wf s.f0) (h1 : Wf s.f1) (hv : Wf v) (hz : Wf z) : z3w (x5g D s) v z = (decide (s.f0 = v ∧ s.f1 = z) || z3w D v z) := by
 unfold z3w x5g
 by_cases e : s.f0 = v ∧ s.f1 = z
 ·rw [e.1, e.2, Maps.has_put_same hD (z4p.key (z2b v z hv hz))]
  simp
 ·rw [Maps.has_put_other (fun e2 => e ((z5p h0 h1 hv hz e2.symm)))]
  simp [e]
theorem y58 {D : DataW Unit} (hD : Maps.IsMap D) (s : z3p) : Maps.IsMap (x5g D s) := by
 obtain ⟨es, rfl⟩ := hD
 exact ⟨_, rfl⟩
def y0o (X : List z3p) : Prop := ∀ s, s ∈ X → Wf s.f0 ∧ Wf s.f1
theorem y1i {X : List z3p} (hX : y0o X) {v z : Int} (hv : Wf v) (hz : Wf z) : z3w (y0p X) v z = z28 X v z := by
 have h : ∀ (X : List z3p) (D : DataW Unit), y0o X → Maps.IsMap D → z3w (X.foldl x5g D) v z = (z3w D v z || z28 X v z) := fun X => by
  induction X with
  |nil => intro D _ _; simp [z28]
  |cons s X ih =>
   intro D hX h
   have hs := hX s (List.mem_cons_self ..)
   rw [List.foldl_cons, ih _ (fun y hy => hX y (List.mem_cons_of_mem _ hy)) (y58 h s), x1f h s hs.1 hs.2 hv hz]
   unfold z28
   rw [List.any_cons]
   cases decide (s.f0 = v ∧ s.f1 = z) <;> cases z3w D v z <;> simp
 unfold y0p
 rw [h X _ hX ⟨_, rfl⟩]
 rfl
theorem x1c : (Tryz.prog.info? 140).map (fun i => (i.zero, i.size, i.bytes)) = some (some (.agg #[]), 0, 0) := by kernel_rfl
theorem y65 : ∀ w : World, (zeroValue 140).run Tryz.prog w = .ok (.agg #[]) w := by
 obtain ⟨i0, hi, hz0, -, -⟩ := info_parts x1c
 intro w
 simp [zeroValue, typeInfo, hi, hz0]
theorem x04 {W : World} {b c : Nat} {D : DataW Unit} (h : z8v W b c D) {v z : Int} (hv : Wf v) (hz : Wf z) :
  (Instr.lookup 94 (.map (some b)) (.agg #[.int .i64 v, .int .i64 z]) true).run Tryz.prog W = .ok (.tuple #[.agg #[], .bool (z3w D v z)]) W := by
 obtain ⟨u, ps, hrun, hR⟩ := h.look_ok z4p Tryz.underlying94 (y65 W) unitElem_mk (z2b v z hv hz)
 obtain ⟨rfl, -⟩ := unitElem_inv hR
 exact hrun
theorem x0g {W W1 : World} {b c : Nat} {D : DataW Unit} (h : z8v W b c D) (e : W1.heap[b]? = W.heap[b]?) : z8v W1 b c D := by
 obtain ⟨es, clock, hb, F, hs, hD⟩ := h
 exact ⟨es, clock, e.trans hb, F, hs, hD⟩
theorem z0u {W W1 : World} {b c : Nat} {D : DataW Unit} (h : z8v W b c D) (hb : Below W.heap.size W W1) : z8v W1 b c D := x0g h (hb.block _ h.lt)
theorem x0z (k k' : IntKind) (x y : Int) : Builtin.min2 (.int k x) (.int k' y) = pure (.int k (min x y)) := by
 rw [z2l]
 have e : (if y < x then y else x) = min x y := by split <;> omega
 rw [e]
theorem z19 (b c : Nat) (D : DataW Unit) (v z : Int) (R : Bool) (w : World) (h : z8v w b c D) (hv : Wf v) (hz : Wf z) (hR : R = z3w D v z) :
  Calls Tryz.prog 51 #[.map (some b), .int .i64 v, .int .i64 z] w fun e w' => e = .returned (.bool R) ∧ Below w.heap.size w w' := by
 have hl := x04 h hv hz
 rw [← hR] at hl
 clear hR h
 go_enter Tryz.func51, Tryz.ntmps51
 go_wp2
 go_ret
 exact ⟨rfl, by repeat (first | exact Below.refl _ _ | apply y8)⟩
theorem z71 {X : List z3p} {i : Nat} (h : i < X.length) : X.take (i + 1) = X.take i ++ [z4s X (i : Int)] := by
 have e : z4s X (i : Int) = X[i] := by
  unfold z4s
  rw [Int.toNat_natCast, List.getD_eq_getElem?_getD, List.getElem?_eq_getElem h]
  rfl
 rw [List.take_add_one, List.getElem?_eq_getElem h, e]
 rfl
theorem y7h (X : List z3p) (s : z3p) : y0p (X ++ [s]) = x5g (y0p X) s := by
 unfold y0p
 rw [List.foldl_append]
 rfl
def z1y (n h : Int) (s : z3p) : Prop := 0 ≤ s.f0 ∧ 0 ≤ s.f1 ∧ s.f0 < n ∧ s.f1 ≤ h
attribute [local go_sem] x0z z3s
def x49 (n h : Int) (X : List z3p) (w : World) (e : Ending) (w' : World) : Prop := Below w.heap.size w w' ∧
 ((e = .returned (.tuple #[.map none, .bool false]) ∧ ∃ s, s ∈ X ∧ ¬ z1y n h s) ∨ (∃ b : Nat, e = .returned (.tuple #[.map (some b), .bool true]) ∧ z8v w' b X.length (y0p X) ∧ ∀ s, s ∈ X → z1y n h s))
theorem y5k (n h : Int) (A : Option Addr) (c : Nat) (X : List z3p) (w : World) (hr : Kd.C z35 w A X.length X) (hl : X.length ≤ 1000000) (hn : n ≤ 1000000) (hh : h ≤ 1000000) :
  Calls Tryz.prog 46 #[.slice A X.length c, .int .i64 n, .int .i64 h] w (x49 n h X w) := by
 have HR := zh hr
 have hu := Tryz.underlying110
 have hmm := @run_makeMap Tryz.prog
 clear hr
 go_enter Tryz.func46, Tryz.ntmps46
 go_wp2
 obtain ⟨w1, hw1⟩ : ∃ w1, w1 = w.alloc (.map #[] 0) := ⟨_, rfl⟩
 have HX : Hid (z8v w1 w.heap.size 0 (y0p []) ∧ Below w.heap.size w w1) := zh (by rw [hw1]; exact ⟨World.ownsMap_made _ _ _ _, y8 (Below.refl _ _) _⟩)
 rw [← hw1]
 clear hw1 hmm
 go_loopg [14] (X.length + 1) (fun k iv W => ∃ i : Nat, i ≤ X.length ∧ iv = .int .i64 i ∧ k = X.length + 1 - i ∧ Hid (z8v W w.heap.size i (y0p (X.take i)) ∧ Below w.heap.size w W ∧ ∀ s, s ∈ X.take i → z1y n h s))
 case atStart => exact ⟨0, Nat.zero_le _, rfl, rfl, zh ⟨HX.out.1, HX.out.2, fun s hs => by simp at hs⟩⟩
 case round =>
  obtain ⟨i, hi, rfl, rfl, HL⟩ := hrel
  clear HX
  by_cases hlt : i < X.length
  ·have i0 : (0 : Int) ≤ (i : Int) := by omega
   have i1 : (i : Int) < (X.length : Int) := by omega
   obtain ⟨ad, ea, y0, y1⟩ := y3r (Kd.C_below HR.out HL.out.2.1) (i : Int) i0 i1
   subst ea
   rw [Int.toNat_natCast] at y0 y1
   have hst := z71 hlt
   obtain ⟨s, hs⟩ : ∃ s, s = z4s X (i : Int) := ⟨_, rfl⟩
   rw [← hs] at y0 y1 hst
   have HST := zh hst
   have HSM : Hid (s ∈ X) := zh (List.mem_of_mem_take (i := i + 1) (by rw [hst]; simp))
   clear hs hst
   obtain ⟨mn, hmn⟩ : ∃ mn, min s.f0 s.f1 = mn := ⟨_, rfl⟩
   have hc : (mn < 0 ∧ Hid (¬ z1y n h s)) ∨ (¬ mn < 0 ∧ n ≤ s.f0 ∧ Hid (¬ z1y n h s)) ∨ (¬ mn < 0 ∧ ¬ n ≤ s.f0 ∧ h < s.f1 ∧ Hid (¬ z1y n h s)) ∨ (¬ mn < 0 ∧ ¬ n ≤ s.f0 ∧ ¬ h < s.f1 ∧ Hid (z1y n h s)) := by
    unfold z1y
    by_cases c1 : mn < 0
    ·exact .inl ⟨c1, zh (by omega)⟩
    ·by_cases c2 : n ≤ s.f0
     ·exact .inr (.inl ⟨c1, c2, zh (by omega)⟩)
     ·by_cases c3 : h < s.f1
      ·exact .inr (.inr (.inl ⟨c1, c2, c3, zh (by omega)⟩))
      ·exact .inr (.inr (.inr ⟨c1, c2, c3, zh (by omega)⟩))
   rcases hc with ⟨c1, HBD⟩ | ⟨c1, c2, HBD⟩ | ⟨c1, c2, c3, HBD⟩ | ⟨c1, c2, c3, HOK⟩
   iterate 3
    ·go_wp2
     go_ret2
     exact ⟨y8 HL.out.2.1 _, .inl ⟨rfl, s, HSM.out, HBD.out⟩⟩
   ·have HW : Hid (Wf s.f0 ∧ Wf s.f1) := zh (by
     have h9 := HOK.out
     unfold z1y at h9
     exact ⟨Go.WalkArith.wf_i64 (by omega), Go.WalkArith.wf_i64 (by omega)⟩)
    go_wp2_with (at_mapUpdate; refine wpList_mapUpdate_own _ rfl _ _ _ 94 rfl 110 140 z4p Tryz.underlying94 _ w.heap.size i (y0p (X.take i)) rfl (z0u HL.out.1 (by repeat (first | exact Below.refl _ _ | apply y8))) (by unfold maxLen; omega) _ _ (z0r s.f0 s.f1) rfl rfl (z2b s.f0 s.f1 HW.out.1 HW.out.2) _ [] unitElem_mk ?_; intro w2 ho hg; have HF := zh (And.intro ho (z8z (y8 HL.out.2.1 _) _ (y8 HL.out.2.1 _).size hg (fun k e => by injection e with e; omega))); clear ho hg)
    go_roundg (X.length - i)
    case measure => omega
    case rel => exact ⟨i + 1, by omega, by go_num, by omega, zh ⟨by rw [HST.out, y7h]; exact HF.out.1, HF.out.2, fun s9 hs9 => by
     rw [HST.out, List.mem_append, List.mem_singleton] at hs9
     rcases hs9 with hs9 | rfl
     ·exact HL.out.2.2 s9 hs9
     ·exact HOK.out⟩⟩
  ·have e : i = X.length := by omega
   subst e
   have HF := HL.out
   rw [List.take_length] at HF
   have HF := zh HF
   go_wp2
   go_ret2
   exact ⟨HF.out.2.1, .inr ⟨_, rfl, HF.out.1, HF.out.2.2⟩⟩
end Go.Proofs.YtcgdloldkcmhnaaGreat.H
end
section
namespace Go.Proofs.YtcgdloldkcmhnaaGreat.H
open Go Go.RowKit Go.Proofs.YtcgdloldkcmhnaaGreat.PrintC Go.Proofs.YtcgdloldkcmhnaaGreat.PrintE Go.Proofs.YtcgdloldkcmhnaaGreatW.PrintWords Go.Proofs.YtcgdloldkcmhnaaGreatW.PrintLast Go.Proofs.YtcgdloldkcmhnaaGreatW.PrintMore Go.Proofs.YtcgdloldkcmhnaaGreat.Flow
set_option linter.unusedVariables false
set_option linter.unusedSimpArgs false
theorem z5k {x : Int} (h : -9223372036854775808 ≤ x ∧ x ≤ 9223372036854775807) : Wf x := WalkArith.wf_i64 h
def x5a (D : DataW Unit) (v : Int) (h : Nat) (w : World) (e : Ending) (w' : World) : Prop := Below w.heap.size w w' ∧ ((e = .returned (.bool true) ∧ ∀ z : Nat, z < h → z3w D v z = true → z3w D v ((z : Int) + 1) = true) ∨ (e = .returned (.bool false) ∧ ∃ z : Nat, z < h ∧ z3w D v z = true ∧ z3w D v ((z : Int) + 1) = false))
theorem y5q (b c : Nat) (D : DataW Unit) (v : Int) (h : Nat) (w : World) (hs : z8v w b c D) (hv : Wf v) (hh : h ≤ 100000) :
  Calls Tryz.prog 48 #[.map (some b), .int .i64 v, .int .i64 h] w (x5a D v h w) := by
 have HS := zh hs
 have HV := zh hv
 clear hs hv
 go_enter Tryz.func48, Tryz.ntmps48
 go_wp2
 go_loopg [9] (h + 1) (fun k iv W => ∃ z : Nat, z ≤ h ∧ iv = .int .i64 z ∧ k = h + 1 - z ∧ Hid (Below w.heap.size w W ∧ ∀ z' : Nat, z' < z → z3w D v z' = true → z3w D v ((z' : Int) + 1) = true))
 case atStart => exact ⟨0, Nat.zero_le _, rfl, rfl, zh ⟨Below.refl _ _, fun z' hz => absurd hz (Nat.not_lt_zero _)⟩⟩
 case round =>
  obtain ⟨z, hz, rfl, rfl, HL⟩ := hrel
  by_cases hlt : z < h
  ·have hlt2 : (z : Int) < (h : Int) := by omega
   cases h1 : z3w D v z with
   |false =>
    have H1 := zh h1
    clear h1
    go_wp2_with (go_at_call 51; (with_reducible refine (z19 b c D v z false _ ?s1 ?s2 ?s3 ?s4).mono ?_); (case s1 => exact z0u HS.out HL.out.1); (case s2 => exact HV.out); (case s3 => exact z5k (by omega)); (case s4 => exact H1.out.symm); rintro e w2 ⟨rfl, hb⟩; have HB := zh (v6 HL.out.1 hb); clear hb)
    go_roundg (h - z)
    case measure => omega
    case rel => exact ⟨z + 1, by omega, by go_num, by omega, zh ⟨HB.out, fun z' hz' h9 => by
     rcases Nat.lt_or_eq_of_le (Nat.le_of_lt_succ hz') with g | rfl
     ·exact HL.out.2 z' g h9
     ·rw [H1.out] at h9
      cases h9⟩⟩
   |true =>
    cases h2 : z3w D v ((z : Int) + 1) with
    |true =>
     have H1 := zh (And.intro h1 h2)
     clear h1 h2
     go_wp2_with (first
      |(go_at_call 51; (with_reducible refine (z19 b c D v z true _ ?s1 ?s2 ?s3 ?s4).mono ?_); (case s1 => exact z0u HS.out HL.out.1); (case s2 => exact HV.out); (case s3 => exact z5k (by omega)); (case s4 => exact H1.out.1.symm); rintro e w2 ⟨rfl, hb⟩; have HB := zh (v6 HL.out.1 hb); clear hb)
      |(go_at_call 51; (with_reducible refine (z19 b c D v ((z : Int) + 1) true _ ?s1 ?s2 ?s3 ?s4).mono ?_); (case s1 => exact z0u HS.out HB.out); (case s2 => exact HV.out); (case s3 => exact z5k (by omega)); (case s4 => exact H1.out.2.symm); rintro e w3 ⟨rfl, hb⟩; have HB3 := zh (v6 HB.out hb); clear hb))
     go_roundg (h - z)
     case measure => omega
     case rel => exact ⟨z + 1, by omega, by go_num, by omega, zh ⟨HB3.out, fun z' hz' h9 => by
      rcases Nat.lt_or_eq_of_le (Nat.le_of_lt_succ hz') with g | rfl
      ·exact HL.out.2 z' g h9
      ·exact H1.out.2⟩⟩
    |false =>
     have H1 := zh (And.intro h1 h2)
     clear h1 h2
     go_wp2_with (first
      |(go_at_call 51; (with_reducible refine (z19 b c D v z true _ ?s1 ?s2 ?s3 ?s4).mono ?_); (case s1 => exact z0u HS.out HL.out.1); (case s2 => exact HV.out); (case s3 => exact z5k (by omega)); (case s4 => exact H1.out.1.symm); rintro e w2 ⟨rfl, hb⟩; have HB := zh (v6 HL.out.1 hb); clear hb)
      |(go_at_call 51; (with_reducible refine (z19 b c D v ((z : Int) + 1) false _ ?s1 ?s2 ?s3 ?s4).mono ?_); (case s1 => exact z0u HS.out HB.out); (case s2 => exact HV.out); (case s3 => exact z5k (by omega)); (case s4 => exact H1.out.2.symm); rintro e w3 ⟨rfl, hb⟩; have HB3 := zh (v6 HB.out hb); clear hb))
     go_ret
     exact ⟨HB3.out, .inr ⟨rfl, z, hlt, H1.out.1, H1.out.2⟩⟩
  ·have e : z = h := by omega
   subst e
   go_wp2
   go_ret
   exact ⟨HL.out.1, .inl ⟨rfl, HL.out.2⟩⟩
def tk1 (H : Int → Int → Bool) (x : Arc) (z : Nat) : Int := if H x.f0 z = true ∧ H x.f1 ((z : Int) + x.f3) = false then x.f2 else 0
def tkA (use : Arc → Bool) (H : Int → Int → Bool) (h : Nat) (x : Arc) : Int := if use x = true then z0s ((h : Int) + 1 - x.f3).toNat (tk1 H x) else 0
def z4m (use : Arc → Bool) (H : Int → Int → Bool) (h : Nat) (l : List Arc) : Int := z0s l.length (fun j => tkA use H h (z0i l j))
def y9x (V : Int) (w : World) (e : Ending) (w' : World) : Prop := e = .returned (.int .i64 V) ∧ Below w.heap.size w w'
theorem y47 (n h : Nat) (bb : Bool) (A : Option Addr) (c : Nat) (l : List Arc) (gp : Nat) (use : Arc → Bool) (b cc : Nat) (D : DataW Unit) (w : World) (hn : z4g n h l) (hc : ∀ i : Nat, i < l.length → 0 ≤ (z0i l i).f2 ∧ (z0i l i).f2 ≤ 1048576) (hh : h ≤ 1024) (hs : z8v w b cc D) (hr : Kd.C z3l w A l.length l)
  (hU : ∀ x W, x ∈ l → Below w.heap.size w W → Calls Tryz.prog 50 #[.pointer (some ⟨gp, 0, none⟩), .agg #[.int .i64 x.f0, .int .i64 x.f1, .int .i64 x.f2, .int .i64 x.f3]] W fun e w' => e = .returned (.bool (use x)) ∧ Below W.heap.size W w') :
  Calls Tryz.prog 49 #[.map (some b), .agg #[.int .i64 n, .bool bb, .slice A l.length c], .int .i64 h, .func (.func 50) #[.pointer (some ⟨gp, 0, none⟩)] #[]] w (y9x (z4m use (z3w D) h l) w) := by
 have hu := Tryz.underlying33
 have hu3 := Tryz.underlying104
 have HN := zh hn
 have HCP := zh hc
 have HS := zh hs
 have HR := zh hr
 have HU := zh hU
 have hll := hn.ll
 have hn1 := hn.n1
 clear hn hc hs hr hU
 go_enter Tryz.func49, Tryz.ntmps49
 go_wp2
 obtain ⟨w1, hw1⟩ : ∃ w1, w1 = w.alloc (.cells #[.int .i64 n, .bool bb, .slice A l.length c] 33) := ⟨_, rfl⟩
 have HX : Hid (Below w.heap.size w w1) := zh (by rw [hw1]; exact y8 (Below.refl _ _) _)
 rw [← hw1]
 clear hw1
 go_loopg [9, 16] (l.length + 1) (fun k sv jv W => ∃ (j : Nat) (S : Int), j ≤ l.length ∧ sv = .int .i64 S ∧ jv = .int .i64 j ∧ k = l.length + 1 - j ∧ 0 ≤ S ∧ S ≤ (j : Int) * 1100000000 ∧ Hid (S = z0s j (fun j => tkA use (z3w D) h (z0i l j)) ∧ Below w.heap.size w W))
 case atStart => exact ⟨0, 0, Nat.zero_le _, rfl, rfl, rfl, Int.le_refl _, by omega, zh ⟨rfl, HX.out⟩⟩
 case round =>
  obtain ⟨j, S, hj, rfl, rfl, rfl, s0, s1, HL⟩ := hrel
  clear HX
  by_cases hjl : j < l.length
  ·have j0 : (0 : Int) ≤ (j : Int) := by omega
   have j1 : (j : Int) < (l.length : Int) := by omega
   obtain ⟨ad, ea, y0, y1, y2, y3⟩ := z07 (Kd.C_below HR.out HL.out.2) (j : Int) j0 j1
   subst ea
   rw [Int.toNat_natCast] at y0 y1 y2 y3
   obtain ⟨x, hx⟩ : ∃ x, x = z0i l j := ⟨_, rfl⟩
   have hx2 : j7 l (j : Int) = x := by rw [hx]; rfl
   rw [hx2] at y0 y1 y2 y3
   have hen := HN.out.ends j hjl
   have hti := HN.out.time j hjl
   have hcp := HCP.out j hjl
   rw [← hx] at hen hti hcp
   have f0 := hen.1.1
   have f1 := hen.1.2
   have f2 := hen.2.1
   have f3 := hen.2.2
   have t0 := hti.1
   have t1 := hti.2
   have c0 := hcp.1
   have c1 := hcp.2
   have HXM : Hid (x ∈ l) := zh (by rw [hx]; exact z3d hjl)
   have HXE := zh hx
   clear hx hx2 hen hti hcp
   obtain ⟨u, hu9⟩ : ∃ u, use x = u := ⟨_, rfl⟩
   have HUX := zh hu9
   clear hu9
   go_wp2
   obtain ⟨w4, hw4⟩ : ∃ w4, w4 = wr.alloc (.cells #[.int .i64 x.f0, .int .i64 x.f1, .int .i64 x.f2, .int .i64 x.f3] 104) := ⟨_, rfl⟩
   have HG4 : Hid (w4.heap[wr.heap.size]? = some (.cells #[.int .i64 x.f0, .int .i64 x.f1, .int .i64 x.f2, .int .i64 x.f3] 104 (0, 0)) ∧ Below w.heap.size w w4) := zh (by rw [hw4]; exact ⟨heap_alloc_new _ _, y8 HL.out.2 _⟩)
   rw [← hw4]
   clear hw4 y0 y1 y2 y3
   generalize wr.heap.size = g at HG4 ⊢
   go_loopg [9, 12] (h + 3) (fun k sv zv W => ∃ (z : Nat) (s : Int), z ≤ h + 1 ∧ sv = .int .i64 s ∧ zv = .int .i64 z ∧ k = h + 3 - z ∧ 0 ≤ s ∧ s ≤ S + (z : Int) * 1048576 ∧ (z = 0 ∨ (u = true ∧ (z : Int) + x.f3 ≤ (h : Int) + 1)) ∧ Hid (s = S + z0s z (tk1 (z3w D) x) ∧ W.heap[g]? = some (.cells #[.int .i64 x.f0, .int .i64 x.f1, .int .i64 x.f2, .int .i64 x.f3] 104 (0, 0)) ∧ Below w.heap.size w W))
   case atStart => exact ⟨0, S, by omega, rfl, rfl, rfl, s0, by omega, .inl rfl, zh ⟨by rw [z0s]; omega, HG4.out.1, HG4.out.2⟩⟩
   case round =>
    obtain ⟨z, s, hz, rfl, rfl, rfl, r0, r1, hzu, HZ⟩ := hrel
    have HG := zh (And.intro HZ.out.2.1 HZ.out.2.2)
    have y0 : wr.cell? ⟨g, 0, none⟩ = some (.int .i64 x.f0) := (y7 HG.out.1 0).trans rfl; have y1 : wr.cell? ⟨g, 1, none⟩ = some (.int .i64 x.f1) := (y7 HG.out.1 1).trans rfl; have y2 : wr.cell? ⟨g, 2, none⟩ = some (.int .i64 x.f2) := (y7 HG.out.1 2).trans rfl; have y3 : wr.cell? ⟨g, 3, none⟩ = some (.int .i64 x.f3) := (y7 HG.out.1 3).trans rfl
    have e5 : IntKind.i64.wrap ((z : Int) + x.f3) = (z : Int) + x.f3 := IntWalk.i64_in _ (by omega)
    have e6 : IntKind.i64.wrap (s + x.f2) = s + x.f2 := IntWalk.i64_in _ (by omega)
    by_cases hzt : (z : Int) + x.f3 ≤ (h : Int)
    ·cases u with
     |false =>
      have hz0 : z = 0 := by
       rcases hzu with h9 | h9
       ·exact h9
       ·cases h9.1
      clear hzu
      go_wp2_with (first
       |(go_at_call 50; refine (HU.out x _ ?s1 ?s2).mono ?_; (case s1 => exact HXM.out); (case s2 => exact HG.out.2); rintro e w1 ⟨rfl, hb⟩; rw [HUX.out]; have HN9 := zh (And.intro (j5 HG.out.1 hb) (v6 HG.out.2 hb)); clear HG y0 y1 y2 y3 hb; have HG := HN9; clear HN9; have y0 : w1.cell? ⟨g, 0, none⟩ = some (.int .i64 x.f0) := (y7 HG.out.1 0).trans rfl; have y1 : w1.cell? ⟨g, 1, none⟩ = some (.int .i64 x.f1) := (y7 HG.out.1 1).trans rfl; have y2 : w1.cell? ⟨g, 2, none⟩ = some (.int .i64 x.f2) := (y7 HG.out.1 2).trans rfl; have y3 : w1.cell? ⟨g, 3, none⟩ = some (.int .i64 x.f3) := (y7 HG.out.1 3).trans rfl))
      go_roundg (l.length - j)
      case measure => omega
      case rel => exact ⟨j + 1, s, by omega, rfl, by go_num, by omega, r0, by omega, zh ⟨by
       rw [z0s, ← HL.out.1, ← HXE.out]
       unfold tkA
       rw [HUX.out, if_neg (by decide), HZ.out.1, hz0]
       rfl, HG.out.2⟩⟩
     |true =>
      have hzu2 : Hid ((z : Int) + 1 + x.f3 ≤ (h : Int) + 1) := zh (by omega)
      clear hzu
      cases ha : z3w D x.f0 z with
      |false =>
       have HA := zh ha
       clear ha
       go_wp2_with (first
        |(go_at_call 50; refine (HU.out x _ ?s1 ?s2).mono ?_; (case s1 => exact HXM.out); (case s2 => exact HG.out.2); rintro e w1 ⟨rfl, hb⟩; rw [HUX.out]; have HN9 := zh (And.intro (j5 HG.out.1 hb) (v6 HG.out.2 hb)); clear HG y0 y1 y2 y3 hb; have HG := HN9; clear HN9; have y0 : w1.cell? ⟨g, 0, none⟩ = some (.int .i64 x.f0) := (y7 HG.out.1 0).trans rfl; have y1 : w1.cell? ⟨g, 1, none⟩ = some (.int .i64 x.f1) := (y7 HG.out.1 1).trans rfl; have y2 : w1.cell? ⟨g, 2, none⟩ = some (.int .i64 x.f2) := (y7 HG.out.1 2).trans rfl; have y3 : w1.cell? ⟨g, 3, none⟩ = some (.int .i64 x.f3) := (y7 HG.out.1 3).trans rfl)
        |(go_at_call 51; (with_reducible refine (z19 b cc D x.f0 z false _ ?s1 ?s2 ?s3 ?s4).mono ?_); (case s1 => exact z0u HS.out HG.out.2); (case s2 => exact z5k (by omega)); (case s3 => exact z5k (by omega)); (case s4 => exact HA.out.symm); rintro e w2 ⟨rfl, hb⟩; have HN9 := zh (And.intro (j5 HG.out.1 hb) (v6 HG.out.2 hb)); clear HG y0 y1 y2 y3 hb; have HG := HN9; clear HN9; have y0 : w2.cell? ⟨g, 0, none⟩ = some (.int .i64 x.f0) := (y7 HG.out.1 0).trans rfl; have y1 : w2.cell? ⟨g, 1, none⟩ = some (.int .i64 x.f1) := (y7 HG.out.1 1).trans rfl; have y2 : w2.cell? ⟨g, 2, none⟩ = some (.int .i64 x.f2) := (y7 HG.out.1 2).trans rfl; have y3 : w2.cell? ⟨g, 3, none⟩ = some (.int .i64 x.f3) := (y7 HG.out.1 3).trans rfl))
       go_roundg (h + 2 - z)
       case measure => omega
       case rel => exact ⟨z + 1, s, by omega, rfl, by go_num, by omega, r0, by omega, .inr ⟨by first | rfl | trivial, by have := hzu2.out; omega⟩, zh ⟨by
        rw [z0s, HZ.out.1]
        unfold tk1
        rw [if_neg (fun e => by rw [HA.out] at e; cases e.1)]
        omega, HG.out.1, HG.out.2⟩⟩
      |true =>
       cases hb9 : z3w D x.f1 ((z : Int) + x.f3) with
       |true =>
        have HA := zh (And.intro ha hb9)
        clear ha hb9
        go_wp2_with (first
         |(go_at_call 50; refine (HU.out x _ ?s1 ?s2).mono ?_; (case s1 => exact HXM.out); (case s2 => exact HG.out.2); rintro e w1 ⟨rfl, hb⟩; rw [HUX.out]; have HN9 := zh (And.intro (j5 HG.out.1 hb) (v6 HG.out.2 hb)); clear HG y0 y1 y2 y3 hb; have HG := HN9; clear HN9; have y0 : w1.cell? ⟨g, 0, none⟩ = some (.int .i64 x.f0) := (y7 HG.out.1 0).trans rfl; have y1 : w1.cell? ⟨g, 1, none⟩ = some (.int .i64 x.f1) := (y7 HG.out.1 1).trans rfl; have y2 : w1.cell? ⟨g, 2, none⟩ = some (.int .i64 x.f2) := (y7 HG.out.1 2).trans rfl; have y3 : w1.cell? ⟨g, 3, none⟩ = some (.int .i64 x.f3) := (y7 HG.out.1 3).trans rfl)
         |(go_at_call 51; (with_reducible refine (z19 b cc D x.f0 z true _ ?s1 ?s2 ?s3 ?s4).mono ?_); (case s1 => exact z0u HS.out HG.out.2); (case s2 => exact z5k (by omega)); (case s3 => exact z5k (by omega)); (case s4 => exact HA.out.1.symm); rintro e w2 ⟨rfl, hb⟩; have HN9 := zh (And.intro (j5 HG.out.1 hb) (v6 HG.out.2 hb)); clear HG y0 y1 y2 y3 hb; have HG := HN9; clear HN9; have y0 : w2.cell? ⟨g, 0, none⟩ = some (.int .i64 x.f0) := (y7 HG.out.1 0).trans rfl; have y1 : w2.cell? ⟨g, 1, none⟩ = some (.int .i64 x.f1) := (y7 HG.out.1 1).trans rfl; have y2 : w2.cell? ⟨g, 2, none⟩ = some (.int .i64 x.f2) := (y7 HG.out.1 2).trans rfl; have y3 : w2.cell? ⟨g, 3, none⟩ = some (.int .i64 x.f3) := (y7 HG.out.1 3).trans rfl)
         |(go_at_call 51; (with_reducible refine (z19 b cc D x.f1 ((z : Int) + x.f3) true _ ?s1 ?s2 ?s3 ?s4).mono ?_); (case s1 => exact z0u HS.out HG.out.2); (case s2 => exact z5k (by omega)); (case s3 => exact z5k (by omega)); (case s4 => exact HA.out.2.symm); rintro e w2 ⟨rfl, hb⟩; have HN9 := zh (And.intro (j5 HG.out.1 hb) (v6 HG.out.2 hb)); clear HG y0 y1 y2 y3 hb; have HG := HN9; clear HN9; have y0 : w2.cell? ⟨g, 0, none⟩ = some (.int .i64 x.f0) := (y7 HG.out.1 0).trans rfl; have y1 : w2.cell? ⟨g, 1, none⟩ = some (.int .i64 x.f1) := (y7 HG.out.1 1).trans rfl; have y2 : w2.cell? ⟨g, 2, none⟩ = some (.int .i64 x.f2) := (y7 HG.out.1 2).trans rfl; have y3 : w2.cell? ⟨g, 3, none⟩ = some (.int .i64 x.f3) := (y7 HG.out.1 3).trans rfl))
        go_roundg (h + 2 - z)
        case measure => omega
        case rel => exact ⟨z + 1, s, by omega, rfl, by go_num, by omega, r0, by omega, .inr ⟨by first | rfl | trivial, by have := hzu2.out; omega⟩, zh ⟨by
         rw [z0s, HZ.out.1]
         unfold tk1
         rw [if_neg (fun e => by rw [HA.out.2] at e; cases e.2)]
         omega, HG.out.1, HG.out.2⟩⟩
       |false =>
        have HA := zh (And.intro ha hb9)
        clear ha hb9
        go_wp2_with (first
         |(go_at_call 50; refine (HU.out x _ ?s1 ?s2).mono ?_; (case s1 => exact HXM.out); (case s2 => exact HG.out.2); rintro e w1 ⟨rfl, hb⟩; rw [HUX.out]; have HN9 := zh (And.intro (j5 HG.out.1 hb) (v6 HG.out.2 hb)); clear HG y0 y1 y2 y3 hb; have HG := HN9; clear HN9; have y0 : w1.cell? ⟨g, 0, none⟩ = some (.int .i64 x.f0) := (y7 HG.out.1 0).trans rfl; have y1 : w1.cell? ⟨g, 1, none⟩ = some (.int .i64 x.f1) := (y7 HG.out.1 1).trans rfl; have y2 : w1.cell? ⟨g, 2, none⟩ = some (.int .i64 x.f2) := (y7 HG.out.1 2).trans rfl; have y3 : w1.cell? ⟨g, 3, none⟩ = some (.int .i64 x.f3) := (y7 HG.out.1 3).trans rfl)
         |(go_at_call 51; (with_reducible refine (z19 b cc D x.f0 z true _ ?s1 ?s2 ?s3 ?s4).mono ?_); (case s1 => exact z0u HS.out HG.out.2); (case s2 => exact z5k (by omega)); (case s3 => exact z5k (by omega)); (case s4 => exact HA.out.1.symm); rintro e w2 ⟨rfl, hb⟩; have HN9 := zh (And.intro (j5 HG.out.1 hb) (v6 HG.out.2 hb)); clear HG y0 y1 y2 y3 hb; have HG := HN9; clear HN9; have y0 : w2.cell? ⟨g, 0, none⟩ = some (.int .i64 x.f0) := (y7 HG.out.1 0).trans rfl; have y1 : w2.cell? ⟨g, 1, none⟩ = some (.int .i64 x.f1) := (y7 HG.out.1 1).trans rfl; have y2 : w2.cell? ⟨g, 2, none⟩ = some (.int .i64 x.f2) := (y7 HG.out.1 2).trans rfl; have y3 : w2.cell? ⟨g, 3, none⟩ = some (.int .i64 x.f3) := (y7 HG.out.1 3).trans rfl)
         |(go_at_call 51; (with_reducible refine (z19 b cc D x.f1 ((z : Int) + x.f3) false _ ?s1 ?s2 ?s3 ?s4).mono ?_); (case s1 => exact z0u HS.out HG.out.2); (case s2 => exact z5k (by omega)); (case s3 => exact z5k (by omega)); (case s4 => exact HA.out.2.symm); rintro e w2 ⟨rfl, hb⟩; have HN9 := zh (And.intro (j5 HG.out.1 hb) (v6 HG.out.2 hb)); clear HG y0 y1 y2 y3 hb; have HG := HN9; clear HN9; have y0 : w2.cell? ⟨g, 0, none⟩ = some (.int .i64 x.f0) := (y7 HG.out.1 0).trans rfl; have y1 : w2.cell? ⟨g, 1, none⟩ = some (.int .i64 x.f1) := (y7 HG.out.1 1).trans rfl; have y2 : w2.cell? ⟨g, 2, none⟩ = some (.int .i64 x.f2) := (y7 HG.out.1 2).trans rfl; have y3 : w2.cell? ⟨g, 3, none⟩ = some (.int .i64 x.f3) := (y7 HG.out.1 3).trans rfl))
        go_roundg (h + 2 - z)
        case measure => omega
        case rel => exact ⟨z + 1, s + x.f2, by omega, rfl, by go_num, by omega, by omega, by omega, .inr ⟨by first | rfl | trivial, by have := hzu2.out; omega⟩, zh ⟨by
         rw [z0s, HZ.out.1]
         unfold tk1
         rw [if_pos HA.out]
         omega, HG.out.1, HG.out.2⟩⟩
    ·go_wp2
     go_roundg (l.length - j)
     case measure => omega
     case rel => exact ⟨j + 1, s, by omega, rfl, by go_num, by omega, r0, by omega, zh ⟨by
      rw [z0s, ← HL.out.1, ← HXE.out]
      unfold tkA
      rw [HUX.out, HZ.out.1]
      cases u with
      |false =>
       rcases hzu with h9 | h9
       ·rw [h9, if_neg (by decide)]
        rfl
       ·cases h9.1
      |true =>
       rw [if_pos rfl, show ((h : Int) + 1 - x.f3).toNat = z by rcases hzu with h9 | h9 <;> omega], HG.out.2⟩⟩
  ·have e : j = l.length := by omega
   subst e
   go_wp2
   go_ret
   refine ⟨?_, HL.out.2⟩
   unfold z4m
   rw [← HL.out.1]
   rfl
theorem y1l (t : Grp → Bool) : ∀ a b : List Grp, gS t (a ++ b) = gS t a + gS t b
 |[], b => by rw [List.nil_append, gS]; omega
 |x :: a, b => by rw [List.cons_append, gS, gS, y1l t a b]; omega
theorem z8n (t : Grp → Bool) {p : List Grp} {i : Nat} (h : i < p.length) : gS t (p.take (i + 1)) = gS t (p.take i) + (if t (z0q p (i : Int)) = true then (z0q p (i : Int)).f1 else 0) := by
 have e : z0q p (i : Int) = p[i] := by
  unfold z0q
  rw [Int.toNat_natCast, List.getD_eq_getElem?_getD, List.getElem?_eq_getElem h]
  rfl
 rw [List.take_add_one, List.getElem?_eq_getElem h, e]
 show gS t (p.take i ++ [p[i]]) = _
 rw [y1l, gS, gS]
 omega
def x1y (h : Nat) (l : List Arc) (p q : List Grp) (H : Int → Int → Bool) : Int := z4m (z0v q) H h l + gS (fun g => !H g.f0 0) p + gS (fun g => H g.f0 h) q
def x2w (n h : Nat) (b : Bool) (l : List Arc) (p q : List Grp) (X : List z3p) (w : World) (e : Ending) (w' : World) : Prop := Below w.heap.size w w' ∧
 ((e = .returned (.tuple #[.int .i64 0, .int .i64 180]) ∧ ∃ s, s ∈ X ∧ ¬ z1y n h s) ∨
  ((∀ s, s ∈ X → z1y n h s) ∧ ((e = .returned (.tuple #[.int .i64 0, .int .i64 181]) ∧ ∃ v z : Nat, v < n ∧ d9 b p q v = true ∧ z < h ∧ z3w (y0p X) v z = true ∧ z3w (y0p X) v ((z : Int) + 1) = false) ∨
  (e = .returned (.tuple #[.int .i64 (x1y h l p q (z3w (y0p X))), .int .i64 0]) ∧ ∀ v : Nat, v < n → d9 b p q v = true → ∀ z : Nat, z < h → z3w (y0p X) v z = true → z3w (y0p X) v ((z : Int) + 1) = true))))
theorem z9z {use : Arc → Bool} {H : Int → Int → Bool} {n h : Nat} {l : List Arc} (hn : z4g n h l) (hh : h ≤ 1024) (hc : ∀ i : Nat, i < l.length → 0 ≤ (z0i l i).f2 ∧ (z0i l i).f2 ≤ 1048576) : ∀ j, j ≤ l.length → 0 ≤ z0s j (fun j => tkA use H h (z0i l j)) ∧ z0s j (fun j => tkA use H h (z0i l j)) ≤ (j : Int) * 1100000000
 |0, _ => by rw [z0s]; omega
 |j + 1, hj => by
  have ih := z9z (use := use) (H := H) hn hh hc j (by omega)
  rw [z0s]
  have h2 := hc j (by omega)
  have h3 := hn.time j (by omega)
  have h4 : ∀ z : Nat, 0 ≤ z0s z (tk1 H (z0i l j)) ∧ z0s z (tk1 H (z0i l j)) ≤ (z : Int) * 1048576 := fun z => by
   induction z with
   |zero => rw [z0s]; omega
   |succ z ih =>
    rw [z0s]
    have : 0 ≤ tk1 H (z0i l j) z ∧ tk1 H (z0i l j) z ≤ 1048576 := by
     unfold tk1
     split <;> omega
    omega
  have h5 : 0 ≤ tkA use H h (z0i l j) ∧ tkA use H h (z0i l j) ≤ 1100000000 := by
   unfold tkA
   split
   ·have := h4 ((h : Int) + 1 - (z0i l j).f3).toNat
    omega
   ·omega
  omega
theorem x1x (n h : Nat) (b : Bool) (A : Option Addr) (c : Nat) (l : List Arc) (Ap : Option Addr) (cp : Nat) (p : List Grp) (Aq : Option Addr) (cq : Nat) (q : List Grp) (AX : Option Addr) (cX : Nat) (X : List z3p) (w : World) (hP : z00 n h l p q) (hh : h ≤ 1024)
  (hBG : ∀ W, Below w.heap.size w W → Calls Tryz.prog 25 #[.agg #[.int .i64 n, .bool b, .slice A l.length c], .slice Ap p.length cp, .slice Aq q.length cq, .int .i64 h] W (z5z n b A c l Ap cp p Aq cq q 0 W))
  (hr : Kd.C z3l w A l.length l) (hp : Kd.C z1v w Ap p.length p) (hq : Kd.C z1v w Aq q.length q) (hX : Kd.C z35 w AX X.length X) (hlX : X.length ≤ 1000000) :
  Calls Tryz.prog 18 #[.agg #[.int .i64 n, .bool b, .slice A l.length c], .slice Ap p.length cp, .slice Aq q.length cq, .int .i64 h, .slice AX X.length cX] w (x2w n h b l p q X w) := by
 have HR := zh hr
 have HP := zh hp
 have HQ := zh hq
 have HXX := zh hX
 have HBG := zh hBG
 have HPO := zh hP
 have hn1 := hP.net.n1
 have hlp := hP.lp
 have hlq := hP.lq
 have hll := hP.net.ll
 have HW : Hid (∀ x, x ∈ l → Wf x.f0) := zh (fun x hx => by
  obtain ⟨i, hi, rfl⟩ := List.getElem_of_mem hx
  have h9 := (hP.net.ends i hi).1
  have h8 : z0i l i = l[i] := by
   unfold z0i j7
   rw [Int.toNat_natCast, List.getD_eq_getElem?_getD, List.getElem?_eq_getElem hi]
   rfl
  rw [h8] at h9
  exact z0o h9.1 (by omega))
 have hu := Tryz.underlying33
 have hu2 := Tryz.underlying59
 have hu3 := Tryz.underlying115
 clear hr hp hq hX hBG hP
 go_enter Tryz.func18, Tryz.ntmps18
 obtain ⟨w0, hw0⟩ : ∃ w0, w0 = w.alloc (.cells #[.int .i64 n, .bool b, .slice A l.length c] 33) := ⟨_, rfl⟩
 have HX0 : Hid (w0.heap[w.heap.size]? = some (.cells #[.int .i64 n, .bool b, .slice A l.length c] 33 (0, 0)) ∧ Below w.heap.size w w0) := zh (by rw [hw0]; exact ⟨heap_alloc_new _ _, y8 (Below.refl _ _) _⟩)
 go_wp2_with (first
  |(go_at_call 25; rw [← hw0]; (with_reducible refine (HBG.out _ ?s1).mono ?_); (case s1 => exact HX0.out.2); rintro e w1 ⟨hb, (⟨h9, _⟩ | ⟨_, gp, bh, br, rfl, hge, hPl⟩)⟩; (exact absurd rfl h9); have HM := zh (And.intro (j5 HX0.out.1 hb) (v6 HX0.out.2 hb)); have HPL := zh hPl; have x0 : w1.cell? ⟨w.heap.size, 0, none⟩ = some (.int .i64 n) := (y7 HM.out.1 0).trans rfl; clear hb hge hPl HX0)
  |(go_at_call 46; go_loud ((with_reducible refine (y5k n h AX cX X _ ?s1 ?s2 ?s3 ?s4).mono ?_); (case s1 => exact Kd.C_below HXX.out HM.out.2); (case s2 => exact hlX); (case s3 => omega); (case s4 => omega); rintro e w3 ⟨hb, (⟨rfl, hbad⟩ | ⟨b9, rfl, hset, hok⟩)⟩; all_goals (have HM3 := zh (And.intro (j5 HM.out.1 hb) (And.intro (v6 HM.out.2 hb) (HPL.out.below hb))); clear HM x0 hb; have x0 : w3.cell? ⟨w.heap.size, 0, none⟩ = some (.int .i64 n) := (y7 HM3.out.1 0).trans rfl))))
 ·go_ret2
  exact ⟨HM3.out.2.1, .inl ⟨rfl, hbad⟩⟩
 have HS := zh hset
 have HOK := zh hok
 clear hset hok HPL
 obtain ⟨D, hD⟩ : ∃ D, D = y0p X := ⟨_, rfl⟩
 rw [← hD] at HS
 have HD := zh hD
 clear hD
 go_loopg [45] (n + 1) (fun k iv W => ∃ v : Nat, v ≤ n ∧ iv = .int .i64 v ∧ k = n + 1 - v ∧ Hid (Below w3.heap.size w3 W ∧ ∀ v' : Nat, v' < v → d9 b p q v' = true → ∀ z : Nat, z < h → z3w D v' z = true → z3w D v' ((z : Int) + 1) = true))
 case atStart => exact ⟨0, Nat.zero_le _, rfl, rfl, zh ⟨Below.refl _ _, fun v' hv => absurd hv (Nat.not_lt_zero _)⟩⟩
 case round =>
  obtain ⟨v, hv, rfl, rfl, HL⟩ := hrel
  clear x0
  by_cases hlt : v < n
  ·have hlt2 : (v : Int) < (n : Int) := by omega
   cases hkb : d9 b p q v with
   |false =>
    have HKB := zh hkb
    clear hkb
    go_wp2_with (go_at_call 47; (with_reducible refine (z48 gp n b A l.length c Ap p.length cp Aq q.length cq bh br p.length q.length (z0a p) (z0a q) v _ ?s1 ?s2).mono ?_); (case s1 => exact HM3.out.2.2.below HL.out.1); (case s2 => exact z0o (by omega) (by omega)); rintro e w4 ⟨rfl, rfl⟩; rw [show (b || (z1a (z0a p) (v : Int) || z1a (z0a q) (v : Int))) = false from HKB.out])
    go_roundg (n - v)
    case measure => omega
    case rel => exact ⟨v + 1, by omega, by go_num, by omega, zh ⟨HL.out.1, fun v' hv' hk' => by
     rcases Nat.lt_or_eq_of_le (Nat.le_of_lt_succ hv') with g | rfl
     ·exact HL.out.2 v' g hk'
     ·rw [HKB.out] at hk'
      cases hk'⟩⟩
   |true =>
    have HKB := zh hkb
    clear hkb
    go_wp2_with (first
     |(go_at_call 47; (with_reducible refine (z48 gp n b A l.length c Ap p.length cp Aq q.length cq bh br p.length q.length (z0a p) (z0a q) v _ ?s1 ?s2).mono ?_); (case s1 => exact HM3.out.2.2.below HL.out.1); (case s2 => exact z0o (by omega) (by omega)); rintro e w4 ⟨rfl, rfl⟩; rw [show (b || (z1a (z0a p) (v : Int) || z1a (z0a q) (v : Int))) = true from HKB.out])
     |(go_at_call 48; go_loud ((with_reducible refine (y5q b9 X.length D v h _ ?s1 ?s2 ?s3).mono ?_); (case s1 => exact z0u HS.out HL.out.1); (case s2 => exact z0o (by omega) (by omega)); (case s3 => omega); rintro e w5 ⟨hb, (⟨rfl, hris⟩ | ⟨rfl, hris⟩)⟩; all_goals (have HB5 := zh (v6 HL.out.1 hb); have HRI := zh hris; clear hb hris))))
    ·go_roundg (n - v)
     case measure => omega
     case rel => exact ⟨v + 1, by omega, by go_num, by omega, zh ⟨HB5.out, fun v' hv' hk' => by
      rcases Nat.lt_or_eq_of_le (Nat.le_of_lt_succ hv') with g | rfl
      ·exact HL.out.2 v' g hk'
      ·exact HRI.out⟩⟩
    ·go_ret2
     obtain ⟨z, hz, hz1, hz2⟩ := HRI.out
     exact ⟨v6 HM3.out.2.1 HB5.out, .inr ⟨HOK.out, .inl ⟨rfl, v, z, hlt, HKB.out, hz, by rw [← HD.out]; exact hz1, by rw [← HD.out]; exact hz2⟩⟩⟩
  ·have e : v = n := by omega
   subst e
   have HKR := zh HL.out.2
   have HB := zh (And.intro HL.out.1 (v6 HM3.out.2.1 HL.out.1))
   clear HL
   have x0 : wr.cell? ⟨w.heap.size, 0, none⟩ = some (.int .i64 v) := (y7 (j5 HM3.out.1 HB.out.1) 0).trans rfl
   have x1 : wr.cell? ⟨w.heap.size, 1, none⟩ = some (.bool b) := (y7 (j5 HM3.out.1 HB.out.1) 1).trans rfl
   have x2 : wr.cell? ⟨w.heap.size, 2, none⟩ = some (.slice A l.length c) := (y7 (j5 HM3.out.1 HB.out.1) 2).trans rfl
   obtain ⟨T, hT⟩ : ∃ T, T = z4m (z0v q) (z3w D) h l := ⟨_, rfl⟩
   have hTb : 0 ≤ T ∧ T ≤ 11000000000000 := by
    have := z9z (use := z0v q) (H := z3w D) HPO.out.net hh HPO.out.caps l.length (Nat.le_refl _)
    unfold z4m at hT
    rw [← hT] at this
    omega
   have HT := zh hT
   clear hT
   go_wp2_with (go_at_call 49; go_loud ((with_reducible refine (y47 v h b A c l gp (z0v q) b9 X.length D _ ?s1 ?s2 ?s3 ?s4 ?s5 ?s6).mono ?_); (case s1 => exact HPO.out.net); (case s2 => exact HPO.out.caps); (case s3 => exact hh); (case s4 => exact z0u HS.out HB.out.1); (case s5 => exact Kd.C_below HR.out HB.out.2); (case s6 => exact (fun x W hx hb => (z9y gp v b A l.length c Ap p.length cp Aq q.length cq bh br p.length q.length (z0a p) (z0a q) x W ((HM3.out.2.2.below HB.out.1).below hb) (HW.out x hx)).mono (fun _ _ h9 => h9))); rintro e w6 ⟨rfl, hb⟩; rw [← HT.out]; have HB6 := zh (And.intro (v6 HB.out.1 hb) (v6 HB.out.2 hb)); clear HB x0 x1 x2 hb))
   go_loopg [17, 67] (p.length + 1) (fun k sv iv W => ∃ (i : Nat) (S : Int), i ≤ p.length ∧ sv = .int .i64 S ∧ iv = .int .i64 i ∧ k = p.length + 1 - i ∧ 0 ≤ S ∧ S ≤ 11000000000000 + (i : Int) * 1048576 ∧ Hid (S = T + gS (fun g => !z3w D g.f0 0) (p.take i) ∧ Below w3.heap.size w3 W ∧ Below w.heap.size w W))
   case atStart => exact ⟨0, T, Nat.zero_le _, rfl, rfl, rfl, hTb.1, by omega, zh ⟨by rw [List.take_zero, gS]; omega, HB6.out⟩⟩
   case round =>
    obtain ⟨i, S, hi, rfl, rfl, rfl, s0, s1, HL⟩ := hrel
    clear HB6
    by_cases hlt : i < p.length
    ·have i0 : (0 : Int) ≤ (i : Int) := by omega
     have i1 : (i : Int) < (p.length : Int) := by omega
     obtain ⟨ad, ea, y0, y1⟩ := z2y (Kd.C_below HP.out HL.out.2.2) (i : Int) i0 i1
     subst ea
     rw [Int.toNat_natCast] at y0 y1
     have hgt := z8n (fun g => !z3w D g.f0 0) hlt
     obtain ⟨G, hG⟩ : ∃ G, G = z0q p (i : Int) := ⟨_, rfl⟩
     have hgi := HPO.out.gp G (by rw [hG]; exact z2s hlt)
     rw [← hG] at y0 y1 hgt
     have g0 := hgi.1.1
     have g1 := hgi.1.2
     have g2 := hgi.2.1
     have g3 := hgi.2.2
     have HGT := zh hgt
     clear hG hgi hgt
     have e6 : IntKind.i64.wrap (S + G.f1) = S + G.f1 := IntWalk.i64_in _ (by omega)
     obtain ⟨R, hR⟩ : ∃ R, z3w D G.f0 0 = R := ⟨_, rfl⟩
     have HRR := zh hR
     clear hR
     have HH : Hid (∀ W, Below w3.heap.size w3 W → Calls Tryz.prog 51 #[.map (some b9), .int .i64 G.f0, .int .i64 0] W fun e w' => e = .returned (.bool R) ∧ Below W.heap.size W w') := zh (fun W hW => z19 b9 X.length D G.f0 0 R W (z0u HS.out hW) (z0o (by omega) (by omega)) (by decide) HRR.out.symm)
     cases R with
     |true =>
      go_wp2_with (go_at_call 51; refine (HH.out _ ?s1).mono ?_; (case s1 => exact y8 HL.out.2.1 _); rintro e w7 ⟨rfl, hb⟩; have HB7 := zh (And.intro (v6 (y8 HL.out.2.1 _) hb) (v6 (y8 HL.out.2.2 _) hb)); clear hb)
      go_roundg (p.length - i)
      case measure => omega
      case rel => exact ⟨i + 1, S, by omega, rfl, by go_num, by omega, s0, by omega, zh ⟨by rw [HGT.out, HL.out.1, HRR.out, if_neg (by decide)]; omega, HB7.out⟩⟩
     |false =>
      go_wp2_with (go_at_call 51; refine (HH.out _ ?s1).mono ?_; (case s1 => exact y8 HL.out.2.1 _); rintro e w7 ⟨rfl, hb⟩; have HB7 := zh (And.intro (v6 (y8 HL.out.2.1 _) hb) (v6 (y8 HL.out.2.2 _) hb)); have y1 : w7.cell? ⟨wr.heap.size, 1, none⟩ = some (.int .i64 G.f1) := (y7 (j5 (heap_alloc_new wr (.cells #[.int .i64 G.f0, .int .i64 G.f1] 59)) hb) 1).trans rfl; clear hb)
      go_roundg (p.length - i)
      case measure => omega
      case rel => exact ⟨i + 1, S + G.f1, by omega, rfl, by go_num, by omega, by omega, by omega, zh ⟨by rw [HGT.out, HL.out.1, HRR.out, if_pos (by decide)]; omega, HB7.out⟩⟩
    ·have e : i = p.length := by omega
     subst e
     have HT2 : Hid (S = T + gS (fun g => !z3w D g.f0 0) p) := zh (by have := HL.out.1; rwa [List.take_length] at this)
     have HB6 := zh HL.out.2
     clear HL
     go_wp2
     go_loopg [17, 83] (q.length + 1) (fun k sv iv W => ∃ (i : Nat) (s : Int), i ≤ q.length ∧ sv = .int .i64 s ∧ iv = .int .i64 i ∧ k = q.length + 1 - i ∧ 0 ≤ s ∧ s ≤ 12100000000000 + (i : Int) * 1048576 ∧ Hid (s = S + gS (fun g => z3w D g.f0 h) (q.take i) ∧ Below w3.heap.size w3 W ∧ Below w.heap.size w W))
     case atStart => exact ⟨0, S, Nat.zero_le _, rfl, rfl, rfl, s0, by omega, zh ⟨by rw [List.take_zero, gS]; omega, HB6.out⟩⟩
     case round =>
      obtain ⟨i, s, hi, rfl, rfl, rfl, s0, s1, HL⟩ := hrel
      clear HB6
      by_cases hlt : i < q.length
      ·have i0 : (0 : Int) ≤ (i : Int) := by omega
       have i1 : (i : Int) < (q.length : Int) := by omega
       obtain ⟨ad, ea, y0, y1⟩ := z2y (Kd.C_below HQ.out HL.out.2.2) (i : Int) i0 i1
       subst ea
       rw [Int.toNat_natCast] at y0 y1
       have hgt := z8n (fun g => z3w D g.f0 h) hlt
       obtain ⟨G, hG⟩ : ∃ G, G = z0q q (i : Int) := ⟨_, rfl⟩
       have hgi := HPO.out.gq G (by rw [hG]; exact z2s hlt)
       rw [← hG] at y0 y1 hgt
       have g0 := hgi.1.1
       have g1 := hgi.1.2
       have g2 := hgi.2.1
       have g3 := hgi.2.2
       have HGT := zh hgt
       clear hG hgi hgt
       have e6 : IntKind.i64.wrap (s + G.f1) = s + G.f1 := IntWalk.i64_in _ (by omega)
       obtain ⟨R, hR⟩ : ∃ R, z3w D G.f0 h = R := ⟨_, rfl⟩
       have HRR := zh hR
       clear hR
       have HH : Hid (∀ W, Below w3.heap.size w3 W → Calls Tryz.prog 51 #[.map (some b9), .int .i64 G.f0, .int .i64 h] W fun e w' => e = .returned (.bool R) ∧ Below W.heap.size W w') := zh (fun W hW => z19 b9 X.length D G.f0 h R W (z0u HS.out hW) (z0o (by omega) (by omega)) (z0o (by omega) (by omega)) HRR.out.symm)
       cases R with
       |false =>
        go_wp2_with (go_at_call 51; refine (HH.out _ ?s1).mono ?_; (case s1 => exact y8 HL.out.2.1 _); rintro e w7 ⟨rfl, hb⟩; have HB7 := zh (And.intro (v6 (y8 HL.out.2.1 _) hb) (v6 (y8 HL.out.2.2 _) hb)); clear hb)
        go_roundg (q.length - i)
        case measure => omega
        case rel => exact ⟨i + 1, s, by omega, rfl, by go_num, by omega, s0, by omega, zh ⟨by rw [HGT.out, HL.out.1, HRR.out, if_neg (by decide)]; omega, HB7.out⟩⟩
       |true =>
        go_wp2_with (go_at_call 51; refine (HH.out _ ?s1).mono ?_; (case s1 => exact y8 HL.out.2.1 _); rintro e w7 ⟨rfl, hb⟩; have HB7 := zh (And.intro (v6 (y8 HL.out.2.1 _) hb) (v6 (y8 HL.out.2.2 _) hb)); have y1 : w7.cell? ⟨wr.heap.size, 1, none⟩ = some (.int .i64 G.f1) := (y7 (j5 (heap_alloc_new wr (.cells #[.int .i64 G.f0, .int .i64 G.f1] 59)) hb) 1).trans rfl; clear hb)
        go_roundg (q.length - i)
        case measure => omega
        case rel => exact ⟨i + 1, s + G.f1, by omega, rfl, by go_num, by omega, by omega, by omega, zh ⟨by rw [HGT.out, HL.out.1, HRR.out, if_pos (by decide)]; omega, HB7.out⟩⟩
      ·have e : i = q.length := by omega
       subst e
       go_wp2
       go_ret2
       have h9 := HL.out.1
       rw [List.take_length, HT2.out, HT.out] at h9
       refine ⟨HL.out.2.2, .inr ⟨HOK.out, .inr ⟨?_, ?_⟩⟩⟩
       ·rw [← HD.out]
        unfold x1y
        rw [← h9]
        rfl
       ·rw [← HD.out]
        exact HKR.out
end Go.Proofs.YtcgdloldkcmhnaaGreat.H
end
section
namespace Go.Proofs.YtcgdloldkcmhnaaGreat.H
open Go Go.RowKit Go.Proofs.YtcgdloldkcmhnaaGreat.PrintC Go.Proofs.YtcgdloldkcmhnaaGreat.PrintE
set_option linter.unusedVariables false
def WfM (x : Mv) : Prop := Wf x.f0 ∧ Wf x.f1
def z3n (l : List Mv) (i : Nat) (x : Mv) : List Int := ((List.range i).filter fun k => z03 x (z1q l k)).map fun k : Nat => (k : Int)
theorem z4z (l : List Mv) (i : Nat) (x : Mv) : z3n l (i + 1) x = z3n l i x ++ (if z03 x (z1q l i) = true then [(i : Int)] else []) := by
 unfold z3n
 rw [List.range_succ, List.filter_append, List.map_append]
 congr 1
 by_cases e : z03 x (z1q l i) = true <;> simp [e]
theorem y0g {l : List Mv} {i : Nat} {x : Mv} {k : Int} (h : k ∈ z3n l i x) : ∃ t : Nat, t < i ∧ k = t ∧ z03 x (z1q l t) = true := by
 unfold z3n at h
 obtain ⟨t, ht, rfl⟩ := List.mem_map.1 h
 obtain ⟨h1, h2⟩ := List.mem_filter.1 ht
 exact ⟨t, List.mem_range.1 h1, rfl, h2⟩
theorem y4v (l : List Mv) (i : Nat) (x : Mv) : (z3n l i x).length ≤ i := by
 unfold z3n
 rw [List.length_map]
 exact Nat.le_trans (List.length_filter_le _ _) (by rw [List.length_range]; exact Nat.le_refl _)
theorem y1n {l : List Mv} (x : Mv) : ∀ {i : Nat}, i ≤ l.length → (z3n l i x).map (fun k => (z1q l k.toNat).f2) = ((l.take i).filter (z03 x)).map (·.f2)
 |0, _ => by simp [z3n]
 |i + 1, h => by
  rw [z4z, z1f (by omega), List.map_append, List.filter_append, List.map_append, y1n x (by omega)]
  congr 1
  by_cases e : z03 x (z1q l i) = true
  ·rw [if_pos e, List.filter_cons_of_pos e]
   rfl
  ·rw [if_neg e, List.filter_cons_of_neg e]
   rfl
structure GaI (l : List Mv) (i : Nat) (hs : List Mv) (D : DataW Unit) : Prop where
 dst : hs.Pairwise (fun a b => z03 a b = false)
 mem : ∀ x, x ∈ hs → ∃ k, k < i ∧ x = z1q l k
 all : ∀ k, k < i → ∃ y, y ∈ hs ∧ z03 y (z1q l k) = true
 isM : Maps.IsMap D
 has : ∀ x : Mv, WfM x → Maps.has D (z0r x.f0 x.f1) = hs.any (fun y => z03 y x)
 atK : ∀ (j : Nat) (y : Mv), hs[j]? = some y → D.atKey (z0r y.f0 y.f1) (.lit (.int .i64 0)) = .lit (.int .i64 j)
theorem GaI.zero (l : List Mv) : GaI l 0 [] (.map []) := ⟨List.Pairwise.nil, fun _ h => (nomatch h), fun _ h => absurd h (Nat.not_lt_zero _), ⟨_, rfl⟩, fun x _ => rfl, fun j y h => by simp at h⟩
theorem z6r (x : Mv) : z03 x x = true := z0n.2 ⟨rfl, rfl⟩
theorem z30 {a b c : Mv} (h : z03 a b = true) (k : z03 b c = true) : z03 a c = true := by
 rw [z0n] at *
 exact ⟨h.1.trans k.1, h.2.trans k.2⟩
section
variable {l hs : List Mv} {i : Nat} {D : DataW Unit}
theorem GaI.other (h : GaI l i hs D) {j t : Nat} {y z x : Mv} (hj : hs[j]? = some y) (ht : hs[t]? = some z) (hy : z03 y x = true) (hz : z03 z x = true) : t = j := by
 have h1 := List.pairwise_iff_getElem.1 h.dst
 obtain ⟨p1, p2⟩ := List.getElem?_eq_some_iff.1 hj
 obtain ⟨q1, q2⟩ := List.getElem?_eq_some_iff.1 ht
 rcases Nat.lt_trichotomy t j with c | c | c
 ·have := h1 t j q1 p1 c
  rw [q2, p2, z30 hz (z2n hy)] at this
  cases this
 ·exact c
 ·have := h1 j t p1 q1 c
  rw [q2, p2, z30 hy (z2n hz)] at this
  cases this
theorem GaI.had (h : GaI l i hs D) {j : Nat} {y : Mv} (hj : hs[j]? = some y) (hy : z03 y (z1q l i) = true) :
  GaI l (i + 1) hs D ∧ (hs.map (z3n l i)).set j (z3n l i y ++ [(i : Int)]) = hs.map (z3n l (i + 1)) := by
 refine ⟨⟨h.dst, fun x hx => ?_, fun k hk => ?_, h.isM, h.has, h.atK⟩, ?_⟩
 ·obtain ⟨k, hk, e⟩ := h.mem x hx
  exact ⟨k, by omega, e⟩
 ·by_cases e : k = i
  ·rw [e]
   exact ⟨y, List.mem_of_getElem? hj, hy⟩
  ·exact h.all k (by omega)
 ·refine List.ext_getElem? fun t => ?_
  by_cases e : j = t
  ·subst e
   have hl : j < (hs.map (z3n l i)).length := by rw [List.length_map]; exact (List.getElem?_eq_some_iff.1 hj).1
   rw [List.getElem?_set_self hl, List.getElem?_map, hj, Option.map_some, z4z, if_pos hy]
  ·rw [List.getElem?_set_ne e, List.getElem?_map, List.getElem?_map]
   cases ht : hs[t]? with
   |none => rfl
   |some z =>
    rw [Option.map_some, Option.map_some, z4z]
    by_cases hz : z03 z (z1q l i) = true
    ·exact absurd (h.other hj ht hy hz).symm e
    ·rw [if_neg hz, List.append_nil]
theorem GaI.put (h : GaI l i hs D) (hx : WfM (z1q l i)) (hw : ∀ y, y ∈ hs → WfM y) (hn : hs.any (fun y => z03 y (z1q l i)) = false) :
  GaI l (i + 1) (hs ++ [z1q l i]) (D.put (z0r (z1q l i).f0 (z1q l i).f1) (.lit (.int .i64 (hs.length : Int)))) ∧ (hs.map (z3n l i) ++ [[]]).set hs.length ([] ++ [(i : Int)]) = (hs ++ [z1q l i]).map (z3n l (i + 1)) := by
 have hn' : ∀ y, y ∈ hs → z03 y (z1q l i) = false := fun y hy => by
  have := List.any_eq_false.1 hn y hy
  simpa using this
 have hk : ∀ y : Mv, WfM y → z03 y (z1q l i) = false → z0r y.f0 y.f1 ≠ z0r (z1q l i).f0 (z1q l i).f1 := fun y wy e1 e2 => by
  obtain ⟨a, b⟩ := z5p wy.1 wy.2 hx.1 hx.2 e2
  rw [z0n.2 ⟨a, b⟩] at e1
  cases e1
 have hkl := z4p.key (z2b (z1q l i).f0 (z1q l i).f1 hx.1 hx.2)
 refine ⟨⟨?_, ?_, ?_, ?_, ?_, ?_⟩, ?_⟩
 ·exact List.pairwise_append.2 ⟨h.dst, List.pairwise_singleton _ _, fun a ha b hb => by rw [List.mem_singleton.1 hb]; exact hn' a ha⟩
 ·intro x hx
  rcases List.mem_append.1 hx with hx | hx
  ·obtain ⟨k, hk, e⟩ := h.mem x hx
   exact ⟨k, by omega, e⟩
  ·exact ⟨i, by omega, List.mem_singleton.1 hx⟩
 ·intro k hk
  by_cases e : k = i
  ·rw [e]
   exact ⟨_, List.mem_append_right _ (List.mem_singleton.2 rfl), z6r _⟩
  ·obtain ⟨y, hy, e2⟩ := h.all k (by omega)
   exact ⟨y, List.mem_append_left _ hy, e2⟩
 ·obtain ⟨es, rfl⟩ := h.isM
  exact ⟨_, rfl⟩
 ·intro x wx
  rw [List.any_append]
  by_cases e : z03 (z1q l i) x = true
  ·obtain ⟨a, b⟩ := z0n.1 e
   rw [← a, ← b, Maps.has_put_same h.isM hkl]
   simp [z0n, a, b]
  ·have e' : z03 (z1q l i) x = false := by simpa using e
   rw [Maps.has_put_other (hk x wx (by cases c : z03 x (z1q l i) with
    |false => rfl
    |true => exact absurd (z2n c) e)), h.has x wx]
   simp [e']
 ·intro j y hj
  by_cases e : j < hs.length
  ·rw [List.getElem?_append_left e] at hj
   have hy := List.mem_of_getElem? hj
   rw [Maps.atKey_put_other (hk y (hw y hy) (hn' y hy))]
   exact h.atK j y hj
  ·rw [List.getElem?_append_right (by omega)] at hj
   have e2 : j - hs.length = 0 := by
    rcases Nat.eq_zero_or_pos (j - hs.length) with c | c
    ·exact c
    ·rw [List.getElem?_eq_none (by rw [List.length_singleton]; omega)] at hj
     cases hj
   rw [e2] at hj
   have e3 : z1q l i = y := by simpa using hj
   rw [← e3, Maps.atKey_put_same h.isM hkl, show j = hs.length by omega]
 ·have hz : z3n l i (z1q l i) = [] := by
   rw [List.eq_nil_iff_forall_not_mem]
   intro k hk
   obtain ⟨t, ht, -, e⟩ := y0g hk
   obtain ⟨y, hy, e2⟩ := h.all t ht
   have := hn' y hy
   rw [z30 e2 (z2n e)] at this
   cases this
  have e1 : (hs.map (z3n l i) ++ [[]]).set hs.length ([] ++ [(i : Int)]) = hs.map (z3n l i) ++ [[(i : Int)]] := by
   rw [List.set_append_right _ _ (by rw [List.length_map]; exact Nat.le_refl _), List.length_map, Nat.sub_self]
   rfl
  rw [e1, List.map_append]
  congr 1
  ·refine List.map_congr_left fun y hy => ?_
   rw [z4z, if_neg (by rw [hn' y hy]; decide), List.append_nil]
  ·show [[(i : Int)]] = [z3n l (i + 1) (z1q l i)]
   rw [z4z, hz, if_pos (z6r _)]
   rfl
end
def mOf (l : List Mv) (x : Mv) : Mv := ⟨x.f0, x.f1, amt l x⟩
def y0a (l hs : List Mv) : List Mv := (hs.map (mOf l)).filter fun x => decide (x.f2 ≠ 0)
theorem z6g (l hs : List Mv) (x : Mv) : y0a l (hs ++ [x]) = y0a l hs ++ (if amt l x ≠ 0 then [mOf l x] else []) := by
 unfold y0a
 rw [List.map_append, List.filter_append]
 congr 1
 by_cases e : amt l x ≠ 0
 ·rw [if_pos e]
  exact List.filter_cons_of_pos (decide_eq_true e)
 ·rw [if_neg e]
  exact List.filter_cons_of_neg (by rw [decide_eq_true_eq]; exact e)
theorem z99 (l hs : List Mv) : (y0a l hs).length ≤ hs.length := by
 unfold y0a
 exact Nat.le_trans (List.length_filter_le _ _) (by rw [List.length_map]; exact Nat.le_refl _)
theorem y8b {l hs ys : List Mv} {D : DataW Unit} (h : GaI l l.length hs D) (hf : ∀ x, x ∈ hs → z7b (amt l x) = true) (hp : ys.Perm (y0a l hs)) (hs' : ys.Pairwise (fun a b => ¬ mlt b a)) : z82 l ys := by
 have hd : ys.Pairwise (fun a b => z03 a b = false) := by
  refine (List.Perm.pairwise_iff (fun {a b} e => ?_) hp).2 ?_
  ·cases c : z03 b a with
   |false => rfl
   |true =>
    rw [z2n c] at e
    cases e
  ·unfold y0a
   refine List.Pairwise.filter _ ?_
   rw [List.pairwise_map]
   exact h.dst
 refine ⟨?_, ?_, ?_⟩
 ·refine List.Pairwise.imp ?_ (hs'.and hd)
  intro a b hab
  exact x3c hab.1 hab.2
 ·intro y hy
  have h1 := hp.mem_iff.1 hy
  unfold y0a at h1
  obtain ⟨h2, h3⟩ := List.mem_filter.1 h1
  obtain ⟨x, hx, rfl⟩ := List.mem_map.1 h2
  have e : z03 x (mOf l x) = true := z0n.2 ⟨rfl, rfl⟩
  obtain ⟨k, hk, ek⟩ := h.mem x hx
  refine ⟨(z5d e), of_decide_eq_true h3, x, ?_, e⟩
  rw [ek]
  exact z5w (Nat.le_refl _) hk
 ·intro x hx
  obtain ⟨k, hk, rfl⟩ := z33 (Nat.le_refl _) hx
  obtain ⟨y, hy, e⟩ := h.all k hk
  rw [← z5d e]
  refine ⟨hf y hy, fun h0 => ⟨mOf l y, ?_, z0n.2 ⟨(z0n.1 e).1.symm, (z0n.1 e).2.symm⟩⟩⟩
  rw [hp.mem_iff]
  exact List.mem_filter.2 ⟨List.mem_map.2 ⟨y, hy, rfl⟩, decide_eq_true h0⟩
end Go.Proofs.YtcgdloldkcmhnaaGreat.H
end
section
namespace Go.Proofs.YtcgdloldkcmhnaaGreat.H
open Go Go.RowKit Go.Proofs.YtcgdloldkcmhnaaGreat.PrintC Go.Proofs.YtcgdloldkcmhnaaGreat.PrintE Go.Proofs.YtcgdloldkcmhnaaGreatW.PrintWords Go.Proofs.YtcgdloldkcmhnaaGreatW.PrintLast Go.Proofs.YtcgdloldkcmhnaaGreatW.PrintMore
set_option linter.unusedVariables false
set_option linter.unusedSimpArgs false
theorem y70 : (132 : TypeId) < Tryz.prog.types.size := of_decide_eq_true (by kernel_rfl)
theorem x0s : (match Tryz.prog.underlying 132 with | some (.array _ _) | some (.struct _) => true | _ => false) = true := by rw [Tryz.underlying132]
theorem y22 : Tryz.prog.keyTypeAt 2 132 = true := by kernel_rfl
theorem y21 : Maps.Keyed Tryz.prog 132 := Maps.Keyed.of_law (deep_law_laid y37 (m := 2) (by omega) y70 y22 x0s)
theorem y71 (a b : Int) (ha : (Lit.int .i64 a).wf = true) (hb : (Lit.int .i64 b).wf = true) : keyOf Tryz.prog 132 (.agg #[.int .i64 a, .int .i64 b]) = some (z0r a b) := by
 have h1 : Tryz.prog.keyType 132 = true := by kernel_rfl
 have h2 : (Value.agg #[.int .i64 a, .int .i64 b]).formed Tryz.prog 132 = true := by
  simp [Value.formed, Tryz.underlying132, show Tryz.prog.cellsOf 132 = 2 by kernel_rfl]
 unfold keyOf
 rw [Tryz.underlying132]
 simp only [h1, h2, Bool.and_self, if_true, Value.cells]
 obtain ⟨m, hm⟩ : ∃ m, Tryz.prog.types.size = m + 1 := Nat.exists_eq_succ_of_ne_zero (Nat.ne_of_gt (Nat.lt_of_le_of_lt (Nat.zero_le _) y70))
 rw [hm]
 have e1 : ∀ x : Int, (Lit.int .i64 x).wf = true → Tryz.prog.keyLits (m + 1) 3 [.int .i64 x] = some [.int .i64 x] := fun x hx => by
  simp [Program.keyLits, Tryz.underlying3, hx]
 have e2 : Tryz.prog.keyLits (m + 1 + 1) 132 [.int .i64 a, .int .i64 b] = some [.int .i64 a, .int .i64 b] := by
  unfold Program.keyLits
  simp [Tryz.underlying132, show Tryz.prog.cellsOf 132 = 2 by kernel_rfl, show Tryz.prog.cellsOf 3 = 1 by kernel_rfl]
  refine ⟨[[.int .i64 a], [.int .i64 b]], ?_, rfl⟩
  rw [show List.range 2 = [0, 1] from rfl]
  simp [e1 a ha, e1 b hb]
 have e3 : (#[Value.int .i64 a, Value.int .i64 b].flatMap Value.cells).toList = [.int .i64 a, .int .i64 b] := by simp [Value.cells]
 simp [e2, z0r]
theorem y4m (x : Mv) (w : World) : Calls Tryz.prog 71 #[.agg #[.int .i64 x.f0, .int .i64 x.f1, .int .i64 x.f2]] w fun e w' => e = .returned (.agg #[.int .i64 x.f0, .int .i64 x.f1]) ∧ Below w.heap.size w w' := by
 have hu := Tryz.underlying132
 go_enter Tryz.func71, Tryz.ntmps71
 go_wp2
 refine bodyPost_ret (results_cell_row rfl _ _ (w.heap.size + 1) 132 #[.int .i64 x.f0, .int .i64 x.f1] (0, 0) _ rfl (z01 (by simp)) hu rfl (by kernel_rfl)) rfl ?_
 exact ⟨rfl, y8 (y8 (Below.refl _ _) _) _⟩
theorem x0w (x : Mv) (w : World) : Calls Tryz.prog 73 #[.agg #[.int .i64 x.f0, .int .i64 x.f1, .int .i64 x.f2]] w fun e w' => e = .returned (.int .i64 x.f2) ∧ Below w.heap.size w w' := by
 go_enter Tryz.func73, Tryz.ntmps73
 go_wp2
 go_ret
 exact ⟨rfl, y8 (Below.refl _ _) _⟩
structure GtI (w0 : World) (mb kn : Nat) (D : DataW Unit) (Ao : Option Addr) (co : Nat) (rows : List (List Int)) (W : World) : Prop where
 tab : Kd.S z2q 68 W w0.heap.size (fun _ => True) (.slice Ao rows.length co) rows
 mp : z2k W 132 mb kn D
 mbl : w0.heap.size ≤ mb
 low : Below w0.heap.size w0 W
section
variable {w0 : World} {mb kn : Nat} {D : DataW Unit} {Ao : Option Addr} {co : Nat} {rows : List (List Int)} {W W1 : World}
theorem GtI.below (h : GtI w0 mb kn D Ao co rows W) (hb : Below W.heap.size W W1) : GtI w0 mb kn D Ao co rows W1 :=
 ⟨Kd.S_below h.tab hb, z0z h.mp (hb.block _ h.mp.lt), h.mbl, v6 h.low hb⟩
theorem GtI.put {kl : Lit} {d : DataW Unit} (h : GtI w0 mb kn D Ao co rows W) (ho : z2k W1 132 mb (kn + 1) (D.put kl d)) (hg : W.grownBy W1 (some mb)) : GtI w0 mb (kn + 1) (D.put kl d) Ao co rows W1 := by
 have hne : ∀ {g : Nat}, g ≠ mb → g < W.heap.size → W1.heap[g]? = W.heap[g]? := fun {g} hn hlt => hg.block g hlt (fun e => hn (by injection e))
 refine ⟨?_, ho, h.mbl, ?_⟩
 ·refine Kd.S_mono (Kd.S_step (Kd.S_bound h.tab) (fun k hk hlt => hne ?_ hlt)) (fun _ _ => trivial)
  obtain ⟨-, -, -, q, -, cs, hcs⟩ := hk
  exact fun e => z0l h.mp hcs e.symm
 ·have h9 := h.mbl
  exact ⟨hg.os.trans h.low.os, hg.tape.trans h.low.tape, hg.output.trans h.low.output, Nat.le_trans h.low.size hg.size, fun k hlt => (hne (by omega) (by have := h.low.size; omega)).trans (h.low.block k hlt)⟩
theorem GtI.more {v1 : Value} (h : GtI w0 mb kn D Ao co rows W) (h1 : Below W.heap.size W W1) {w1 : World} (hs : Kd.S z2q 68 w1 w0.heap.size (fun _ => True) v1 (rows ++ [[]])) (hb : Below w0.heap.size w0 w1) (hg : W1.grownBy w1 (Value.slice Ao rows.length co).ownBlock) :
  ∃ A1 c1, v1 = .slice A1 (rows.length + 1) c1 ∧ GtI w0 mb kn D A1 c1 (rows ++ [[]]) w1 := by
 obtain ⟨A1, c1, rfl⟩ := Kd.R_slice (Kd.S_R hs)
 have hl : (rows ++ [([] : List Int)]).length = rows.length + 1 := by simp
 have h2 := h.below h1
 have hm : z2k w1 132 mb kn D := h2.mp.kept hg (fun e => by
  obtain ⟨cs, hcs⟩ := Kd.R_typed (Kd.S_R h2.tab) mb e.symm
  exact z0l h2.mp hcs rfl)
 exact ⟨A1, c1, by rw [hl], hs, hm, h.mbl, hb⟩
structure GtO (w0 : World) (g i : Nat) (co : Nat) (rows : List (List Int)) (row : List Int) (W : World) (A : Option Addr) (c : Nat) (oki : Nat → Prop) : Prop where
 at_ : W.cell? ⟨g, i, none⟩ = some (.slice A row.length c)
 free : W.frozen? ⟨g, i, none⟩ = false
 cont : Kd.R (Kd.int .i64) 3 W w0.heap.size oki (.slice A row.length c) row
 rest : Kd.H z2q 68 W w0.heap.size (fun _ => True) (.slice (some ⟨g, 0, none⟩) rows.length co) rows i oki [.slice A row.length c]
theorem GtI.form (h : GtI w0 mb kn D Ao co rows W) (hp : 0 < rows.length) : ∃ g, Ao = some ⟨g, 0, none⟩ := by
 obtain ⟨g, cap, e, _⟩ := Kd.S_form h.tab hp
 injection e with e1
 exact ⟨g, e1⟩
theorem GtI.open_ {g : Nat} (h : GtI w0 mb kn D (some ⟨g, 0, none⟩) co rows W) {i : Nat} {row : List Int} (hr : rows[i]? = some row) : ∃ A c oki, GtO w0 g i co rows row W A c oki := by
 have hi : i < rows.length := (List.getElem?_eq_some_iff.1 hr).1
 obtain ⟨oki, ce, hl, hM, hcc, hfr, hok, hH⟩ := Kd.S_elem h.tab [] (i : Int) (by omega) (by omega)
 obtain ⟨v, rfl, hR⟩ := hM
 have hv := hcc 0 _ rfl
 have hf := hfr 0
 simp only [Nat.add_zero, Int.toNat_natCast, show z2q.sz = 1 from rfl, Nat.mul_one] at hv hf hR hH
 rw [List.getD_eq_getElem?_getD, hr] at hR
 obtain ⟨A, c, rfl⟩ := Kd.R_slice hR
 exact ⟨A, c, oki, hv, hf, hR, hH⟩
theorem GtO.moved {g i : Nat} {row : List Int} {A : Option Addr} {c : Nat} {oki : Nat → Prop} (h : GtO w0 g i co rows row W A c oki) (hb : Below W.heap.size W W1) : GtO w0 g i co rows row W1 A c oki :=
 ⟨j6 hb h.at_, by
  have hl := World.block_lt_of_cell? W _ h.at_
  have := h.free
  simp only [World.frozen?] at this ⊢
  rw [hb.block g hl]
  exact this, Kd.R_below h.cont hb, Kd.H_below h.rest hb⟩
theorem GtO.spot {g i : Nat} {row : List Int} {A : Option Addr} {c : Nat} {oki : Nat → Prop} {w1 : World} (h : GtO w0 g i co rows row W A c oki) (hi : i < rows.length) (hg : W.grownBy w1 (Value.slice A row.length c).ownBlock) :
  w1.cell? ⟨g, i, none⟩ = some (.slice A row.length c) ∧ w1.frozen? ⟨g, i, none⟩ = false := by
 have hH := Kd.H_grown (Kd.H_widen h.rest) hg (fun k e => .inl (h.cont.1 k e))
 obtain ⟨_, _, hraw, _, _, hcc, _⟩ := Kd.H_raw hH (by omega : (0 : Int) ≤ (i : Int)) (by omega)
 obtain ⟨cs, hcs⟩ := Kd.R_typed hraw g (by simp [Value.ownBlock])
 refine ⟨?_, j3 hcs i⟩
 have := hcc 0 _ rfl
 rw [show z2q.sz = 1 from rfl, Nat.mul_one, Nat.add_zero, Int.toNat_natCast] at this
 exact this
theorem GtI.close {g i : Nat} {row x' : List Int} {A : Option Addr} {c : Nat} {oki : Nat → Prop} {v1 : Value} {w1 : World} (h : GtI w0 mb kn D (some ⟨g, 0, none⟩) co rows W) (hi : i < rows.length) (ho : GtO w0 g i co rows row W A c oki) (hg : W.grownBy w1 (Value.slice A row.length c).ownBlock) (hb : Below w0.heap.size w0 w1)
  (hR : Kd.R (Kd.int .i64) 3 w1 w0.heap.size (fun k => oki k ∨ True ∧ W.heap.size ≤ k) v1 x') : GtI w0 mb kn D (some ⟨g, 0, none⟩) co (rows.set i x') (w1.setCell ⟨g, i, none⟩ v1) := by
 have hH := Kd.H_grown (Kd.H_widen ho.rest) hg (fun k e => .inl (ho.cont.1 k e))
 have h0 : (0 : Int) ≤ (i : Int) := by omega
 have h1 : (i : Int) < (rows.length : Int) := by omega
 obtain ⟨_, _, hraw, _, _, hcc, _⟩ := Kd.H_raw hH h0 h1
 have hS := Kd.S_seg0 hH h0 h1 (seg := [v1]) (j := 0) (show 1 ≤ 1 from by decide) (x' := x') (Kd.M_row hR) (fun _ hk => hk)
 have e1 : w1.setCells g ((i : Int).toNat * z2q.sz + 0) [v1] = w1.setCell ⟨g, i, none⟩ v1 := by
  rw [show z2q.sz = 1 from rfl, Nat.mul_one, Nat.add_zero, Int.toNat_natCast]
  rfl
 rw [e1, Int.toNat_natCast] at hS
 have hgl : w0.heap.size ≤ g := Kd.S_base h.tab g (by simp [Value.ownBlock])
 have m1 : z2k w1 132 mb kn D := h.mp.kept hg (fun e => by
  obtain ⟨cs, hcs⟩ := Kd.R_typed ho.cont mb e.symm
  exact z0l h.mp hcs rfl)
 have m2 : z2k (w1.setCell ⟨g, i, none⟩ v1) 132 mb kn D := m1.kept hS.2 (fun e => by
  obtain ⟨cs, hcs⟩ := Kd.R_typed hraw g (by simp [Value.ownBlock])
  injection e with e
  exact z0l m1 hcs e)
 have hl : (rows.set i x').length = rows.length := List.length_set ..
 exact ⟨by rw [hl]; exact hS.1, m2, h.mbl, q5 hb hgl⟩
end
theorem y8t : (Tryz.prog.info? 68).map (fun i => (i.zero, i.size, i.bytes)) = some (some (.slice none 0 0), 1, 24) := by kernel_rfl
theorem x1g (w : World) : GtI w (w.heap.size + 1) 0 (.map []) (some ⟨w.heap.size, 0, none⟩) 0 [] ((w.alloc (.cells #[] 68)).alloc (.map #[] 0)) := by
 refine ⟨?_, ?_, by omega, y8 (y8 (Below.refl _ _) _) _⟩
 ·have h1 : (w.alloc (.cells #[] 68)).heap[w.heap.size]? = some (.cells #[] 68 (0, 0)) := heap_alloc_new _ _
  exact Kd.S_below (Kd.S_bare ⟨fun _ _ => trivial, [], ⟨rfl, .inr ⟨w.heap.size, 0, #[], rfl, Nat.le_refl _, h1, Nat.le_refl _, by decide, rfl, rfl⟩⟩, ⟨rfl, fun j p hj => by simp at hj⟩⟩) (y8 (Below.refl _ _) _)
 ·have := World.ownsMap_made (H := Unit) (w.alloc (.cells #[] 68)) Tryz.prog 132 (plainElem Tryz.prog 3)
  rw [z0k] at this
  exact this
def z9b (l hs : List Mv) : List (List Int) := hs.map (z3n l l.length)
def x2u (l : List Mv) (w : World) (e : Ending) (w' : World) : Prop := Below w.heap.size w w' ∧ ∃ (hs : List Mv) (D : DataW Unit) (A1 : Option Addr) (c1 : Nat), e = .returned (.slice A1 hs.length c1) ∧ Kd.S z2q 68 w' w.heap.size (fun _ => True) (.slice A1 hs.length c1) (z9b l hs) ∧ GaI l l.length hs D ∧ hs.length ≤ l.length
theorem y3d (A : Option Addr) (c : Nat) (l : List Mv) (w : World) (hr : Kd.C kMv w A l.length l) (hw : ∀ x, x ∈ l → WfM x) (hl : l.length ≤ 100000) :
  Calls Tryz.prog 70 #[.slice A l.length c, .func (.func 71) #[] #[]] w (x2u l w) := by
 have HR := zh hr
 have HW := zh hw
 have hu := Tryz.underlying76
 have hu2 := Tryz.underlying132
 have hmm := @run_makeMap Tryz.prog
 clear hr hw
 go_enter Tryz.func70, Tryz.ntmps70
 go_wp2
 have HX := zh (x1g w)
 generalize (w.alloc (.cells #[] 68)).alloc (.map #[] 0) = ws at HX ⊢
 go_loopg [5, 16] (l.length + 1) (fun k ov iv W => ∃ (i : Nat) (hs : List Mv) (D : DataW Unit) (kn : Nat) (Ao : Option Addr) (co : Nat), i ≤ l.length ∧ ov = .slice Ao hs.length co ∧ iv = .int .i64 i ∧ k = l.length + 1 - i ∧ Hid (GtI w (w.heap.size + 1) kn D Ao co (hs.map (z3n l i)) W ∧ GaI l i hs D ∧ hs.length ≤ i ∧ kn ≤ i))
 case atStart => exact ⟨0, [], .map [], 0, _, _, Nat.zero_le _, rfl, rfl, rfl, zh ⟨HX.out, GaI.zero l, Nat.le_refl _, Nat.le_refl _⟩⟩
 case round =>
  obtain ⟨i, hs, D, kn, Ao, co, hi, rfl, rfl, rfl, HL⟩ := hrel
  clear HX hmm
  by_cases hlt : i < l.length
  ·have i0 : (0 : Int) ≤ (i : Int) := by omega
   have i1 : (i : Int) < (l.length : Int) := by omega
   obtain ⟨ad, ea, y0, y1, y2⟩ := z4j (Kd.C_below HR.out HL.out.1.low) (i : Int) i0 i1
   subst ea
   obtain ⟨X, hX⟩ : ∃ X, X = z1q l i := ⟨_, rfl⟩
   have hX2 : z3h l (i : Int) = X := by rw [hX]; rfl
   rw [Int.toNat_natCast, hX2] at y0 y1 y2
   have HXE := zh hX
   have HXW : Hid (WfM X) := zh (HW.out X (by rw [hX]; exact z2z hlt))
   have HKO := zh (y71 X.f0 X.f1 HXW.out.1 HXW.out.2)
   have HLN := zh (And.intro hl (And.intro HL.out.2.2.1 HL.out.2.2.2))
   clear hX hX2
   cases hn : hs.any (fun y => z03 y X) with
   |true =>
    obtain ⟨y, hy, hyx⟩ := List.any_eq_true.1 hn
    obtain ⟨j, hj⟩ := List.getElem?_of_mem hy
    have hjl : j < hs.length := (List.getElem?_eq_some_iff.1 hj).1
    have HY := zh (And.intro hj (And.intro hyx hn))
    have HHS : Hid (Maps.has D (z0r X.f0 X.f1) = true) := zh (by rw [HL.out.2.1.has X HXW.out, hn])
    have HAT : Hid (D.atKey (z0r X.f0 X.f1) (.lit (.int .i64 0)) = .lit (.int .i64 j)) := zh (by
     have := HL.out.2.1.atK j y hj
     rw [(z0n.1 hyx).1, (z0n.1 hyx).2] at this
     exact this)
    clear hy hyx hj hn
    have j0 : (0 : Int) ≤ (j : Int) := by omega
    have j1 : (j : Int) < (hs.length : Int) := by omega
    have hjm : j < (hs.map (z3n l i)).length := by rw [List.length_map]; exact hjl
    obtain ⟨g, rfl⟩ := HL.out.1.form (Nat.lt_of_le_of_lt (Nat.zero_le _) hjm)
    have HJM := zh hjm
    obtain ⟨row, hrow⟩ : ∃ row, row = z3n l i y := ⟨_, rfl⟩
    have HROW : Hid (row = z3n l i y ∧ (hs.map (z3n l i))[j]? = some row ∧ row.length ≤ i) := zh ⟨hrow, by rw [List.getElem?_map, HY.out.1, hrow]; rfl, by rw [hrow]; exact y4v l i y⟩
    obtain ⟨Ar, cr, oki, hop⟩ := HL.out.1.open_ HROW.out.2.1
    have HOP := zh hop
    clear hop hrow hjm
    have HLE : Hid ((row.length + 1) * 8 ≤ 140737488355328) := zh (by have := HROW.out.2.2; have := HLN.out.1; omega)
    go_wp2_with (first
     |(go_at_call 71; (with_reducible refine (y4m X _).mono ?_); rintro e w1 ⟨rfl, hb⟩; have HI1 := zh ((HL.out.1.below (y8 (Below.refl _ _) (.cells #[.int .i64 X.f0, .int .i64 X.f1, .int .i64 X.f2] 76))).below hb); have HOP1 := zh ((HOP.out.moved (y8 (Below.refl _ _) (.cells #[.int .i64 X.f0, .int .i64 X.f1, .int .i64 X.f2] 76))).moved hb); clear hb)
     |(at_lookup; refine wpList_lookup_own_ok_int _ rfl _ _ 154 rfl 132 3 .i64 y21 Tryz.underlying154 Tryz.underlying3 (Tryz.zeroValue3 _) (w.heap.size + 1) kn D rfl (HI1.out.below (y8 (Below.refl _ _) _)).mp (.agg #[.int .i64 X.f0, .int .i64 X.f1]) (z0r X.f0 X.f1) (by first | rfl | simp) HKO.out ?_; intro cc hcc hwc; rw [HHS.out]; obtain rfl : cc = (j : Int) := (by have h9 := hcc; rw [HAT.out] at h9; injection h9 with h9; injection h9 with _ h9; exact h9.symm); have HI2 := zh (HI1.out.below (y8 (Below.refl _ _) (.cells #[.int .i64 X.f0, .int .i64 X.f1] 132))); have HOP2 := zh (HOP1.out.moved (y8 (Below.refl _ _) (.cells #[.int .i64 X.f0, .int .i64 X.f1] 132))); generalize w1.alloc (.cells #[.int .i64 X.f0, .int .i64 X.f1] 132) = w2 at HI2 HOP2 ⊢; have hat0 := HOP2.out.at_; clear hcc hwc)
     |((with_reducible refine r5 (N := 48) rfl ?_); go_loud (refine Kd.R_append (Kd.int .i64) (w0 := w) w.heap.size rfl (.tmp 45) (.tmp 47) 68 3 (.int .i64 0) 8 rfl Tryz.underlying68 z8k rfl (by decide) (by decide) (.slice Ar row.length cr) row (i : Int) [.int .i64 (i : Int)] (fun k => oki k ∨ True ∧ w2.heap.size ≤ k) (fun _ => False) rfl rfl ?aP (fun _ hk => hk.elim) ?aF ?aO ?aB ?aS ?aL ?_; (case aP => exact rfl); (case aF => exact fun _ hk => .inr ⟨trivial, hk⟩); (case aO => exact Kd.R_mono HOP2.out.cont (fun _ hk => .inl hk)); (case aB => exact HI2.out.low); (case aS => exact HI2.out.low.size); (case aL => exact HLE.out); intro v1 w9 ho hb hg hat; obtain ⟨A9, c9, rfl⟩ := Kd.R_slice ho; rw [show (row ++ [(i : Int)]).length = row.length + 1 by simp] at ho ⊢; obtain ⟨zc, zf⟩ := HOP2.out.spot HJM.out hg; have HF := zh (HI2.out.close HJM.out HOP2.out hg hb ho); clear ho hb hg hat)))
    go_roundg (l.length - i)
    case measure => omega
    case rel => exact ⟨i + 1, hs, D, kn, _, _, by omega, rfl, by go_num, by omega, zh (by
     have h9 := HL.out.2.1.had HY.out.1 (by rw [← HXE.out]; exact HY.out.2.1)
     have h8 := HF.out
     have h7 := h9.2
     rw [← HROW.out.1] at h7
     rw [h7] at h8
     exact ⟨h8, h9.1, by have := HLN.out; omega, by have := HLN.out; omega⟩)⟩
   |false =>
    have HN := zh hn
    have HHS : Hid (Maps.has D (z0r X.f0 X.f1) = false) := zh (by rw [HL.out.2.1.has X HXW.out, hn])
    clear hn
    obtain ⟨h, hh⟩ : ∃ h, hs.length = h := ⟨_, rfl⟩
    have HHL : Hid (hs.length = h ∧ (hs.map (z3n l i)).length = h) := zh ⟨hh, by rw [List.length_map, hh]⟩
    have h1 : h ≤ 100000 := by have := HLN.out; omega
    have HWF : Hid ((Lit.int .i64 (h : Int)).wf = true) := zh (z0o (by omega) (by omega))
    rw [hh]
    clear hh
    go_wp2_with (first
     |(go_at_call 71; (with_reducible refine (y4m X _).mono ?_); rintro e w1 ⟨rfl, hb⟩; have HI1 := zh ((HL.out.1.below (y8 (Below.refl _ _) (.cells #[.int .i64 X.f0, .int .i64 X.f1, .int .i64 X.f2] 76))).below hb); clear hb)
     |(at_lookup; refine wpList_lookup_own_ok_int _ rfl _ _ 154 rfl 132 3 .i64 y21 Tryz.underlying154 Tryz.underlying3 (Tryz.zeroValue3 _) (w.heap.size + 1) kn D rfl (HI1.out.below (y8 (Below.refl _ _) _)).mp (.agg #[.int .i64 X.f0, .int .i64 X.f1]) (z0r X.f0 X.f1) (by first | rfl | simp) HKO.out ?_; intro cc hcc hwc; rw [HHS.out]; have HIM := zh (HI1.out.below (y8 (Below.refl _ _) (.cells #[.int .i64 X.f0, .int .i64 X.f1] 132))); have k0 : (w1.alloc (.cells #[.int .i64 X.f0, .int .i64 X.f1] 132)).cell? ⟨w1.heap.size, 0, none⟩ = some (.int .i64 X.f0) := (by simp); have k1 : (w1.alloc (.cells #[.int .i64 X.f0, .int .i64 X.f1] 132)).cell? ⟨w1.heap.size, 1, none⟩ = some (.int .i64 X.f1) := (by simp); generalize w1.alloc (.cells #[.int .i64 X.f0, .int .i64 X.f1] 132) = wm at HIM k0 k1 ⊢; clear hcc hwc)
     |(at_mapUpdate; refine wpList_mapUpdate_own _ rfl _ _ _ 154 rfl 132 3 y21 Tryz.underlying154 _ (w.heap.size + 1) kn D rfl HIM.out.mp (by have := HLN.out; unfold maxLen; omega) (.agg #[.int .i64 X.f0, .int .i64 X.f1]) (.int .i64 (h : Int)) (z0r X.f0 X.f1) (by first | rfl | simp) rfl HKO.out _ [] (plainElem_int Tryz.underlying3 HWF.out) ?_; intro w2 ho hg; have HI2 := zh (HIM.out.put ho hg); clear ho hg)
     |((with_reducible refine r5 (N := 39) rfl ?_); go_loud (refine Kd.S_append z2q (w0 := w) w.heap.size rfl (.tmp 37) (.tmp 38) 90 68 (.slice none 0 0) 24 rfl Tryz.underlying90 y8t rfl (by decide) (by decide) (.slice Ao h co) (hs.map (z3n l i)) [] [.slice none 0 0] (fun _ => True) (fun _ => False) rfl rfl ?aP (fun _ hk => hk.elim) ?aF ?aO ?aB ?aS ?aL ?_; (case aP => exact ⟨_, rfl, Kd.R_nil _ _ _ _ _⟩); (case aF => exact fun _ _ => trivial); (case aO => have h9 := HI2.out.tab; rw [HHL.out.2] at h9; exact Kd.S_mono h9 (fun _ _ => ⟨trivial, fun e => e⟩)); (case aB => exact HI2.out.low); (case aS => exact HI2.out.low.size); (case aL => rw [HHL.out.2]; exact Nat.le_trans (Nat.mul_le_mul_right 24 (Nat.succ_le_succ h1)) (by decide)); intro v1 w3 ho hb hg hat; rw [← HHL.out.2] at hg; obtain ⟨A1, c1, rfl, hI3⟩ := HI2.out.more (Below.refl _ _) ho hb hg; rw [HHL.out.2]; have hjm : h < (hs.map (z3n l i) ++ [([] : List Int)]).length := (by rw [List.length_append, HHL.out.2]; exact Nat.lt_succ_self h); obtain ⟨g, rfl⟩ := hI3.form (Nat.lt_of_le_of_lt (Nat.zero_le _) hjm); have HI3 := zh hI3; have HJM := zh hjm; obtain ⟨Ar, cr, oki, hop⟩ := hI3.open_ (i := h) (row := []) (by rw [List.getElem?_append_right (by rw [HHL.out.2]; exact Nat.le_refl _), HHL.out.2, Nat.sub_self]; rfl); have HOP := zh hop; have hat0 : w3.cell? ⟨g, h, none⟩ = some (.slice Ar 0 cr) := hop.at_; have j0 : (0 : Int) ≤ (h : Int) := (by omega); have j1 : (h : Int) < ((h + 1 : Nat) : Int) := (by omega); clear ho hb hg hat hop hI3 hjm))
     |((with_reducible refine r5 (N := 48) rfl ?_); go_loud (refine Kd.R_append (Kd.int .i64) (w0 := w) w.heap.size rfl (.tmp 45) (.tmp 47) 68 3 (.int .i64 0) 8 rfl Tryz.underlying68 z8k rfl (by decide) (by decide) (.slice Ar 0 cr) ([] : List Int) (i : Int) [.int .i64 (i : Int)] (fun k => oki k ∨ True ∧ w3.heap.size ≤ k) (fun _ => False) rfl rfl ?aP (fun _ hk => hk.elim) ?aF ?aO ?aB ?aS ?aL ?_; (case aP => exact rfl); (case aF => exact fun _ hk => .inr ⟨trivial, hk⟩); (case aO => exact Kd.R_mono HOP.out.cont (fun _ hk => .inl hk)); (case aB => exact HI3.out.low); (case aS => exact HI3.out.low.size); (case aL => exact (by decide)); intro v1 w9 ho hb hg hat; obtain ⟨A9, c9, rfl⟩ := Kd.R_slice ho; rw [show (([] : List Int) ++ [(i : Int)]).length = 0 + 1 by simp] at ho ⊢; obtain ⟨zc, zf⟩ := HOP.out.spot HJM.out hg; have HF := zh (HI3.out.close HJM.out HOP.out hg hb ho); clear ho hb hg hat)))
    go_roundg (l.length - i)
    case measure => omega
    case rel => exact ⟨i + 1, hs ++ [X], D.put (z0r X.f0 X.f1) (.lit (.int .i64 (h : Int))), kn + 1, _, _, by omega, by rw [List.length_append, HHL.out.1]; rfl, by go_num, by omega, zh (by
     have h9 := HL.out.2.1.put (by rw [← HXE.out]; exact HXW.out) (fun y hy => by
      obtain ⟨k, hk, e⟩ := HL.out.2.1.mem y hy
      rw [e]
      exact HW.out _ (z2z (by omega))) (by rw [← HXE.out]; exact HN.out)
     rw [← HXE.out, HHL.out.1] at h9
     have h8 := HF.out
     rw [h9.2] at h8
     exact ⟨h8, h9.1, by rw [List.length_append, HHL.out.1]; have := HLN.out; have := HHL.out.1; simp; omega, by have := HLN.out; omega⟩)⟩
  ·have e : i = l.length := by omega
   subst e
   go_wp2
   go_ret
   exact ⟨HL.out.1.low, hs, D, _, _, rfl, by have h9 := HL.out.1.tab; rw [List.length_map] at h9; exact h9, HL.out.2.1, HL.out.2.2.1⟩
def z9d (n : Nat) (f : Nat → Int) : List Int := (List.range n).map f
def mat (h n : Nat) (f : Nat → Nat → Int) : List (List Int) := (List.range h).map fun a => z9d n (f a)
def y2a (f : Nat → Nat → Int) (a v : Nat) (x : Int) : Nat → Nat → Int := fun b u => if b = a ∧ u = v then x else f b u
theorem z32 (n : Nat) (f : Nat → Int) : (z9d n f).length = n := by unfold z9d; rw [List.length_map, List.length_range]
theorem z98 (h n : Nat) (f : Nat → Nat → Int) : (mat h n f).length = h := by unfold mat; rw [List.length_map, List.length_range]
theorem z7h {n : Nat} {f : Nat → Int} {v : Nat} (h : v < n) : (z9d n f)[v]? = some (f v) := by
 unfold z9d
 rw [List.getElem?_map, List.getElem?_range h]
 rfl
theorem y26 {h n : Nat} {f : Nat → Nat → Int} {a : Nat} (ha : a < h) : (mat h n f)[a]? = some (z9d n (f a)) := by
 unfold mat
 rw [List.getElem?_map, List.getElem?_range ha]
 rfl
theorem x0i {n : Nat} {f : Nat → Int} {v : Nat} (x : Int) : (z9d n f).set v x = z9d n (fun u => if u = v then x else f u) := by
 refine List.ext_getElem? fun t => ?_
 by_cases ht : t < n
 ·rw [z7h ht]
  by_cases e : v = t
  ·subst e
   rw [List.getElem?_set_self (by rw [z32]; exact ht), if_pos rfl]
  ·rw [List.getElem?_set_ne e, z7h ht, if_neg (Ne.symm e)]
 ·rw [List.getElem?_eq_none (by rw [List.length_set, z32]; omega), List.getElem?_eq_none (by rw [z32]; omega)]
theorem x4b {h n : Nat} {f : Nat → Nat → Int} {a v : Nat} (x : Int) : (mat h n f).set a ((z9d n (f a)).set v x) = mat h n (y2a f a v x) := by
 refine List.ext_getElem? fun t => ?_
 by_cases ht : t < h
 ·rw [y26 ht]
  by_cases e : a = t
  ·subst e
   rw [List.getElem?_set_self (by rw [z98]; exact ht), x0i]
   congr 2
   funext u
   unfold y2a
   by_cases c : u = v
   ·rw [if_pos c, if_pos ⟨rfl, c⟩]
   ·rw [if_neg c, if_neg (fun e => c e.2)]
  ·rw [List.getElem?_set_ne e, y26 ht]
   congr 2
   funext u
   unfold y2a
   rw [if_neg (fun e2 => e e2.1.symm)]
 ·rw [List.getElem?_eq_none (by rw [List.length_set, z98]; omega), List.getElem?_eq_none (by rw [z98]; omega)]
theorem y8d {h n : Nat} {f g : Nat → Nat → Int} (e : ∀ a v, a < h → v < n → f a v = g a v) : mat h n f = mat h n g := by
 refine List.map_congr_left fun a ha => ?_
 exact List.map_congr_left fun v hv => e a v (List.mem_range.1 ha) (List.mem_range.1 hv)
structure MxI (w0 : World) (g cT h n : Nat) (f : Nat → Nat → Int) (W : World) : Prop where
 tab : Kd.S z2q 68 W w0.heap.size (fun _ => True) (.slice (some ⟨g, 0, none⟩) h cT) (mat h n f)
 low : Below w0.heap.size w0 W
section
variable {w0 : World} {g cT h n : Nat} {f : Nat → Nat → Int} {W W1 : World}
theorem MxI.below (k : MxI w0 g cT h n f W) (hb : Below W.heap.size W W1) : MxI w0 g cT h n f W1 := ⟨Kd.S_below k.tab hb, v6 k.low hb⟩
theorem MxI.congr (k : MxI w0 g cT h n f W) {f2 : Nat → Nat → Int} (e : ∀ a v, a < h → v < n → f a v = f2 a v) : MxI w0 g cT h n f2 W := ⟨by rw [← y8d e]; exact k.tab, k.low⟩
theorem MxI.cell (k : MxI w0 g cT h n f W) {a v : Nat} (ha : a < h) (hv : v < n) : ∃ gr c, gr ≠ g ∧ W.cell? ⟨g, a, none⟩ = some (.slice (some ⟨gr, 0, none⟩) n c) ∧ W.cell? ⟨gr, v, none⟩ = some (.int .i64 (f a v)) ∧ W.frozen? ⟨gr, v, none⟩ = false ∧
  ∀ W1, Below W.heap.size W W1 → ∀ x : Int, MxI w0 g cT h n (y2a f a v x) (W1.setCell ⟨gr, v, none⟩ (.int .i64 x)) := by
 have key : ∀ W1, Below W.heap.size W W1 → ∃ gr c, gr ≠ g ∧ W1.cell? ⟨g, a, none⟩ = some (.slice (some ⟨gr, 0, none⟩) n c) ∧ W1.cell? ⟨gr, v, none⟩ = some (.int .i64 (f a v)) ∧ W1.frozen? ⟨gr, v, none⟩ = false ∧ ∀ x : Int, MxI w0 g cT h n (y2a f a v x) (W1.setCell ⟨gr, v, none⟩ (.int .i64 x)) := fun W1 hW => by
  have k1 := k.below hW
  have hl := z98 h n f
  have h0 : (0 : Int) ≤ (a : Int) := by omega
  have h1 : (a : Int) < (h : Int) := by omega
  obtain ⟨oki, ce, hcl, hM, hcc, hfr, hok, hH⟩ := Kd.S_elem k1.tab [] (a : Int) h0 h1
  obtain ⟨vv, rfl, hR⟩ := hM
  obtain ⟨_, _, hraw, _, _, _, _⟩ := Kd.H_raw hH h0 h1
  obtain ⟨cs, hcs⟩ := Kd.R_typed hraw g (by simp [Value.ownBlock])
  have hz := hcc 0 _ rfl
  simp only [Nat.add_zero, Int.toNat_natCast, show z2q.sz = 1 from rfl, Nat.mul_one] at hz hR hH
  rw [List.getD_eq_getElem?_getD, y26 ha] at hR
  have hrl : (z9d n (f a)).length = n := z32 n (f a)
  obtain ⟨gr, c, e1, hbg, -, cs2, hcs2⟩ := Kd.R_form hR (by show 0 < (z9d n (f a)).length; omega)
  have hne : gr ≠ g := fun e => by
   rw [e, hcs] at hcs2
   injection hcs2 with hcs2
   injection hcs2 with _ e9
   exact absurd e9 (by decide)
  rw [show ((some (z9d n (f a))).getD ([] : List Int)) = z9d n (f a) from rfl] at hR e1
  rw [hrl] at e1
  subst e1
  have hcv := Kd.R_celln (0 : Int) hR (v : Int) (by omega) (by omega)
  rw [Int.toNat_natCast] at hcv
  have ev : y94 (0 : Int) (z9d n (f a)) (v : Int) = f a v := by
   unfold y94
   rw [Int.toNat_natCast, List.getD_eq_getElem?_getD, z7h hv]
   rfl
  rw [ev] at hcv
  refine ⟨gr, c, hne, hz, hcv.1, hcv.2, fun x => ?_⟩
  obtain ⟨p1, p2⟩ := Kd.R_putg hR (v : Int) x
  rw [Int.toNat_natCast] at p1 p2
  have hS := Kd.H_back (Kd.H_grown hH p2 (fun j e => by injection e with e; rw [← e]; exact hR.1 gr rfl)) (Kd.M_row p1) (fun _ hj => hj)
  rw [Int.toNat_natCast, x4b x] at hS
  exact ⟨hS, k1.low.setCell hbg _⟩
 obtain ⟨gr, c, h0, h1, h2, h3, -⟩ := key W (Below.refl _ _)
 refine ⟨gr, c, h0, h1, h2, h3, fun W1 hW x => ?_⟩
 obtain ⟨gr2, c2, q0, q1, q2, q3, q4⟩ := key W1 hW
 have := j6 hW h1
 rw [q1] at this
 injection this with this
 injection this with this
 injection this with this
 injection this with this
 subst this
 exact q4 x
end
def z3k (h n i : Nat) : List (List Int) := (List.range h).map fun a => if a < i then z9d n (fun _ => 0) else []
theorem z6u (h n i : Nat) : (z3k h n i).length = h := by unfold z3k; rw [List.length_map, List.length_range]
theorem y27 (h n : Nat) : z3k h n 0 = List.replicate h [] := by
 unfold z3k
 refine List.ext_getElem? fun t => ?_
 by_cases ht : t < h
 ·rw [List.getElem?_map, List.getElem?_range ht, List.getElem?_replicate, if_pos ht]
  rfl
 ·rw [List.getElem?_eq_none (by rw [List.length_map, List.length_range]; omega), List.getElem?_eq_none (by rw [List.length_replicate]; omega)]
theorem z9i {h n i a : Nat} (ha : a < h) : (z3k h n i)[a]? = some (if a < i then z9d n (fun _ => 0) else []) := by
 unfold z3k
 rw [List.getElem?_map, List.getElem?_range ha]
 rfl
theorem y28 {h n i : Nat} (hi : i < h) : (z3k h n i).set i (z9d n (fun _ => 0)) = z3k h n (i + 1) := by
 refine List.ext_getElem? fun t => ?_
 by_cases ht : t < h
 ·rw [z9i ht]
  by_cases e : i = t
  ·subst e
   rw [List.getElem?_set_self (by rw [z6u]; exact ht), if_pos (by omega)]
  ·rw [List.getElem?_set_ne e, z9i ht]
   by_cases c : t < i
   ·rw [if_pos c, if_pos (by omega)]
   ·rw [if_neg c, if_neg (by omega)]
 ·rw [List.getElem?_eq_none (by rw [List.length_set, z6u]; omega), List.getElem?_eq_none (by rw [z6u]; omega)]
theorem y54 (h n : Nat) : z3k h n h = mat h n (fun _ _ => 0) := by
 refine List.map_congr_left fun a ha => ?_
 rw [if_pos (List.mem_range.1 ha)]
theorem y7l (n : Nat) : z9d n (fun _ => 0) = List.replicate n (0 : Int) := by
 refine List.ext_getElem? fun t => ?_
 by_cases ht : t < n
 ·rw [z7h ht, List.getElem?_replicate, if_pos ht]
 ·rw [List.getElem?_eq_none (by rw [z32]; omega), List.getElem?_eq_none (by rw [List.length_replicate]; omega)]
theorem x32 {w0 W w1 : World} {g cT h n i : Nat} {v1 : Value} (hS : Kd.S z2q 68 W w0.heap.size (fun _ => True) (.slice (some ⟨g, 0, none⟩) h cT) (z3k h n i)) (hi : i < h) (hg : W.grownBy w1 none) (hR : Kd.R (Kd.int .i64) 3 w1 w0.heap.size (fun k => W.heap.size ≤ k) v1 (z9d n (fun _ => 0))) :
  (∃ u, w1.cell? ⟨g, i, none⟩ = some u) ∧ w1.frozen? ⟨g, i, none⟩ = false ∧ Kd.S z2q 68 (w1.setCell ⟨g, i, none⟩ v1) w0.heap.size (fun _ => True) (.slice (some ⟨g, 0, none⟩) h cT) (z3k h n (i + 1)) := by
 obtain ⟨oki, ce, hl, hM, hcc, hfr, hok, hH⟩ := Kd.S_elem hS [] (i : Int) (by omega) (by omega)
 obtain ⟨u, hu⟩ : ∃ u, ce = [u] := by
  match ce, hl with
  |[u], _ => exact ⟨u, rfl⟩
 subst hu
 have hH2 := Kd.H_grown (Kd.H_widen hH) hg (fun k e => by cases e)
 have h0 : (0 : Int) ≤ (i : Int) := by omega
 have h1 : (i : Int) < (h : Int) := by omega
 obtain ⟨_, _, hraw, _, _, hcc2, _⟩ := Kd.H_raw hH2 h0 h1
 obtain ⟨cs, hcs⟩ := Kd.R_typed hraw g (by simp [Value.ownBlock])
 have hS2 := Kd.S_seg0 hH2 h0 h1 (seg := [v1]) (j := 0) (show 1 ≤ 1 from by decide) (x' := z9d n (fun _ => 0)) (Kd.M_row (Kd.R_mono hR (ok' := fun k => oki k ∨ True ∧ W.heap.size ≤ k) (fun k hk => .inr ⟨trivial, hk⟩))) (fun _ hk => hk)
 have e1 : w1.setCells g ((i : Int).toNat * z2q.sz + 0) [v1] = w1.setCell ⟨g, i, none⟩ v1 := by
  rw [show z2q.sz = 1 from rfl, Nat.mul_one, Nat.add_zero, Int.toNat_natCast]
  rfl
 rw [e1, Int.toNat_natCast, y28 hi] at hS2
 have h9 := hcc2 0 _ rfl
 rw [show z2q.sz = 1 from rfl, Nat.mul_one, Nat.add_zero, Int.toNat_natCast] at h9
 exact ⟨⟨u, h9⟩, j3 hcs i, hS2.1⟩
end Go.Proofs.YtcgdloldkcmhnaaGreat.H
end
section
namespace Go.Proofs.YtcgdloldkcmhnaaGreat.H
open Go Go.RowKit Go.Proofs.YtcgdloldkcmhnaaGreat.PrintC Go.Proofs.YtcgdloldkcmhnaaGreat.PrintE Go.Proofs.YtcgdloldkcmhnaaGreatW.PrintWords Go.Proofs.YtcgdloldkcmhnaaGreatW.PrintLast Go.Proofs.YtcgdloldkcmhnaaGreatW.PrintMore Go.Proofs.YtcgdloldkcmhnaaGreat.Flow
set_option linter.unusedVariables false
set_option linter.unusedSimpArgs false
def g0 (p : List Grp) (v : Nat) : Int := gS (fun g => decide (g.f0 = (v : Int))) p
def d1 (l : List Arc) (a v : Nat) (x : Mv) : Int := (if (z1i l x).f1 = v ∧ x.f1 + (z1i l x).f3 = a then x.f2 else 0) - (if (z1i l x).f0 = v ∧ x.f1 = a then x.f2 else 0)
def dS (l : List Arc) (m : List Mv) (a v : Nat) : Int := z3q (m.map (d1 l a v))
def z7i (l : List Arc) (p : List Grp) (m : List Mv) (a v : Nat) : Int := (if a = 0 then g0 p v else 0) + dS l m a v
theorem y2d {l : List Arc} {x : Mv} (v : Nat) (h0 : 0 ≤ x.f1) (h1 : 0 ≤ (z1i l x).f3) : z4o l v 0 x = d1 l 0 v x := by
 unfold z4o d1
 have e1 : ((z1i l x).f1 = v ∧ x.f1 + (z1i l x).f3 ≤ 0) ↔ ((z1i l x).f1 = v ∧ x.f1 + (z1i l x).f3 = ((0 : Nat) : Int)) := by omega
 have e2 : ((z1i l x).f0 = v ∧ x.f1 ≤ 0) ↔ ((z1i l x).f0 = v ∧ x.f1 = ((0 : Nat) : Int)) := by omega
 simp only [e1, e2]
theorem y2e (l : List Arc) (x : Mv) (v a : Nat) : z4o l v ((a + 1 : Nat) : Int) x = z4o l v a x + d1 l (a + 1) v x := by
 unfold z4o d1
 have key : ∀ (c : Prop) [Decidable c] (t N : Int), (if c ∧ t ≤ ((a + 1 : Nat) : Int) then N else 0) = (if c ∧ t ≤ (a : Int) then N else 0) + (if c ∧ t = ((a + 1 : Nat) : Int) then N else 0) := fun c _ t N => by
  by_cases h : c
  ·by_cases h1 : t ≤ (a : Int)
   ·rw [if_pos ⟨h, by omega⟩, if_pos ⟨h, h1⟩, if_neg (fun e => by omega)]
    omega
   ·by_cases h2 : t = ((a + 1 : Nat) : Int)
    ·rw [if_pos ⟨h, by omega⟩, if_neg (fun e => h1 e.2), if_pos ⟨h, h2⟩]
     omega
    ·rw [if_neg (fun e => by omega), if_neg (fun e => h1 e.2), if_neg (fun e => h2 e.2)]
     omega
  ·rw [if_neg (fun e => h e.1), if_neg (fun e => h e.1), if_neg (fun e => h e.1)]
   omega
 have k1 := key ((z1i l x).f1 = v) (x.f1 + (z1i l x).f3) x.f2
 have k2 := key ((z1i l x).f0 = v) x.f1 x.f2
 rw [k1, k2]
 omega
theorem z7w {l : List Arc} (v : Nat) : ∀ {m : List Mv}, (∀ x, x ∈ m → 0 ≤ x.f1 ∧ 0 ≤ (z1i l x).f3) → z2w l m v 0 = dS l m 0 v
 |[], _ => rfl
 |x :: m, h => by
  have ih := z7w v (m := m) (fun y hy => h y (List.mem_cons_of_mem _ hy))
  have h1 := h x (List.mem_cons_self ..)
  have e := y2d (l := l) (x := x) v h1.1 h1.2
  unfold z2w dS at ih ⊢
  rw [List.map_cons, List.map_cons, z3q, z3q, ih, e]
theorem z7x (l : List Arc) (v a : Nat) : ∀ m : List Mv, z2w l m v ((a + 1 : Nat) : Int) = z2w l m v a + dS l m (a + 1) v
 |[] => rfl
 |x :: m => by
  have ih := z7x l v a m
  have e := y2e l x v a
  unfold z2w dS at ih ⊢
  rw [List.map_cons, List.map_cons, List.map_cons, z3q, z3q, z3q, ih, e]
  omega
theorem x4s (l : List Arc) (a v : Nat) {m : List Mv} {i : Nat} (h : i < m.length) : dS l (m.take (i + 1)) a v = dS l (m.take i) a v + d1 l a v (z1q m i) := by
 unfold dS
 rw [z1f h, List.map_append]
 exact z4n _ _
theorem x4q (v : Nat) {p : List Grp} {i : Nat} (h : i < p.length) : g0 (p.take (i + 1)) v = g0 (p.take i) v + (if (z0q p (i : Int)).f0 = v then (z0q p (i : Int)).f1 else 0) := by
 unfold g0
 rw [z8n _ h]
 simp only [decide_eq_true_eq]
theorem x54 (v : Nat) : ∀ {p : List Grp}, (p.map fun g => g.f0).Nodup → (∀ g, g ∈ p → 0 ≤ g.f1) → g0 p v = max (gOf v p) 0
 |[], _, _ => by unfold g0 gS gOf; rfl
 |g :: p, hd, h0 => by
  rw [List.map_cons, List.nodup_cons] at hd
  have ih := x54 v hd.2 (fun x hx => h0 x (List.mem_cons_of_mem _ hx))
  have h1 := h0 g (List.mem_cons_self ..)
  unfold g0 at ih ⊢
  unfold gS gOf
  by_cases e : g.f0 = v
  ·rw [if_pos (decide_eq_true e), if_pos e, ih]
   have hn : gOf v p < 0 := by
    refine (z2t v (fun x hx => h0 x (List.mem_cons_of_mem _ hx))).2 ?_
    rw [z1j, List.any_eq_false]
    intro x hx e2
    exact hd.1 (by rw [e]; exact List.mem_map.2 ⟨x, hx, of_decide_eq_true e2⟩)
   omega
  ·rw [if_neg (by rw [decide_eq_false e]; decide), if_neg e, ih]
   omega
theorem y5c {l : List Arc} {p : List Grp} {m : List Mv} (v : Nat) (hd : (p.map fun g => g.f0).Nodup) (h0 : ∀ g, g ∈ p → 0 ≤ g.f1) (h : ∀ x, x ∈ m → 0 ≤ x.f1 ∧ 0 ≤ (z1i l x).f3) : z14 l p m v 0 = z7i l p m 0 v := by
 unfold z14 z7i
 rw [if_pos rfl, x54 v hd h0, z7w v h]
theorem y5e (l : List Arc) (p : List Grp) (m : List Mv) (v a : Nat) : z14 l p m v ((a + 1 : Nat) : Int) = z14 l p m v a + z7i l p m (a + 1) v := by
 unfold z14 z7i
 rw [if_neg (by omega), z7x]
 omega
theorem x55 {n : Nat} {p : List Grp} (hp : z3y n p) (v : Nat) : 0 ≤ g0 p v ∧ g0 p v ≤ p.length * 1048576 := x1k _ hp
theorem x57 {l : List Arc} {a v : Nat} : ∀ {m : List Mv}, (∀ x, x ∈ m → y96 l x) → -(m.length * 1099511627776 : Int) ≤ dS l m a v ∧ dS l m a v ≤ m.length * 1099511627776
 |[], _ => by
  show -(0 * 1099511627776 : Int) ≤ 0 ∧ (0 : Int) ≤ 0 * 1099511627776
  decide
 |x :: m, h => by
  have h1 := x57 (a := a) (v := v) (m := m) (fun y hy => h y (List.mem_cons_of_mem _ hy))
  have h2 := h x (List.mem_cons_self ..)
  have h3 := h2.n0
  have h4 := h2.n1
  have h5 : -1099511627776 ≤ d1 l a v x ∧ d1 l a v x ≤ 1099511627776 := by
   unfold d1
   split <;> split <;> omega
  unfold dS at h1 ⊢
  rw [List.map_cons, z3q, List.length_cons]
  omega
def y0n (l : List Arc) (p : List Grp) (m : List Mv) (t u : Nat) (a v : Nat) : Int := if a ≤ t ∨ (a = t + 1 ∧ v < u) then z14 l p m v a else z7i l p m a v
theorem x3t (G : Nat → Nat → Int) (a0 u0 : Nat) (N : Int) (a v : Nat) : y2a G a0 u0 (G a0 u0 + N) a v = G a v + (if (u0 : Int) = v ∧ (a0 : Int) = a then N else 0) := by
 unfold y2a
 by_cases c : a = a0 ∧ v = u0
 ·rw [if_pos c, c.1, c.2, if_pos ⟨rfl, rfl⟩]
 ·rw [if_neg c, if_neg (fun e => c ⟨by omega, by omega⟩)]
  omega
theorem x3s (G : Nat → Nat → Int) (a0 u0 : Nat) (N : Int) (a v : Nat) : y2a G a0 u0 (G a0 u0 - N) a v = G a v - (if (u0 : Int) = v ∧ (a0 : Int) = a then N else 0) := by
 unfold y2a
 by_cases c : a = a0 ∧ v = u0
 ·rw [if_pos c, c.1, c.2, if_pos ⟨rfl, rfl⟩]
 ·rw [if_neg c, if_neg (fun e => c ⟨by omega, by omega⟩)]
  omega
theorem y9w {l : List Arc} {p : List Grp} {m : List Mv} (hd : (p.map fun g => g.f0).Nodup) (h0 : ∀ g, g ∈ p → 0 ≤ g.f1) (h : ∀ x, x ∈ m → 0 ≤ x.f1 ∧ 0 ≤ (z1i l x).f3) (a v : Nat) : z7i l p m a v = y0n l p m 0 0 a v := by
 unfold y0n
 by_cases c : a = 0
 ·subst c
  rw [if_pos (.inl (Nat.le_refl _))]
  exact (y5c v hd h0 h).symm
 ·rw [if_neg (by omega)]
theorem x2i (l : List Arc) (p : List Grp) (m : List Mv) (t n : Nat) {a v : Nat} (hv : v < n) : y0n l p m t n a v = y0n l p m (t + 1) 0 a v := by
 unfold y0n
 by_cases c : a ≤ t + 1
 ·rw [if_pos (by omega), if_pos (.inl c)]
 ·rw [if_neg (by omega), if_neg (by omega)]
theorem x2j (l : List Arc) (p : List Grp) (m : List Mv) (t u a v : Nat) : y2a (y0n l p m t u) (t + 1) u (y0n l p m t u (t + 1) u + z14 l p m u t) a v = y0n l p m t (u + 1) a v := by
 unfold y2a
 by_cases c : a = t + 1 ∧ v = u
 ·rw [if_pos c, c.1, c.2]
  have e1 : y0n l p m t u (t + 1) u = z7i l p m (t + 1) u := if_neg (by omega)
  have e2 : y0n l p m t (u + 1) (t + 1) u = z14 l p m u ((t + 1 : Nat) : Int) := if_pos (by omega)
  rw [e1, e2, y5e]
  omega
 ·rw [if_neg c]
  unfold y0n
  by_cases d : a ≤ t ∨ (a = t + 1 ∧ v < u)
  ·rw [if_pos d, if_pos (by omega)]
  ·rw [if_neg d, if_neg (by omega)]
theorem y7w {n : Nat} {l : List Arc} {p : List Grp} {m : List Mv} (hp : z3y n p) (hlp : p.length ≤ 1000) (hm : ∀ x, x ∈ m → y96 l x) (hml : m.length ≤ 100000) (a v : Nat) : -110000000000000000 ≤ z7i l p m a v ∧ z7i l p m a v ≤ 111000000000000000 := by
 have h1 := x55 hp v
 have h2 := x57 (a := a) (v := v) hm
 unfold z7i
 split <;> omega
theorem y7d {n : Nat} {l : List Arc} {p : List Grp} {m : List Mv} (hp : z3y n p) (hm : ∀ x, x ∈ m → y96 l x) (hml : m.length ≤ 100000) (v z : Int) : -110000000000000000 ≤ z14 l p m v z ∧ z14 l p m v z ≤ 111000000000000000 := by
 have h1 := y1m (v := v) (show (-1 : Int) ≤ 1048576 by decide) (fun g hg => (hp g hg).2.2)
 have h2 := z7g (v := v) (z := z) hm
 unfold z14
 omega
def skT17 : Bool × List (List Nat × List Nat) := (true, [([], []), ([], []), ([1], [1]), ([], []), ([3], [3]), ([2, 4], [2, 4]), ([0, 5], [0, 5]), ([6], [6]), ([], []), ([8], [8]), ([7, 9], [7, 9]), ([10], [10]), ([], []), ([12], [12]), ([11, 13], [11, 13]), ([7, 9, 0, 1, 2, 3, 4, 5, 6, 7, 8, 9, 10, 11, 12, 13, 14], [7, 9]), ([15, 14, 0, 1, 2, 3, 4, 5, 6, 7, 8, 9, 10, 11, 12, 13, 14], [14, 15])])
def x2k (n h : Nat) (l : List Arc) (p : List Grp) (m : List Mv) (w : World) (e : Ending) (w' : World) : Prop := ∃ g cT, e = .returned (.slice (some ⟨g, 0, none⟩) (h + 1 : Nat) cT) ∧ MxI w g cT (h + 1) n (fun a v => z14 l p m v a) w'
theorem z9h {z : Int} (h : 0 ≤ z) : ∃ t : Nat, z = t := ⟨z.toNat, by omega⟩
theorem y2c (gp n h : Nat) (b : Bool) (A : Option Addr) (c : Nat) (l : List Arc) (Ap : Option Addr) (cp : Nat) (p : List Grp) (Aq : Option Addr) (lq cq : Nat) (bh br kh kr : Nat) (Dh Dr : DataW Unit) (Am : Option Addr) (cm : Nat) (m : List Mv) (w : World)
  (hP : PlI gp (z0f n b A l.length c Ap p.length cp Aq lq cq bh br) bh br kh kr Dh Dr w) (hr : Kd.C z3l w A l.length l) (hp : Kd.C z1v w Ap p.length p) (hm : Kd.C kMv w Am m.length m) (hN : z4g n h l) (hG : z3y n p) (hd : (p.map fun g => g.f0).Nodup) (hlp : p.length ≤ 1000) (hh : h ≤ 1024)
  (hok : ∀ x, x ∈ m → y96 l x ∧ x.f1 + (z1i l x).f3 ≤ h) (hml : m.length ≤ 100000) :
  Calls Tryz.prog 44 #[.pointer (some ⟨gp, 0, none⟩), .int .i64 h, .slice Am m.length cm] w (x2k n h l p m w) := by
 have hu := Tryz.underlying115
 have hu2 := Tryz.underlying33
 have hu3 := Tryz.underlying59
 have hu4 := Tryz.underlying76
 have hu5 := Tryz.underlying104
 have HP := zh hP
 have HR := zh hr
 have HPP := zh hp
 have HM := zh hm
 have HG := zh hG
 have HD := zh hd
 have HOK := zh hok
 have HN := zh hN
 have n0 := hN.n0
 have n1 := hN.n1
 have HMI : Hid (∀ x, x ∈ m → y96 l x) := zh fun x hx => (hok x hx).1
 have HAR : Hid (∀ x, x ∈ m → ((0 ≤ (z1i l x).f0 ∧ (z1i l x).f0 < n) ∧ (0 ≤ (z1i l x).f1 ∧ (z1i l x).f1 < n)) ∧ 0 ≤ (z1i l x).f3) := zh fun x hx => by
  have h1 := (hok x hx).1
  have h2 := h1.a0
  have h3 := h1.a1
  have e : z0i l x.f0.toNat = z1i l x := by
   unfold z0i z1i
   rw [Int.toNat_of_nonneg h2]
  have he := hN.ends x.f0.toNat (by omega)
  have ht := hN.time x.f0.toNat (by omega)
  rw [e] at he ht
  exact ⟨he, ht.1⟩
 clear hP hr hp hm hG hd hok hN
 obtain ⟨H1, hH1⟩ : ∃ H1, H1 = h + 1 := ⟨_, rfl⟩
 have EH : Hid (((h : Int) + 1).toNat = H1) := zh (by omega)
 have HH1 := zh hH1
 have hh1 : h < H1 := by omega
 have hh2 : H1 ≤ 1025 := by omega
 clear hH1
 go_enter Tryz.func44, Tryz.ntmps44
 go_wp2_with ((with_reducible refine r5 (N := 19) rfl ?_); go_loud (refine Kd.S_make z2q (w0 := w) w.heap.size 68 rfl rfl 90 (.tmp 18) (.tmp 18) rfl ((h : Int) + 1) rfl rfl Tryz.underlying90 (.slice none 0 0) 24 y8t rfl (by decide) (by decide) ([] : List Int) (ok := fun _ => True) (okp := fun _ => False) ⟨_, rfl, Kd.R_nil _ _ _ _ _⟩ (fun _ h => h.elim) trivial (by omega) (by rw [EH.out]; omega) (Below.refl _ _) (Nat.le_refl _) ?_; intro v1 w1 ho hb hgr hat; rw [EH.out] at ho; obtain ⟨fS, hRS⟩ := id ho; obtain ⟨ga, ca, e1, hga, -⟩ := Kd.R_form hRS (by rw [List.length_zipIdx, List.length_replicate]; omega); rw [List.length_zipIdx, List.length_replicate] at e1; subst e1; clear hRS; have HX : Hid (Kd.S z2q 68 w1 w.heap.size (fun _ => True) (.slice (some ⟨ga, 0, none⟩) H1 ca) (z3k H1 n 0) ∧ Below w.heap.size w w1) := zh ⟨(by rw [y27]; exact ho), hb⟩; have HGA := zh hga; clear ho hb hgr hat hga))
 go_loopg [22] (H1 + 1) (fun k iv W => ∃ i : Nat, i ≤ H1 ∧ iv = .int .i64 i ∧ k = H1 + 1 - i ∧ Hid (Kd.S z2q 68 W w.heap.size (fun _ => True) (.slice (some ⟨ga, 0, none⟩) H1 ca) (z3k H1 n i) ∧ Below w.heap.size w W))
 case atStart => exact ⟨0, Nat.zero_le _, rfl, rfl, HX⟩
 case round =>
  obtain ⟨i, hi, rfl, rfl, HL⟩ := hrel
  clear HX
  by_cases hlt : i < H1
  ·have i0 : (0 : Int) ≤ (i : Int) := by omega
   have i1 : (i : Int) < (H1 : Int) := by omega
   have x0 : wr.cell? ⟨gp, 0, none⟩ = some (.int .i64 n) := (y7 (HP.out.below HL.out.2).bx 0).trans rfl
   go_wp2_with ((with_reducible refine r5 (N := 32) rfl ?_); go_loud (refine Kd.R_make (Kd.int .i64) (w0 := w) w.heap.size 3 rfl rfl 68 (.tmp 31) (.tmp 31) rfl (n : Int) rfl rfl Tryz.underlying68 (.int .i64 0) 8 z8k rfl (by decide) (by decide) (0 : Int) (ok := fun k => wr.heap.size ≤ k) (okp := fun _ => False) rfl (fun _ h => h.elim) (Nat.le_refl _) (by omega) (by rw [Int.toNat_natCast]; omega) HL.out.2 HL.out.2.size ?_; intro v1 w1 ho hb hgr hat; rw [Int.toNat_natCast, ← y7l] at ho; obtain ⟨gr, cr, e1, -⟩ := Kd.R_form ho (by rw [z32]; omega); rw [z32] at e1; subst e1; obtain ⟨⟨u, q1⟩, q2, hS⟩ := x32 HL.out.1 hlt hgr ho; have HF : Hid (Kd.S z2q 68 (w1.setCell ⟨ga, i, none⟩ (.slice (some ⟨gr, 0, none⟩) n cr)) w.heap.size (fun _ => True) (.slice (some ⟨ga, 0, none⟩) H1 ca) (z3k H1 n (i + 1)) ∧ Below w.heap.size w (w1.setCell ⟨ga, i, none⟩ (.slice (some ⟨gr, 0, none⟩) n cr))) := zh ⟨hS, hb.setCell HGA.out _⟩; clear ho hb hgr hat hS))
   go_roundg (H1 - i)
   case measure => omega
   case rel => exact ⟨i + 1, by omega, by go_num, by omega, HF⟩
  ·have e : H1 = i := by omega
   subst e
   have hs := HL.out.1
   rw [y54] at hs
   have HX : Hid (MxI w ga ca H1 n (z7i l (p.take 0) []) wr) := zh (MxI.congr ⟨hs, HL.out.2⟩ fun a v _ _ => by
    unfold z7i
    rw [List.take_zero]
    show (0 : Int) = (if a = 0 then 0 else 0) + 0
    split <;> rfl)
   have x3 : wr.cell? ⟨gp, 3, none⟩ = some (.slice Ap p.length cp) := (y7 (HP.out.below HL.out.2).bx 3).trans rfl
   clear hs HL hi hlt
   go_wp2
   go_loopg [40] (p.length + 1) (fun k jv W => ∃ j : Nat, j ≤ p.length ∧ jv = .int .i64 j ∧ k = p.length + 1 - j ∧ Hid (MxI w ga ca H1 n (z7i l (p.take j) []) W))
   case atStart => exact ⟨0, Nat.zero_le _, rfl, rfl, HX⟩
   case round =>
    obtain ⟨j, hj, rfl, rfl, HL⟩ := hrel
    clear HX x3
    by_cases hlt : j < p.length
    ·have i0 : (0 : Int) ≤ (j : Int) := by omega
     have i1 : (j : Int) < (p.length : Int) := by omega
     obtain ⟨ad, ea, y0, y1⟩ := z2y (Kd.C_below HPP.out HL.out.low) (j : Int) i0 i1
     subst ea
     rw [Int.toNat_natCast] at y0 y1
     have hgt := fun v => x4q v hlt
     obtain ⟨G, hG⟩ : ∃ G, G = z0q p (j : Int) := ⟨_, rfl⟩
     have hgi := HG.out G (by rw [hG]; exact z2s hlt)
     rw [← hG] at y0 y1 hgt
     obtain ⟨u, hu0⟩ := z9h hgi.1.1
     have g1 := hgi.1.2
     have g2 := hgi.2.1
     have g3 := hgi.2.2
     rw [hu0] at y0 g1 hgt
     obtain ⟨N, hN⟩ : ∃ N, N = G.f1 := ⟨_, rfl⟩
     rw [← hN] at y1 g2 g3 hgt
     have HGT := zh hgt
     clear hG hgi hgt hu0 hN
     obtain ⟨gr, cr, hne, z0, z1, z2, hput⟩ := HL.out.cell (a := 0) (v := u) (by omega) (by omega)
     have hbd := x55 (p := p.take j) (fun g hg => HG.out g (List.mem_of_mem_take hg)) u
     rw [List.length_take, Nat.min_eq_left hj] at hbd
     obtain ⟨x, hx⟩ : ∃ x, x = z7i l (p.take j) [] 0 u := ⟨_, rfl⟩
     have hx2 : x = g0 (p.take j) u := by
      rw [hx]
      unfold z7i
      rw [if_pos rfl]
      exact Int.add_zero _
     rw [← hx2] at hbd
     rw [← hx] at z1
     have HXX := zh (And.intro hx hx2)
     have HPUT := zh hput
     have e6 : IntKind.i64.wrap (x + N) = x + N := IntWalk.i64_in _ (by omega)
     clear hput hx hx2
     obtain ⟨wa, hwa⟩ : ∃ wa, wa = wr.alloc (.cells #[.int .i64 u, .int .i64 N] 59) := ⟨_, rfl⟩
     have HB : Hid (Below wr.heap.size wr wa.drew ∧ wa.drew.heap[wr.heap.size]? = some (.cells #[.int .i64 u, .int .i64 N] 59 (0, 0))) := zh (by rw [hwa]; exact ⟨q6 (y8 (Below.refl _ _) _), n7 (heap_alloc_new _ _)⟩)
     have q0 := j6 HB.out.1 z0
     have q1 := j6 HB.out.1 z1
     have q2 : wa.drew.frozen? ⟨gr, u, none⟩ = false := (HB.out.1.frozen (World.block_lt_of_cell? wr _ z1)).trans z2
     have r0 : wa.drew.cell? ⟨wr.heap.size, 0, none⟩ = some (.int .i64 u) := (y7 HB.out.2 0).trans rfl
     have r1 : wa.drew.cell? ⟨wr.heap.size, 1, none⟩ = some (.int .i64 N) := (y7 HB.out.2 1).trans rfl
     clear z0 z1 z2
     go_wp2
     rw [← hwa]
     refine z1u (S := fun w' => w'.cell? ⟨ga, 0, none⟩ = some (.slice (some ⟨gr, 0, none⟩) n cr) ∧ w'.cell? ⟨gr, u, none⟩ = some (.int .i64 x) ∧ w'.cell? ⟨wr.heap.size, 0, none⟩ = some (.int .i64 u) ∧ w'.cell? ⟨wr.heap.size, 1, none⟩ = some (.int .i64 N)) (ds := [11]) 12 (by kernel_rfl) rfl ⟨q0, q1, r0, r1⟩ (fun hHeld => ?_)
     clear hwa y0 y1
     have u0 : (0 : Int) ≤ (u : Int) := by omega
     have hp1 : (0 : Int) < (H1 : Int) := by omega
     have hp2 : 0 < H1 := by omega
     generalize wa.drew = wd at HB hHeld q0 q1 q2 r0 r1 ⊢
     obtain ⟨gb, hgb⟩ : ∃ gb, gb = wr.heap.size := ⟨_, rfl⟩
     rw [← hgb] at hHeld r0 r1 ⊢
     clear hgb
     repeat (first | refine rP 12 ?_ | refine rT 12 hHeld ?_)
     refine sS 11 ?_
     refine z1e (by kernel_rfl) ?_
     have HF : Hid (MxI w ga ca H1 n (z7i l (p.take (j + 1)) []) (wd.setCell ⟨gr, u, none⟩ (.int .i64 (x + N)))) := zh ((HPUT.out wd HB.out.1 (x + N)).congr fun a v _ _ => by
      unfold y2a
      by_cases ca0 : a = 0 ∧ v = u
      ·rw [if_pos ca0, ca0.1, ca0.2, HXX.out.2]
       unfold z7i
       rw [if_pos rfl, HGT.out, if_pos rfl]
       exact (Int.add_zero _).symm
      ·rw [if_neg ca0]
       unfold z7i
       by_cases cb : a = 0
       ·rw [if_pos cb, if_pos cb, HGT.out, if_neg (fun e9 => ca0 ⟨cb, by omega⟩), Int.add_zero]
       ·rw [if_neg cb, if_neg cb])
     clear hHeld
     go_wp2
     go_roundg (p.length - j)
     case measure => omega
     case rel => exact ⟨j + 1, by omega, by go_num, by omega, HF⟩
    ·have e : j = p.length := by omega
     subst e
     have HX : Hid (MxI w ga ca H1 n (z7i l p (m.take 0)) wr) := zh (by
      have h9 := HL.out
      rw [List.take_length] at h9
      rw [List.take_zero]
      exact h9)
     clear HL hj hlt
     go_wp2
     go_loopg [58] (m.length + 1) (fun k jv W => ∃ j : Nat, j ≤ m.length ∧ jv = .int .i64 j ∧ k = m.length + 1 - j ∧ Hid (MxI w ga ca H1 n (z7i l p (m.take j)) W))
     case atStart => exact ⟨0, Nat.zero_le _, rfl, rfl, HX⟩
     case round =>
      obtain ⟨j, hj, rfl, rfl, HL⟩ := hrel
      clear HX
      by_cases hlt : j < m.length
      ·have i0 : (0 : Int) ≤ (j : Int) := by omega
       have i1 : (j : Int) < (m.length : Int) := by omega
       obtain ⟨ad, ea, y0, y1, y2⟩ := z4j (Kd.C_below HM.out HL.out.low) (j : Int) i0 i1
       subst ea
       rw [Int.toNat_natCast] at y0 y1 y2
       obtain ⟨X, hX⟩ : ∃ X, X = z1q m j := ⟨_, rfl⟩
       have hX2 : z3h m (j : Int) = X := by rw [hX]; rfl
       rw [hX2] at y0 y1 y2
       have hXm : X ∈ m := by rw [hX]; exact z2z hlt
       have hsn : ∀ a v, dS l (m.take (j + 1)) a v = dS l (m.take j) a v + d1 l a v X := fun a v => by rw [hX]; exact x4s l a v hlt
       have hin := HMI.out X hXm
       have har := HAR.out X hXm
       have hle := (HOK.out X hXm).2
       have a0 := hin.a0
       have a1 := hin.a1
       have b1 := hin.t1
       have n2 := hin.n0
       have n3 := hin.n1
       obtain ⟨Y, hY⟩ : ∃ Y, Y = z1i l X := ⟨_, rfl⟩
       rw [← hY] at har hle
       obtain ⟨ae, eb, q0, q1, q2, q3⟩ := z07 (Kd.C_below HR.out HL.out.low) X.f0 a0 a1
       subst eb
       rw [show j7 l X.f0 = Y from hY.symm] at q0 q1 q2 q3
       obtain ⟨z, hz⟩ := z9h hin.t0
       obtain ⟨u, hu0⟩ := z9h har.1.1.1
       obtain ⟨u2, hu1⟩ := z9h har.1.2.1
       obtain ⟨z2, hz2⟩ : ∃ z2 : Nat, X.f1 + Y.f3 = z2 := z9h (by have := hin.t0; have := har.2; omega)
       have hd1 : ∀ a v : Nat, d1 l a v X = (if (u2 : Int) = v ∧ (z2 : Int) = a then X.f2 else 0) - (if (u : Int) = v ∧ (z : Int) = a then X.f2 else 0) := fun a v => by
        unfold d1
        rw [← hY, hu1, hz2, hu0, hz]
       have c0 := har.1.1.2
       have c1 := har.1.2.2
       have c2 := har.2
       rw [hu0] at q0 c0
       rw [hu1] at q1 c1
       rw [hz2] at hle
       rw [hz] at y1 b1 hz2
       obtain ⟨K, hK⟩ : ∃ K, K = X.f0 := ⟨_, rfl⟩
       obtain ⟨N, hN⟩ : ∃ N, N = X.f2 := ⟨_, rfl⟩
       obtain ⟨T, hT⟩ : ∃ T, T = Y.f3 := ⟨_, rfl⟩
       obtain ⟨C, hC⟩ : ∃ C, C = Y.f2 := ⟨_, rfl⟩
       rw [← hK] at y0 a0 a1 q0 q1 q2 q3
       rw [← hN] at y2 n2 n3 hd1
       rw [← hT] at q3 hz2 c2
       rw [← hC] at q2
       have HD1 := zh (And.intro hsn hd1)
       clear hX hX2 hXm hsn hin har hY hz hu0 hu1 hK hN hT hC hd1
       have e5 : IntKind.i64.wrap ((z : Int) + T) = (z : Int) + T := IntWalk.i64_in _ (by omega)
       have w0 : 0 ≤ (z : Int) + T := by omega
       have w1 : (z : Int) + T < (H1 : Int) := by omega
       have HZT : Hid (z2 = ((z : Int) + T).toNat) := zh (by omega)
       have hzz : z ≤ z2 := by omega
       have z0 : (0 : Int) ≤ (z : Int) := by omega
       have z1 : (z : Int) < (H1 : Int) := by omega
       have z3 : (0 : Int) ≤ (z2 : Int) := by omega
       have z4 : (z2 : Int) < (H1 : Int) := by omega
       have u0 : (0 : Int) ≤ (u : Int) := by omega
       have u1 : (0 : Int) ≤ (u2 : Int) := by omega
       clear hz2
       obtain ⟨gr, cr, hne, k0, k1, k2, hput⟩ := HL.out.cell (a := z) (v := u) (by omega) (by omega)
       have hbd := y7w (m := m.take j) HG.out hlp (fun x hx => HMI.out x (List.mem_of_mem_take hx)) (by rw [List.length_take]; omega)
       have HBD := zh hbd
       have hbx := hbd z u
       obtain ⟨F, hF⟩ : ∃ F, F = z7i l p (m.take j) := ⟨_, rfl⟩
       have HFF := zh hF
       rw [← hF] at k1 hput hbx
       obtain ⟨x, hx⟩ : ∃ x, x = F z u := ⟨_, rfl⟩
       rw [← hx] at k1 hbx
       have HXX := zh hx
       have HPUT := zh hput
       have e6 : IntKind.i64.wrap (x - N) = x - N := IntWalk.i64_in _ (by omega)
       have HLT := zh (World.block_lt_of_cell? wr _ k1)
       clear hput hx hF hbd
       obtain ⟨wa, hwa⟩ : ∃ wa, wa = wr.alloc (.cells #[.int .i64 K, .int .i64 z, .int .i64 N] 76) := ⟨_, rfl⟩
       have HB : Hid (Below wr.heap.size wr wa.drew ∧ wa.drew.heap[wr.heap.size]? = some (.cells #[.int .i64 K, .int .i64 z, .int .i64 N] 76 (0, 0))) := zh (by rw [hwa]; exact ⟨q6 (y8 (Below.refl _ _) _), n7 (heap_alloc_new _ _)⟩)
       have p2 : wa.drew.cell? ⟨gp, 2, none⟩ = some (.slice (some ae) l.length c) := (y7 (HP.out.below (v6 HL.out.low HB.out.1)).bx 2).trans rfl
       have r0 : wa.drew.cell? ⟨wr.heap.size, 0, none⟩ = some (.int .i64 K) := (y7 HB.out.2 0).trans rfl
       have q0 := j6 HB.out.1 q0
       have q1 := j6 HB.out.1 q1
       have q2 := j6 HB.out.1 q2
       have q3 := j6 HB.out.1 q3
       have HK := zh (And.intro k0 (And.intro k1 k2))
       clear k0 k1 k2
       go_wp2
       rw [← hwa]
       refine z1u (S := fun w' => w'.cell? ⟨gp, 2, none⟩ = some (.slice (some ae) l.length c) ∧ w'.cell? ⟨wr.heap.size, 0, none⟩ = some (.int .i64 K) ∧ w'.cell? (ae.add (K.toNat * 4)) = some (.int .i64 u) ∧ w'.cell? ⟨(ae.add (K.toNat * 4)).block, (ae.add (K.toNat * 4)).off + 1, none⟩ = some (.int .i64 u2) ∧ w'.cell? ⟨(ae.add (K.toNat * 4)).block, (ae.add (K.toNat * 4)).off + 2, none⟩ = some (.int .i64 C) ∧ w'.cell? ⟨(ae.add (K.toNat * 4)).block, (ae.add (K.toNat * 4)).off + 3, none⟩ = some (.int .i64 T)) (ds := [10]) 11 (by kernel_rfl) rfl ⟨p2, r0, q0, q1, q2, q3⟩ (fun hHeld => ?_)
       clear hwa y0 y1 y2
       generalize wa.drew = wd at HB hHeld p2 r0 q0 q1 q2 q3 ⊢
       obtain ⟨gb, hgb⟩ : ∃ gb, gb = wr.heap.size := ⟨_, rfl⟩
       rw [← hgb] at hHeld r0 ⊢
       have HGB := zh hgb
       clear hgb
       repeat (first | refine rP 11 ?_ | refine rT 11 hHeld ?_)
       refine sB 9 hHeld (fun hHeld => ?_)
       refine sS 10 ?_
       refine z1e (by kernel_rfl) ?_
       clear hHeld p2 r0 q0 q1 q2 q3
       obtain ⟨wb, hwb⟩ : ∃ wb, wb = wd.alloc (.cells #[.int .i64 u, .int .i64 u2, .int .i64 C, .int .i64 T] 104) := ⟨_, rfl⟩
       obtain ⟨ge, hge⟩ : ∃ ge, ge = wd.heap.size := ⟨_, rfl⟩
       have HB2 : Hid (Below wr.heap.size wr wb.drew ∧ wb.drew.heap[gb]? = some (.cells #[.int .i64 K, .int .i64 z, .int .i64 N] 76 (0, 0)) ∧ wb.drew.heap[ge]? = some (.cells #[.int .i64 u, .int .i64 u2, .int .i64 C, .int .i64 T] 104 (0, 0)) ∧ gr ≠ gb ∧ gr ≠ ge) := zh (by
        have s1 := HB.out.1.size
        have s2 := HLT.out
        have s3 := HGB.out
        rw [hwb, hge]
        refine ⟨q6 (y8 HB.out.1 _), n7 (j9 (by rw [s3]; exact HB.out.2) _), n7 (heap_alloc_new _ _), ?_, ?_⟩
        ·intro e9; rw [e9] at s2; omega
        ·intro e9; rw [e9] at s2; omega)
       rw [← hwb, ← hge]
       clear hwb hge HB
       have k0 := j6 HB2.out.1 HK.out.1
       have k1 := j6 HB2.out.1 HK.out.2.1
       have k2 : wb.drew.frozen? ⟨gr, u, none⟩ = false := (HB2.out.1.frozen HLT.out).trans HK.out.2.2
       have r1 : wb.drew.cell? ⟨gb, 1, none⟩ = some (.int .i64 z) := (y7 HB2.out.2.1 1).trans rfl
       have r2 : wb.drew.cell? ⟨gb, 2, none⟩ = some (.int .i64 N) := (y7 HB2.out.2.1 2).trans rfl
       have s0 : wb.drew.cell? ⟨ge, 0, none⟩ = some (.int .i64 u) := (y7 HB2.out.2.2.1 0).trans rfl
       have s1 : wb.drew.cell? ⟨ge, 1, none⟩ = some (.int .i64 u2) := (y7 HB2.out.2.2.1 1).trans rfl
       have s3 : wb.drew.cell? ⟨ge, 3, none⟩ = some (.int .i64 T) := (y7 HB2.out.2.2.1 3).trans rfl
       go_wp2
       refine z1u (S := fun w' => w'.cell? ⟨ga, z, none⟩ = some (.slice (some ⟨gr, 0, none⟩) n cr) ∧ w'.cell? ⟨gr, u, none⟩ = some (.int .i64 x) ∧ w'.cell? ⟨gb, 1, none⟩ = some (.int .i64 z) ∧ w'.cell? ⟨gb, 2, none⟩ = some (.int .i64 N) ∧ w'.cell? ⟨ge, 0, none⟩ = some (.int .i64 u)) (ds := [13]) 14 (by kernel_rfl) rfl ⟨k0, k1, r1, r2, s0⟩ (fun hHeld => ?_)
       generalize wb.drew = wf at HB2 hHeld k0 k1 k2 r1 r2 s0 s1 s3 ⊢
       repeat (first | refine rP 14 ?_ | refine rT 14 hHeld ?_)
       refine sS 13 ?_
       refine z1e (by kernel_rfl) ?_
       clear hHeld k0 k1 k2 s0
       obtain ⟨wc, hwc⟩ : ∃ wc, wc = wf.setCell ⟨gr, u, none⟩ (.int .i64 (x - N)) := ⟨_, rfl⟩
       have hM1 : MxI w ga ca H1 n (y2a F z u (x - N)) wc.drew := by
        rw [hwc]
        exact (HPUT.out wf HB2.out.1 (x - N)).below (q6 (Below.refl _ _))
       have far : ∀ (g9 t9 : Nat) (v9 : Value), gr ≠ g9 → wf.cell? ⟨g9, t9, none⟩ = some v9 → wc.drew.cell? ⟨g9, t9, none⟩ = some v9 := fun g9 t9 v9 h9 h8 => by
        rw [hwc]
        exact (World.cell?_setCell_far wf ⟨gr, u, none⟩ ⟨g9, t9, none⟩ (.int .i64 (x - N)) h9).trans h8
       have r1 := far gb 1 _ HB2.out.2.2.2.1 r1
       have r2 := far gb 2 _ HB2.out.2.2.2.1 r2
       have s1 := far ge 1 _ HB2.out.2.2.2.2 s1
       have s3 := far ge 3 _ HB2.out.2.2.2.2 s3
       clear far
       rw [← hwc]
       clear hwc
       obtain ⟨gr2, cr2, hne2, k0, k1, k2, hput2⟩ := hM1.cell (a := z2) (v := u2) (by omega) (by omega)
       obtain ⟨G2, hG2⟩ : ∃ G2, G2 = y2a F z u (x - N) := ⟨_, rfl⟩
       rw [← hG2] at k1 hput2
       obtain ⟨x2, hx2⟩ : ∃ x2, x2 = G2 z2 u2 := ⟨_, rfl⟩
       rw [← hx2] at k1
       have hbx2 : -120000000000000000 ≤ x2 ∧ x2 ≤ 120000000000000000 := by
        have h9 := HBD.out z2 u2
        rw [← HFF.out] at h9
        rw [hx2, hG2]
        unfold y2a
        split <;> omega
       have HG2 := zh (And.intro hG2 hx2)
       have HPUT2 := zh hput2
       clear hput2 hG2 hx2 hM1
       rw [HZT.out] at k0
       have e7 : IntKind.i64.wrap (x2 + N) = x2 + N := IntWalk.i64_in _ (by omega)
       go_wp2
       refine z1u (S := fun w' => w'.cell? ⟨ga, ((z : Int) + T).toNat, none⟩ = some (.slice (some ⟨gr2, 0, none⟩) n cr2) ∧ w'.cell? ⟨gr2, u2, none⟩ = some (.int .i64 x2) ∧ w'.cell? ⟨gb, 1, none⟩ = some (.int .i64 z) ∧ w'.cell? ⟨gb, 2, none⟩ = some (.int .i64 N) ∧ w'.cell? ⟨ge, 1, none⟩ = some (.int .i64 u2) ∧ w'.cell? ⟨ge, 3, none⟩ = some (.int .i64 T)) (ds := [16]) 17 (by kernel_rfl) rfl ⟨k0, k1, r1, r2, s1, s3⟩ (fun hHeld => ?_)
       generalize wc.drew = wg at HPUT2 hHeld k0 k1 k2 r1 r2 s1 s3 ⊢
       refine wT skT17 (fun hT => ?_)
       repeat (first | refine qP 17 hT ?_ | refine qT 17 hT hHeld ?_)
       refine sS 16 ?_
       refine z1e (by kernel_rfl) ?_
       clear hHeld hT
       have HF : Hid (MxI w ga ca H1 n (z7i l p (m.take (j + 1))) (wg.setCell ⟨gr2, u2, none⟩ (.int .i64 (x2 + N)))) := zh ((HPUT2.out wg (Below.refl _ _) (x2 + N)).congr fun a v _ _ => by
        rw [HG2.out.2, x3t, HG2.out.1, HXX.out, x3s]
        have h8 := HD1.out.1 a v
        have h9 := HD1.out.2 a v
        rw [HFF.out]
        unfold z7i
        rw [h8, h9]
        omega)
       clear k0 k1 k2 r1 r2 s1 s3
       go_wp2
       go_roundg (m.length - j)
       case measure => omega
       case rel => exact ⟨j + 1, by omega, by go_num, by omega, HF⟩
      ·have e : j = m.length := by omega
       subst e
       have HX : Hid (MxI w ga ca H1 n (y0n l p m 0 0) wr) := zh (by
        have h9 := HL.out
        rw [List.take_length] at h9
        exact h9.congr fun a v _ _ => y9w HD.out (fun g hg => (HG.out g hg).2.1) (fun x hx => ⟨(HMI.out x hx).t0, (HAR.out x hx).2⟩) a v)
       clear HL hj hlt
       go_wp2
       go_loopg [102] (h + 1) (fun k tv W => ∃ t : Nat, t ≤ h ∧ tv = .int .i64 t ∧ k = h + 1 - t ∧ Hid (MxI w ga ca H1 n (y0n l p m t 0) W))
       case atStart => exact ⟨0, Nat.zero_le _, rfl, rfl, HX⟩
       case round =>
        obtain ⟨t, ht, rfl, rfl, HL⟩ := hrel
        clear HX
        by_cases hlt : t < h
        ·have i0 : (0 : Int) ≤ (t : Int) := by omega
         have i1 : (t : Int) < (h : Int) := by omega
         have i2 : (t : Int) < (H1 : Int) := by omega
         obtain ⟨gr, cr, hne, k0, -, -, -⟩ := HL.out.cell (a := t) (v := 0) (by omega) n0
         have HX := zh (And.intro HL.out k0)
         go_wp2
         go_loopg [110] (n + 1) (fun k uv W => ∃ u : Nat, u ≤ n ∧ uv = .int .i64 u ∧ k = n + 1 - u ∧ Hid (MxI w ga ca H1 n (y0n l p m t u) W ∧ W.cell? ⟨ga, t, none⟩ = some (.slice (some ⟨gr, 0, none⟩) n cr)))
         case atStart => exact ⟨0, Nat.zero_le _, rfl, rfl, HX⟩
         case round =>
          obtain ⟨u, hu0, rfl, rfl, HL⟩ := hrel
          clear HX k0
          by_cases hul : u < n
          ·have v0 : (0 : Int) ≤ (u : Int) := by omega
           have v1 : (u : Int) < (n : Int) := by omega
           obtain ⟨g3, c3, -, k0, k1, -, -⟩ := HL.out.1.cell (a := t) (v := u) (by omega) hul
           have k9 := HL.out.2
           rw [k0] at k9
           injection k9 with k9
           injection k9 with k9 _ k8
           injection k9 with k9
           injection k9 with k9
           subst k9 k8
           have t2 : (0 : Int) ≤ (t : Int) + 1 := by omega
           have t3 : (t : Int) + 1 < (H1 : Int) := by omega
           obtain ⟨gr2, cr2, hne2, q0, q1, q2, hput⟩ := HL.out.1.cell (a := t + 1) (v := u) (by omega) hul
           have hs := y7d HG.out HMI.out hml (u : Int) (t : Int)
           have hb := y7w HG.out hlp HMI.out hml (t + 1) u
           obtain ⟨K1, hK1⟩ : ∃ K1, K1 = z14 l p m u t := ⟨_, rfl⟩
           have e1 : y0n l p m t u t u = K1 := by rw [hK1]; exact if_pos (.inl (Nat.le_refl _))
           have e2 : y0n l p m t u (t + 1) u = z7i l p m (t + 1) u := if_neg (by omega)
           obtain ⟨x, hx⟩ : ∃ x, x = y0n l p m t u (t + 1) u := ⟨_, rfl⟩
           rw [← hK1] at hs
           rw [← e2, ← hx] at hb
           rw [e1] at k1
           rw [← hx] at q1
           have e6 : IntKind.i64.wrap (x + K1) = x + K1 := IntWalk.i64_in _ (by omega)
           have HF : Hid (MxI w ga ca H1 n (y0n l p m t (u + 1)) (wr.setCell ⟨gr2, u, none⟩ (.int .i64 (x + K1))) ∧ (wr.setCell ⟨gr2, u, none⟩ (.int .i64 (x + K1))).cell? ⟨ga, t, none⟩ = some (.slice (some ⟨g3, 0, none⟩) n c3)) := zh ⟨(hput wr (Below.refl _ _) (x + K1)).congr (fun a v _ _ => by rw [hx, hK1]; exact x2j l p m t u a v), (World.cell?_setCell_far wr ⟨gr2, u, none⟩ ⟨ga, t, none⟩ (.int .i64 (x + K1)) hne2).trans k0⟩
           clear hK1 e1 e2 hx hput hne2
           go_wp2
           go_roundg (n - u)
           case measure => omega
           case rel => exact ⟨u + 1, by omega, by go_num, by omega, HF⟩
          ·have e : u = n := by omega
           subst e
           have HF : Hid (MxI w ga ca H1 u (y0n l p m (t + 1) 0) wr) := zh (HL.out.1.congr fun a v _ hv => x2i l p m t u hv)
           clear HL
           go_wp2
           go_roundg (h - t)
           case measure => omega
           case rel => exact ⟨t + 1, by omega, by go_num, by omega, HF⟩
        ·have e : t = h := by omega
         subst e
         go_wp2
         go_ret
         refine ⟨ga, ca, by rw [← HH1.out]; rfl, ?_⟩
         have h9 := HL.out
         rw [HH1.out] at h9
         exact h9.congr fun a v ha _ => if_pos (.inl (by omega))
end Go.Proofs.YtcgdloldkcmhnaaGreat.H
end
section
namespace Go.Proofs.YtcgdloldkcmhnaaGreat.H
open Go Go.RowKit Go.Proofs.YtcgdloldkcmhnaaGreat.PrintC Go.Proofs.YtcgdloldkcmhnaaGreatW.PrintWords Go.Proofs.YtcgdloldkcmhnaaGreatW.PrintLast Go.Proofs.YtcgdloldkcmhnaaGreatW.PrintMore
set_option linter.unusedVariables false
set_option linter.unusedSimpArgs false
theorem y9v (x y c : Int) (hx : 0 ≤ x) (hy : 0 ≤ y) (hc0 : 0 ≤ c) (hc : c ≤ 1) (w : World) : (callFunc 100 #[.int .u64 x, .int .u64 y, .int .u64 c]).run Tryz.prog w = .ok (.value (.tuple #[.int .u64 ((x + y + c) % 18446744073709551616), .int .u64 ((x + y + c) / 18446744073709551616)])) w := by
 rw [run_callFunc_extern Tryz.func100 (by kernel_rfl) (by kernel_rfl) (by kernel_rfl) (e := add64Entry) (by kernel_rfl), run_add64 x y c hx hy hc0 hc]
 rfl
theorem y8z {x : Int} (hx : -9223372036854775808 ≤ x ∧ x ≤ 9223372036854775807) {L : Int} (h0 : 0 ≤ L) (h1 : L < 18446744073709551616) :
  ∃ U C s L2 : Int, IntKind.u64.wrap x = U ∧ 0 ≤ U ∧ x / 9223372036854775808 = s ∧ -1 ≤ s ∧ s ≤ 0 ∧ (L + U + 0) % 18446744073709551616 = L2 ∧ (L + U + 0) / 18446744073709551616 = C ∧ 0 ≤ C ∧ C ≤ 1 ∧ 0 ≤ L2 ∧ L2 < 18446744073709551616 ∧ (s + C) * 18446744073709551616 + L2 = L + x := by
 have e2 : IntKind.u64.wrap x = x % 18446744073709551616 := by
  simp [IntKind.wrap, IntKind.bits, IntKind.signed]
 rw [e2]
 refine ⟨_, _, _, _, rfl, ?_, rfl, ?_, ?_, rfl, rfl, ?_, ?_, ?_, ?_, ?_⟩ <;> omega
theorem y9g (A : Option Addr) (c : Nat) (l : List Int) (w : World) (hr : Kd.C (Kd.int .i64) w A l.length l) (hi : x5l l) (hl : l.length ≤ 1000000) :
  Calls Tryz.prog 90 #[.slice A l.length c] w (z4f l w) := by
 have HR := zh hr
 have HI := zh hi
 clear hr hi
 go_enter Tryz.func90, Tryz.ntmps90
 go_wp2
 go_loopg [4, 5, 11] (l.length + 1) (fun k hv lv iv W => ∃ (i : Nat) (H L : Int), i ≤ l.length ∧ hv = .int .i64 H ∧ lv = .int .u64 L ∧ iv = .int .i64 i ∧ k = l.length + 1 - i ∧ Hid (H * 18446744073709551616 + L = z3q (l.take i) ∧ 0 ≤ L ∧ L < 18446744073709551616 ∧ -(i : Int) ≤ H ∧ H ≤ i ∧ Below w.heap.size w W))
 case atStart => exact ⟨0, 0, 0, Nat.zero_le _, rfl, rfl, rfl, rfl, zh ⟨rfl, by decide, by decide, by decide, by decide, Below.refl _ _⟩⟩
 case round =>
  obtain ⟨i, H, L, hi, rfl, rfl, rfl, rfl, HS⟩ := hrel
  by_cases hlt : i < l.length
  ·have i0 : (0 : Int) ≤ (i : Int) := by omega
   have i1 : (i : Int) < (l.length : Int) := by omega
   obtain ⟨ae, eb, z0⟩ := Kd.at_int (Kd.C_below HR.out HS.out.2.2.2.2.2) (i : Int) i0 i1
   subst eb
   rw [Int.toNat_natCast] at z0
   have hx := x25 HI.out hlt
   have HT := zh (y0v hlt)
   obtain ⟨x, hxe⟩ : ∃ x, x = rd l (i : Int) := ⟨_, rfl⟩
   rw [← hxe] at z0 hx
   have HXE := zh hxe
   clear hxe
   obtain ⟨U, C, s, L2, e1, u0, e2, s0, s1, e3, e4, c0, c1, l0, l1, he⟩ := y8z hx HS.out.2.1 HS.out.2.2.1
   have hadd : ∀ W : World, (callFunc 100 #[.int .u64 L, .int .u64 U, .int .u64 0]).run Tryz.prog W = .ok (.value (.tuple #[.int .u64 L2, .int .u64 C])) W := fun W => by
    rw [y9v L U 0 HS.out.2.1 u0 (by decide) (by decide), e3, e4]
   have e5 : IntKind.i64.wrap C = C := IntWalk.i64_in _ (by omega)
   have e6 : wrap64 (s + C) = s + C := by unfold wrap64; omega
   have e7 : wrap64 (H + (s + C)) = H + (s + C) := by have := HS.out.2.2.2; unfold wrap64; omega
   have HE := zh (And.intro he (And.intro (And.intro l0 l1) (And.intro (And.intro s0 s1) (And.intro c0 c1))))
   clear e3 e4 u0 s0 s1 c0 c1 l0 l1 he hx
   go_wp2
   go_roundg (l.length - i)
   case measure => omega
   case rel => exact ⟨i + 1, H + (s + C), L2, by omega, (by rw [e7]), rfl, by go_num, by omega, zh ⟨by rw [HT.out, z4n, ← HXE.out]; have := HE.out.1; have := HS.out.1; omega, HE.out.2.1.1, HE.out.2.1.2, by have := HE.out.2; have := HS.out.2.2.2; omega, by have := HE.out.2; have := HS.out.2.2.2; omega, HS.out.2.2.2.2.2⟩⟩
  ·have e : i = l.length := by omega
   subst e
   have hs := HS.out.1
   rw [List.take_length] at hs
   obtain ⟨T, hT⟩ : ∃ T, T = z3q l := ⟨_, rfl⟩
   rw [← hT] at hs
   have HTE := zh hT
   clear hT
   have l0 := HS.out.2.1
   have l1 := HS.out.2.2.1
   obtain ⟨Z, hZ, z0⟩ : ∃ Z : Int, IntKind.i64.wrap L = Z ∧ ((L < 9223372036854775808 ∧ Z = L) ∨ (9223372036854775808 ≤ L ∧ Z = L - 18446744073709551616)) := by
    refine ⟨_, rfl, ?_⟩
    by_cases c : L < 9223372036854775808
    ·exact .inl ⟨c, IntWalk.i64_in _ (by omega)⟩
    ·refine .inr ⟨by omega, ?_⟩
     rw [IntWalk.i64_left]
     unfold wrap64
     omega
   obtain ⟨g, hg, g0⟩ : ∃ g : Int, Z / 9223372036854775808 = g ∧ ((L < 9223372036854775808 ∧ g = 0) ∨ (9223372036854775808 ≤ L ∧ g = -1)) := by
    refine ⟨_, rfl, ?_⟩
    omega
   by_cases c1 : H = g
   ·have HF : Hid (z7b T = true ∧ Z = T) := zh ⟨by unfold z7b; rw [decide_eq_true_eq]; omega, by omega⟩
    have d1 : (H == g) = true := beq_iff_eq.2 c1
    have d2 : (H != g) = false := by rw [bne, d1]; rfl
    clear hs l0 l1 z0 g0 c1
    go_wp2
    go_ret2
    unfold z4f
    rw [← HTE.out, HF.out.1]
    exact ⟨by rw [HF.out.2]; rfl, HS.out.2.2.2.2.2⟩
   ·have HF : Hid (z7b T = false) := zh (by unfold z7b; rw [decide_eq_false_iff_not]; omega)
    have d1 : (H == g) = false := beq_eq_false_iff_ne.2 c1
    have d2 : (H != g) = true := by rw [bne, d1]; rfl
    clear hs l0 l1 z0 g0 c1
    go_wp2
    go_ret2
    unfold z4f
    rw [← HTE.out, HF.out]
    exact ⟨rfl, HS.out.2.2.2.2.2⟩
end Go.Proofs.YtcgdloldkcmhnaaGreat.H
end
section
namespace Go.Proofs.YtcgdloldkcmhnaaGreat.H
open Go Go.RowKit Go.Proofs.YtcgdloldkcmhnaaGreat.PrintC Go.Proofs.YtcgdloldkcmhnaaGreat.PrintE Go.Proofs.YtcgdloldkcmhnaaGreatW.PrintWords Go.Proofs.YtcgdloldkcmhnaaGreatW.PrintLast Go.Proofs.YtcgdloldkcmhnaaGreatW.PrintMore
set_option linter.unusedVariables false
set_option linter.unusedSimpArgs false
def f2s (l : List Mv) (g : List Int) : List Int := g.map fun k => (z1q l k.toNat).f2
def x26 (v : List Int) (i : Nat) : List Int := v.take i ++ List.replicate (v.length - i) 0
theorem y7z {v : List Int} {i : Nat} {x : Int} (h : v[i]? = some x) : (x26 v i).set i x = x26 v (i + 1) := by
 have hi : i < v.length := (List.getElem?_eq_some_iff.1 h).1
 unfold x26
 have hl : (v.take i).length = i := by rw [List.length_take]; omega
 rw [List.set_append_right _ _ (by omega), hl, Nat.sub_self, List.take_add_one, h, show v.length - i = (v.length - (i + 1)) + 1 by omega, List.replicate_succ, List.set_cons_zero, List.append_assoc]
 rfl
theorem x0r (v : List Int) : x26 v v.length = v := by
 unfold x26
 rw [Nat.sub_self, List.take_length]
 exact List.append_nil _
theorem x0c (A : Option Addr) (c : Nat) (l : List Mv) (Ag : Option Addr) (cg : Nat) (g : List Int) (w : World) (hr : Kd.C kMv w A l.length l) (hg : Kd.C (Kd.int .i64) w Ag g.length g) (hk : ∀ k, k ∈ g → ∃ t : Nat, t < l.length ∧ k = t) (hi : ∀ x, x ∈ l → -9223372036854775808 ≤ x.f2 ∧ x.f2 ≤ 9223372036854775807) (h0 : 0 < g.length) (hl : g.length ≤ 100000) :
  Calls Tryz.prog 72 #[.slice A l.length c, .slice Ag g.length cg, .func (.func 73) #[] #[]] w (z4f (f2s l g) w) := by
 have HR := zh hr
 have HG := zh hg
 have HK := zh hk
 have HI := zh hi
 obtain ⟨vs, hvs⟩ : ∃ vs, vs = f2s l g := ⟨_, rfl⟩
 have HVL : Hid (vs.length = g.length) := zh (by rw [hvs]; exact List.length_map ..)
 have HV := zh hvs
 rw [← hvs]
 clear hr hg hk hi hvs
 go_enter Tryz.func72, Tryz.ntmps72
 go_wp2_with ((with_reducible refine r5 (N := 13) rfl ?_); go_loud (refine Kd.R_make (Kd.int .i64) (w0 := w) w.heap.size 3 rfl rfl 68 (.tmp 12) (.tmp 12) rfl (g.length : Int) rfl rfl Tryz.underlying68 (.int .i64 0) 8 z8k rfl (by decide) (by decide) (0 : Int) (ok := fun _ => True) (okp := fun _ => False) rfl (fun _ h => h.elim) trivial (by omega) (by rw [Int.toNat_natCast]; exact Nat.le_trans (Nat.mul_le_mul_right 8 hl) (by decide)) (Below.refl _ _) (Nat.le_refl _) ?_; intro v1 w1 ho hb hgr hat; rw [Int.toNat_natCast] at ho; obtain ⟨ga, ca, rfl, -⟩ := Kd.R_form ho (by rw [List.length_replicate]; exact h0); rw [List.length_replicate] at ho ⊢; have HX : Hid (Kd.R (Kd.int .i64) 3 w1 w.heap.size (fun _ => True) (.slice (some ⟨ga, 0, none⟩) g.length ca) (x26 vs 0) ∧ Below w.heap.size w w1) := zh ⟨(by unfold x26; rw [Nat.sub_zero, HVL.out]; exact ho), hb⟩; clear ho hb hgr hat))
 go_loopg [16] (g.length + 1) (fun k iv W => ∃ i : Nat, i ≤ g.length ∧ iv = .int .i64 i ∧ k = g.length + 1 - i ∧ Hid (Kd.R (Kd.int .i64) 3 W w.heap.size (fun _ => True) (.slice (some ⟨ga, 0, none⟩) g.length ca) (x26 vs i) ∧ Below w.heap.size w W))
 case atStart => exact ⟨0, Nat.zero_le _, rfl, rfl, HX⟩
 case round =>
  obtain ⟨i, hi, rfl, rfl, HL⟩ := hrel
  clear HX
  by_cases hlt : i < g.length
  ·have i0 : (0 : Int) ≤ (i : Int) := by omega
   have i1 : (i : Int) < (g.length : Int) := by omega
   obtain ⟨ae, eb, z0⟩ := Kd.at_int (Kd.C_below HG.out HL.out.2) (i : Int) i0 i1
   subst eb
   rw [Int.toNat_natCast] at z0
   have hmem : rd g (i : Int) ∈ g := by
    unfold rd
    rw [Int.toNat_natCast, List.getD_eq_getElem?_getD, List.getElem?_eq_getElem hlt]
    exact List.getElem_mem hlt
   obtain ⟨t, ht, et⟩ := HK.out _ hmem
   have HRD : Hid (g[i]? = some (t : Int)) := zh (by
    rw [← et]
    unfold rd
    rw [Int.toNat_natCast, List.getD_eq_getElem?_getD, List.getElem?_eq_getElem hlt]
    rfl)
   rw [et] at z0
   clear hmem et
   have t0 : (0 : Int) ≤ (t : Int) := by omega
   have t1 : (t : Int) < (l.length : Int) := by omega
   obtain ⟨ad, ea, y0, y1, y2⟩ := z4j (Kd.C_below HR.out HL.out.2) (t : Int) t0 t1
   subst ea
   obtain ⟨X, hX⟩ : ∃ X, X = z1q l t := ⟨_, rfl⟩
   have hX2 : z3h l (t : Int) = X := by rw [hX]; rfl
   rw [Int.toNat_natCast, hX2] at y0 y1 y2
   have HXE := zh hX
   clear hX hX2
   go_wp2_with (go_at_call 73; (with_reducible refine (x0w X _).mono ?_); rintro e w1 ⟨rfl, hb⟩; have HI1 := zh (And.intro (Kd.R_below HL.out.1 hb) (v6 HL.out.2 hb)); obtain ⟨za, zf⟩ := Kd.R_celln (0 : Int) HI1.out.1 (i : Int) i0 i1; rw [Int.toNat_natCast] at za zf; clear hb)
   have HF := zh (And.intro (Kd.R_putn HI1.out.1 (i : Int) X.f2) (HI1.out.2.setCell (p := ⟨ga, i, none⟩) (Kd.R_base HI1.out.1 ga rfl) (.int .i64 X.f2)))
   go_roundg (g.length - i)
   case measure => omega
   case rel => exact ⟨i + 1, by omega, by go_num, by omega, zh (by
    have h9 := HF.out
    rw [Int.toNat_natCast, y7z (x := X.f2) (by
     rw [HV.out]
     unfold f2s
     rw [List.getElem?_map, HRD.out, Option.map_some, Int.toNat_natCast, ← HXE.out])] at h9
    exact h9)⟩
  ·have e : i = g.length := by omega
   subst e
   have hs := HL.out.1
   rw [← HVL.out, x0r, HVL.out] at hs
   have HS := zh hs
   clear hs
   have HI64 : Hid (x5l vs) := zh (fun x hx => by
    rw [HV.out] at hx
    unfold f2s at hx
    obtain ⟨k, hk, rfl⟩ := List.mem_map.1 hx
    obtain ⟨t, ht, rfl⟩ := HK.out k hk
    exact HI.out _ (z2z (by rw [Int.toNat_natCast]; exact ht)))
   have HLV : Hid (vs.length ≤ 1000000) := zh (by rw [HVL.out]; omega)
   obtain ⟨T, hT⟩ : ∃ T, T = if z7b (z3q vs) = true then z3q vs else 0 := ⟨_, rfl⟩
   obtain ⟨F, hF⟩ : ∃ F, F = z7b (z3q vs) := ⟨_, rfl⟩
   have HTF := zh (And.intro hT hF)
   have HSUM : Hid (∀ W, Kd.C (Kd.int .i64) W (some ⟨ga, 0, none⟩) g.length vs → Calls Tryz.prog 90 #[.slice (some ⟨ga, 0, none⟩) g.length ca] W fun e w' => e = .returned (.tuple #[.int .i64 T, .bool F]) ∧ Below W.heap.size W w') := zh (fun W h => by
    rw [← HVL.out] at h ⊢
    rw [hT, hF]
    exact y9g (some ⟨ga, 0, none⟩) ca vs W h HI64.out HLV.out)
   clear hT hF
   go_wp2_with (go_at_call 90; (with_reducible refine (HSUM.out _ ?s1).mono ?_); (case s1 => have h9 := (Kd.R_reads' HS.out).2.2; rw [HVL.out] at h9; exact h9); rintro e w3 ⟨rfl, hb⟩; have HB3 := zh (v6 HL.out.2 hb); clear hb)
   go_ret2
   unfold z4f
   rw [← HTF.out.1, ← HTF.out.2]
   exact ⟨rfl, HB3.out⟩
end Go.Proofs.YtcgdloldkcmhnaaGreat.H
end
section
namespace Go.Proofs
open Go.Shelf
def Tryz.sortMv_ren : Go.Shelf.Ren := ⟨fun | 6 => 74 | 15 => 92 | 14 => 91 | 28 => 109 | 29 => 110 | 20 => 101 | 21 => 102 | 22 => 103 | 23 => 104 | 24 => 105 | 25 => 106 | 26 => 107 | 27 => 108 | 46 => 123 | 47 => 124 | 48 => 125 | 49 => 126 | 50 => 127 | 57 => 137 | n => n, fun | 22 => 40 | 24 => 76 | 25 => 138 | 3 => 3 | 39 => 127 | 0 => 0 | 53 => 177 | 55 => 166 | 4 => 4 | 46 => 171 | 45 => 170 | 50 => 77 | 5 => 5 | 9 => 9 | 66 => 191 | 70 => 195 | 76 => 207 | 77 => 118 | n => n, fun | n => n⟩
theorem Tryz.sortMv : Go.Proofs.SlLaysF0.n6 Tryz.prog Tryz.sortMv_ren := {
 mixed := by kernel_rfl
 f6 := ⟨Tryz.f74.name, by decide, Tryz.func74.trans (congrArg some (by kernel_rfl))⟩
 f14 := ⟨Tryz.f91.name, by decide, Tryz.func91.trans (congrArg some (by kernel_rfl))⟩
 f15 := Tryz.func92.trans (congrArg some (by kernel_rfl))
 f20 := ⟨Tryz.f101.name, by decide, Tryz.func101.trans (congrArg some (by kernel_rfl))⟩
 f21 := ⟨Tryz.f102.name, by decide, Tryz.func102.trans (congrArg some (by kernel_rfl))⟩
 f22 := ⟨Tryz.f103.name, by decide, Tryz.func103.trans (congrArg some (by kernel_rfl))⟩
 f23 := ⟨Tryz.f104.name, by decide, Tryz.func104.trans (congrArg some (by kernel_rfl))⟩
 f24 := ⟨Tryz.f105.name, by decide, Tryz.func105.trans (congrArg some (by kernel_rfl))⟩
 f25 := ⟨Tryz.f106.name, by decide, Tryz.func106.trans (congrArg some (by kernel_rfl))⟩
 f26 := ⟨Tryz.f107.name, by decide, Tryz.func107.trans (congrArg some (by kernel_rfl))⟩
 f27 := ⟨Tryz.f108.name, by decide, Tryz.func108.trans (congrArg some (by kernel_rfl))⟩
 f28 := Tryz.func109.trans (congrArg some (by kernel_rfl))
 f29 := Tryz.func110.trans (congrArg some (by kernel_rfl))
 f46 := ⟨Tryz.f123.name, by decide, Tryz.func123.trans (congrArg some (by kernel_rfl))⟩
 f47 := Tryz.func124.trans (congrArg some (by kernel_rfl))
 f48 := Tryz.func125.trans (congrArg some (by kernel_rfl))
 f49 := ⟨Tryz.f126.name, by decide, Tryz.func126.trans (congrArg some (by kernel_rfl))⟩
 f50 := ⟨Tryz.f127.name, by decide, Tryz.func127.trans (congrArg some (by kernel_rfl))⟩
 f57 := ⟨Tryz.f137.name, by decide, Tryz.func137.trans (congrArg some (by kernel_rfl))⟩
 t0 := Tryz.underlying0
 a0 := Tryz.isAgg0
 z0 := Tryz.sizeOf0
 v0 := Tryz.zeroValue0
 t3 := Tryz.underlying3
 a3 := Tryz.isAgg3
 z3 := Tryz.sizeOf3
 v3 := Tryz.zeroValue3
 t4 := Tryz.underlying4
 a4 := Tryz.isAgg4
 z4 := Tryz.sizeOf4
 v4 := Tryz.zeroValue4
 t5 := Tryz.underlying5
 a5 := Tryz.isAgg5
 z5 := Tryz.sizeOf5
 v5 := Tryz.zeroValue5
 t9 := Tryz.underlying9
 a9 := Tryz.isAgg9
 z9 := Tryz.sizeOf9
 v9 := Tryz.zeroValue9
 t22 := Tryz.underlying40
 a22 := Tryz.isAgg40
 z22 := Tryz.sizeOf40
 v22 := Tryz.zeroValue40
 t25 := Tryz.underlying138
 a25 := Tryz.isAgg138
 z25 := Tryz.sizeOf138
 v25 := Tryz.zeroValue138
 t39 := Tryz.underlying127
 a39 := Tryz.isAgg127
 z39 := Tryz.sizeOf127
 v39 := Tryz.zeroValue127
 t45 := Tryz.underlying170
 a45 := Tryz.isAgg170
 z45 := Tryz.sizeOf170
 v45 := Tryz.zeroValue170
 t46 := Tryz.underlying171
 a46 := Tryz.isAgg171
 z46 := Tryz.sizeOf171
 v46 := Tryz.zeroValue171
 t50 := Tryz.underlying77
 a50 := Tryz.isAgg77
 z50 := Tryz.sizeOf77
 v50 := Tryz.zeroValue77
 t53 := Tryz.underlying177
 a53 := Tryz.isAgg177
 z53 := Tryz.sizeOf177
 v53 := Tryz.zeroValue177
 t55 := Tryz.underlying166
 a55 := Tryz.isAgg166
 z55 := Tryz.sizeOf166
 v55 := Tryz.zeroValue166
 t66 := Tryz.underlying191
 a66 := Tryz.isAgg191
 z66 := Tryz.sizeOf191
 v66 := Tryz.zeroValue191
 t70 := Tryz.underlying195
 a70 := Tryz.isAgg195
 z70 := Tryz.sizeOf195
 v70 := Tryz.zeroValue195
 t76 := Tryz.underlying207
 a76 := Tryz.isAgg207
 z76 := Tryz.sizeOf207
 v76 := Tryz.zeroValue207
 t77 := Tryz.underlying118
 a77 := Tryz.isAgg118
 z77 := Tryz.sizeOf118
 v77 := Tryz.zeroValue118 }
end Go.Proofs
end
section
namespace Go.Proofs.YtcgdloldkcmhnaaGreat.H
open Go Go.RowKit Go.Proofs.YtcgdloldkcmhnaaGreat.PrintC Go.Proofs.YtcgdloldkcmhnaaGreat.PrintE Go.Proofs.YtcgdloldkcmhnaaGreatW.PrintWords Go.Proofs.YtcgdloldkcmhnaaGreatW.PrintLast Go.Proofs.YtcgdloldkcmhnaaGreatW.PrintMore
set_option linter.unusedVariables false
set_option linter.unusedSimpArgs false
instance : Inhabited Mv := ⟨z76⟩
def z4c (x : Mv) : List Value := [.int .i64 x.f0, .int .i64 x.f1, .int .i64 x.f2]
def y95 (x y : Int) : Int := if x < y then -1 else if y < x then 1 else 0
def y3h (a b : Mv) : Int := if y95 a.f1 b.f1 = 0 then y95 a.f0 b.f0 else y95 a.f1 b.f1
theorem z6m (a b : Mv) : y3h a b < 0 ↔ mlt a b := by
 unfold y3h y95 mlt
 repeat' split
 all_goals omega
section
variable (w : World)
theorem z96 (x : Int) : Calls Tryz.prog 93 #[.int .i64 x] w fun e w' => e = .returned (.bool false) ∧ w' = w := by
 have hx : (x != x) = false := bne_self_eq_false x
 go_enter Tryz.func93, Tryz.ntmps93
 go_wp2
 go_ret
 exact ⟨rfl, rfl⟩
theorem z65 (x y R : Int) (hR : y95 x y = R) : Calls Tryz.prog 77 #[.int .i64 x, .int .i64 y] w fun e w' => e = .returned (.int .i64 R) ∧ w' = w := by
 unfold y95 at hR
 by_cases c1 : x < y
 ·rw [if_pos c1] at hR
  subst hR
  go_enter Tryz.func77, Tryz.ntmps77
  go_wp2_with (go_at_call 93; refine (z96 _ _).mono ?_; rintro e w1 ⟨rfl, rfl⟩)
  go_ret
  exact ⟨rfl, rfl⟩
 ·rw [if_neg c1] at hR
  by_cases c2 : y < x
  ·rw [if_pos c2] at hR
   subst hR
   go_enter Tryz.func77, Tryz.ntmps77
   go_wp2_with (go_at_call 93; refine (z96 _ _).mono ?_; rintro e w1 ⟨rfl, rfl⟩)
   go_ret
   exact ⟨rfl, rfl⟩
  ·rw [if_neg c2] at hR
   subst hR
   go_enter Tryz.func77, Tryz.ntmps77
   go_wp2_with (go_at_call 93; refine (z96 _ _).mono ?_; rintro e w1 ⟨rfl, rfl⟩)
   go_ret
   exact ⟨rfl, rfl⟩
theorem x39 (g : Nat) (x y R : Int) (hR : (if x = 0 then y else x) = R) (z0 : w.cell? ⟨g, 0, none⟩ = some (.int .i64 x)) (z1 : w.cell? ⟨g, 1, none⟩ = some (.int .i64 y)) :
  Calls Tryz.prog 76 #[.slice (some ⟨g, 0, none⟩) 2 2] w fun e w' => e = .returned (.int .i64 R) ∧ w' = w := by
 have HR := zh hR
 clear hR
 go_enter Tryz.func76, Tryz.ntmps76
 go_wp2
 go_loopg [8] 3 (fun k iv W => W = w ∧ ((iv = .int .i64 0 ∧ k = 3) ∨ (iv = .int .i64 1 ∧ k = 2 ∧ Hid (x = 0)) ∨ (iv = .int .i64 2 ∧ k = 1 ∧ Hid (x = 0 ∧ y = 0))))
 case atStart => exact ⟨rfl, .inl ⟨rfl, rfl⟩⟩
 case round =>
  obtain ⟨rfl, (⟨rfl, rfl⟩ | ⟨rfl, rfl, HX⟩ | ⟨rfl, rfl, HX⟩)⟩ := hrel
  ·by_cases c : x = 0
   ·have d1 : (x == 0) = true := beq_iff_eq.2 c
    have d2 : (x != 0) = false := by rw [bne, d1]; rfl
    have HC := zh c
    clear c
    go_wp2
    go_roundg 2
    case measure => omega
    case rel => exact ⟨rfl, .inr (.inl ⟨rfl, rfl, HC⟩)⟩
   ·have d1 : (x == 0) = false := beq_eq_false_iff_ne.2 c
    have d2 : (x != 0) = true := by rw [bne, d1]; rfl
    have HC := zh c
    clear c
    go_wp2
    go_ret
    exact ⟨by rw [← HR.out, if_neg HC.out]; rfl, rfl⟩
  ·by_cases c : y = 0
   ·have d1 : (y == 0) = true := beq_iff_eq.2 c
    have d2 : (y != 0) = false := by rw [bne, d1]; rfl
    have HC := zh c
    clear c
    go_wp2
    go_roundg 1
    case measure => omega
    case rel => exact ⟨rfl, .inr (.inr ⟨rfl, rfl, zh ⟨HX.out, HC.out⟩⟩)⟩
   ·have d1 : (y == 0) = false := beq_eq_false_iff_ne.2 c
    have d2 : (y != 0) = true := by rw [bne, d1]; rfl
    have HC := zh c
    clear c
    go_wp2
    go_ret
    exact ⟨by rw [← HR.out, if_pos HX.out]; rfl, rfl⟩
  ·go_wp2
   go_ret
   exact ⟨by rw [← HR.out, if_pos HX.out.1, HX.out.2]; rfl, rfl⟩
end
def y91 (W w' : World) : Prop := ∃ q os', w' = Go.Sort.grow (W.drewN q) os'
theorem y91.refl (W : World) : y91 W W := ⟨0, #[], by rw [Go.Sort.grow_empty]; rfl⟩
theorem y91.alloc {W w' : World} (h : y91 W w') (o : Obj) : y91 W (w'.alloc o) := by
 obtain ⟨q, os, rfl⟩ := h
 exact ⟨q, _, by rw [Go.Sort.alloc_eq_grow, Go.Sort.grow_grow]⟩
theorem y91.drew {W w' : World} (h : y91 W w') : y91 W w'.drew := by
 obtain ⟨q, os, rfl⟩ := h
 exact ⟨q + 1, os, rfl⟩
theorem y9i (x y : Mv) (W : World) : Calls Tryz.prog 75 #[.agg #[.int .i64 x.f0, .int .i64 x.f1, .int .i64 x.f2], .agg #[.int .i64 y.f0, .int .i64 y.f1, .int .i64 y.f2]] W fun e w' => e = .returned (.int .i64 (y3h x y)) ∧ y91 W w' := by
 obtain ⟨R, hR⟩ : ∃ R, R = y3h x y := ⟨_, rfl⟩
 obtain ⟨R1, hR1⟩ : ∃ R1, y95 x.f1 y.f1 = R1 := ⟨_, rfl⟩
 obtain ⟨R2, hR2⟩ : ∃ R2, y95 x.f0 y.f0 = R2 := ⟨_, rfl⟩
 have HR : Hid ((if R1 = 0 then R2 else R1) = R ∧ y95 x.f1 y.f1 = R1 ∧ y95 x.f0 y.f0 = R2) := zh ⟨by rw [hR, ← hR1, ← hR2]; rfl, hR1, hR2⟩
 rw [← hR]
 clear hR hR1 hR2
 go_enter Tryz.func75, Tryz.ntmps75
 go_wp2
 obtain ⟨wr, hwr⟩ : ∃ wr, wr = (W.alloc (.cells #[.int .i64 x.f0, .int .i64 x.f1, .int .i64 x.f2] 76)).alloc (.cells #[.int .i64 y.f0, .int .i64 y.f1, .int .i64 y.f2] 76) := ⟨_, rfl⟩
 have HG : Hid (y91 W wr) := zh (by rw [hwr]; exact ((y91.refl W).alloc _).alloc _)
 have hc : wr.drew.cell? ⟨W.heap.size, 1, none⟩ = some (.int .i64 x.f1) ∧ wr.drew.cell? ⟨W.heap.size + 1, 1, none⟩ = some (.int .i64 y.f1) ∧ wr.drew.cell? ⟨W.heap.size, 0, none⟩ = some (.int .i64 x.f0) ∧ wr.drew.cell? ⟨W.heap.size + 1, 0, none⟩ = some (.int .i64 y.f0) := by
  rw [hwr]
  refine ⟨?_, ?_, ?_, ?_⟩ <;> simp
 rw [← hwr]
 clear hwr
 refine z1u (S := fun w' => w'.cell? ⟨W.heap.size, 1, none⟩ = some (.int .i64 x.f1) ∧ w'.cell? ⟨W.heap.size + 1, 1, none⟩ = some (.int .i64 y.f1) ∧ w'.cell? ⟨W.heap.size, 0, none⟩ = some (.int .i64 x.f0) ∧ w'.cell? ⟨W.heap.size + 1, 0, none⟩ = some (.int .i64 y.f0)) (ds := [11]) 13 (by kernel_rfl) rfl hc (fun hHeld => ?_)
 have HG1 := zh HG.out.drew
 generalize wr.drew = wd at HG1 hHeld ⊢
 clear hc HG
 refine sP 0 ?_
 refine sT 1 hHeld ?_
 refine sP 2 ?_
 refine sT 3 hHeld ?_
 refine sP 5 ?_
 refine sT 6 hHeld ?_
 refine sP 7 ?_
 refine sT 8 hHeld ?_
 refine sC 4 Tryz.func77 #[.int .i64 x.f1, .int .i64 y.f1] (z65 wd x.f1 y.f1 R1 HR.out.2.1) ?_
 rintro e w5 ⟨rfl, rfl⟩
 refine ⟨_, rfl, hHeld, fun hHeld => ?_⟩
 refine sN ?_
 refine sC 9 Tryz.func77 #[.int .i64 x.f0, .int .i64 y.f0] (z65 w5 x.f0 y.f0 R2 HR.out.2.2) ?_
 rintro e w6 ⟨rfl, rfl⟩
 refine ⟨_, rfl, hHeld, fun hHeld => ?_⟩
 refine sN ?_
 refine sB 10 hHeld (fun hHeld => ?_)
 have HG2 := zh (HG1.out.alloc (.cells #[.int .i64 R1, .int .i64 R2] 3))
 refine sCL 11 Tryz.func76 #[.slice (some ⟨w6.heap.size, 0, none⟩) 2 2] (x39 _ w6.heap.size R1 R2 R HR.out.1 (by simp) (by simp)) ?_
 rintro e w7 ⟨rfl, rfl⟩
 refine ⟨_, rfl, ?_⟩
 refine sN ?_
 refine sP 12 ?_
 refine z1e (by kernel_rfl) ?_
 clear hHeld
 go_wp2
 go_ret
 exact ⟨rfl, HG2.out⟩
end Go.Proofs.YtcgdloldkcmhnaaGreat.H
end
