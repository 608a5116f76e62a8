/- Texts of this proof, joined; what the statement doesn't need is left out. -/
import Derived.Test.YtcgdloldkcmhnaaA5
section
namespace Go.Proofs.Ytcgdloldkcmhnaa.H
open Go Go.RowKit Go.Proofs.Ytcgdloldkcmhnaa.PrintC Go.Proofs.Ytcgdloldkcmhnaa.PrintE Go.Proofs.YtcgdloldkcmhnaaW.PrintWords Go.Proofs.YtcgdloldkcmhnaaW.PrintLast Go.Proofs.YtcgdloldkcmhnaaW.PrintMore
set_option linter.unusedVariables false
set_option linter.unusedSimpArgs false
def arcOf (l : List Arc) (x : Mv) : Arc := rd_T79 l x.f0
def stock1 (l : List Arc) (v z : Int) (x : Mv) : Int := (if (arcOf l x).f1 = v ∧ x.f1 + (arcOf l x).f3 ≤ z then x.f2 else 0) - (if (arcOf l x).f0 = v ∧ x.f1 ≤ z then x.f2 else 0)
def stockV (l : List Arc) (m : List Mv) (v z : Int) : Int := sumL (m.map (stock1 l v z))
structure MvIn (l : List Arc) (x : Mv) : Prop where
 a0 : 0 ≤ x.f0
 a1 : x.f0 < l.length
 t0 : 0 ≤ x.f1
 t1 : x.f1 ≤ 100000
 n0 : 0 ≤ x.f2
 n1 : x.f2 ≤ 1099511627776
theorem stock_bd {l : List Arc} {v z : Int} : ∀ {m : List Mv}, (∀ x, x ∈ m → MvIn l x) → -(m.length * 1099511627776 : Int) ≤ stockV l m v z ∧ stockV l m v z ≤ m.length * 1099511627776
 |[], _ => by
  show -(0 * 1099511627776 : Int) ≤ 0 ∧ (0 : Int) ≤ 0 * 1099511627776
  decide
 |x :: m, h => by
  have h1 := stock_bd (v := v) (z := z) (m := m) (fun y hy => h y (List.mem_cons_of_mem _ hy))
  have h2 := h x (List.mem_cons_self ..)
  have h3 := h2.n0
  have h4 := h2.n1
  have h5 : -1099511627776 ≤ stock1 l v z x ∧ stock1 l v z x ≤ 1099511627776 := by
   unfold stock1
   split <;> split <;> omega
  unfold stockV at h1 ⊢
  rw [List.map_cons, sumL, List.length_cons]
  omega
theorem stock_snoc (l : List Arc) (v z : Int) {m : List Mv} {i : Nat} (h : i < m.length) : stockV l (m.take (i + 1)) v z = stockV l (m.take i) v z + stock1 l v z (mvAt m i) := by
 unfold stockV
 rw [mvAt_take h, List.map_append]
 exact sumL_snoc _ _
def stT6 : Bool × List (List Nat × List Nat) := (true, [([], []), ([0], [0]), ([], []), ([1, 2], [1, 2]), ([3], [3]), ([4], [4]), ([4], [4]), ([5, 6, 4], [4, 5, 6]), ([7, 4], [4, 7]), ([8, 4], [4, 8]), ([4], [4]), ([10, 4], [4, 10]), ([9, 11, 4], [4, 9, 11]), ([4], [4]), ([12, 13, 4], [4, 12, 13]), ([4, 14], [4, 14])])
set_option maxHeartbeats 8000000 in
set_option maxRecDepth 100000 in
theorem rstock_walk (n : Int) (b : Bool) (A : Option Addr) (c : Nat) (l : List Arc) (Am : Option Addr) (cm : Nat) (m : List Mv) (v z K : Int) (hK : K = stockV l m v z) (w : World) (hr : Kd.C k79 w A l.length l) (hm : Kd.C kMv w Am m.length m) (hok : ∀ x, x ∈ m → MvIn l x) (hti : ∀ i : Int, 0 ≤ i → i < l.length → 0 ≤ (rd_T79 l i).f3 ∧ (rd_T79 l i).f3 ≤ 1048576) (hml : m.length ≤ 100000) :
  Calls Try.prog 43 #[.agg #[.int .i64 n, .bool b, .slice A l.length c], .slice Am m.length cm, .int .i64 v, .int .i64 z] w fun e w' => e = .returned (.int .i64 K) ∧ Below w.heap.size w w' := by
 have hu := Try.underlying32
 have hu2 := Try.underlying103
 have hu3 := Try.underlying79
 have HR := Lib.hid hr
 have HM := Lib.hid hm
 have HOK := Lib.hid hok
 have HTI := Lib.hid hti
 have HK := Lib.hid hK
 clear hr hm hok hti hK
 go_enter Try.func43, Try.ntmps43
 obtain ⟨w1, hw1⟩ : ∃ w1, w1 = w.alloc (.cells #[.int .i64 n, .bool b, .slice A l.length c] 32) := ⟨_, rfl⟩
 have HX : Hid (w1.heap[w.heap.size]? = some (.cells #[.int .i64 n, .bool b, .slice A l.length c] 32 (0, 0)) ∧ Below w.heap.size w w1) := Lib.hid (by rw [hw1]; exact ⟨heap_alloc_new _ _, below_alloc (Below.refl _ _) _⟩)
 go_wp2
 rw [← hw1]
 clear hw1
 go_loopg [9, 10] (m.length + 1) (fun k kv iv W => ∃ i : Nat, i ≤ m.length ∧ kv = .int .i64 (stockV l (m.take i) v z) ∧ iv = .int .i64 i ∧ k = m.length + 1 - i ∧ Hid (W.heap[w.heap.size]? = some (.cells #[.int .i64 n, .bool b, .slice A l.length c] 32 (0, 0)) ∧ Below w.heap.size w W))
 case atStart => exact ⟨0, Nat.zero_le _, rfl, rfl, rfl, HX⟩
 case round =>
  obtain ⟨i, hi, rfl, rfl, rfl, HL⟩ := hrel
  clear HX
  by_cases hlt : i < m.length
  ·have i0 : (0 : Int) ≤ (i : Int) := by omega
   have i1 : (i : Int) < (m.length : Int) := by omega
   have hbd := stock_bd (v := v) (z := z) (m := m.take i) (fun x hx => HOK.out x (List.mem_of_mem_take hx))
   rw [List.length_take, Nat.min_eq_left hi] at hbd
   obtain ⟨X, hX⟩ : ∃ X, X = mvAt m i := ⟨_, rfl⟩
   have hXi := HOK.out X (by rw [hX]; exact mvAt_mem hlt)
   have a0 := hXi.a0
   have a1 := hXi.a1
   have t0 := hXi.t0
   have t1 := hXi.t1
   have n0 := hXi.n0
   have n1 := hXi.n1
   obtain ⟨ad, ea, -⟩ := at_T103 HM.out (i : Int) i0 i1
   subst ea
   obtain ⟨ae, eb, -⟩ := at_T79 HR.out X.f0 a0 a1
   subst eb
   have CM : Hid (∀ W, Below w.heap.size w W → W.cell? (ad.add (i * 3)) = some (.int .i64 X.f0) ∧ W.cell? ⟨(ad.add (i * 3)).block, (ad.add (i * 3)).off + 1, none⟩ = some (.int .i64 X.f1) ∧ W.cell? ⟨(ad.add (i * 3)).block, (ad.add (i * 3)).off + 2, none⟩ = some (.int .i64 X.f2)) := Lib.hid (fun W hW => by
    obtain ⟨ad2, e2, z0, z1, z2⟩ := at_T103 (Kd.C_below HM.out hW) (i : Int) i0 i1
    injection e2 with e2
    subst e2
    rw [Int.toNat_natCast] at z0 z1 z2
    rw [hX]
    exact ⟨z0, z1, z2⟩)
   obtain ⟨Y, hY⟩ : ∃ Y, Y = arcOf l X := ⟨_, rfl⟩
   have hY2 : rd_T79 l X.f0 = Y := by rw [hY]; rfl
   obtain ⟨ae2, e2, y0, y1, y2, y3⟩ := at_T79 (Kd.C_drew (Kd.C_below HR.out HL.out.2)) X.f0 a0 a1
   injection e2 with e2
   subst e2
   have hy3 := HTI.out X.f0 a0 a1
   rw [hY2] at y0 y1 y2 y3 hy3
   have HS := Lib.hid (stock_snoc l v z hlt)
   rw [← hX] at HS
   have HST : Hid (stock1 l v z X = (if Y.f1 = v ∧ X.f1 + Y.f3 ≤ z then X.f2 else 0) - (if Y.f0 = v ∧ X.f1 ≤ z then X.f2 else 0)) := Lib.hid (by rw [hY]; rfl)
   obtain ⟨T, hT⟩ : ∃ T, T = stockV l (m.take i) v z := ⟨_, rfl⟩
   rw [← hT] at hbd HS ⊢
   obtain ⟨x0, -, -⟩ := CM.out _ (below_drew1 HL.out.2)
   have z2 : wr.drew.cell? ⟨w.heap.size, 2, none⟩ = some (.slice (some ae) l.length c) := (blk_cell (blk_drew HL.out.1) 2).trans rfl
   have HO := Lib.hid (And.intro (blk_drew HL.out.1) (below_drew1 HL.out.2))
   clear hX hY hY2 hT HL hXi
   go_wp2
   refine stepS (S := fun w' => w'.cell? ⟨w.heap.size, 2, none⟩ = some (.slice (some ae) l.length c) ∧ w'.cell? (ad.add (i * 3)) = some (.int .i64 X.f0) ∧ w'.cell? (ae.add (X.f0.toNat * 4)) = some (.int .i64 Y.f0) ∧ w'.cell? ⟨(ae.add (X.f0.toNat * 4)).block, (ae.add (X.f0.toNat * 4)).off + 1, none⟩ = some (.int .i64 Y.f1) ∧ w'.cell? ⟨(ae.add (X.f0.toNat * 4)).block, (ae.add (X.f0.toNat * 4)).off + 2, none⟩ = some (.int .i64 Y.f2) ∧ w'.cell? ⟨(ae.add (X.f0.toNat * 4)).block, (ae.add (X.f0.toNat * 4)).off + 3, none⟩ = some (.int .i64 Y.f3)) (ds := [10]) 11 (by kernel_rfl) rfl ⟨z2, x0, y0, y1, y2, y3⟩ (fun hHeld => ?_)
   generalize wr.drew = wd at HO hHeld ⊢
   clear z2 x0 y0 y1 y2 y3
   repeat (first | refine rP 11 ?_ | refine rT 11 hHeld ?_)
   refine sB 9 hHeld (fun hHeld => ?_)
   refine sS 10 ?_
   refine done_ (by kernel_rfl) ?_
   obtain ⟨we, hwe⟩ : ∃ we, we = wd.alloc (.cells #[.int .i64 Y.f0, .int .i64 Y.f1, .int .i64 Y.f2, .int .i64 Y.f3] 79) := ⟨_, rfl⟩
   have HX : Hid (we.heap[wd.heap.size]? = some (.cells #[.int .i64 Y.f0, .int .i64 Y.f1, .int .i64 Y.f2, .int .i64 Y.f3] 79 (0, 0)) ∧ we.heap[w.heap.size]? = some (.cells #[.int .i64 n, .bool b, .slice (some ae) l.length c] 32 (0, 0)) ∧ Below w.heap.size w we) := Lib.hid (by rw [hwe]; exact ⟨heap_alloc_new _ _, blk_alloc HO.out.1 _, below_alloc HO.out.2 _⟩)
   rw [← hwe]
   clear hwe hHeld HO
   generalize wd.heap.size = g at HX ⊢
   obtain ⟨dA, hdA⟩ : ∃ dA, dA = (if Y.f1 = v ∧ X.f1 + Y.f3 ≤ z then X.f2 else 0) := ⟨_, rfl⟩
   obtain ⟨dB, hdB⟩ : ∃ dB, dB = (if Y.f0 = v ∧ X.f1 ≤ z then X.f2 else 0) := ⟨_, rfl⟩
   rw [← hdA, ← hdB] at HST
   have hA : ((Y.f1 == v) = false ∧ Hid (dA = 0)) ∨ ((Y.f1 == v) = true ∧ ¬ X.f1 + Y.f3 ≤ z ∧ Hid (dA = 0)) ∨ ((Y.f1 == v) = true ∧ X.f1 + Y.f3 ≤ z ∧ Hid (dA = X.f2)) := by
    by_cases h1 : Y.f1 = v
    ·by_cases h2 : X.f1 + Y.f3 ≤ z
     ·exact .inr (.inr ⟨beq_iff_eq.2 h1, h2, Lib.hid (by rw [hdA, if_pos ⟨h1, h2⟩])⟩)
     ·exact .inr (.inl ⟨beq_iff_eq.2 h1, h2, Lib.hid (by rw [hdA, if_neg (fun e => h2 e.2)])⟩)
    ·exact .inl ⟨beq_eq_false_iff_ne.2 h1, Lib.hid (by rw [hdA, if_neg (fun e => h1 e.1)])⟩
   have hB : ((Y.f0 == v) = false ∧ Hid (dB = 0)) ∨ ((Y.f0 == v) = true ∧ ¬ X.f1 ≤ z ∧ Hid (dB = 0)) ∨ ((Y.f0 == v) = true ∧ X.f1 ≤ z ∧ Hid (dB = X.f2)) := by
    by_cases h1 : Y.f0 = v
    ·by_cases h2 : X.f1 ≤ z
     ·exact .inr (.inr ⟨beq_iff_eq.2 h1, h2, Lib.hid (by rw [hdB, if_pos ⟨h1, h2⟩])⟩)
     ·exact .inr (.inl ⟨beq_iff_eq.2 h1, h2, Lib.hid (by rw [hdB, if_neg (fun e => h2 e.2)])⟩)
    ·exact .inl ⟨beq_eq_false_iff_ne.2 h1, Lib.hid (by rw [hdB, if_neg (fun e => h1 e.1)])⟩
   clear hdA hdB
   go_wp2
   have y0 : we.drew.cell? ⟨g, 0, none⟩ = some (.int .i64 Y.f0) := (blk_cell (blk_drew HX.out.1) 0).trans rfl
   have y1 : we.drew.cell? ⟨g, 1, none⟩ = some (.int .i64 Y.f1) := (blk_cell (blk_drew HX.out.1) 1).trans rfl
   have y3 : we.drew.cell? ⟨g, 3, none⟩ = some (.int .i64 Y.f3) := (blk_cell (blk_drew HX.out.1) 3).trans rfl
   obtain ⟨-, x1, x2⟩ := CM.out _ (below_drew1 HX.out.2.2)
   refine stepS (S := fun w' => w'.cell? ⟨g, 1, none⟩ = some (.int .i64 Y.f1) ∧ w'.cell? ⟨g, 3, none⟩ = some (.int .i64 Y.f3) ∧ w'.cell? ⟨(ad.add (i * 3)).block, (ad.add (i * 3)).off + 1, none⟩ = some (.int .i64 X.f1)) (ds := []) 16 (by kernel_rfl) rfl ⟨y1, y3, x1⟩ (fun hHeld => ?_)
   have HF := Lib.hid (And.intro (blk_drew HX.out.2.1) (below_drew1 HX.out.2.2))
   generalize we.drew = wf at HF hHeld y0 y1 y3 x1 x2 ⊢
   clear HX
   have e5 : IntKind.i64.wrap (X.f1 + Y.f3) = X.f1 + Y.f3 := IntWalk.i64_in _ (by omega)
   refine wT stT6 (fun hT => ?_)
   rcases hA with ⟨g1, HDA⟩ | ⟨g1, g2, HDA⟩ | ⟨g1, g2, HDA⟩
   all_goals
    as_aux_lemma =>
     repeat (first | refine qP 16 hT ?_ | refine qT 16 hT hHeld ?_)
     refine done_ (by kernel_rfl) ?_
     clear hHeld hT
     rcases hB with ⟨g3, HDB⟩ | ⟨g3, g4, HDB⟩ | ⟨g3, g4, HDB⟩
     all_goals (try (exfalso; omega))
     all_goals
      go_wp2
      go_roundg (m.length - i)
      case measure => omega
      case rel => exact ⟨i + 1, by omega, by rw [HS.out, HST.out, HDA.out, HDB.out]; go_num, by go_num, by omega, HF⟩
  ·have e : i = m.length := by omega
   subst e
   rw [List.take_length, ← HK.out]
   go_wp2
   go_ret
   exact ⟨rfl, HL.out.2⟩
end Go.Proofs.Ytcgdloldkcmhnaa.H
end
section
namespace Go.Proofs.Ytcgdloldkcmhnaa.H
open Go Go.RowKit Go.Proofs.Ytcgdloldkcmhnaa.PrintC Go.Proofs.Ytcgdloldkcmhnaa.PrintE Go.Proofs.YtcgdloldkcmhnaaW.PrintWords Go.Proofs.YtcgdloldkcmhnaaW.PrintLast Go.Proofs.YtcgdloldkcmhnaaW.PrintMore
set_option linter.unusedVariables false
set_option linter.unusedSimpArgs false
def moveOk (l : List Arc) (h s t : Int) (x : Mv) : Bool := decide (0 ≤ x.f0 ∧ x.f0 < l.length ∧ 0 ≤ x.f1 ∧ x.f1 ≤ h ∧ x.f1 + (arcOf l x).f3 ≤ h ∧ 0 ≤ x.f2 ∧ x.f2 ≤ (arcOf l x).f2 ∧ (arcOf l x).f1 ≠ s ∧ (arcOf l x).f0 ≠ t)
def BoolAt (R : Bool) (w : World) (e : Ending) (w' : World) : Prop := e = .returned (.bool R) ∧ Below w.heap.size w w'
set_option maxHeartbeats 8000000 in
set_option maxRecDepth 100000 in
theorem rmove_walk (n : Int) (b : Bool) (A : Option Addr) (c : Nat) (l : List Arc) (s t h x0 x1 x2 : Int) (R : Bool) (hR : R = moveOk l h s t ⟨x0, x1, x2⟩) (w : World) (hr : Kd.C k79 w A l.length l) (hti : ∀ i : Int, 0 ≤ i → i < l.length → 0 ≤ (rd_T79 l i).f3 ∧ (rd_T79 l i).f3 ≤ 1048576) (h0 : 0 ≤ h) (h1 : h ≤ 100000) :
  Calls Try.prog 77 #[.agg #[.int .i64 n, .bool b, .slice A l.length c], .int .i64 s, .int .i64 t, .int .i64 h, .agg #[.int .i64 x0, .int .i64 x1, .int .i64 x2]] w (BoolAt R w) := by
 have hu := Try.underlying32
 have hu2 := Try.underlying103
 have hu3 := Try.underlying79
 have HR := Lib.hid hr
 have HTI := Lib.hid hti
 clear hr hti
 obtain ⟨w2, hw2⟩ : ∃ w2, w2 = (w.alloc (.cells #[.int .i64 n, .bool b, .slice A l.length c] 32)).alloc (.cells #[.int .i64 x0, .int .i64 x1, .int .i64 x2] 103) := ⟨_, rfl⟩
 have HB : Hid (Below w.heap.size w w2) := Lib.hid (by rw [hw2]; exact below_alloc (below_alloc (Below.refl _ _) _) _)
 have hc : (x0 < 0 ∧ R = false) ∨ (¬ x0 < 0 ∧ (l.length : Int) ≤ x0 ∧ R = false) ∨ (¬ x0 < 0 ∧ ¬ (l.length : Int) ≤ x0 ∧ x1 < 0 ∧ R = false) ∨ (¬ x0 < 0 ∧ ¬ (l.length : Int) ≤ x0 ∧ ¬ x1 < 0 ∧ h < x1 ∧ R = false) ∨ (0 ≤ x0 ∧ x0 < l.length ∧ 0 ≤ x1 ∧ x1 ≤ h) := by
  by_cases c0 : 0 ≤ x0 ∧ x0 < l.length ∧ 0 ≤ x1 ∧ x1 ≤ h
  ·exact .inr (.inr (.inr (.inr c0)))
  ·have hf : R = false := by
    rw [hR]
    exact decide_eq_false (fun e => c0 ⟨e.1, e.2.1, e.2.2.1, e.2.2.2.1⟩)
   by_cases c1 : x0 < 0
   ·exact .inl ⟨c1, hf⟩
   ·by_cases c2 : (l.length : Int) ≤ x0
    ·exact .inr (.inl ⟨c1, c2, hf⟩)
    ·by_cases c3 : x1 < 0
     ·exact .inr (.inr (.inl ⟨c1, c2, c3, hf⟩))
     ·exact .inr (.inr (.inr (.inl ⟨c1, c2, c3, by omega, hf⟩)))
 rcases hc with ⟨c1, hf⟩ | ⟨c1, c2, hf⟩ | ⟨c1, c2, c3, hf⟩ | ⟨c1, c2, c3, c4, hf⟩ | ⟨c1, c2, c3, c4⟩
 iterate 4
  ·clear hR
   subst hf
   go_enter Try.func77, Try.ntmps77
   go_wp2
   rw [← hw2]
   go_ret
   exact ⟨rfl, HB.out⟩
 ·obtain ⟨Y, hY⟩ : ∃ Y, Y = rd_T79 l x0 := ⟨_, rfl⟩
  have hRY : R = decide (x1 + Y.f3 ≤ h ∧ 0 ≤ x2 ∧ x2 ≤ Y.f2 ∧ Y.f1 ≠ s ∧ Y.f0 ≠ t) := by
   rw [hR, hY]
   unfold moveOk arcOf
   simp only [c1, c2, c3, c4, true_and]
  have hy3 := HTI.out x0 c1 c2
  obtain ⟨ae, ea, -⟩ := at_T79 HR.out x0 c1 c2
  subst ea
  obtain ⟨ae2, e2, y0, y1, y2, y3⟩ := at_T79 (Kd.C_below HR.out HB.out) x0 c1 c2
  injection e2 with e2
  subst e2
  rw [← hY] at y0 y1 y2 y3 hy3
  clear hY hR
  have e5 : IntKind.i64.wrap (x1 + Y.f3) = x1 + Y.f3 := IntWalk.i64_in _ (by omega)
  have hc : (¬ x1 + Y.f3 ≤ h ∧ R = false) ∨ (x1 + Y.f3 ≤ h ∧ ¬ 0 ≤ x2 ∧ R = false) ∨ (x1 + Y.f3 ≤ h ∧ 0 ≤ x2 ∧ ¬ x2 ≤ Y.f2 ∧ R = false) ∨ (x1 + Y.f3 ≤ h ∧ 0 ≤ x2 ∧ x2 ≤ Y.f2 ∧ (Y.f1 != s) = false ∧ R = false) ∨ (x1 + Y.f3 ≤ h ∧ 0 ≤ x2 ∧ x2 ≤ Y.f2 ∧ (Y.f1 != s) = true ∧ (Y.f0 != t) = false ∧ R = false) ∨ (x1 + Y.f3 ≤ h ∧ 0 ≤ x2 ∧ x2 ≤ Y.f2 ∧ (Y.f1 != s) = true ∧ (Y.f0 != t) = true ∧ R = true) := by
   by_cases d1 : x1 + Y.f3 ≤ h
   ·by_cases d2 : 0 ≤ x2
    ·by_cases d3 : x2 ≤ Y.f2
     ·by_cases d4 : Y.f1 = s
      ·exact .inr (.inr (.inr (.inl ⟨d1, d2, d3, bne_eq_false_iff_eq.2 d4, by rw [hRY]; exact decide_eq_false (fun e => e.2.2.2.1 d4)⟩)))
      ·by_cases d5 : Y.f0 = t
       ·exact .inr (.inr (.inr (.inr (.inl ⟨d1, d2, d3, bne_iff_ne.2 d4, bne_eq_false_iff_eq.2 d5, by rw [hRY]; exact decide_eq_false (fun e => e.2.2.2.2 d5)⟩))))
       ·exact .inr (.inr (.inr (.inr (.inr ⟨d1, d2, d3, bne_iff_ne.2 d4, bne_iff_ne.2 d5, by rw [hRY]; exact decide_eq_true ⟨d1, d2, d3, d4, d5⟩⟩))))
     ·exact .inr (.inr (.inl ⟨d1, d2, d3, by rw [hRY]; exact decide_eq_false (fun e => d3 e.2.2.1)⟩))
    ·exact .inr (.inl ⟨d1, d2, by rw [hRY]; exact decide_eq_false (fun e => d2 e.2.1)⟩)
   ·exact .inl ⟨d1, by rw [hRY]; exact decide_eq_false (fun e => d1 e.1)⟩
  clear hRY
  have c5 : ¬ x0 < 0 := by omega
  have c6 : ¬ (l.length : Int) ≤ x0 := by omega
  have c7 : ¬ x1 < 0 := by omega
  have c8 : ¬ h < x1 := by omega
  rw [hw2] at y0 y1 y2 y3
  rcases hc with ⟨d1, hf⟩ | ⟨d1, d2, hf⟩ | ⟨d1, d2, d3, hf⟩ | ⟨d1, d2, d3, d4, hf⟩ | ⟨d1, d2, d3, d4, d5, hf⟩ | ⟨d1, d2, d3, d4, d5, hf⟩
  all_goals
   subst hf
   go_enter Try.func77, Try.ntmps77
   go_wp2
   rw [← hw2]
   go_ret
   exact ⟨rfl, below_alloc HB.out _⟩
end Go.Proofs.Ytcgdloldkcmhnaa.H
end
section
namespace Go.Proofs.Ytcgdloldkcmhnaa.H
open Go Go.RowKit Go.Proofs.Ytcgdloldkcmhnaa.PrintC Go.Proofs.Ytcgdloldkcmhnaa.PrintE Go.Proofs.YtcgdloldkcmhnaaW.PrintWords Go.Proofs.YtcgdloldkcmhnaaW.PrintLast Go.Proofs.YtcgdloldkcmhnaaW.PrintMore
set_option linter.unusedVariables false
set_option linter.unusedSimpArgs false
theorem appMv : AppK Try.prog kMv 55 103 (fun x => [.int .i64 x.f0, .int .i64 x.f1, .int .i64 x.f2]) := ⟨Try.underlying55, ⟨_, 24, info103, rfl, by decide, by decide⟩, by decide, k103_mkM⟩
theorem mv_swap {W : World} {base g n c : Nat} {a b : List Mv} {X Y : Mv} (h2 : Kd.R kMv 103 W base (fun _ => True) (.slice (some ⟨g, 0, none⟩) n c) (a ++ Y :: X :: b)) {j q : Nat} (hj : j = a.length + 1) (hq : q = a.length) :
  (W.cell? ⟨g, q * 3, none⟩ = some (.int .i64 Y.f0) ∧ W.cell? ⟨g, q * 3 + 1, none⟩ = some (.int .i64 Y.f1) ∧ W.cell? ⟨g, q * 3 + 2, none⟩ = some (.int .i64 Y.f2) ∧
   W.cell? ⟨g, j * 3, none⟩ = some (.int .i64 X.f0) ∧ W.cell? ⟨g, j * 3 + 1, none⟩ = some (.int .i64 X.f1) ∧ W.cell? ⟨g, j * 3 + 2, none⟩ = some (.int .i64 X.f2)) ∧
  (W.frozen? ⟨g, j * 3, none⟩ = false ∧ W.frozen? ⟨g, j * 3 + 1, none⟩ = false ∧ W.frozen? ⟨g, j * 3 + 2, none⟩ = false) ∧
  ∃ W1, W1 = ((W.setCell ⟨g, j * 3, none⟩ (.int .i64 Y.f0)).setCell ⟨g, j * 3 + 1, none⟩ (.int .i64 Y.f1)).setCell ⟨g, j * 3 + 2, none⟩ (.int .i64 Y.f2) ∧
  (∃ u0 u1 u2, W1.cell? ⟨g, q * 3, none⟩ = some u0 ∧ W1.cell? ⟨g, q * 3 + 1, none⟩ = some u1 ∧ W1.cell? ⟨g, q * 3 + 2, none⟩ = some u2) ∧ (W1.frozen? ⟨g, q * 3, none⟩ = false ∧ W1.frozen? ⟨g, q * 3 + 1, none⟩ = false ∧ W1.frozen? ⟨g, q * 3 + 2, none⟩ = false) ∧
  Kd.R kMv 103 (((W1.setCell ⟨g, q * 3, none⟩ (.int .i64 X.f0)).setCell ⟨g, q * 3 + 1, none⟩ (.int .i64 X.f1)).setCell ⟨g, q * 3 + 2, none⟩ (.int .i64 X.f2)) base (fun _ => True) (.slice (some ⟨g, 0, none⟩) n c) (a ++ X :: Y :: b) ∧
  (∀ w0 : World, Below base w0 W → Below base w0 (((W1.setCell ⟨g, q * 3, none⟩ (.int .i64 X.f0)).setCell ⟨g, q * 3 + 1, none⟩ (.int .i64 X.f1)).setCell ⟨g, q * 3 + 2, none⟩ (.int .i64 X.f2))) := by
 have hn : n = (a ++ Y :: X :: b).length := (Kd.R_reads' h2).1
 have hl : (a ++ Y :: X :: b).length = a.length + (b.length + 2) := by rw [List.length_append]; rfl
 have eY : (a ++ Y :: X :: b).getD q z103 = Y := by
  rw [hq, List.getD_eq_getElem?_getD, List.getElem?_append_right (Nat.le_refl _), Nat.sub_self]
  rfl
 have eX : (a ++ Y :: X :: b).getD j z103 = X := by
  rw [hj, List.getD_eq_getElem?_getD, List.getElem?_append_right (by omega), show a.length + 1 - a.length = 1 by omega]
  rfl
 have i0 : (0 : Int) ≤ (j : Int) := by omega
 have i1 : (j : Int) < n := by omega
 have k0 : (0 : Int) ≤ (q : Int) := by omega
 have k1 : (q : Int) < n := by omega
 obtain ⟨ce, hcl, hM, hcc, hfr⟩ := Kd.R_elem h2 z103 (j : Int) i0 i1
 obtain rfl := k103_openM hM
 obtain ⟨ce, hcl', hM', hcc', hfr'⟩ := Kd.R_elem h2 z103 (q : Int) k0 k1
 obtain rfl := k103_openM hM'
 have hg := Kd.R_base h2 g rfl
 have s1 := (Kd.R_seg h2 (j : Int) i0 i1 (seg := [.int .i64 Y.f0, .int .i64 Y.f1, .int .i64 Y.f2]) (j := 0) hcl hcc (show 3 ≤ 3 from by decide) (x' := Y) (k103_mkM _ _ _ _) (fun _ hk => hk)).1
 obtain ⟨ce, hcl2, hM2, hcc2, hfr2⟩ := Kd.R_elem s1 z103 (q : Int) k0 k1
 obtain rfl := k103_openM hM2
 have s2 := (Kd.R_seg s1 (q : Int) k0 k1 (seg := [.int .i64 X.f0, .int .i64 X.f1, .int .i64 X.f2]) (j := 0) hcl2 hcc2 (show 3 ≤ 3 from by decide) (x' := X) (k103_mkM _ _ _ _) (fun _ hk => hk)).1
 have es : ((a ++ Y :: X :: b).set j Y).set q X = a ++ X :: Y :: b := by
  rw [hj, hq, List.set_append_right _ _ (by omega), show a.length + 1 - a.length = 1 by omega, List.set_append_right _ _ (by omega), Nat.sub_self]
  rfl
 simp only [World.setCells, show k103.sz = 3 from rfl, Nat.add_zero, Int.toNat_natCast, eX, eY] at hcc hcc' hfr hfr' hcc2 hfr2 s1 s2
 rw [es] at s2
 refine ⟨⟨hcc' 0 _ rfl, hcc' 1 _ rfl, hcc' 2 _ rfl, hcc 0 _ rfl, hcc 1 _ rfl, hcc 2 _ rfl⟩, ⟨hfr 0, hfr 1, hfr 2⟩, _, rfl, ⟨_, _, _, hcc2 0 _ rfl, hcc2 1 _ rfl, hcc2 2 _ rfl⟩, ⟨hfr2 0, hfr2 1, hfr2 2⟩, s2, fun w0 hw => ?_⟩
 exact (((((hw.setCell hg _).setCell hg _).setCell hg _).setCell hg _).setCell hg _).setCell hg _
def alls (l : List Mv) (i j : Nat) : List Int := ((l.take j).filter (sameK (mvAt l i))).map (·.f2)
theorem alls_next {l : List Mv} {i j : Nat} (hj : j < l.length) : alls l i (j + 1) = alls l i j ++ (if sameK (mvAt l i) (mvAt l j) = true then [(mvAt l j).f2] else []) := by
 unfold alls
 rw [mvAt_take hj, List.filter_append, List.map_append]
 congr 1
 by_cases e : sameK (mvAt l i) (mvAt l j) = true
 ·rw [if_pos e, List.filter_cons_of_pos e]
  rfl
 ·rw [if_neg e, List.filter_cons_of_neg e]
  rfl
theorem alls_first {l : List Mv} {i : Nat} (hi : i ≤ l.length) (h : ∀ k, k < i → sameK (mvAt l k) (mvAt l i) = false) : alls l i i = [] := by
 unfold alls
 rw [List.filter_eq_nil_iff.2 fun x hx e => ?_]
 ·rfl
 ·obtain ⟨k, hk, rfl⟩ := mem_take_at hi hx
  exact absurd (sameK_sym e) (by rw [h k hk]; decide)
theorem alls_len (l : List Mv) (i j : Nat) : (alls l i j).length ≤ l.length := by
 unfold alls
 rw [List.length_map]
 exact Nat.le_trans (List.length_filter_le _ _) (by rw [List.length_take]; omega)
theorem alls_i64 {l : List Mv} (h : ∀ x, x ∈ l → -9223372036854775808 ≤ x.f2 ∧ x.f2 ≤ 9223372036854775807) (i j : Nat) : I64s (alls l i j) := fun y hy => by
 unfold alls at hy
 obtain ⟨x, hx, rfl⟩ := List.mem_map.1 hy
 exact h x (List.mem_of_mem_take (List.mem_filter.1 hx).1)
theorem SumAt.yes {l : List Int} {T : Int} {w w' : World} {e : Ending} (h : SumAt l w e w') (hT : sumL l = T) (hf : fits T = true) : e = .returned (.tuple #[.int .i64 T, .bool true]) ∧ Below w.heap.size w w' := by
 unfold SumAt at h
 rw [hT, hf] at h
 exact h
theorem SumAt.no {l : List Int} {T : Int} {w w' : World} {e : Ending} (h : SumAt l w e w') (hT : sumL l = T) (hf : fits T = false) : e = .returned (.tuple #[.int .i64 0, .bool false]) ∧ Below w.heap.size w w' := by
 unfold SumAt at h
 rw [hT, hf] at h
 exact h
theorem appInt : AppK Try.prog (Kd.int .i64) 69 3 (fun x => [.int .i64 x]) := ⟨Try.underlying69, ⟨_, 8, info3, rfl, by decide, by decide⟩, by decide, fun _ _ _ _ => rfl⟩
def mvT9 : Bool × List (List Nat × List Nat) := (true, [([], []), ([0], [0]), ([1], [1]), ([1], [1]), ([2, 3, 1], [1, 2, 3]), ([4, 1], [1, 4]), ([5, 1], [1, 5]), ([1], [1]), ([1], [1]), ([7, 8, 1], [1, 7, 8]), ([9, 1], [1, 9]), ([10, 1], [1, 10]), ([6, 11, 1], [1, 6, 11]), ([12, 1, 1], [1, 12]), ([13], [13]), ([13], [13]), ([14, 15, 13], [13, 14, 15]), ([16, 13], [13, 16]), ([17, 13], [13, 17]), ([13], [13]), ([13], [13]), ([19, 20, 13], [13, 19, 20]), ([21, 13], [13, 21]), ([22, 13], [13, 22]), ([18, 23, 13], [13, 18, 23]), ([13, 24, 1], [1, 13, 24]), ([1, 25], [1, 25]), ([26, 13, 0, 1, 2, 3, 4, 5, 6, 7, 8, 9, 10, 11, 12, 13, 14, 15, 16, 17, 18, 19, 20, 21, 22, 23, 24, 25, 26], [0, 26])])
def mvT15 : Bool × List (List Nat × List Nat) := (true, [([], []), ([], []), ([0, 1], [0, 1]), ([2], [2]), ([3], [3]), ([], []), ([], []), ([5, 6], [5, 6]), ([7], [7]), ([8], [8]), ([4, 9], [4, 9]), ([10], [10]), ([11], [11]), ([11], [11]), ([12, 13, 11], [11, 12, 13]), ([14, 11], [11, 14]), ([15, 11], [11, 15]), ([11], [11]), ([11], [11]), ([17, 18, 11], [11, 17, 18]), ([19, 11], [11, 19]), ([20, 11], [11, 20]), ([16, 21, 11], [11, 16, 21]), ([11, 22], [11, 22])])
def mvT23 : Bool × List (List Nat × List Nat) := (true, [([], []), ([0], [0]), ([1], [1]), ([2], [2]), ([2], [2]), ([3, 4, 2], [2, 3, 4]), ([5, 2], [2, 5]), ([6, 2], [2, 6]), ([2], [2]), ([2], [2]), ([9, 2], [2, 9]), ([8, 10, 2], [2, 8, 10]), ([11, 2], [2, 11]), ([12, 2], [2, 12]), ([7, 13, 2], [2, 7, 13]), ([14, 2, 2], [2, 14]), ([15], [15]), ([15], [15]), ([16, 17, 15], [15, 16, 17]), ([18, 15], [15, 18]), ([19, 15], [15, 19]), ([15], [15]), ([15], [15]), ([22, 15], [15, 22]), ([21, 23, 15], [15, 21, 23]), ([24, 15], [15, 24]), ([25, 15], [15, 25]), ([20, 26, 15], [15, 20, 26]), ([27, 15, 15], [15, 27]), ([28], [28]), ([28], [28]), ([29, 30, 28], [28, 29, 30]), ([31, 28], [28, 31]), ([32, 28], [28, 32]), ([28], [28]), ([28], [28]), ([35, 28], [28, 35]), ([34, 36, 28], [28, 34, 36]), ([37, 28], [28, 37]), ([38, 28], [28, 38]), ([33, 39, 28], [28, 33, 39]), ([28, 40, 15], [15, 28, 40]), ([15, 41, 2], [2, 15, 41]), ([2, 42], [2, 42])])
def MovesAt (l : List Mv) (w : World) (e : Ending) (w' : World) : Prop := Below w.heap.size w w' ∧ ((e = .returned (.tuple #[.slice none 0 0, .int .i64 10]) ∧ ∃ x, x ∈ l ∧ fits (amt l x) = false) ∨
 ∃ (m : List Mv) (A1 : Option Addr) (c1 : Nat), e = .returned (.tuple #[.slice A1 m.length c1, .int .i64 0]) ∧ Kd.R kMv 103 w' w.heap.size (fun _ => True) (.slice A1 m.length c1) m ∧ MgOf l m ∧ m.length ≤ l.length)
set_option maxHeartbeats 8000000 in
set_option maxRecDepth 100000 in
theorem rmoves_walk (A : Option Addr) (c : Nat) (l : List Mv) (w : World) (hr : Kd.C kMv w A l.length l) (hi : ∀ x, x ∈ l → -9223372036854775808 ≤ x.f2 ∧ x.f2 ≤ 9223372036854775807) (hl : l.length ≤ 100000) :
  Calls Try.prog 76 #[.slice A l.length c] w (MovesAt l w) := by
 have HR := Lib.hid hr
 have HI := Lib.hid hi
 have hu2 := Try.underlying103
 clear hr hi
 go_enter Try.func76, Try.ntmps76
 go_wp2
 go_loopg [4, 5] (l.length + 1) (fun k ov iv W => ∃ (i : Nat) (m : List Mv) (Ao : Option Addr) (co : Nat), i ≤ l.length ∧ ov = .slice Ao m.length co ∧ iv = .int .i64 i ∧ k = l.length + 1 - i ∧ Hid (Kd.R kMv 103 W w.heap.size (fun _ => True) (.slice Ao m.length co) m ∧ Below w.heap.size w W ∧ MgI l i m ∧ m.length ≤ i))
 case atStart => exact ⟨0, [], none, 0, Nat.zero_le _, rfl, rfl, rfl, Lib.hid ⟨Kd.R_nil _ _ _ _ _, Below.refl _ _, MgI.zero l, Nat.le_refl _⟩⟩
 case round =>
  obtain ⟨i, m, Ao, co, hi, rfl, rfl, rfl, HL⟩ := hrel
  by_cases hlt : i < l.length
  ·have i0 : (0 : Int) ≤ (i : Int) := by omega
   have i1 : (i : Int) < (l.length : Int) := by omega
   obtain ⟨ad, ea, -⟩ := at_T103 HR.out (i : Int) i0 i1
   subst ea
   obtain ⟨X, hX⟩ : ∃ X, X = mvAt l i := ⟨_, rfl⟩
   have CI : Hid (∀ W, Below w.heap.size w W → W.cell? (ad.add (i * 3)) = some (.int .i64 X.f0) ∧ W.cell? ⟨(ad.add (i * 3)).block, (ad.add (i * 3)).off + 1, none⟩ = some (.int .i64 X.f1) ∧ W.cell? ⟨(ad.add (i * 3)).block, (ad.add (i * 3)).off + 2, none⟩ = some (.int .i64 X.f2)) := Lib.hid (fun W hW => by
    obtain ⟨ad2, e2, z0, z1, z2⟩ := at_T103 (Kd.C_below HR.out hW) (i : Int) i0 i1
    injection e2 with e2
    subst e2
    rw [Int.toNat_natCast] at z0 z1 z2
    rw [hX]
    exact ⟨z0, z1, z2⟩)
   have HX := Lib.hid hX
   clear hX
   go_wp2
   go_loopg [6, 7] (i + 1) (fun k fv jv W => ∃ (j : Nat) (fb : Bool), j ≤ i ∧ fv = .bool fb ∧ jv = .int .i64 j ∧ k = i + 1 - j ∧ Hid ((fb = true ↔ ∀ t, t < j → sameK (mvAt l t) X = false) ∧ Kd.R kMv 103 W w.heap.size (fun _ => True) (.slice Ao m.length co) m ∧ Below w.heap.size w W))
   case atStart => exact ⟨0, true, Nat.zero_le _, rfl, rfl, rfl, Lib.hid ⟨⟨fun _ t ht => absurd ht (Nat.not_lt_zero _), fun _ => rfl⟩, HL.out.1, HL.out.2.1⟩⟩
   case round =>
    obtain ⟨j, fb, hj, rfl, rfl, rfl, HJ⟩ := hrel
    by_cases hjt : j < i
    ·have j0 : (0 : Int) ≤ (j : Int) := by omega
     have j1 : (j : Int) < (l.length : Int) := by omega
     have hji : (j : Int) < (i : Int) := by omega
     obtain ⟨ad2, e2, y0, y1, -⟩ := at_T103 (Kd.C_drew (Kd.C_below HR.out HJ.out.2.2)) (j : Int) j0 j1
     injection e2 with e2
     subst e2
     rw [Int.toNat_natCast] at y0 y1
     obtain ⟨Y, hY⟩ : ∃ Y, Y = mvAt l j := ⟨_, rfl⟩
     have hY2 : rd_T103 l (j : Int) = Y := by rw [hY]; rfl
     rw [hY2] at y0 y1
     have HY := Lib.hid hY
     clear hY hY2
     obtain ⟨x0, x1, -⟩ := CI.out _ (below_drew1 HJ.out.2.2)
     have HO := Lib.hid (And.intro (Kd.R_drew HJ.out.2.1) (below_drew1 HJ.out.2.2))
     obtain ⟨nf, hnf, HN⟩ : ∃ nf : Bool, nf = (fb && (decide (Y.f0 ≠ X.f0) || decide (Y.f1 ≠ X.f1))) ∧ Hid (nf = true ↔ ∀ t, t < j + 1 → sameK (mvAt l t) X = false) := by
      refine ⟨_, rfl, Lib.hid ?_⟩
      have hs : sameK Y X = false ↔ (Y.f0 ≠ X.f0 ∨ Y.f1 ≠ X.f1) := by
       unfold sameK
       rw [decide_eq_false_iff_not]
       omega
      rw [Bool.and_eq_true, Bool.or_eq_true, decide_eq_true_iff, decide_eq_true_iff, ← hs, HJ.out.1, HY.out]
      constructor
      ·rintro ⟨h1, h2⟩ t ht
       by_cases e : t = j
       ·rw [e]; exact h2
       ·exact h1 t (by omega)
      ·exact fun h => ⟨fun t ht => h t (by omega), h j (by omega)⟩
     have HJ2 := Lib.hid HJ.out.1
     clear HL HJ
     go_wp2
     refine stepS (S := fun w' => w'.cell? (ad.add (j * 3)) = some (.int .i64 Y.f0) ∧ w'.cell? ⟨(ad.add (j * 3)).block, (ad.add (j * 3)).off + 1, none⟩ = some (.int .i64 Y.f1) ∧ w'.cell? (ad.add (i * 3)) = some (.int .i64 X.f0) ∧ w'.cell? ⟨(ad.add (i * 3)).block, (ad.add (i * 3)).off + 1, none⟩ = some (.int .i64 X.f1)) (ds := []) 28 (by kernel_rfl) rfl ⟨y0, y1, x0, x1⟩ (fun hHeld => ?_)
     generalize wr.drew = wd at HO hHeld ⊢
     refine wT mvT9 (fun hT => ?_)
     clear y0 y1 x0 x1
     cases fb with
     |false =>
      have hn2 : nf = false := by rw [hnf]; rfl
      subst hn2
      clear hnf
      as_aux_lemma =>
       repeat (first | refine qP 28 hT ?_ | refine qT 28 hT hHeld ?_)
       refine done_ (by kernel_rfl) ?_
       go_wp2
       go_roundg (i - j)
       case measure => omega
       case rel => exact ⟨j + 1, false, by omega, rfl, by go_num, by omega, Lib.hid ⟨by simpa using HN.out, HO.out.1, HO.out.2⟩⟩
     |true =>
      by_cases c0 : Y.f0 = X.f0
      ·have d0 : (Y.f0 != X.f0) = false := bne_eq_false_iff_eq.2 c0
       have d1 : (Y.f0 == X.f0) = true := beq_iff_eq.2 c0
       by_cases c1 : Y.f1 = X.f1
       ·have d2 : (Y.f1 != X.f1) = false := bne_eq_false_iff_eq.2 c1
        have d3 : (Y.f1 == X.f1) = true := beq_iff_eq.2 c1
        have hn2 : nf = false := by rw [hnf, c0, c1]; simp
        subst hn2
        have HC := Lib.hid (And.intro c0 c1)
        clear hnf c0 c1
        as_aux_lemma =>
         repeat (first | refine qP 28 hT ?_ | refine qT 28 hT hHeld ?_)
         refine done_ (by kernel_rfl) ?_
         go_wp2
         go_roundg (i - j)
         case measure => omega
         case rel => exact ⟨j + 1, false, by omega, rfl, by go_num, by omega, Lib.hid ⟨by simpa using HN.out, HO.out.1, HO.out.2⟩⟩
       ·have d2 : (Y.f1 != X.f1) = true := bne_iff_ne.2 c1
        have d3 : (Y.f1 == X.f1) = false := beq_eq_false_iff_ne.2 c1
        have hn2 : nf = true := by rw [hnf]; simp [c1]
        subst hn2
        have HC := Lib.hid (And.intro c0 c1)
        clear hnf c0 c1
        as_aux_lemma =>
         repeat (first | refine qP 28 hT ?_ | refine qT 28 hT hHeld ?_)
         refine done_ (by kernel_rfl) ?_
         go_wp2
         go_roundg (i - j)
         case measure => omega
         case rel => exact ⟨j + 1, true, by omega, rfl, by go_num, by omega, Lib.hid ⟨by simpa using HN.out, HO.out.1, HO.out.2⟩⟩
      ·have d0 : (Y.f0 != X.f0) = true := bne_iff_ne.2 c0
       have d1 : (Y.f0 == X.f0) = false := beq_eq_false_iff_ne.2 c0
       have hn2 : nf = true := by rw [hnf]; simp [c0]
       subst hn2
       have HC := Lib.hid c0
       clear hnf c0
       as_aux_lemma =>
        repeat (first | refine qP 28 hT ?_ | refine qT 28 hT hHeld ?_)
        refine done_ (by kernel_rfl) ?_
        go_wp2
        go_roundg (i - j)
        case measure => omega
        case rel => exact ⟨j + 1, true, by omega, rfl, by go_num, by omega, Lib.hid ⟨by simpa using HN.out, HO.out.1, HO.out.2⟩⟩
    ·have e : j = i := by omega
     subst e
     cases fb with
     |false =>
      have HH : Hid (∃ t, t < j ∧ sameK (mvAt l t) X = true) := Lib.hid (by
       apply Classical.byContradiction
       intro h
       have := HJ.out.1.2 (fun t ht => by
        cases e : sameK (mvAt l t) X with
        |false => rfl
        |true => exact absurd ⟨t, ht, e⟩ h)
       cases this)
      go_wp2
      go_roundg (l.length - j)
      case measure => omega
      case rel =>
       refine ⟨j + 1, m, Ao, co, by omega, rfl, by go_num, by omega, Lib.hid ⟨HJ.out.2.1, HJ.out.2.2, ?_, by have := HL.out.2.2.2; omega⟩⟩
       obtain ⟨t, ht, e⟩ := HH.out
       rw [HX.out] at e
       exact HL.out.2.2.1.had hlt ht e
     |true =>
      have HNH : Hid (∀ t, t < j → sameK (mvAt l t) (mvAt l j) = false) := Lib.hid (fun t ht => by have := HJ.out.1.1 rfl t ht; rw [HX.out] at this; exact this)
      have HA0 : Hid (alls l j j = []) := Lib.hid (alls_first (by omega) HNH.out)
      have HO := Lib.hid (And.intro HJ.out.2.1 HJ.out.2.2)
      have HM := Lib.hid HL.out.2.2
      have hmj : m.length ≤ j := HL.out.2.2.2
      clear HL HJ
      go_wp2
      obtain ⟨W2, hW2⟩ : ∃ W2, W2 = wr := ⟨_, rfl⟩
      rw [← hW2] at HO ⊢
      clear hW2
      go_loopg [8, 9] (l.length + 1 - j) (fun k av tv W => ∃ (t : Nat) (Aa : Option Addr) (ca : Nat), j ≤ t ∧ t ≤ l.length ∧ av = .slice Aa (alls l j t).length ca ∧ tv = .int .i64 t ∧ k = l.length + 1 - t ∧ Hid (Kd.R (Kd.int .i64) 3 W W2.heap.size (fun _ => True) (.slice Aa (alls l j t).length ca) (alls l j t) ∧ Below W2.heap.size W2 W))
      case atStart => exact ⟨j, none, 0, Nat.le_refl _, by omega, by rw [HA0.out]; rfl, rfl, rfl, Lib.hid ⟨by rw [HA0.out]; exact Kd.R_nil _ _ _ _ _, Below.refl _ _⟩⟩
      case round =>
       obtain ⟨t, Aa, ca, ht1, ht, rfl, rfl, rfl, HT⟩ := hrel
       have HB := Lib.hid (below_step HO.out.2 HT.out.2)
       by_cases htl : t < l.length
       ·have j0 : (0 : Int) ≤ (t : Int) := by omega
        have j1 : (t : Int) < (l.length : Int) := by omega
        obtain ⟨ad2, e2, y0, y1, y2⟩ := at_T103 (Kd.C_drew (Kd.C_below HR.out HB.out)) (t : Int) j0 j1
        injection e2 with e2
        subst e2
        rw [Int.toNat_natCast] at y0 y1 y2
        obtain ⟨Y, hY⟩ : ∃ Y, Y = mvAt l t := ⟨_, rfl⟩
        have hY2 : rd_T103 l (t : Int) = Y := by rw [hY]; rfl
        rw [hY2] at y0 y1 y2
        clear hY2
        obtain ⟨x0, x1, -⟩ := CI.out _ (below_drew1 HB.out)
        have HO2 := Lib.hid (And.intro (Kd.R_drew HT.out.1) (below_drew1 HT.out.2))
        have hnx := alls_next (i := j) htl
        rw [← hY, ← HX.out] at hnx
        go_wp2
        refine stepS (S := fun w' => w'.cell? (ad.add (t * 3)) = some (.int .i64 Y.f0) ∧ w'.cell? ⟨(ad.add (t * 3)).block, (ad.add (t * 3)).off + 1, none⟩ = some (.int .i64 Y.f1) ∧ w'.cell? (ad.add (j * 3)) = some (.int .i64 X.f0) ∧ w'.cell? ⟨(ad.add (j * 3)).block, (ad.add (j * 3)).off + 1, none⟩ = some (.int .i64 X.f1)) (ds := []) 24 (by kernel_rfl) rfl ⟨y0, y1, x0, x1⟩ (fun hHeld => ?_)
        generalize wr.drew = wd at HO2 hHeld y2 ⊢
        refine wT mvT15 (fun hT => ?_)
        clear y0 y1 x0 x1 HT HB
        by_cases c0 : Y.f0 = X.f0
        ·have d0 : (Y.f0 != X.f0) = false := bne_eq_false_iff_eq.2 c0
         have d1 : (Y.f0 == X.f0) = true := beq_iff_eq.2 c0
         by_cases c1 : Y.f1 = X.f1
         ·have d2 : (Y.f1 != X.f1) = false := bne_eq_false_iff_eq.2 c1
          have d3 : (Y.f1 == X.f1) = true := beq_iff_eq.2 c1
          rw [if_pos (sameK_iff.2 ⟨c0.symm, c1.symm⟩)] at hnx
          have HNX := Lib.hid hnx
          have HC := Lib.hid (And.intro c0 c1)
          clear hnx c0 c1 hY
          as_aux_lemma =>
           repeat (first | refine qP 24 hT ?_ | refine qT 24 hT hHeld ?_)
           refine done_ (by kernel_rfl) ?_
           clear hHeld
           go_wp2_with (first
            |((with_reducible refine gate_dst (N := 91) rfl ?_); (refine gA (w0 := W2) (base := W2.heap.size) appInt (alls l j t) Y.f2 ?aO ?aB ?aS ?aL ?_); (case aO => exact HO2.out.1); (case aB => exact HO2.out.2); (case aS => exact HO2.out.2.size); (case aL => have := alls_len l j t; omega); go_loud (intro A1 c1 w9 ho hb hg; have HO9 := Lib.hid (And.intro ho hb); clear ho hb hg HO2)))
           go_roundg (l.length - t)
           case measure => omega
           case rel => exact ⟨t + 1, A1, c1, by omega, by omega, by rw [HNX.out, List.length_append]; rfl, by go_num, by omega, Lib.hid ⟨by rw [HNX.out, List.length_append]; exact HO9.out.1, HO9.out.2⟩⟩
         ·have d2 : (Y.f1 != X.f1) = true := bne_iff_ne.2 c1
          have d3 : (Y.f1 == X.f1) = false := beq_eq_false_iff_ne.2 c1
          rw [if_neg (fun e => c1 (sameK_iff.1 e).2.symm), List.append_nil] at hnx
          have HNX := Lib.hid hnx
          have HC := Lib.hid (And.intro c0 c1)
          clear hnx c0 c1 hY
          as_aux_lemma =>
           repeat (first | refine qP 24 hT ?_ | refine qT 24 hT hHeld ?_)
           refine done_ (by kernel_rfl) ?_
           clear hHeld
           go_wp2
           go_roundg (l.length - t)
           case measure => omega
           case rel => exact ⟨t + 1, Aa, ca, by omega, by omega, by rw [HNX.out], by go_num, by omega, Lib.hid ⟨by rw [HNX.out]; exact HO2.out.1, HO2.out.2⟩⟩
        ·have d0 : (Y.f0 != X.f0) = true := bne_iff_ne.2 c0
         have d1 : (Y.f0 == X.f0) = false := beq_eq_false_iff_ne.2 c0
         rw [if_neg (fun e => c0 (sameK_iff.1 e).1.symm), List.append_nil] at hnx
         have HNX := Lib.hid hnx
         have HC := Lib.hid c0
         clear hnx c0 hY
         as_aux_lemma =>
          repeat (first | refine qP 24 hT ?_ | refine qT 24 hT hHeld ?_)
          refine done_ (by kernel_rfl) ?_
          clear hHeld
          go_wp2
          go_roundg (l.length - t)
          case measure => omega
          case rel => exact ⟨t + 1, Aa, ca, by omega, by omega, by rw [HNX.out], by go_num, by omega, Lib.hid ⟨by rw [HNX.out]; exact HO2.out.1, HO2.out.2⟩⟩
       ·have e : t = l.length := by omega
        subst e
        obtain ⟨T, hT⟩ : ∃ T, T = amt l X := ⟨_, rfl⟩
        have HSUM : Hid (sumL (alls l j l.length) = T) := Lib.hid (by rw [hT, HX.out]; unfold alls amt; rw [List.take_length])
        have HTE := Lib.hid hT
        have hal := alls_len l j l.length
        clear hT
        cases hf : fits T with
        |false =>
         have HF := Lib.hid hf
         clear hf
         go_wp2_with (go_at_call 100; go_loud ((with_reducible refine (rsum_walk Aa ca (alls l j l.length) _ ?s1 ?s2 ?s3).mono ?_); (case s1 => exact (Kd.R_reads' HT.out.1).2.2); (case s2 => exact alls_i64 HI.out j _); (case s3 => omega); rintro e w7 hs; obtain ⟨rfl, hb⟩ := hs.no HSUM.out HF.out; have HB7 := Lib.hid (below_step HB.out hb); clear hs hb))
         go_ret2
         refine ⟨HB7.out, .inl ⟨rfl, X, ?_, ?_⟩⟩
         ·rw [HX.out]
          exact mvAt_mem hlt
         ·rw [← HTE.out]
          exact HF.out
        |true =>
         have HF := Lib.hid hf
         clear hf
         by_cases c9 : T = 0
         ·have c1 : (T == 0) = true := beq_iff_eq.2 c9
          have c2 : (T != 0) = false := bne_eq_false_iff_eq.2 c9
          have HC9 := Lib.hid c9
          clear c9
          go_wp2_with (go_at_call 100; go_loud ((with_reducible refine (rsum_walk Aa ca (alls l j l.length) _ ?s1 ?s2 ?s3).mono ?_); (case s1 => exact (Kd.R_reads' HT.out.1).2.2); (case s2 => exact alls_i64 HI.out j _); (case s3 => omega); rintro e w7 hs; obtain ⟨rfl, hb⟩ := hs.yes HSUM.out HF.out; have HB7 := Lib.hid (And.intro (Kd.R_below (Kd.R_below HO.out.1 HT.out.2) hb) (below_step HB.out hb)); clear hs hb))
          go_roundg (l.length - j)
          case measure => omega
          case rel =>
           exact ⟨j + 1, m, Ao, co, by omega, rfl, by go_num, by omega, Lib.hid ⟨HB7.out.1, HB7.out.2, HM.out.1.none hlt (by rw [← HX.out, ← HTE.out]; exact HC9.out), by omega⟩⟩
         ·have c1 : (T == 0) = false := beq_eq_false_iff_ne.2 c9
          have c2 : (T != 0) = true := bne_iff_ne.2 c9
          have HC9 := Lib.hid c9
          clear c9
          go_wp2_with (go_at_call 100; go_loud ((with_reducible refine (rsum_walk Aa ca (alls l j l.length) _ ?s1 ?s2 ?s3).mono ?_); (case s1 => exact (Kd.R_reads' HT.out.1).2.2); (case s2 => exact alls_i64 HI.out j _); (case s3 => omega); rintro e w7 hs; obtain ⟨rfl, hb⟩ := hs.yes HSUM.out HF.out; have HB7 := Lib.hid (And.intro (Kd.R_below (Kd.R_below HO.out.1 HT.out.2) hb) (below_step HB.out hb)); clear hs hb))
          obtain ⟨x0, x1, -⟩ := CI.out _ (below_drew1 HB7.out.2)
          refine stepS (S := fun w' => w'.cell? (ad.add (j * 3)) = some (.int .i64 X.f0) ∧ w'.cell? ⟨(ad.add (j * 3)).block, (ad.add (j * 3)).off + 1, none⟩ = some (.int .i64 X.f1)) (ds := [14]) 16 (by kernel_rfl) rfl ⟨x0, x1⟩ (fun hHeld => ?_)
          have HO9 := Lib.hid (And.intro (Kd.R_drew HB7.out.1) (below_drew1 HB7.out.2))
          generalize w7.drew = wd at HO9 hHeld ⊢
          clear x0 x1 HB7 HO HB HT
          as_aux_lemma =>
           repeat (first | refine rP 16 ?_ | refine rT 16 hHeld ?_)
           refine sB 13 hHeld (fun hHeld => ?_)
           obtain ⟨XX, hXX⟩ : ∃ XX : Mv, XX = ⟨X.f0, X.f1, T⟩ := ⟨_, rfl⟩
           refine sA 14 appMv m ⟨X.f0, X.f1, T⟩ HO9.out.1 HO9.out.2 HO9.out.2.size (by omega) (fun A1 c1 w9 ho hb hg => ?_)
           refine sN ?_
           refine rP 16 ?_
           refine done_ (by kernel_rfl) ?_
           rw [← hXX] at ho
           have HXX := Lib.hid hXX
           obtain ⟨n1, hn1⟩ : ∃ n1, n1 = m.length + 1 := ⟨_, rfl⟩
           rw [← hn1] at ho ⊢
           obtain ⟨g, cap, ev, -⟩ := Kd.R_form ho (by simp)
           injection ev with ev1 ev2 ev3
           subst ev1
           clear ev2 ev3 hXX hg hHeld HO9
           have HO9 := Lib.hid (And.intro ho hb)
           clear ho hb
           have HM9 := Lib.hid HM.out
           have hn1b : 1 ≤ n1 ∧ n1 ≤ 100001 := by omega
           have HN1 := Lib.hid hn1
           clear hn1
           go_wp2
           go_loopg [12] n1 (fun k jv W => ∃ (J : Int) (a b : List Mv), jv = .int .i64 J ∧ J = (a.length : Int) ∧ k = J.toNat + 1 ∧ J ≤ 100000 ∧ Hid (a ++ b = m ∧ (∀ y, y ∈ b → mlt XX y) ∧ Kd.R kMv 103 W w.heap.size (fun _ => True) (.slice (some ⟨g, 0, none⟩) n1 c1) (a ++ XX :: b) ∧ Below w.heap.size w W))
           case atStart => exact ⟨(n1 : Int) - 1, m, [], rfl, by have := HN1.out; omega, by omega, by omega, Lib.hid ⟨List.append_nil m, fun _ h => (nomatch h), HO9.out.1, HO9.out.2⟩⟩
           case round =>
            obtain ⟨J, a, b, rfl, hJ, rfl, hJb, HK⟩ := hrel
            rcases List.eq_nil_or_concat a with rfl | ⟨a', Y, ha⟩
            ·have hJ0 : J = 0 := by rw [hJ]; rfl
             subst hJ0
             clear hJ
             go_wp2
             refine stepS (S := fun _ => True) (ds := []) 44 (by kernel_rfl) rfl trivial (fun hHeld => ?_)
             have HO9 := Lib.hid (And.intro (Kd.R_drew HK.out.2.2.1) (below_drew1 HK.out.2.2.2))
             generalize wr.drew = wd at HO9 ⊢
             refine wT mvT23 (fun hT => ?_)
             repeat refine qP 44 hT ?_
             refine done_ (by kernel_rfl) ?_
             go_wp2
             go_roundg (l.length - j)
             case measure => omega
             case rel => exact ⟨j + 1, XX :: b, some ⟨g, 0, none⟩, c1, by omega, by rw [List.length_cons, ← List.nil_append b, HK.out.1, ← HN1.out], by go_num, by omega, Lib.hid ⟨by rw [List.length_cons, ← List.nil_append b, HK.out.1, ← HN1.out, ← HK.out.1]; exact HO9.out.1, HO9.out.2, MgI.ins (a := []) (by rw [HK.out.1]; exact HM9.out.1) hlt HNH.out (by rw [HXX.out, HTE.out, HX.out]) (by rw [← HX.out, ← HTE.out]; exact HF.out) (by rw [← HX.out, ← HTE.out]; exact HC9.out) HK.out.2.1 (fun a' y e => by simp at e), by rw [List.length_cons, ← List.nil_append b, HK.out.1]; omega⟩⟩
            ·rw [List.concat_eq_append] at ha
             subst ha
             rw [List.length_append, List.length_singleton] at hJ
             obtain ⟨Z, hZ⟩ : ∃ Z : Int, Z = J - 1 := ⟨_, rfl⟩
             have eZ : IntKind.i64.wrap (J - 1) = Z := by rw [IntWalk.i64_in _ (by omega), hZ]
             have ep : J.toNat = a'.length + 1 := by omega
             have eq : Z.toNat = a'.length := by omega
             have hlen : n1 = a'.length + b.length + 2 := by
              have := (Kd.R_reads' HK.out.2.2.1).1
              rw [this]
              simp
              omega
             have z0 : 0 ≤ Z := by omega
             have z1 : Z < (n1 : Int) := by omega
             have J0 : 0 < J := by omega
             have J1 : J < (n1 : Int) := by omega
             have hR9 := HK.out.2.2.1
             rw [List.append_assoc] at hR9
             have HR9 := Lib.hid (show Kd.R kMv 103 wr w.heap.size (fun _ => True) (.slice (some ⟨g, 0, none⟩) n1 c1) (a' ++ Y :: XX :: b) from hR9)
             clear hR9
             obtain ⟨q0, q1, -, p0, p1, -⟩ := (mv_swap (Kd.R_drew HR9.out) ep eq).1
             have J00 : 0 ≤ J := by omega
             have HZ := Lib.hid (And.intro hZ (And.intro ep (And.intro eq (And.intro hlen hJ))))
             have HK2 := Lib.hid (And.intro HK.out.1 (And.intro HK.out.2.1 (below_drew1 (below_drew1 HK.out.2.2.2))))
             have HR10 := Lib.hid (Kd.R_drew HR9.out)
             clear hZ ep eq hlen hJ HO9
             go_wp2
             refine stepS (S := fun w' => w'.cell? ⟨g, Z.toNat * 3, none⟩ = some (.int .i64 Y.f0) ∧ w'.cell? ⟨g, Z.toNat * 3 + 1, none⟩ = some (.int .i64 Y.f1) ∧ w'.cell? ⟨g, J.toNat * 3, none⟩ = some (.int .i64 XX.f0) ∧ w'.cell? ⟨g, J.toNat * 3 + 1, none⟩ = some (.int .i64 XX.f1)) (ds := []) 44 (by kernel_rfl) rfl ⟨q0, q1, p0, p1⟩ (fun hHeld => ?_)
             have HB10 := Lib.hid (below_drew1 HK.out.2.2.2)
             generalize wr.drew = wd at hHeld HR10 HK2 HB10 ⊢
             refine wT mvT23 (fun hT => ?_)
             clear q0 q1 p0 p1 HR9 HK
             by_cases hm : mlt XX Y
             ·have go9 : XX.f1 < Y.f1 ∨ (¬ XX.f1 < Y.f1 ∧ (XX.f1 == Y.f1) = true ∧ XX.f0 < Y.f0) := by
               unfold mlt at hm
               by_cases h : XX.f1 < Y.f1
               ·exact .inl h
               ·exact .inr ⟨h, beq_iff_eq.2 (by omega), by omega⟩
              have HMT := Lib.hid hm
              clear hm
              rcases go9 with g1 | ⟨g1, g2, g3⟩
              all_goals
               repeat (first | refine qP 44 hT ?_ | refine qT 44 hT hHeld ?_)
               refine done_ (by kernel_rfl) ?_
               clear hHeld
               go_wp2
               obtain ⟨⟨q0, q1, q2, p0, p1, p2⟩, ⟨f0, f1, f2⟩, W1, hW1, ⟨u0, u1, u2, v0, v1, v2⟩, ⟨f3, f4, f5⟩, hR2, hB2⟩ := mv_swap (Kd.R_drew HR10.out) HZ.out.2.1 HZ.out.2.2.1
               refine stepS (S := fun w' => w'.cell? ⟨g, Z.toNat * 3, none⟩ = some (.int .i64 Y.f0) ∧ w'.cell? ⟨g, Z.toNat * 3 + 1, none⟩ = some (.int .i64 Y.f1) ∧ w'.cell? ⟨g, Z.toNat * 3 + 2, none⟩ = some (.int .i64 Y.f2) ∧ w'.cell? ⟨g, J.toNat * 3, none⟩ = some (.int .i64 XX.f0) ∧ w'.cell? ⟨g, J.toNat * 3 + 1, none⟩ = some (.int .i64 XX.f1) ∧ w'.cell? ⟨g, J.toNat * 3 + 2, none⟩ = some (.int .i64 XX.f2)) (ds := [15, 17]) 18 (by kernel_rfl) rfl ⟨q0, q1, q2, p0, p1, p2⟩ (fun hHeld => ?_)
               have HN := Lib.hid (And.intro hR2 (hB2 _ (below_drew1 HB10.out)))
               have HW1 := Lib.hid hW1
               generalize wd.drew = we at q0 q1 q2 p0 p1 p2 f0 f1 f2 HW1 hHeld ⊢
               clear hR2 hB2 hW1
               repeat (first | refine rP 18 ?_ | refine rT 18 hHeld ?_)
               refine sS 15 ?_
               clear hHeld q0 q1 q2 p0 p1 p2 f0 f1 f2
               rw [← HW1.out]
               refine rP 18 ?_
               refine sS 17 ?_
               refine done_ (by kernel_rfl) ?_
               clear u0 u1 u2 v0 v1 v2 f3 f4 f5
               go_wp2
               go_roundg (Z.toNat + 1)
               case measure => have := HZ.out.1; omega
               case rel => exact ⟨Z, a', Y :: b, by first | rfl | go_num, by have := HZ.out.1; have := HZ.out.2.2.2.2; omega, rfl, by have := HZ.out.1; omega, Lib.hid ⟨by have := HK2.out.1; rwa [List.append_assoc] at this, fun y hy => (List.mem_cons.1 hy).elim (fun e => e ▸ HMT.out) (HK2.out.2.1 y), HN.out.1, HN.out.2⟩⟩
             ·have go9 : ¬ XX.f1 < Y.f1 ∧ ((XX.f1 == Y.f1) = false ∨ ((XX.f1 == Y.f1) = true ∧ ¬ XX.f0 < Y.f0)) := by
               unfold mlt at hm
               refine ⟨by omega, ?_⟩
               by_cases h : XX.f1 = Y.f1
               ·exact .inr ⟨beq_iff_eq.2 h, by omega⟩
               ·exact .inl (beq_eq_false_iff_ne.2 h)
              have HMT := Lib.hid hm
              clear hm
              obtain ⟨g1, (g2 | ⟨g2, g3⟩)⟩ := go9
              all_goals
               repeat (first | refine qP 44 hT ?_ | refine qT 44 hT hHeld ?_)
               refine done_ (by kernel_rfl) ?_
               clear hHeld
               go_wp2
               have hm9 : (a' ++ [Y]).length + (b.length + 1) = n1 := by have := HZ.out.2.2.2.1; simp; omega
               have hmm : ((a' ++ [Y]) ++ XX :: b).length = n1 := by rw [List.length_append, List.length_cons]; exact hm9
               have HMM := Lib.hid hmm
               clear hm9 hmm
               go_roundg (l.length - j)
               case measure => omega
               case rel => exact ⟨j + 1, (a' ++ [Y]) ++ XX :: b, some ⟨g, 0, none⟩, c1, by omega, by rw [HMM.out], by go_num, by omega, Lib.hid ⟨by rw [HMM.out, List.append_assoc]; exact HR10.out, HB10.out, MgI.ins (by rw [HK2.out.1]; exact HM9.out.1) hlt HNH.out (by rw [HXX.out, HTE.out, HX.out]) (by rw [← HX.out, ← HTE.out]; exact HF.out) (by rw [← HX.out, ← HTE.out]; exact HC9.out) HK2.out.2.1 (fun a2 y e => by
                obtain ⟨_, e2⟩ := List.append_inj' e rfl
                injection e2 with e2
                rw [← e2]
                exact HMT.out), by rw [HMM.out]; have := HN1.out; omega⟩⟩
  ·have e : i = l.length := by omega
   subst e
   go_wp2
   go_ret2
   exact ⟨HL.out.2.1, .inr ⟨m, Ao, co, rfl, HL.out.1, HL.out.2.2.1, HL.out.2.2.2⟩⟩
end Go.Proofs.Ytcgdloldkcmhnaa.H
end
section
namespace Go.Proofs.Ytcgdloldkcmhnaa.H
open Go Go.RowKit Go.Proofs.Ytcgdloldkcmhnaa.PrintC Go.Proofs.Ytcgdloldkcmhnaa.PrintE Go.Proofs.YtcgdloldkcmhnaaW.PrintWords Go.Proofs.YtcgdloldkcmhnaaW.PrintLast Go.Proofs.YtcgdloldkcmhnaaW.PrintMore Go.Proofs.Ytcgdloldkcmhnaa.Flow
set_option linter.unusedVariables false
set_option linter.unusedSimpArgs false
def gOf (v : Int) : List Grp → Int
 |[] => -1
 |g :: l => if g.f0 = v then g.f1 else gOf v l
theorem gOf_drop {l : List Grp} (v : Int) {i : Nat} (hi : i < l.length) : gOf v (l.drop i) = if (rd_T44 l (i : Int)).f0 = v then (rd_T44 l (i : Int)).f1 else gOf v (l.drop (i + 1)) := by
 have e : rd_T44 l (i : Int) = l[i] := by
  unfold rd_T44
  rw [Int.toNat_natCast, List.getD_eq_getElem?_getD, List.getElem?_eq_getElem hi]
  rfl
 rw [List.drop_eq_getElem_cons hi, e]
 rfl
theorem gOf_neg (v : Int) : ∀ {l : List Grp}, (∀ g, g ∈ l → 0 ≤ g.f1) → (gOf v l < 0 ↔ hasK (putGs l) v = false) := by
 intro l
 rw [hasK_putGs]
 induction l with
 |nil => intro _; exact ⟨fun _ => rfl, fun _ => by unfold gOf; decide⟩
 |cons g l ih =>
  intro h
  have h0 := h g (List.mem_cons_self ..)
  have h1 := ih (fun x hx => h x (List.mem_cons_of_mem _ hx))
  unfold gOf
  rw [List.any_cons]
  by_cases e : g.f0 = v
  ·rw [if_pos e, decide_eq_true e]
   exact ⟨fun h => by omega, fun h => by cases h⟩
  ·rw [if_neg e, decide_eq_false e, Bool.false_or]
   exact h1
set_option maxHeartbeats 4000000 in
set_option maxRecDepth 100000 in
theorem rof_walk (m : Nat) (A : Option Addr) (c : Nat) (l : List Grp) (v : Int) (w : World) (hm : l.length = m) (hr : Kd.C kGrp w A l.length l) (hl : m ≤ 1000000) :
  Calls Try.prog 27 #[.slice A m c, .int .i64 v] w fun e w' => e = .returned (.int .i64 (gOf v l)) ∧ Below w.heap.size w w' := by
 subst hm
 have HR := Lib.hid hr
 clear hr
 go_enter Try.func27, Try.ntmps27
 go_wp2
 go_loopg [5] l.length (fun k iv W => ∃ i : Nat, i ≤ l.length ∧ iv = .int .i64 i ∧ k = l.length - i ∧ Hid (gOf v (l.drop i) = gOf v l ∧ Below w.heap.size w W))
 case atStart => exact ⟨0, Nat.zero_le _, rfl, rfl, Lib.hid ⟨rfl, by first | exact Below.refl _ _ | exact pw_below_drewN (Below.refl _ _) _⟩⟩
 case round =>
  obtain ⟨i, hi, rfl, rfl, HL⟩ := hrel
  by_cases d1 : i < l.length
  ·have i0 : (0 : Int) ≤ (i : Int) := by omega
   have i1 : (i : Int) < (l.length : Int) := by omega
   obtain ⟨ad, ea, y0, y1⟩ := at_T44 (Kd.C_below HR.out HL.out.2) (i : Int) i0 i1
   subst ea
   rw [Int.toNat_natCast] at y0 y1
   have HD := Lib.hid (gOf_drop v d1)
   obtain ⟨g, hg⟩ : ∃ g, g = rd_T44 l (i : Int) := ⟨_, rfl⟩
   rw [← hg] at HD y0 y1
   clear hg
   by_cases d2 : g.f0 = v
   ·have d3 : (g.f0 == v) = true := by simpa using d2
    have d4 : (g.f0 != v) = false := by simpa using d2
    have HD2 : Hid (gOf v (l.drop i) = g.f1) := Lib.hid (by rw [HD.out, if_pos d2])
    clear d2
    go_wp2
    go_ret
    refine ⟨?_, HL.out.2⟩
    rw [← HL.out.1, HD2.out]
    rfl
   ·have d3 : (g.f0 == v) = false := by simpa using d2
    have d4 : (g.f0 != v) = true := by simpa using d2
    have HD2 : Hid (gOf v (l.drop i) = gOf v (l.drop (i + 1))) := Lib.hid (by rw [HD.out, if_neg d2])
    clear d2
    go_wp2
    go_roundg (l.length - (i + 1))
    case measure => omega
    case rel => exact ⟨i + 1, by omega, by go_num, by omega, Lib.hid ⟨by rw [← HL.out.1, HD2.out], HL.out.2⟩⟩
  ·have d2 : ¬ (i : Int) < (l.length : Int) := by omega
   have HE : Hid (l.drop i = []) := Lib.hid (List.drop_of_length_le (by omega))
   go_wp2
   go_ret
   refine ⟨?_, HL.out.2⟩
   rw [← HL.out.1, HE.out]
   rfl
set_option maxHeartbeats 4000000 in
set_option maxRecDepth 100000 in
theorem rkeeps_walk (n : Int) (b : Bool) (vl : Value) (Ap : Option Addr) (cp : Nat) (p : List Grp) (Aq : Option Addr) (cq : Nat) (q : List Grp) (v : Int) (w : World) (hp : Kd.C kGrp w Ap p.length p) (hq : Kd.C kGrp w Aq q.length q) (lp : p.length ≤ 1000000) (lq : q.length ≤ 1000000) (gp : ∀ g, g ∈ p → 0 ≤ g.f1) (gq : ∀ g, g ∈ q → 0 ≤ g.f1) :
  Calls Try.prog 44 #[.agg #[.int .i64 n, .bool b, vl], .slice Ap p.length cp, .slice Aq q.length cq, .int .i64 v] w fun e w' => e = .returned (.bool (b || (hasK (putGs p) v || hasK (putGs q) v))) ∧ Below w.heap.size w w' := by
 have hu := Try.underlying32
 have HP := Lib.hid hp
 have HQ := Lib.hid hq
 have HGP := Lib.hid (gOf_neg v gp)
 have HGQ := Lib.hid (gOf_neg v gq)
 clear hp hq gp gq
 obtain ⟨x, hx⟩ : ∃ x, x = gOf v p := ⟨_, rfl⟩
 obtain ⟨y, hy⟩ : ∃ y, y = gOf v q := ⟨_, rfl⟩
 have HX := Lib.hid hx
 have HY := Lib.hid hy
 clear hx hy
 cases b with
 |true =>
  go_enter Try.func44, Try.ntmps44
  go_wp2
  go_ret
  exact ⟨rfl, below_alloc (Below.refl _ _) _⟩
 |false =>
  by_cases c1 : x < 0
  ·have c2 : ¬ 0 ≤ x := by omega
   by_cases c3 : y < 0
   ·have c4 : ¬ 0 ≤ y := by omega
    go_enter Try.func44, Try.ntmps44
    go_wp2_with (go_at_call 27; go_loud (first | ((with_reducible refine (rof_walk p.length Ap cp p v _ ?s1 ?s2 ?s3).mono ?_); (case s1 => rfl); (case s2 => exact Kd.C_below HP.out (below_alloc (Below.refl _ _) _)); (case s3 => exact lp); rintro e w1 ⟨rfl, hb⟩; rw [← HX.out]; have HB := Lib.hid (below_step (below_alloc (Below.refl _ _) _) hb); clear hb) | ((with_reducible refine (rof_walk q.length Aq cq q v _ ?s1 ?s2 ?s3).mono ?_); (case s1 => rfl); (case s2 => exact Kd.C_below HQ.out HB.out); (case s3 => exact lq); rintro e w2 ⟨rfl, hb⟩; rw [← HY.out]; have HB2 := Lib.hid (below_step HB.out hb); clear hb)))
    go_ret
    refine ⟨?_, HB2.out⟩
    rw [HGP.out.1 (by rw [← HX.out]; exact c1), HGQ.out.1 (by rw [← HY.out]; exact c3)]
    first | rfl | (simp; exact ⟨c1, c3⟩)
   ·have c4 : 0 ≤ y := by omega
    go_enter Try.func44, Try.ntmps44
    go_wp2_with (go_at_call 27; go_loud (first | ((with_reducible refine (rof_walk p.length Ap cp p v _ ?s1 ?s2 ?s3).mono ?_); (case s1 => rfl); (case s2 => exact Kd.C_below HP.out (below_alloc (Below.refl _ _) _)); (case s3 => exact lp); rintro e w1 ⟨rfl, hb⟩; rw [← HX.out]; have HB := Lib.hid (below_step (below_alloc (Below.refl _ _) _) hb); clear hb) | ((with_reducible refine (rof_walk q.length Aq cq q v _ ?s1 ?s2 ?s3).mono ?_); (case s1 => rfl); (case s2 => exact Kd.C_below HQ.out HB.out); (case s3 => exact lq); rintro e w2 ⟨rfl, hb⟩; rw [← HY.out]; have HB2 := Lib.hid (below_step HB.out hb); clear hb)))
    go_ret
    refine ⟨?_, HB2.out⟩
    have : hasK (putGs q) v = true := by
     cases h : hasK (putGs q) v
     ·have := HGQ.out.2 h; rw [← HY.out] at this; omega
     ·rfl
    rw [this, Bool.or_true, Bool.or_true]
    rfl
  ·have c2 : 0 ≤ x := by omega
   go_enter Try.func44, Try.ntmps44
   go_wp2_with (go_at_call 27; go_loud ((with_reducible refine (rof_walk p.length Ap cp p v _ ?s1 ?s2 ?s3).mono ?_); (case s1 => rfl); (case s2 => exact Kd.C_below HP.out (below_alloc (Below.refl _ _) _)); (case s3 => exact lp); rintro e w1 ⟨rfl, hb⟩; rw [← HX.out]; have HB := Lib.hid (below_step (below_alloc (Below.refl _ _) _) hb); clear hb))
   go_ret
   refine ⟨?_, HB.out⟩
   have : hasK (putGs p) v = true := by
    cases h : hasK (putGs p) v
    ·have := HGP.out.2 h; rw [← HX.out] at this; omega
    ·rfl
   rw [this, Bool.true_or, Bool.or_true]
   rfl
end Go.Proofs.Ytcgdloldkcmhnaa.H
end
section
namespace Go.Proofs.Ytcgdloldkcmhnaa.H
open Go Go.RowKit Go.Proofs.Ytcgdloldkcmhnaa.PrintC Go.Proofs.Ytcgdloldkcmhnaa.PrintE Go.Proofs.YtcgdloldkcmhnaaW.PrintWords Go.Proofs.YtcgdloldkcmhnaaW.PrintLast Go.Proofs.YtcgdloldkcmhnaaW.PrintMore
set_option linter.unusedVariables false
set_option linter.unusedSimpArgs false
def mok (l : List Arc) (h : Int) (q : List Grp) (x : Mv) : Bool := moveOk l h (-1) (-1) x && decide (gOf (arcOf l x).f0 q < 0)
def MvBad (l : List Arc) (h : Int) (q : List Grp) (L : List Mv) (k : Int) : Prop := (k = 10 ∧ ∃ x, x ∈ L ∧ fits (amt L x) = false) ∨ (k = 140 ∧ ∃ m, MgOf L m ∧ ∃ x, x ∈ m ∧ mok l h q x = false)
def RMvAt (l : List Arc) (h : Int) (q : List Grp) (L : List Mv) (w : World) (e : Ending) (w' : World) : Prop := Below w.heap.size w w' ∧ ((∃ k : Int, (k == 0) = false ∧ (k != 0) = true ∧ e = .returned (.tuple #[.slice none 0 0, .int .i64 k]) ∧ MvBad l h q L k) ∨
 ∃ (m : List Mv) (A1 : Option Addr) (c1 : Nat), e = .returned (.tuple #[.slice A1 m.length c1, .int .i64 0]) ∧ Kd.R kMv 103 w' w.heap.size (fun _ => True) (.slice A1 m.length c1) m ∧ MgOf L m ∧ (∀ x, x ∈ m → mok l h q x = true) ∧ m.length ≤ L.length)
set_option maxHeartbeats 8000000 in
set_option maxRecDepth 100000 in
theorem rmvs_walk (n : Int) (b : Bool) (A : Option Addr) (c : Nat) (l : List Arc) (Aq : Option Addr) (cq : Nat) (q : List Grp) (h : Int) (AL : Option Addr) (cL : Nat) (L : List Mv) (w : World) (hr : Kd.C k79 w A l.length l) (hq : Kd.C kGrp w Aq q.length q) (hL : Kd.C kMv w AL L.length L) (hlq : q.length ≤ 1000000)
  (hti : ∀ i : Int, 0 ≤ i → i < l.length → 0 ≤ (rd_T79 l i).f3 ∧ (rd_T79 l i).f3 ≤ 1048576) (h0 : 0 ≤ h) (h1 : h ≤ 100000) (hi : ∀ x, x ∈ L → -9223372036854775808 ≤ x.f2 ∧ x.f2 ≤ 9223372036854775807) (hl : L.length ≤ 100000) :
  Calls Try.prog 42 #[.agg #[.int .i64 n, .bool b, .slice A l.length c], .slice Aq q.length cq, .int .i64 h, .slice AL L.length cL] w (RMvAt l h q L w) := by
 have hu := Try.underlying32
 have hu2 := Try.underlying103
 have hu3 := Try.underlying79
 have HR := Lib.hid hr
 have HQ := Lib.hid hq
 have HLL := Lib.hid hL
 have HTI := Lib.hid hti
 have HI := Lib.hid hi
 clear hr hq hL hti hi
 go_enter Try.func42, Try.ntmps42
 obtain ⟨w1, hw1⟩ : ∃ w1, w1 = w.alloc (.cells #[.int .i64 n, .bool b, .slice A l.length c] 32) := ⟨_, rfl⟩
 have HX : Hid (w1.heap[w.heap.size]? = some (.cells #[.int .i64 n, .bool b, .slice A l.length c] 32 (0, 0)) ∧ Below w.heap.size w w1) := Lib.hid (by rw [hw1]; exact ⟨heap_alloc_new _ _, below_alloc (Below.refl _ _) _⟩)
 have HS1 : Hid (w.heap.size ≤ w1.heap.size) := Lib.hid HX.out.2.size
 go_wp2_with (go_at_call 76; rw [← hw1]; go_loud ((with_reducible refine (rmoves_walk AL cL L _ ?s1 ?s2 ?s3).mono ?_); (case s1 => exact Kd.C_below HLL.out HX.out.2); (case s2 => exact HI.out); (case s3 => exact hl); rintro e w3 ⟨hb, (⟨rfl, hov⟩ | ⟨m, A1, c1, rfl, hm, hmg, hml⟩)⟩; all_goals (have HX3 := Lib.hid (And.intro (blk_below HX.out.1 hb) (below_step HX.out.2 hb)); clear HX)))
 ·go_ret2
  exact ⟨HX3.out.2, .inl ⟨10, rfl, rfl, rfl, .inl ⟨rfl, hov⟩⟩⟩
 have HM := Lib.hid (And.intro hm hmg)
 have HMC := Lib.hid (Kd.R_reads' hm).2.2
 have hmb := Nat.le_trans hml hl
 clear hm hmg hb
 go_loopg [12] (m.length + 1) (fun k iv W => ∃ i : Nat, i ≤ m.length ∧ iv = .int .i64 i ∧ k = m.length + 1 - i ∧ Hid (Below w3.heap.size w3 W ∧ ∀ x, x ∈ m.take i → mok l h q x = true))
 case atStart => exact ⟨0, Nat.zero_le _, rfl, rfl, Lib.hid ⟨Below.refl _ _, fun x hx => by simp at hx⟩⟩
 case round =>
  obtain ⟨i, hi, rfl, rfl, HL⟩ := hrel
  have HB := Lib.hid (below_step HX3.out.2 HL.out.1)
  by_cases hlt : i < m.length
  ·have i0 : (0 : Int) ≤ (i : Int) := by omega
   have i1 : (i : Int) < (m.length : Int) := by omega
   obtain ⟨ad, ea, x0, x1, x2⟩ := at_T103 (Kd.C_drew (Kd.C_below HMC.out HL.out.1)) (i : Int) i0 i1
   subst ea
   rw [Int.toNat_natCast] at x0 x1 x2
   obtain ⟨X, hX⟩ : ∃ X, X = mvAt m i := ⟨_, rfl⟩
   have hX2 : rd_T103 m (i : Int) = X := by rw [hX]; rfl
   rw [hX2] at x0 x1 x2
   have HXE := Lib.hid hX
   clear hX hX2
   have z0 : wr.drew.cell? ⟨w.heap.size, 0, none⟩ = some (.int .i64 n) := (blk_cell (blk_drew (blk_below HX3.out.1 HL.out.1)) 0).trans rfl
   have z1 : wr.drew.cell? ⟨w.heap.size, 1, none⟩ = some (.bool b) := (blk_cell (blk_drew (blk_below HX3.out.1 HL.out.1)) 1).trans rfl
   have z2 : wr.drew.cell? ⟨w.heap.size, 2, none⟩ = some (.slice A l.length c) := (blk_cell (blk_drew (blk_below HX3.out.1 HL.out.1)) 2).trans rfl
   have HB9 := Lib.hid (And.intro (below_drew1 HB.out) (below_drew1 HL.out.1))
   have HXM : Hid (X ∈ m) := Lib.hid (by rw [HXE.out]; exact mvAt_mem hlt)
   cases hRe : moveOk l h (-1) (-1) ⟨X.f0, X.f1, X.f2⟩ with
   |false =>
    have HRE := Lib.hid hRe
    clear hRe
    go_wp2
    refine stepS (S := fun w' => w'.cell? ⟨w.heap.size, 0, none⟩ = some (.int .i64 n) ∧ w'.cell? ⟨w.heap.size, 1, none⟩ = some (.bool b) ∧ w'.cell? ⟨w.heap.size, 2, none⟩ = some (.slice A l.length c) ∧ w'.cell? (ad.add (i * 3)) = some (.int .i64 X.f0) ∧ w'.cell? ⟨(ad.add (i * 3)).block, (ad.add (i * 3)).off + 1, none⟩ = some (.int .i64 X.f1) ∧ w'.cell? ⟨(ad.add (i * 3)).block, (ad.add (i * 3)).off + 2, none⟩ = some (.int .i64 X.f2)) (ds := [6]) 23 (by kernel_rfl) rfl ⟨z0, z1, z2, x0, x1, x2⟩ (fun hHeld => ?_)
    generalize wr.drew = wd at HB9 hHeld ⊢
    clear z0 z1 z2 x0 x1 x2
    repeat (first | refine rP 23 ?_ | refine rT 23 hHeld ?_)
    refine sCL 6 Try.func77 #[.agg #[.int .i64 n, .bool b, .slice A l.length c], .int .i64 (-1), .int .i64 (-1), .int .i64 h, .agg #[.int .i64 X.f0, .int .i64 X.f1, .int .i64 X.f2]] (rmove_walk n b A c l (-1) (-1) h X.f0 X.f1 X.f2 false HRE.out.symm _ (Kd.C_below HR.out HB9.out.1) HTI.out h0 h1) ?_
    rintro e w5 ⟨rfl, hb⟩
    refine ⟨_, rfl, ?_⟩
    refine sN ?_
    repeat refine rP 23 ?_
    refine done_ (by kernel_rfl) ?_
    have HB5 := Lib.hid (below_step HB9.out.1 hb)
    clear hb hHeld
    go_wp2
    go_ret2
    exact ⟨HB5.out, .inl ⟨140, rfl, rfl, rfl, .inr ⟨rfl, m, HM.out.2, X, HXM.out, by unfold mok; rw [show X = ⟨X.f0, X.f1, X.f2⟩ from rfl, HRE.out]; rfl⟩⟩⟩
   |true =>
    have hmo := of_decide_eq_true hRe
    have a0 : 0 ≤ X.f0 := hmo.1
    have a1 : X.f0 < l.length := hmo.2.1
    have HRE := Lib.hid hRe
    clear hRe hmo
    obtain ⟨ae, eb, -⟩ := at_T79 HR.out X.f0 a0 a1
    subst eb
    obtain ⟨ae2, e2, y0, -⟩ := at_T79 (Kd.C_below HR.out HB9.out.1) X.f0 a0 a1
    injection e2 with e2
    subst e2
    obtain ⟨Y, hY⟩ : ∃ Y, Y = arcOf l X := ⟨_, rfl⟩
    have hY2 : rd_T79 l X.f0 = Y := by rw [hY]; rfl
    rw [hY2] at y0
    have HY := Lib.hid hY
    clear hY hY2
    obtain ⟨G, hG⟩ : ∃ G, G = gOf Y.f0 q := ⟨_, rfl⟩
    have HG := Lib.hid hG
    clear hG
    have hg : (0 ≤ G ∧ Hid (mok l h q X = false)) ∨ (¬ 0 ≤ G ∧ Hid (mok l h q X = true)) := by
     by_cases g : 0 ≤ G
     ·refine .inl ⟨g, Lib.hid ?_⟩
      unfold mok
      rw [← HY.out, ← HG.out, decide_eq_false (by omega), Bool.and_false]
     ·refine .inr ⟨g, Lib.hid ?_⟩
      unfold mok
      rw [← HY.out, ← HG.out, decide_eq_true (by omega), Bool.and_true]
      exact HRE.out
    go_wp2
    refine stepS (S := fun w' => w'.cell? ⟨w.heap.size, 0, none⟩ = some (.int .i64 n) ∧ w'.cell? ⟨w.heap.size, 1, none⟩ = some (.bool b) ∧ w'.cell? ⟨w.heap.size, 2, none⟩ = some (.slice (some ae) l.length c) ∧ w'.cell? (ad.add (i * 3)) = some (.int .i64 X.f0) ∧ w'.cell? ⟨(ad.add (i * 3)).block, (ad.add (i * 3)).off + 1, none⟩ = some (.int .i64 X.f1) ∧ w'.cell? ⟨(ad.add (i * 3)).block, (ad.add (i * 3)).off + 2, none⟩ = some (.int .i64 X.f2) ∧ w'.cell? (ae.add (X.f0.toNat * 4)) = some (.int .i64 Y.f0)) (ds := [20]) 23 (by kernel_rfl) rfl ⟨z0, z1, z2, x0, x1, x2, y0⟩ (fun hHeld => ?_)
    generalize wr.drew = wd at HB9 hHeld ⊢
    clear z0 z1 z2 x0 x1 x2 y0
    repeat (first | refine rP 23 ?_ | refine rT 23 hHeld ?_)
    refine sC 6 Try.func77 #[.agg #[.int .i64 n, .bool b, .slice (some ae) l.length c], .int .i64 (-1), .int .i64 (-1), .int .i64 h, .agg #[.int .i64 X.f0, .int .i64 X.f1, .int .i64 X.f2]] (rmove_walk n b (some ae) c l (-1) (-1) h X.f0 X.f1 X.f2 true HRE.out.symm _ (Kd.C_below HR.out HB9.out.1) HTI.out h0 h1) ?_
    rintro e w5 ⟨rfl, hb⟩
    refine ⟨_, rfl, ⟨pw_cell_below hb hHeld.1, pw_cell_below hb hHeld.2.1, pw_cell_below hb hHeld.2.2.1, pw_cell_below hb hHeld.2.2.2.1, pw_cell_below hb hHeld.2.2.2.2.1, pw_cell_below hb hHeld.2.2.2.2.2.1, pw_cell_below hb hHeld.2.2.2.2.2.2⟩, fun hHeld => ?_⟩
    refine sN ?_
    have HB5 := Lib.hid (And.intro (below_step HB9.out.1 hb) (below_step HB9.out.2 hb))
    clear hb
    repeat (first | refine rP 23 ?_ | refine rT 23 hHeld ?_)
    refine sCL 20 Try.func27 #[.slice Aq q.length cq, .int .i64 Y.f0] (rof_walk q.length Aq cq q Y.f0 _ rfl (Kd.C_below HQ.out HB5.out.1) hlq) ?_
    rintro e w6 ⟨rfl, hb⟩
    refine ⟨_, rfl, ?_⟩
    rw [← HG.out]
    refine sN ?_
    repeat refine rP 23 ?_
    refine done_ (by kernel_rfl) ?_
    have HB6 := Lib.hid (And.intro (below_step HB5.out.1 hb) (below_step HB5.out.2 hb))
    clear hb hHeld
    rcases hg with ⟨g1, HMK⟩ | ⟨g1, HMK⟩
    ·go_wp2
     go_ret2
     exact ⟨HB6.out.1, .inl ⟨140, rfl, rfl, rfl, .inr ⟨rfl, m, HM.out.2, X, HXM.out, HMK.out⟩⟩⟩
    ·go_wp2
     go_roundg (m.length - i)
     case measure => omega
     case rel => exact ⟨i + 1, by omega, by go_num, by omega, Lib.hid ⟨HB6.out.2, fun x hx => by
      rw [mvAt_take hlt, List.mem_append, List.mem_singleton] at hx
      rcases hx with hx | rfl
      ·exact HL.out.2 x hx
      ·rw [← HXE.out]
       exact HMK.out⟩⟩
  ·have e : i = m.length := by omega
   subst e
   go_wp2
   go_ret2
   exact ⟨HB.out, .inr ⟨m, A1, c1, rfl, Kd.R_lower (Kd.R_below HM.out.1 HL.out.1) HS1.out, HM.out.2, fun x hx => HL.out.2 x (by rw [List.take_length]; exact hx), hml⟩⟩
end Go.Proofs.Ytcgdloldkcmhnaa.H
end
section
namespace Go.Proofs.Ytcgdloldkcmhnaa.H
open Go Go.RowKit Go.Proofs.Ytcgdloldkcmhnaa.PrintC Go.Proofs.Ytcgdloldkcmhnaa.PrintE Go.Proofs.YtcgdloldkcmhnaaW.PrintWords Go.Proofs.YtcgdloldkcmhnaaW.PrintLast Go.Proofs.YtcgdloldkcmhnaaW.PrintMore Go.Proofs.Ytcgdloldkcmhnaa.Flow
theorem max2_max (k k' : IntKind) (x y : Int) : Builtin.max2 (.int k x) (.int k' y) = pure (.int k (max x y)) := by
 rw [max2_int]
 have e : (if x < y then y else x) = max x y := by split <;> omega
 rw [e]
attribute [local go_sem] max2_max max_two
set_option linter.unusedVariables false
set_option linter.unusedSimpArgs false
def stockK (l : List Arc) (p : List Grp) (m : List Mv) (v z : Int) : Int := max (gOf v p) 0 + stockV l m v z
def BadP (kb : Bool) (h po cr k z : Int) : Prop := k < 0 ∨ (0 ≤ cr ∧ cr < k) ∨ (0 < k ∧ kb = false) ∨ (z = h ∧ 0 < k ∧ cr < 0 ∧ po < 0)
theorem chk_cases (kb : Bool) (h po cr k z : Int) (hk : 0 ≤ cr → kb = true) :
  (((k < 0 ∧ Hid (BadP kb h po cr k z)) ∨ (¬ k < 0 ∧ 0 ≤ cr ∧ cr < k ∧ Hid (BadP kb h po cr k z)) ∨ (¬ k < 0 ∧ ¬ 0 ≤ cr ∧ 0 < k ∧ kb = false ∧ Hid (BadP kb h po cr k z)) ∨ (¬ k < 0 ∧ ¬ 0 ≤ cr ∧ cr < 0 ∧ 0 < k ∧ kb = true ∧ (z == h) = true ∧ po < 0 ∧ Hid (BadP kb h po cr k z)))) ∨
  (Hid (¬ BadP kb h po cr k z) ∧ ((¬ k < 0 ∧ 0 ≤ cr ∧ ¬ cr < 0 ∧ ¬ cr < k ∧ ¬ 0 < k ∧ (z == h) = false ∧ Hid (¬ z = h)) ∨ (¬ k < 0 ∧ 0 ≤ cr ∧ ¬ cr < 0 ∧ ¬ cr < k ∧ ¬ 0 < k ∧ (z == h) = true ∧ Hid (z = h)) ∨ (¬ k < 0 ∧ 0 ≤ cr ∧ ¬ cr < 0 ∧ ¬ cr < k ∧ 0 < k ∧ kb = true ∧ (z == h) = false ∧ Hid (¬ z = h)) ∨ (¬ k < 0 ∧ 0 ≤ cr ∧ ¬ cr < 0 ∧ ¬ cr < k ∧ 0 < k ∧ kb = true ∧ (z == h) = true ∧ Hid (z = h)) ∨
   (¬ k < 0 ∧ ¬ 0 ≤ cr ∧ cr < 0 ∧ ¬ 0 < k ∧ (z == h) = false ∧ Hid (¬ z = h)) ∨ (¬ k < 0 ∧ ¬ 0 ≤ cr ∧ cr < 0 ∧ ¬ 0 < k ∧ (z == h) = true ∧ Hid (z = h)) ∨ (¬ k < 0 ∧ ¬ 0 ≤ cr ∧ cr < 0 ∧ 0 < k ∧ kb = true ∧ (z == h) = false ∧ Hid (¬ z = h)) ∨ (¬ k < 0 ∧ ¬ 0 ≤ cr ∧ cr < 0 ∧ 0 < k ∧ kb = true ∧ (z == h) = true ∧ ¬ po < 0 ∧ Hid (z = h)))) := by
 have ez : (z == h) = decide (z = h) := by
  by_cases e : z = h
  ·rw [decide_eq_true e]; exact beq_iff_eq.2 e
  ·rw [decide_eq_false e]; exact beq_eq_false_iff_ne.2 e
 rw [ez]
 by_cases a : k < 0
 ·exact .inl (.inl ⟨a, Lib.hid (.inl a)⟩)
 ·by_cases b : 0 ≤ cr
  ·have hkb := hk b
   by_cases c : cr < k
   ·exact .inl (.inr (.inl ⟨a, b, c, Lib.hid (.inr (.inl ⟨b, c⟩))⟩))
   ·refine .inr ⟨Lib.hid (by unfold BadP; rw [hkb]; simp only [Bool.true_eq_false, and_false, false_or]; omega), ?_⟩
    by_cases d : 0 < k
    ·by_cases e : z = h
     ·exact .inr (.inr (.inr (.inl ⟨a, b, by omega, c, d, hkb, decide_eq_true e, Lib.hid e⟩)))
     ·exact .inr (.inr (.inl ⟨a, b, by omega, c, d, hkb, decide_eq_false e, Lib.hid e⟩))
    ·by_cases e : z = h
     ·exact .inr (.inl ⟨a, b, by omega, c, d, decide_eq_true e, Lib.hid e⟩)
     ·exact .inl ⟨a, b, by omega, c, d, decide_eq_false e, Lib.hid e⟩
  ·by_cases d : 0 < k
   ·cases hkb : kb with
    |false => exact .inl (.inr (.inr (.inl ⟨a, b, d, rfl, Lib.hid (.inr (.inr (.inl ⟨d, rfl⟩)))⟩)))
    |true =>
     by_cases e : z = h
     ·by_cases f : po < 0
      ·exact .inl (.inr (.inr (.inr ⟨a, b, by omega, d, rfl, decide_eq_true e, f, Lib.hid (.inr (.inr (.inr ⟨e, d, by omega, f⟩)))⟩)))
      ·exact .inr ⟨Lib.hid (by unfold BadP; simp only [Bool.true_eq_false, and_false, false_or]; omega), .inr (.inr (.inr (.inr (.inr (.inr (.inr ⟨a, b, by omega, d, rfl, decide_eq_true e, f, Lib.hid e⟩))))))⟩
     ·exact .inr ⟨Lib.hid (by unfold BadP; simp only [Bool.true_eq_false, and_false, false_or]; omega), .inr (.inr (.inr (.inr (.inr (.inr (.inl ⟨a, b, by omega, d, rfl, decide_eq_false e, Lib.hid e⟩))))))⟩
   ·refine .inr ⟨Lib.hid (by unfold BadP; omega), ?_⟩
    by_cases e : z = h
    ·exact .inr (.inr (.inr (.inr (.inr (.inl ⟨a, b, by omega, d, decide_eq_true e, Lib.hid e⟩)))))
    ·exact .inr (.inr (.inr (.inr (.inl ⟨a, b, by omega, d, decide_eq_false e, Lib.hid e⟩))))
def BadAt (h : Nat) (b : Bool) (l : List Arc) (p q : List Grp) (m : List Mv) (v z : Nat) : Prop := BadP (keepsOf b p q v) h (gOf v p) (gOf v q) (stockK l p m v z) z
def PlanOk (n h : Nat) (b : Bool) (l : List Arc) (p q : List Grp) (L m : List Mv) : Prop := MgOf L m ∧ (∀ x, x ∈ m → mok l h q x = true) ∧ ∀ v z : Nat, v < n → z ≤ h → ¬ BadAt h b l p q m v z
def amtF (h : Nat) (l : List Arc) (p q : List Grp) (m : List Mv) (v : Nat) : Int := if 0 ≤ gOf v q then stockK l p m v h else 0
def planV (n h : Nat) (l : List Arc) (p q : List Grp) (m : List Mv) : Int := sumN n (amtF h l p q m)
def ChkAt (n h : Nat) (b : Bool) (l : List Arc) (p q : List Grp) (L : List Mv) (w : World) (e : Ending) (w' : World) : Prop := Below w.heap.size w w' ∧
 ((∃ k : Int, (k == 0) = false ∧ (k != 0) = true ∧ e = .returned (.tuple #[.int .i64 0, .int .i64 k]) ∧ (MvBad l h q L k ∨ (k = 141 ∧ ∃ m, MgOf L m ∧ (∀ x, x ∈ m → mok l h q x = true) ∧ ∃ v z : Nat, v < n ∧ z ≤ h ∧ BadAt h b l p q m v z))) ∨
  ∃ m, PlanOk n h b l p q L m ∧ e = .returned (.tuple #[.int .i64 (planV n h l p q m), .int .i64 0]))
theorem gOf_le {v M : Int} (hM : -1 ≤ M) : ∀ {l : List Grp}, (∀ g, g ∈ l → g.f1 ≤ M) → gOf v l ≤ M
 |[], _ => hM
 |g :: l, h => by
  unfold gOf
  split
  ·exact h g (List.mem_cons_self ..)
  ·exact gOf_le hM (fun x hx => h x (List.mem_cons_of_mem _ hx))
theorem mok_in {l : List Arc} {h : Nat} {q : List Grp} {x : Mv} (hh : h ≤ 1024) (hc : ∀ i : Nat, i < l.length → 0 ≤ (arcAt l i).f2 ∧ (arcAt l i).f2 ≤ 1048576) (k : mok l h q x = true) : MvIn l x := by
 unfold mok at k
 have e := of_decide_eq_true (Bool.and_eq_true_iff.1 k).1
 have h2 : x.f2 ≤ 1048576 := by
  have h3 := (hc x.f0.toNat (by omega)).2
  have h4 : arcAt l x.f0.toNat = arcOf l x := by
   unfold arcAt arcOf
   rw [Int.toNat_of_nonneg e.1]
  rw [h4] at h3
  have := e.2.2.2.2.2.2.1
  omega
 exact ⟨e.1, e.2.1, e.2.2.1, by omega, e.2.2.2.2.2.1, by omega⟩
set_option maxHeartbeats 8000000 in
set_option maxRecDepth 100000 in
theorem rplan_at (n h : Nat) (b : Bool) (A : Option Addr) (c : Nat) (l : List Arc) (Ap : Option Addr) (cp : Nat) (p : List Grp) (Aq : Option Addr) (cq : Nat) (q : List Grp) (AL : Option Addr) (cL : Nat) (L : List Mv) (w : World) (a : AskOk n h l p q) (hAS : ∀ W, Below w.heap.size w W → Calls Try.prog 33 #[.agg #[.int .i64 n, .bool b, .slice A l.length c], .slice Ap p.length cp, .slice Aq q.length cq, .int .i64 h] W fun e w' => e = .returned (.int .i64 0) ∧ Below W.heap.size W w') (hr : Kd.C kArc w A l.length l) (hp : Kd.C kGrp w Ap p.length p) (hq : Kd.C kGrp w Aq q.length q) (hL : Kd.C kMv w AL L.length L)
  (hi : ∀ x, x ∈ L → -9223372036854775808 ≤ x.f2 ∧ x.f2 ≤ 9223372036854775807) (hl : L.length ≤ 100000) :
  Calls Try.prog 22 #[.agg #[.int .i64 n, .bool b, .slice A l.length c], .slice Ap p.length cp, .slice Aq q.length cq, .int .i64 h, .slice AL L.length cL] w (ChkAt n h b l p q L w) := by
 have hu := Try.underlying32
 have HAS := Lib.hid hAS
 have HR := Lib.hid hr
 have HP := Lib.hid hp
 have HQ := Lib.hid hq
 have HLL := Lib.hid hL
 have HI := Lib.hid hi
 have HPL := Lib.hid a.place
 have hhb := a.hh
 have hn1 := a.place.net.n1
 have hlp := a.place.lp
 have hlq := a.place.lq
 have HTI : Hid (∀ i : Int, 0 ≤ i → i < l.length → 0 ≤ (rd_T79 l i).f3 ∧ (rd_T79 l i).f3 ≤ 1048576) := Lib.hid (fun i h0 h1 => by
  have h2 := a.place.net.time i.toNat (by omega)
  unfold arcAt at h2
  rw [Int.toNat_of_nonneg h0] at h2
  exact h2)
 have HG0 : Hid ((∀ g, g ∈ p → 0 ≤ g.f1) ∧ (∀ g, g ∈ q → 0 ≤ g.f1)) := Lib.hid ⟨fun g hg => (a.place.gp g hg).2.1, fun g hg => (a.place.gq g hg).2.1⟩
 clear a hAS hr hp hq hL hi
 go_enter Try.func22, Try.ntmps22
 obtain ⟨w1, hw1⟩ : ∃ w1, w1 = w.alloc (.cells #[.int .i64 n, .bool b, .slice A l.length c] 32) := ⟨_, rfl⟩
 have HX : Hid (w1.heap[w.heap.size]? = some (.cells #[.int .i64 n, .bool b, .slice A l.length c] 32 (0, 0)) ∧ Below w.heap.size w w1) := Lib.hid (by rw [hw1]; exact ⟨heap_alloc_new _ _, below_alloc (Below.refl _ _) _⟩)
 go_wp2_with (first
  |(go_at_call 33; rw [← hw1]; go_loud ((with_reducible refine (HAS.out _ ?s1).mono ?_); (case s1 => exact HX.out.2); rintro e w2 ⟨rfl, hb⟩; have HX2 := Lib.hid (And.intro (blk_below HX.out.1 hb) (below_step HX.out.2 hb)); have x0 : w2.cell? ⟨w.heap.size, 0, none⟩ = some (.int .i64 n) := (blk_cell HX2.out.1 0).trans rfl; have x1 : w2.cell? ⟨w.heap.size, 1, none⟩ = some (.bool b) := (blk_cell HX2.out.1 1).trans rfl; have x2 : w2.cell? ⟨w.heap.size, 2, none⟩ = some (.slice A l.length c) := (blk_cell HX2.out.1 2).trans rfl; clear hb))
  |(go_at_call 42; go_loud ((with_reducible refine (rmvs_walk _ b A c l Aq cq q _ AL cL L _ ?s1 ?s2 ?s3 ?s4 ?s5 ?s6 ?s7 ?s8 ?s9).mono ?_); (case s1 => exact Kd.C_below HR.out HX2.out.2); (case s2 => exact Kd.C_below HQ.out HX2.out.2); (case s3 => exact Kd.C_below HLL.out HX2.out.2); (case s4 => omega); (case s5 => exact HTI.out); (case s6 => omega); (case s7 => omega); (case s8 => exact HI.out); (case s9 => exact hl); rintro e w3 ⟨hb, (⟨k9, k0, k1, rfl, hbad⟩ | ⟨m, A1, c1, rfl, hm, hmg, hok, hml⟩)⟩; all_goals (have HX3 := Lib.hid (And.intro (blk_below HX2.out.1 hb) (below_step HX2.out.2 hb)); clear HX HX2 x0 x1 x2))))
 ·have HBAD := Lib.hid hbad
  clear hbad hb
  go_wp2
  go_ret2
  exact ⟨HX3.out.2, .inl ⟨k9, by simpa using k0, by simpa using k1, rfl, .inl HBAD.out⟩⟩
 have HM := Lib.hid (And.intro hmg hok)
 have HMC := Lib.hid (Kd.R_reads' hm).2.2
 have HMI : Hid (∀ x, x ∈ m → MvIn l x) := Lib.hid (fun x hx => mok_in hhb HPL.out.caps (hok x hx))
 have hmb := Nat.le_trans hml hl
 clear hm hmg hok hb
 go_wp2
 go_loopg [15, 16] (n + 1) (fun k sv vv W => ∃ (v : Nat) (S : Int), v ≤ n ∧ sv = .int .i64 S ∧ vv = .int .i64 v ∧ k = n + 1 - v ∧ 0 ≤ S ∧ S ≤ (v : Int) * 1048576 ∧ Hid (S = sumN v (amtF h l p q m) ∧ W.heap[w.heap.size]? = some (.cells #[.int .i64 n, .bool b, .slice A l.length c] 32 (0, 0)) ∧ Below w3.heap.size w3 W ∧ ∀ v' z : Nat, v' < v → z ≤ h → ¬ BadAt h b l p q m v' z))
 case atStart => exact ⟨0, 0, Nat.zero_le _, rfl, rfl, rfl, Int.le_refl _, by omega, Lib.hid ⟨rfl, HX3.out.1, Below.refl _ _, fun v' z hv => absurd hv (Nat.not_lt_zero _)⟩⟩
 case round =>
  obtain ⟨v, S, hv, rfl, rfl, rfl, s0, s1, HL⟩ := hrel
  have HB := Lib.hid (And.intro HL.out.2.1 (And.intro HL.out.2.2.1 (below_step HX3.out.2 HL.out.2.2.1)))
  have x0 : wr.cell? ⟨w.heap.size, 0, none⟩ = some (.int .i64 n) := (blk_cell HB.out.1 0).trans rfl; have x1 : wr.cell? ⟨w.heap.size, 1, none⟩ = some (.bool b) := (blk_cell HB.out.1 1).trans rfl; have x2 : wr.cell? ⟨w.heap.size, 2, none⟩ = some (.slice A l.length c) := (blk_cell HB.out.1 2).trans rfl
  by_cases hlt : v < n
  ·have hlt2 : (v : Int) < (n : Int) := by omega
   obtain ⟨po, hpo⟩ : ∃ po, po = gOf v p := ⟨_, rfl⟩
   obtain ⟨cr, hcr⟩ : ∃ cr, cr = gOf v q := ⟨_, rfl⟩
   obtain ⟨kb, hkb⟩ : ∃ kb, kb = keepsOf b p q v := ⟨_, rfl⟩
   obtain ⟨B, hB⟩ : ∃ B, max po 0 = B := ⟨_, rfl⟩
   have po1 : po ≤ 1048576 := by rw [hpo]; exact gOf_le (by decide) (fun g hg => (HPL.out.gp g hg).2.2)
   have cr1 : cr ≤ 1048576 := by rw [hcr]; exact gOf_le (by decide) (fun g hg => (HPL.out.gq g hg).2.2)
   have b0 : 0 ≤ B := by omega
   have b1 : B ≤ 1048576 := by omega
   have HKC : Hid (0 ≤ cr → kb = true) := Lib.hid (fun h9 => by
    have h8 := gOf_neg (v : Int) HG0.out.2
    rw [hkb]
    unfold keepsOf
    cases h7 : hasK (putGs q) (v : Int) with
    |true => simp
    |false =>
     rw [h7] at h8
     have := h8.2 rfl
     omega)
   have HPO := Lib.hid hpo
   have HCR := Lib.hid hcr
   have HKB := Lib.hid hkb
   have HBE := Lib.hid hB
   clear hpo hcr hkb
   go_wp2_with (first
    |(go_at_call 27; (with_reducible refine (rof_walk p.length Ap cp p _ _ ?s1 ?s2 ?s3).mono ?_); (case s1 => rfl); (case s2 => exact Kd.C_below HP.out HB.out.2.2); (case s3 => omega); rintro e w7 ⟨rfl, hb⟩; rw [← HPO.out]; have HN9 := Lib.hid (And.intro (blk_below HB.out.1 hb) (And.intro (below_step HB.out.2.1 hb) (below_step HB.out.2.2 hb))); clear HB x0 x1 x2 hb; have HB := HN9; clear HN9; have x0 : w7.cell? ⟨w.heap.size, 0, none⟩ = some (.int .i64 n) := (blk_cell HB.out.1 0).trans rfl; have x1 : w7.cell? ⟨w.heap.size, 1, none⟩ = some (.bool b) := (blk_cell HB.out.1 1).trans rfl; have x2 : w7.cell? ⟨w.heap.size, 2, none⟩ = some (.slice A l.length c) := (blk_cell HB.out.1 2).trans rfl)
    |(go_at_call 27; (with_reducible refine (rof_walk q.length Aq cq q _ _ ?s1 ?s2 ?s3).mono ?_); (case s1 => rfl); (case s2 => exact Kd.C_below HQ.out HB.out.2.2); (case s3 => omega); rintro e w8 ⟨rfl, hb⟩; rw [← HCR.out]; have HN9 := Lib.hid (And.intro (blk_below HB.out.1 hb) (And.intro (below_step HB.out.2.1 hb) (below_step HB.out.2.2 hb))); clear HB x0 x1 x2 hb; have HB := HN9; clear HN9; have x0 : w8.cell? ⟨w.heap.size, 0, none⟩ = some (.int .i64 n) := (blk_cell HB.out.1 0).trans rfl; have x1 : w8.cell? ⟨w.heap.size, 1, none⟩ = some (.bool b) := (blk_cell HB.out.1 1).trans rfl; have x2 : w8.cell? ⟨w.heap.size, 2, none⟩ = some (.slice A l.length c) := (blk_cell HB.out.1 2).trans rfl))
   clear hB
   have HL9 := Lib.hid (And.intro HL.out.1 HL.out.2.2.2)
   clear HL
   go_loopg [15, 19] (h + 2) (fun k sv zv W => ∃ (z : Nat) (s : Int), z ≤ h + 1 ∧ sv = .int .i64 s ∧ zv = .int .i64 z ∧ k = h + 2 - z ∧ 0 ≤ s ∧ s ≤ (v : Int) * 1048576 + 1048576 ∧ (z ≤ h → s ≤ (v : Int) * 1048576) ∧ Hid ((z ≤ h → s = S) ∧ (z = h + 1 → s = S + amtF h l p q m v) ∧ W.heap[w.heap.size]? = some (.cells #[.int .i64 n, .bool b, .slice A l.length c] 32 (0, 0)) ∧ Below w3.heap.size w3 W ∧ ∀ z' : Nat, z' < z → ¬ BadAt h b l p q m v z'))
   case atStart => exact ⟨0, S, by omega, rfl, rfl, rfl, s0, by omega, fun _ => s1, Lib.hid ⟨fun _ => rfl, fun h9 => by omega, HB.out.1, HB.out.2.1, fun z' hz => absurd hz (Nat.not_lt_zero _)⟩⟩
   case round =>
    obtain ⟨z, s, hz, rfl, rfl, rfl, t0, t1, t2, HZ⟩ := hrel
    clear HB x0 x1 x2
    have HB := Lib.hid (And.intro HZ.out.2.2.1 (And.intro HZ.out.2.2.2.1 (below_step HX3.out.2 HZ.out.2.2.2.1)))
    have x0 : wr.cell? ⟨w.heap.size, 0, none⟩ = some (.int .i64 n) := (blk_cell HB.out.1 0).trans rfl; have x1 : wr.cell? ⟨w.heap.size, 1, none⟩ = some (.bool b) := (blk_cell HB.out.1 1).trans rfl; have x2 : wr.cell? ⟨w.heap.size, 2, none⟩ = some (.slice A l.length c) := (blk_cell HB.out.1 2).trans rfl
    by_cases hzl : z ≤ h
    ·have hzl2 : (z : Int) ≤ (h : Int) := by omega
     have t3 := t2 hzl
     have t4 : s ≤ 1048576000 := by omega
     obtain ⟨KS, hKS⟩ : ∃ KS, KS = stockV l m v z := ⟨_, rfl⟩
     have hkbd := stock_bd (v := v) (z := z) HMI.out
     rw [← hKS] at hkbd
     obtain ⟨K, hK⟩ : ∃ K, K = B + KS := ⟨_, rfl⟩
     have e5 : IntKind.i64.wrap (B + KS) = K := by rw [IntWalk.i64_in _ (by omega), hK]
     have e6 : IntKind.i64.wrap (s + K) = s + K := IntWalk.i64_in _ (by omega)
     have HK : Hid (stockK l p m v z = K) := Lib.hid (by unfold stockK; rw [← HPO.out, HBE.out, ← hKS, hK])
     have HAM : Hid ((z : Int) = h → amtF h l p q m v = if 0 ≤ cr then K else 0) := Lib.hid (fun h9 => by
      unfold amtF
      rw [← HCR.out, ← h9, HK.out])
     have HKS := Lib.hid hKS
     clear hKS hK hkbd t2
     rcases chk_cases kb h po cr K z HKC.out with hbad | ⟨HNB, hgood⟩
     ·have HBD : Hid (BadP kb h po cr K z) := by
       rcases hbad with ⟨_, h9⟩ | ⟨_, _, _, h9⟩ | ⟨_, _, _, _, h9⟩ | ⟨_, _, _, _, _, _, _, h9⟩ <;> exact h9
      rcases hbad with ⟨g1, -⟩ | ⟨g1, g2, g3, -⟩ | ⟨g1, g2, g3, g4, -⟩ | ⟨g1, g2, g3, g4, g5, g6, g7, -⟩
      all_goals
       as_aux_lemma =>
        go_wp2_with (first
         |(go_at_call 43; go_loud ((with_reducible refine (rstock_walk n b A c l A1 c1 m v z KS HKS.out _ ?s1 ?s2 ?s3 ?s4 ?s5).mono ?_); (case s1 => exact Kd.C_below HR.out HB.out.2.2); (case s2 => exact Kd.C_below HMC.out HB.out.2.1); (case s3 => exact HMI.out); (case s4 => exact HTI.out); (case s5 => omega); rintro e w5 ⟨rfl, hb⟩; have HN9 := Lib.hid (And.intro (blk_below HB.out.1 hb) (And.intro (below_step HB.out.2.1 hb) (below_step HB.out.2.2 hb))); clear HB x0 x1 x2 hb; have HB := HN9; clear HN9; have x0 : w5.cell? ⟨w.heap.size, 0, none⟩ = some (.int .i64 n) := (blk_cell HB.out.1 0).trans rfl; have x1 : w5.cell? ⟨w.heap.size, 1, none⟩ = some (.bool b) := (blk_cell HB.out.1 1).trans rfl; have x2 : w5.cell? ⟨w.heap.size, 2, none⟩ = some (.slice A l.length c) := (blk_cell HB.out.1 2).trans rfl))
         |(go_at_call 44; go_loud ((with_reducible refine (rkeeps_walk n b (.slice A l.length c) Ap cp p Aq cq q v _ ?s1 ?s2 ?s3 ?s4 ?s5 ?s6).mono ?_); (case s1 => exact Kd.C_below HP.out HB.out.2.2); (case s2 => exact Kd.C_below HQ.out HB.out.2.2); (case s3 => omega); (case s4 => omega); (case s5 => exact HG0.out.1); (case s6 => exact HG0.out.2); rintro e w6 ⟨rfl, hb⟩; rw [show (b || (hasK (putGs p) (v : Int) || hasK (putGs q) (v : Int))) = kb from HKB.out.symm]; have HN9 := Lib.hid (And.intro (blk_below HB.out.1 hb) (And.intro (below_step HB.out.2.1 hb) (below_step HB.out.2.2 hb))); clear HB x0 x1 x2 hb; have HB := HN9; clear HN9; have x0 : w6.cell? ⟨w.heap.size, 0, none⟩ = some (.int .i64 n) := (blk_cell HB.out.1 0).trans rfl; have x1 : w6.cell? ⟨w.heap.size, 1, none⟩ = some (.bool b) := (blk_cell HB.out.1 1).trans rfl; have x2 : w6.cell? ⟨w.heap.size, 2, none⟩ = some (.slice A l.length c) := (blk_cell HB.out.1 2).trans rfl))
         |(go_at_call 27; (with_reducible refine (rof_walk p.length Ap cp p _ _ ?s1 ?s2 ?s3).mono ?_); (case s1 => rfl); (case s2 => exact Kd.C_below HP.out HB.out.2.2); (case s3 => omega); rintro e w7 ⟨rfl, hb⟩; rw [← HPO.out]; have HN9 := Lib.hid (And.intro (blk_below HB.out.1 hb) (And.intro (below_step HB.out.2.1 hb) (below_step HB.out.2.2 hb))); clear HB x0 x1 x2 hb; have HB := HN9; clear HN9; have x0 : w7.cell? ⟨w.heap.size, 0, none⟩ = some (.int .i64 n) := (blk_cell HB.out.1 0).trans rfl; have x1 : w7.cell? ⟨w.heap.size, 1, none⟩ = some (.bool b) := (blk_cell HB.out.1 1).trans rfl; have x2 : w7.cell? ⟨w.heap.size, 2, none⟩ = some (.slice A l.length c) := (blk_cell HB.out.1 2).trans rfl))
        go_ret2
        exact ⟨HB.out.2.2, .inl ⟨141, rfl, rfl, rfl, .inr ⟨rfl, m, HM.out.1, HM.out.2, v, z, hlt, hzl, by unfold BadAt; rw [← HKB.out, ← HPO.out, ← HCR.out, HK.out]; exact HBD.out⟩⟩⟩
     ·rcases hgood with ⟨g1, g2, g3, g4, g5, g6, HZH⟩ | ⟨g1, g2, g3, g4, g5, g6, HZH⟩ | ⟨g1, g2, g3, g4, g5, g6, g7, HZH⟩ | ⟨g1, g2, g3, g4, g5, g6, g7, HZH⟩ | ⟨g1, g2, g3, g4, g5, HZH⟩ | ⟨g1, g2, g3, g4, g5, HZH⟩ | ⟨g1, g2, g3, g4, g5, g6, HZH⟩ | ⟨g1, g2, g3, g4, g5, g6, g7, HZH⟩
      all_goals
       as_aux_lemma =>
        go_wp2_with (first
         |(go_at_call 43; go_loud ((with_reducible refine (rstock_walk n b A c l A1 c1 m v z KS HKS.out _ ?s1 ?s2 ?s3 ?s4 ?s5).mono ?_); (case s1 => exact Kd.C_below HR.out HB.out.2.2); (case s2 => exact Kd.C_below HMC.out HB.out.2.1); (case s3 => exact HMI.out); (case s4 => exact HTI.out); (case s5 => omega); rintro e w5 ⟨rfl, hb⟩; have HN9 := Lib.hid (And.intro (blk_below HB.out.1 hb) (And.intro (below_step HB.out.2.1 hb) (below_step HB.out.2.2 hb))); clear HB x0 x1 x2 hb; have HB := HN9; clear HN9; have x0 : w5.cell? ⟨w.heap.size, 0, none⟩ = some (.int .i64 n) := (blk_cell HB.out.1 0).trans rfl; have x1 : w5.cell? ⟨w.heap.size, 1, none⟩ = some (.bool b) := (blk_cell HB.out.1 1).trans rfl; have x2 : w5.cell? ⟨w.heap.size, 2, none⟩ = some (.slice A l.length c) := (blk_cell HB.out.1 2).trans rfl))
         |(go_at_call 44; go_loud ((with_reducible refine (rkeeps_walk n b (.slice A l.length c) Ap cp p Aq cq q v _ ?s1 ?s2 ?s3 ?s4 ?s5 ?s6).mono ?_); (case s1 => exact Kd.C_below HP.out HB.out.2.2); (case s2 => exact Kd.C_below HQ.out HB.out.2.2); (case s3 => omega); (case s4 => omega); (case s5 => exact HG0.out.1); (case s6 => exact HG0.out.2); rintro e w6 ⟨rfl, hb⟩; rw [show (b || (hasK (putGs p) (v : Int) || hasK (putGs q) (v : Int))) = kb from HKB.out.symm]; have HN9 := Lib.hid (And.intro (blk_below HB.out.1 hb) (And.intro (below_step HB.out.2.1 hb) (below_step HB.out.2.2 hb))); clear HB x0 x1 x2 hb; have HB := HN9; clear HN9; have x0 : w6.cell? ⟨w.heap.size, 0, none⟩ = some (.int .i64 n) := (blk_cell HB.out.1 0).trans rfl; have x1 : w6.cell? ⟨w.heap.size, 1, none⟩ = some (.bool b) := (blk_cell HB.out.1 1).trans rfl; have x2 : w6.cell? ⟨w.heap.size, 2, none⟩ = some (.slice A l.length c) := (blk_cell HB.out.1 2).trans rfl))
         |(go_at_call 27; (with_reducible refine (rof_walk p.length Ap cp p _ _ ?s1 ?s2 ?s3).mono ?_); (case s1 => rfl); (case s2 => exact Kd.C_below HP.out HB.out.2.2); (case s3 => omega); rintro e w7 ⟨rfl, hb⟩; rw [← HPO.out]; have HN9 := Lib.hid (And.intro (blk_below HB.out.1 hb) (And.intro (below_step HB.out.2.1 hb) (below_step HB.out.2.2 hb))); clear HB x0 x1 x2 hb; have HB := HN9; clear HN9; have x0 : w7.cell? ⟨w.heap.size, 0, none⟩ = some (.int .i64 n) := (blk_cell HB.out.1 0).trans rfl; have x1 : w7.cell? ⟨w.heap.size, 1, none⟩ = some (.bool b) := (blk_cell HB.out.1 1).trans rfl; have x2 : w7.cell? ⟨w.heap.size, 2, none⟩ = some (.slice A l.length c) := (blk_cell HB.out.1 2).trans rfl))
        go_roundg (h + 1 - z)
        case measure => omega
        case rel =>
         have hzz := HZH.out
         refine ⟨z + 1, _, by omega, rfl, by go_num, by omega, by omega, by omega, fun _ => by omega, Lib.hid ⟨fun h9 => by have h8 := HZ.out.1 hzl; omega, fun h9 => ?_, HB.out.1, HB.out.2.1, fun z' hz' => ?_⟩⟩
         ·have h8 := HZ.out.1 hzl
          have h7 := HAM.out (by omega)
          first
           |(rw [if_pos (by omega)] at h7; omega)
           |(rw [if_neg (by omega)] at h7; omega)
         ·rcases Nat.lt_or_eq_of_le (Nat.le_of_lt_succ hz') with h9 | rfl
          ·exact HZ.out.2.2.2.2 z' h9
          ·unfold BadAt
           rw [← HKB.out, ← HPO.out, ← HCR.out, HK.out]
           exact HNB.out
    ·have hzl2 : ¬ (z : Int) ≤ (h : Int) := by omega
     have ez : z = h + 1 := by omega
     go_wp2
     go_roundg (n - v)
     case measure => omega
     case rel =>
      refine ⟨v + 1, s, by omega, rfl, by go_num, by omega, t0, by omega, Lib.hid ⟨?_, HB.out.1, HB.out.2.1, fun v' z' hv' hz' => ?_⟩⟩
      ·rw [sumN, ← HL9.out.1]
       exact HZ.out.2.1 ez
      ·rcases Nat.lt_or_eq_of_le (Nat.le_of_lt_succ hv') with h9 | rfl
       ·exact HL9.out.2 v' z' h9 hz'
       ·exact HZ.out.2.2.2.2 z' (by omega)
  ·have e : v = n := by omega
   subst e
   go_wp2
   go_ret2
   refine ⟨HB.out.2.2, .inr ⟨m, ⟨HM.out.1, HM.out.2, fun v' z' hv' hz' => HL.out.2.2.2 v' z' hv' hz'⟩, ?_⟩⟩
   unfold planV
   rw [← HL.out.1]
   rfl
end Go.Proofs.Ytcgdloldkcmhnaa.H
end
section
namespace Go.Proofs.Ytcgdloldkcmhnaa.H
open Go Go.RowKit Go.Proofs.Ytcgdloldkcmhnaa.PrintC Go.Proofs.Ytcgdloldkcmhnaa.PrintE Go.Proofs.Ytcgdloldkcmhnaa.Flow
theorem sumL_zero : ∀ (m : List Mv) {f : Mv → Int}, (∀ x, x ∈ m → f x = 0) → sumL (m.map f) = 0
 |[], _, _ => rfl
 |x :: m, f, h => by
  rw [List.map_cons, sumL, h x (List.mem_cons_self ..), sumL_zero m (fun y hy => h y (List.mem_cons_of_mem _ hy))]
  rfl
theorem sumL_le : ∀ (m : List Mv) {f g : Mv → Int}, (∀ x, x ∈ m → f x ≤ g x) → sumL (m.map f) ≤ sumL (m.map g)
 |[], _, _, _ => Int.le_refl _
 |x :: m, f, g, h => by
  have h1 := h x (List.mem_cons_self ..)
  have h2 := sumL_le m (f := f) (g := g) (fun y hy => h y (List.mem_cons_of_mem _ hy))
  rw [List.map_cons, List.map_cons, sumL, sumL]
  omega
theorem sumL_add : ∀ (m : List Mv) (f g : Mv → Int), sumL (m.map (fun x => f x + g x)) = sumL (m.map f) + sumL (m.map g)
 |[], _, _ => rfl
 |x :: m, f, g => by
  rw [List.map_cons, List.map_cons, List.map_cons, sumL, sumL, sumL, sumL_add m f g]
  omega
theorem sumL_congr (m : List Mv) {f g : Mv → Int} (h : ∀ x, x ∈ m → f x = g x) : sumL (m.map f) = sumL (m.map g) := by
 have h1 := sumL_le m (f := f) (g := g) (fun x hx => by rw [h x hx]; exact Int.le_refl _)
 have h2 := sumL_le m (f := g) (g := f) (fun x hx => by rw [h x hx]; exact Int.le_refl _)
 omega
theorem sumN_list (n : Nat) : ∀ (m : List Mv) (g : Nat → Mv → Int), sumN n (fun v => sumL (m.map (g v))) = sumL (m.map (fun x => sumN n (fun v => g v x)))
 |[], g => sumN_zero n (fun _ _ => rfl)
 |x :: m, g => by
  show sumN n (fun v => g v x + sumL (m.map (g v))) = sumN n (fun v => g v x) + sumL (m.map fun x => sumN n (fun v => g v x))
  rw [sumN_add, sumN_list n m g]
def crs (l : List Arc) (H : Int → Int → Bool) (w z : Int) (x : Mv) : Int := (if H (arcOf l x).f1 w = true then 0 else if x.f1 + (arcOf l x).f3 ≤ z then x.f2 else 0) - (if H (arcOf l x).f0 w = true then 0 else if x.f1 ≤ z then x.f2 else 0)
theorem st_one {n : Nat} {l : List Arc} {H : Int → Int → Bool} {w z : Int} {x : Mv} (h0 : 0 ≤ (arcOf l x).f0 ∧ (arcOf l x).f0 < n) (h1 : 0 ≤ (arcOf l x).f1 ∧ (arcOf l x).f1 < n) : sumN n (fun v => if H v w = true then 0 else stock1 l v z x) = crs l H w z x := by
 have e1 := sumN_one n (arcOf l x).f1 (fun v => !H v w) (if x.f1 + (arcOf l x).f3 ≤ z then x.f2 else 0) h1.1 h1.2
 have e2 := sumN_one n (arcOf l x).f0 (fun v => !H v w) (if x.f1 ≤ z then x.f2 else 0) h0.1 h0.2
 have e3 : sumN n (fun v => if H v w = true then 0 else stock1 l v z x) = sumN n (fun v => if (!H (v : Int) w) = true then (if (arcOf l x).f1 = (v : Int) then (if x.f1 + (arcOf l x).f3 ≤ z then x.f2 else 0) else 0) else 0) - sumN n (fun v => if (!H (v : Int) w) = true then (if (arcOf l x).f0 = (v : Int) then (if x.f1 ≤ z then x.f2 else 0) else 0) else 0) := by
  rw [← sumN_sub]
  refine sumN_congr n (fun v _ => ?_)
  unfold stock1
  cases H (v : Int) w with
  |true => simp
  |false =>
   simp only [Bool.not_false, if_true, Bool.false_eq_true, if_false]
   by_cases c1 : (arcOf l x).f1 = (v : Int) <;> by_cases c2 : (arcOf l x).f0 = (v : Int) <;> simp [c1, c2]
 rw [e3, e1, e2]
 unfold crs
 cases H (arcOf l x).f1 w <;> cases H (arcOf l x).f0 w <;> simp
def EndsIn (n : Nat) (l : List Arc) (m : List Mv) : Prop := ∀ x, x ∈ m → (0 ≤ (arcOf l x).f0 ∧ (arcOf l x).f0 < n) ∧ (0 ≤ (arcOf l x).f1 ∧ (arcOf l x).f1 < n)
theorem st_all {n : Nat} {l : List Arc} {m : List Mv} {H : Int → Int → Bool} {w z : Int} (he : EndsIn n l m) : sumN n (fun v => if H v w = true then 0 else stockV l m v z) = sumL (m.map (crs l H w z)) := by
 have e : sumN n (fun v => if H v w = true then 0 else stockV l m v z) = sumN n (fun v => sumL (m.map (fun x => if H v w = true then 0 else stock1 l v z x))) := sumN_congr n (fun v _ => by
  cases H (v : Int) w with
  |true => simp only [if_true]; exact (sumL_zero m (fun _ _ => rfl)).symm
  |false => simp only [Bool.false_eq_true, if_false]; rfl)
 rw [e, sumN_list]
 exact sumL_congr m (fun x hx => st_one (he x hx).1 (he x hx).2)
section
variable {n h : Nat} {b : Bool} {l : List Arc} {p q : List Grp} {m : List Mv} {H : Int → Int → Bool}
def sideK (n : Nat) (l : List Arc) (p : List Grp) (m : List Mv) (H : Int → Int → Bool) (w z : Int) : Int := sumN n (fun v => if H v w = true then 0 else stockK l p m v z)
theorem sideK_eq (he : EndsIn n l m) (w z : Int) : sideK n l p m H w z = sumN n (fun v => if H v w = true then 0 else max (gOf v p) 0) + sumL (m.map (crs l H w z)) := by
 unfold sideK
 rw [← st_all he, ← sumN_add]
 refine sumN_congr n (fun v _ => ?_)
 cases H (v : Int) w with
 |true => simp
 |false => simp only [Bool.false_eq_true, if_false]; rfl
def edge (l : List Arc) (H : Int → Int → Bool) (z : Int) (x : Mv) : Int := (if x.f1 + (arcOf l x).f3 ≤ z ∧ H (arcOf l x).f1 (x.f1 + (arcOf l x).f3) = false then x.f2 else 0) - (if x.f1 ≤ z ∧ H (arcOf l x).f0 x.f1 = false then x.f2 else 0)
theorem edge_zero {x : Mv} (t0 : 0 ≤ x.f1) (t1 : 0 ≤ (arcOf l x).f3) : crs l H 0 0 x = edge l H 0 x := by
 unfold crs edge
 have e1 : (if H (arcOf l x).f1 0 = true then 0 else if x.f1 + (arcOf l x).f3 ≤ 0 then x.f2 else 0) = (if x.f1 + (arcOf l x).f3 ≤ 0 ∧ H (arcOf l x).f1 (x.f1 + (arcOf l x).f3) = false then x.f2 else 0) := by
  by_cases c : x.f1 + (arcOf l x).f3 ≤ 0
  ·rw [show x.f1 + (arcOf l x).f3 = 0 by omega]
   cases H (arcOf l x).f1 0 <;> simp
  ·simp [c]
 have e2 : (if H (arcOf l x).f0 0 = true then 0 else if x.f1 ≤ 0 then x.f2 else 0) = (if x.f1 ≤ 0 ∧ H (arcOf l x).f0 x.f1 = false then x.f2 else 0) := by
  by_cases c : x.f1 ≤ 0
  ·rw [show x.f1 = 0 by omega]
   cases H (arcOf l x).f0 0 <;> simp
  ·simp [c]
 rw [e1, e2]
theorem edge1 (H : Int → Int → Bool) (v k N z : Int) : (if H v (z + 1) = true then 0 else if k ≤ z + 1 then N else 0) + (if k ≤ z ∧ H v k = false then N else 0) = (if k ≤ z + 1 ∧ H v k = false then N else 0) + (if H v (z + 1) = true then 0 else if k ≤ z then N else 0) := by
 by_cases c1 : k ≤ z
 ·have c2 : k ≤ z + 1 := by omega
  simp only [c1, c2, true_and, if_true]
  omega
 ·by_cases c2 : k = z + 1
  ·subst c2
   have c3 : z + 1 ≤ z + 1 := Int.le_refl _
   simp only [c1, c3, true_and, false_and, if_true, if_false]
   cases H v (z + 1) <;> simp
  ·have c3 : ¬ k ≤ z + 1 := by omega
   simp only [c1, c3, false_and, if_false]
   rw [Int.add_zero, Int.zero_add]
theorem edge_step {x : Mv} (z : Int) : crs l H (z + 1) (z + 1) x + edge l H z x = edge l H (z + 1) x + crs l H (z + 1) z x := by
 have h1 := edge1 H (arcOf l x).f1 (x.f1 + (arcOf l x).f3) x.f2 z
 have h2 := edge1 H (arcOf l x).f0 x.f1 x.f2 z
 unfold crs edge
 omega
theorem sideK_le (he : EndsIn n l m) (hm : ∀ x, x ∈ m → 0 ≤ x.f1 ∧ 0 ≤ (arcOf l x).f3) (h0 : ∀ v z : Nat, v < n → z ≤ h → 0 ≤ stockK l p m v z)
  (h1 : ∀ v z : Nat, v < n → z < h → H v z = true → H v ((z : Int) + 1) = false → stockK l p m v z = 0) : ∀ z : Nat, z ≤ h → sideK n l p m H z z ≤ sumN n (fun v => if H v 0 = true then 0 else max (gOf v p) 0) + sumL (m.map (edge l H z))
 |0, _ => by
  have e := sideK_eq (p := p) (H := H) he 0 0
  rw [sumL_congr m (fun x hx => edge_zero (H := H) (hm x hx).1 (hm x hx).2)] at e
  exact Int.le_of_eq e
 |z + 1, hz => by
  have ih := sideK_le he hm h0 h1 z (by omega)
  have e1 := sideK_eq (p := p) (H := H) he ((z : Int) + 1) ((z : Int) + 1)
  have e2 := sideK_eq (p := p) (H := H) he ((z : Int) + 1) z
  have e3 : sideK n l p m H ((z : Int) + 1) z ≤ sideK n l p m H z z := sumN_le n (fun v hv => by
   have k0 := h0 v z hv (by omega)
   cases c1 : H (v : Int) ((z : Int) + 1) with
   |true => cases c2 : H (v : Int) z <;> simp only [if_true, Bool.false_eq_true, if_false] <;> omega
   |false =>
    cases c2 : H (v : Int) z with
    |true =>
     have := h1 v z hv (by omega) c2 c1
     simp only [if_true, Bool.false_eq_true, if_false]
     omega
    |false => exact Int.le_refl _)
  have e4 : sumL (m.map (crs l H ((z : Int) + 1) ((z : Int) + 1))) + sumL (m.map (edge l H z)) = sumL (m.map (edge l H ((z : Int) + 1))) + sumL (m.map (crs l H ((z : Int) + 1) z)) := by
   rw [← sumL_add, ← sumL_add]
   exact sumL_congr m (fun x _ => edge_step z)
  show sideK n l p m H ((z : Int) + 1) ((z : Int) + 1) ≤ _ + sumL (m.map (edge l H ((z : Int) + 1)))
  omega
end
theorem sum_keys (len : Nat) (W : Nat → Nat) : ∀ (ks : List (Nat × Nat)) (c : Nat → Nat → Int), (∀ j z, 0 ≤ c j z) → ks.Pairwise (fun a b => a ≠ b) → (∀ k, k ∈ ks → k.1 < len ∧ k.2 < W k.1) → (ks.map (fun k => c k.1 k.2)).foldr (· + ·) 0 ≤ sumN len (fun j => sumN (W j) (c j))
 |[], c, h0, _, _ => sumN_nonneg len (fun j _ => sumN_nonneg (W j) (fun z _ => h0 j z))
 |k :: ks, c, h0, hp, hk => by
  obtain ⟨p1, p2⟩ := List.pairwise_cons.1 hp
  obtain ⟨k1, k2⟩ := hk k (List.mem_cons_self ..)
  have ih := sum_keys len W ks (fun j z => if j = k.1 ∧ z = k.2 then 0 else c j z) (fun j z => by
   show 0 ≤ if j = k.1 ∧ z = k.2 then 0 else c j z
   split
   ·exact Int.le_refl _
   ·exact h0 j z) p2 (fun y hy => hk y (List.mem_cons_of_mem _ hy))
  have e1 : (ks.map (fun y => if y.1 = k.1 ∧ y.2 = k.2 then 0 else c y.1 y.2)) = ks.map (fun y => c y.1 y.2) := List.map_congr_left (fun y hy => by
   rw [if_neg (fun e => p1 y hy (Prod.ext e.1.symm e.2.symm))])
  have e2 : ∀ j, sumN (W j) (fun z => if j = k.1 ∧ z = k.2 then 0 else c j z) = if j = k.1 then sumN (W j) (c j) + (0 - c k.1 k.2) else sumN (W j) (c j) := fun j => by
   by_cases e : j = k.1
   ·subst e
    rw [if_pos rfl, ← sumN_set (c k.1) k.2 0 (W k.1) k2]
    exact sumN_congr _ (fun z _ => by simp)
   ·rw [if_neg e]
    exact sumN_congr _ (fun z _ => by simp [e])
  have e3 : sumN len (fun j => sumN (W j) (fun z => if j = k.1 ∧ z = k.2 then 0 else c j z)) = sumN len (fun j => sumN (W j) (c j)) - c k.1 k.2 := by
   have e4 := sumN_set (fun j => sumN (W j) (c j)) k.1 (sumN (W k.1) (c k.1) + (0 - c k.1 k.2)) len k1
   rw [sumN_congr len (fun j _ => e2 j)]
   have e5 : sumN len (fun j => if j = k.1 then sumN (W j) (c j) + (0 - c k.1 k.2) else sumN (W j) (c j)) = sumN len (fun j => if j = k.1 then sumN (W k.1) (c k.1) + (0 - c k.1 k.2) else sumN (W j) (c j)) := sumN_congr len (fun j _ => by
    by_cases e : j = k.1
    ·rw [if_pos e, if_pos e, e]
    ·rw [if_neg e, if_neg e])
   rw [e5, e4]
   omega
  rw [e1, e3] at ih
  rw [List.map_cons, List.foldr_cons]
  omega
theorem foldr_sumL : ∀ l : List Int, l.foldr (· + ·) 0 = sumL l
 |[] => rfl
 |x :: l => by rw [List.foldr_cons, foldr_sumL l, sumL]
theorem gOf_sum {n : Nat} (P : Int → Bool) : ∀ (l : List Grp), GrpsIn n l → sumN n (fun v => if P v = true then max (gOf v l) 0 else 0) ≤ gS (fun g => P g.f0) l
 |[], _ => by
  rw [sumN_zero n (fun v _ => by
   show (if P (v : Int) = true then max (-1 : Int) 0 else 0) = 0
   split <;> rfl)]
  exact Int.le_refl _
 |g :: l, h => by
  have ih := gOf_sum P l (fun x hx => h x (List.mem_cons_of_mem _ hx))
  have hg := h g (List.mem_cons_self ..)
  have e1 := sumN_one n g.f0 P g.f1 hg.1.1 hg.1.2
  have e2 : sumN n (fun v => if P (v : Int) = true then max (gOf v (g :: l)) 0 else 0) ≤ sumN n (fun v => (if P (v : Int) = true then (if g.f0 = (v : Int) then g.f1 else 0) else 0) + (if P (v : Int) = true then max (gOf v l) 0 else 0)) := sumN_le n (fun v _ => by
   rw [show gOf (v : Int) (g :: l) = if g.f0 = (v : Int) then g.f1 else gOf (v : Int) l from rfl]
   cases P (v : Int) with
   |false => simp
   |true =>
    simp only [if_true]
    by_cases e : g.f0 = (v : Int)
    ·rw [if_pos e, if_pos e]
     have := hg.2.1
     show max g.f1 0 ≤ g.f1 + max (gOf (v : Int) l) 0
     omega
    ·rw [if_neg e, if_neg e]
     show max (gOf (v : Int) l) 0 ≤ 0 + max (gOf (v : Int) l) 0
     omega)
  rw [sumN_add, e1] at e2
  rw [gS]
  omega
theorem plan_le {n h : Nat} {b : Bool} {l : List Arc} {p q : List Grp} {L m : List Mv} {H : Int → Int → Bool} (a : AskOk n h l p q) (hP : PlanOk n h b l p q L m) (hr : ∀ v : Nat, v < n → keepsOf b p q v = true → ∀ z : Nat, z < h → H v z = true → H v ((z : Int) + 1) = true) : planV n h l p q m ≤ capV h l p q H := by
 obtain ⟨hmg, hok, hbad⟩ := hP
 have hpl := a.place
 have hat : ∀ x, x ∈ m → ∃ j : Nat, j < l.length ∧ x.f0 = (j : Int) ∧ arcOf l x = arcAt l j := fun x hx => by
  have hi := mok_in a.hh hpl.caps (hok x hx)
  obtain ⟨j, hj⟩ := Int.eq_ofNat_of_zero_le hi.a0
  refine ⟨j, by have := hi.a1; omega, hj, ?_⟩
  unfold arcOf arcAt
  rw [hj]
 have hen : EndsIn n l m := fun x hx => by
  obtain ⟨j, h1, _, h3⟩ := hat x hx
  rw [h3]
  exact hpl.net.ends j h1
 have hmo : ∀ x, x ∈ m → moveOk l h (-1) (-1) x = true ∧ gOf (arcOf l x).f0 q < 0 := fun x hx => by
  have := hok x hx
  unfold mok at this
  rw [Bool.and_eq_true] at this
  exact ⟨this.1, of_decide_eq_true this.2⟩
 have hm2 : ∀ x, x ∈ m → 0 ≤ x.f1 ∧ 0 ≤ (arcOf l x).f3 := fun x hx => by
  obtain ⟨j, h1, _, h3⟩ := hat x hx
  rw [h3]
  exact ⟨(mok_in a.hh hpl.caps (hok x hx)).t0, (hpl.net.time j h1).1⟩
 have hK0 : ∀ v z : Nat, v < n → z ≤ h → 0 ≤ stockK l p m v z := fun v z hv hz => by
  have := hbad v z hv hz
  unfold BadAt BadP at this
  omega
 have hK1 : ∀ v z : Nat, v < n → z < h → H v z = true → H v ((z : Int) + 1) = false → stockK l p m v z = 0 := fun v z hv hz c1 c2 => by
  have h3 := hbad v z hv (by omega)
  have h4 : keepsOf b p q v = false := by
   cases e : keepsOf b p q v with
   |false => rfl
   |true => rw [hr v hv e z hz c1] at c2; cases c2
  unfold BadAt BadP at h3
  rw [h4] at h3
  have h5 : ¬ (0 < stockK l p m v z) := fun e => h3 (.inr (.inr (.inl ⟨e, rfl⟩)))
  have h6 := hK0 v z hv (by omega)
  omega
 have hS := sideK_le (n := n) (h := h) (p := p) (H := H) hen hm2 hK0 hK1 h (Nat.le_refl _)
 have hR : planV n h l p q m ≤ sumN n (fun v => if H v h = true then max (gOf v q) 0 else 0) + sideK n l p m H h h := by
  unfold planV sideK
  rw [← sumN_add]
  refine sumN_le n (fun v hv => ?_)
  have h3 := hbad v h hv (Nat.le_refl _)
  have h6 := hK0 v h hv (Nat.le_refl _)
  unfold BadAt BadP at h3
  unfold amtF
  cases H (v : Int) h with
  |true =>
   simp only [if_true]
   by_cases e : 0 ≤ gOf (v : Int) q
   ·rw [if_pos e]; omega
   ·rw [if_neg e]; omega
  |false =>
   simp only [Bool.false_eq_true, if_false]
   by_cases e : 0 ≤ gOf (v : Int) q
   ·rw [if_pos e]; omega
   ·rw [if_neg e]; omega
 have hq := gOf_sum (n := n) (fun v => H v h) q hpl.gq
 have hp : sumN n (fun v => if H v 0 = true then 0 else max (gOf v p) 0) ≤ gS (fun g => !H g.f0 0) p := by
  have := gOf_sum (n := n) (fun v => !H v 0) p hpl.gp
  refine Int.le_trans (Int.le_of_eq (sumN_congr n (fun v _ => ?_))) this
  cases H (v : Int) 0 <;> rfl
 have hM : sumL (m.map (edge l H h)) ≤ takesV (useOf q) H h l := by
  have hks := sum_keys l.length (fun j => if useOf q (arcAt l j) = true then ((h : Int) + 1 - (arcAt l j).f3).toNat else 0) (m.map (fun x => (x.f0.toNat, x.f1.toNat))) (fun j z => if j < l.length then tk1 H (arcAt l j) z else 0) (fun j z => by
   show 0 ≤ if j < l.length then tk1 H (arcAt l j) z else 0
   split
   ·have := (hpl.caps j (by assumption)).1
    unfold tk1
    split <;> omega
   ·exact Int.le_refl _) (by
   rw [List.pairwise_map]
   refine List.Pairwise.imp_of_mem ?_ hmg.srt
   intro x y hx hy hlt e
   have hx1 := mok_in a.hh hpl.caps (hok x hx)
   have hy1 := mok_in a.hh hpl.caps (hok y hy)
   injection e with e1 e2
   have := hx1.a0
   have := hy1.a0
   have := hx1.t0
   have := hy1.t0
   unfold mlt at hlt
   omega) (fun k hk => by
   obtain ⟨x, hx, rfl⟩ := List.mem_map.1 hk
   obtain ⟨j, h1, h2, h3⟩ := hat x hx
   obtain ⟨h4, h5⟩ := hmo x hx
   have h6 := of_decide_eq_true h4
   have h7 : useOf q (arcAt l j) = true := by
    rw [← h3]
    unfold useOf
    have := gOf_neg (arcOf l x).f0 (fun g hg => (hpl.gq g hg).2.1)
    rw [this.1 h5]
    rfl
   have h8 : x.f0.toNat = j := by omega
   refine ⟨by show x.f0.toNat < l.length; omega, ?_⟩
   show x.f1.toNat < if useOf q (arcAt l x.f0.toNat) = true then ((h : Int) + 1 - (arcAt l x.f0.toNat).f3).toNat else 0
   rw [h8, if_pos h7, ← h3]
   have := h6.2.2.1
   have := h6.2.2.2.2.1
   omega)
  rw [foldr_sumL, List.map_map] at hks
  refine Int.le_trans (sumL_le m (fun x hx => ?_)) (Int.le_trans hks (Int.le_of_eq ?_))
  ·obtain ⟨j, h1, h2, h3⟩ := hat x hx
   obtain ⟨h4, _⟩ := hmo x hx
   have h6 := of_decide_eq_true h4
   have h8 : x.f0.toNat = j := by omega
   have h9 : ((x.f1.toNat : Nat) : Int) = x.f1 := Int.toNat_of_nonneg h6.2.2.1
   have k1 := h6.2.2.2.2.1
   have k2 := h6.2.2.2.2.2.1
   have k3 := h6.2.2.2.2.2.2.1
   have k4 := h6.2.2.2.1
   show edge l H h x ≤ if x.f0.toNat < l.length then tk1 H (arcAt l x.f0.toNat) x.f1.toNat else 0
   rw [h8, if_pos h1, ← h3]
   unfold edge tk1
   rw [h9]
   have d1 : x.f1 + (arcOf l x).f3 ≤ (h : Int) := k1
   have d2 : x.f1 ≤ (h : Int) := k4
   simp only [d1, d2, true_and]
   cases H (arcOf l x).f0 x.f1 <;> cases H (arcOf l x).f1 (x.f1 + (arcOf l x).f3) <;> simp <;> omega
  ·unfold takesV
   refine sumN_congr l.length (fun j hj => ?_)
   unfold tkA
   cases useOf q (arcAt l j) with
   |false => rfl
   |true =>
    simp only [if_true]
    exact sumN_congr _ (fun z _ => if_pos hj)
 unfold capV
 omega
end Go.Proofs.Ytcgdloldkcmhnaa.H
end
