/- Texts of this proof, joined; what the statement doesn't need is left out. -/
import Derived.Test.YtdfagllncopmjaaGreatU4
section
namespace Go.Proofs.YtdfagllncopmjaaGreat.H
open Go Go.RowKit Go.Proofs.YtdfagllncopmjaaGreat.PrintC Go.Proofs.YtdfagllncopmjaaGreat.PrintE Go.Proofs.YtdfagllncopmjaaGreatW.PrintWords Go.Proofs.YtdfagllncopmjaaGreatW.PrintLast Go.Proofs.YtdfagllncopmjaaGreatW.PrintMore Go.Proofs.YtdfagllncopmjaaGreat.Flow
set_option linter.unusedVariables false
set_option linter.unusedSimpArgs false
def VAt (r : Int) (w : World) (e : Ending) (w' : World) : Prop := e = .returned (.int .i64 r) ∧ Below w.heap.size w w'
theorem eight (d1 d2 d3 d4 d5 d6 d7 d8 : Bool) : (d1 = true) ∨ (d1 = false ∧ d2 = true) ∨ (d1 = false ∧ d2 = false ∧ d3 = true) ∨ (d1 = false ∧ d2 = false ∧ d3 = false ∧ d4 = true) ∨ (d1 = false ∧ d2 = false ∧ d3 = false ∧ d4 = false ∧ d5 = true) ∨ (d1 = false ∧ d2 = false ∧ d3 = false ∧ d4 = false ∧ d5 = false ∧ d6 = true) ∨ (d1 = false ∧ d2 = false ∧ d3 = false ∧ d4 = false ∧ d5 = false ∧ d6 = false ∧ d7 = true) ∨ (d1 = false ∧ d2 = false ∧ d3 = false ∧ d4 = false ∧ d5 = false ∧ d6 = false ∧ d7 = false ∧ d8 = true) ∨ (d1 = false ∧ d2 = false ∧ d3 = false ∧ d4 = false ∧ d5 = false ∧ d6 = false ∧ d7 = false ∧ d8 = false) := by
 cases d1 <;> cases d2 <;> cases d3 <;> cases d4 <;> cases d5 <;> cases d6 <;> cases d7 <;> cases d8 <;> decide
def spanV (h : Int) : Int := if h < 0 then 1 else if h > 1024 then 2 else 0
theorem vspan_walk (h : Int) (w : World) : Calls Tryz.prog 50 #[.int .i64 h] w (VAt (spanV h) w) := by
 unfold spanV
 by_cases d1 : h < 0
 ·rw [if_pos d1]
  go_enter Tryz.func50, Tryz.ntmps50
  go_wp2
  go_ret
  exact ⟨rfl, Below.refl _ _⟩
 ·rw [if_neg d1]
  by_cases d2 : 1024 < h
  ·rw [if_pos d2]
   go_enter Tryz.func50, Tryz.ntmps50
   go_wp2
   go_ret
   exact ⟨rfl, Below.refl _ _⟩
  ·rw [if_neg d2]
   have d3 : h ≤ 1024 := by omega
   go_enter Tryz.func50, Tryz.ntmps50
   go_wp2
   go_ret
   exact ⟨rfl, Below.refl _ _⟩
set_option maxRecDepth 100000 in
set_option maxHeartbeats 8000000 in
theorem varc_walk (n : Int) (x : Arc) (w : World) : Calls Tryz.prog 78 #[.int .i64 n, .agg #[.int .i64 x.f0, .int .i64 x.f1, .int .i64 x.f2, .int .i64 x.f3]] w (VAt (arcV n x.f0 x.f1 x.f2 x.f3) w) := by
 have hu2 := Tryz.underlying57
 obtain ⟨r, hr⟩ : ∃ r, r = arcV n x.f0 x.f1 x.f2 x.f3 := ⟨_, rfl⟩
 rw [← hr]
 obtain ⟨d1, e1⟩ : ∃ d1, decide (x.f0 < 0) = d1 := ⟨_, rfl⟩
 obtain ⟨d2, e2⟩ : ∃ d2, decide (n ≤ x.f0) = d2 := ⟨_, rfl⟩
 obtain ⟨d3, e3⟩ : ∃ d3, decide (x.f1 < 0) = d3 := ⟨_, rfl⟩
 obtain ⟨d4, e4⟩ : ∃ d4, decide (n ≤ x.f1) = d4 := ⟨_, rfl⟩
 obtain ⟨d5, e5⟩ : ∃ d5, decide (x.f2 < 0) = d5 := ⟨_, rfl⟩
 obtain ⟨d6, e6⟩ : ∃ d6, decide (x.f3 < 0) = d6 := ⟨_, rfl⟩
 obtain ⟨d7, e7⟩ : ∃ d7, decide (1048576 < x.f2) = d7 := ⟨_, rfl⟩
 obtain ⟨d8, e8⟩ : ∃ d8, decide (1048576 < x.f3) = d8 := ⟨_, rfl⟩
 have HG : Hid (r = if (d1 || d2 || d3 || d4 || d5 || d6) = true then 51 else if d7 = true then 2 else if d8 = true then 2 else 0) := zh (by
  rw [hr]
  unfold arcV
  subst e1 e2 e3 e4 e5 e6 e7 e8
  simp only [Bool.or_eq_true, decide_eq_true_eq, or_assoc, ge_iff_le, gt_iff_lt])
 clear hr
 go_enter Tryz.func78, Tryz.ntmps78
 rcases eight d1 d2 d3 d4 d5 d6 d7 d8 with rfl | ⟨rfl, rfl⟩ | ⟨rfl, rfl, rfl⟩ | ⟨rfl, rfl, rfl, rfl⟩ | ⟨rfl, rfl, rfl, rfl, rfl⟩ | ⟨rfl, rfl, rfl, rfl, rfl, rfl⟩ | ⟨rfl, rfl, rfl, rfl, rfl, rfl, rfl⟩ | ⟨rfl, rfl, rfl, rfl, rfl, rfl, rfl, rfl⟩ | ⟨rfl, rfl, rfl, rfl, rfl, rfl, rfl, rfl⟩
 all_goals
  go_wp2
  go_ret
  exact ⟨by rw [HG.out]; first | rfl | (simp; rfl) | simp, below_alloc (Below.refl _ _) _⟩
set_option maxRecDepth 100000 in
set_option maxHeartbeats 4000000 in
theorem vcheck_walk (n : Int) (b : Bool) (A : Option Addr) (c : Nat) (l : List Arc) (w : World) (hr : Kd.C kArc w A l.length l) :
  Calls Tryz.prog 51 #[.agg #[.int .i64 n, .bool b, .slice A l.length c]] w (VAt (netV n l) w) := by
 have hu := Tryz.underlying27
 have hu2 := Tryz.underlying57
 have HR := zh hr
 clear hr
 unfold netV
 obtain ⟨w1, hw1⟩ : ∃ w1, w1 = w.alloc (.cells #[.int .i64 n, .bool b, .slice A l.length c] 27) := ⟨_, rfl⟩
 have HX : Hid (w1.heap[w.heap.size]? = some (.cells #[.int .i64 n, .bool b, .slice A l.length c] 27 (0, 0)) ∧ Below w.heap.size w w1) := zh (by rw [hw1]; exact ⟨heap_alloc_new _ _, below_alloc (Below.refl _ _) _⟩)
 by_cases d1 : n < 1
 ·rw [if_pos d1]
  go_enter Tryz.func51, Tryz.ntmps51
  go_wp2
  rw [← hw1]
  go_ret
  exact ⟨rfl, HX.out.2⟩
 rw [if_neg d1]
 by_cases d2 : 50 < n
 ·rw [if_pos d2]
  go_enter Tryz.func51, Tryz.ntmps51
  go_wp2
  rw [← hw1]
  go_ret
  exact ⟨rfl, HX.out.2⟩
 rw [if_neg d2]
 by_cases d3 : 200 < (l.length : Int)
 ·rw [if_pos d3]
  go_enter Tryz.func51, Tryz.ntmps51
  go_wp2
  rw [← hw1]
  go_ret
  exact ⟨rfl, HX.out.2⟩
 rw [if_neg d3]
 have hll : l.length ≤ 200 := by omega
 go_enter Tryz.func51, Tryz.ntmps51
 go_wp2
 rw [← hw1]
 clear hw1
 go_loopg [4] (l.length + 1) (fun k iv W => ∃ i : Nat, i ≤ l.length ∧ iv = .int .i64 i ∧ k = l.length + 1 - i ∧ Hid (W.heap[w.heap.size]? = some (.cells #[.int .i64 n, .bool b, .slice A l.length c] 27 (0, 0)) ∧ Below w.heap.size w W ∧ arcsV n l = arcsV n (l.drop i)))
 case atStart => exact ⟨0, Nat.zero_le _, rfl, rfl, zh ⟨HX.out.1, HX.out.2, by rw [List.drop_zero]⟩⟩
 case round =>
  obtain ⟨i, hi, rfl, rfl, HL⟩ := hrel
  clear HX
  have q2 : wr.cell? ⟨w.heap.size, 2, none⟩ = some (.slice A l.length c) := (blk_cell HL.out.1 2).trans rfl
  by_cases d4 : i < l.length
  ·have i0 : (0 : Int) ≤ (i : Int) := by omega
   have i1 : (i : Int) < (l.length : Int) := by omega
   go_wp2
   clear q2
   obtain ⟨ad, ea, y0, y1, y2, y3⟩ := at_T57 (Kd.C_drew (Kd.C_below HR.out HL.out.2.1)) (i : Int) i0 i1
   subst ea
   rw [Int.toNat_natCast] at y0 y1 y2 y3
   obtain ⟨x, hx⟩ : ∃ x, x = arcAt l i := ⟨_, rfl⟩
   have hx2 : rd_T57 l (i : Int) = x := by rw [hx]; rfl
   rw [hx2] at y0 y1 y2 y3
   have HDR := zh (drop_rd (l := l) (i := i) d4)
   rw [hx2] at HDR
   have HV := zh HL.out.2.2
   obtain ⟨v, hv⟩ : ∃ v, v = arcV n x.f0 x.f1 x.f2 x.f3 := ⟨_, rfl⟩
   have HVV := zh hv
   clear hx hx2 hv
   have x0 : wr.drew.cell? ⟨w.heap.size, 0, none⟩ = some (.int .i64 n) := (blk_cell (blk_drew HL.out.1) 0).trans rfl
   have x2 : wr.drew.cell? ⟨w.heap.size, 2, none⟩ = some (.slice (some ad) l.length c) := (blk_cell (blk_drew HL.out.1) 2).trans rfl
   have HX1 := zh (And.intro (blk_drew HL.out.1) (below_drew1 HL.out.2.1))
   refine stepS (S := fun w' => w'.cell? ⟨w.heap.size, 0, none⟩ = some (.int .i64 n) ∧ w'.cell? ⟨w.heap.size, 2, none⟩ = some (.slice (some ad) l.length c) ∧ w'.cell? (ad.add (i * 4)) = some (.int .i64 x.f0) ∧ w'.cell? ⟨(ad.add (i * 4)).block, (ad.add (i * 4)).off + 1, none⟩ = some (.int .i64 x.f1) ∧ w'.cell? ⟨(ad.add (i * 4)).block, (ad.add (i * 4)).off + 2, none⟩ = some (.int .i64 x.f2) ∧ w'.cell? ⟨(ad.add (i * 4)).block, (ad.add (i * 4)).off + 3, none⟩ = some (.int .i64 x.f3)) (ds := [7]) 9 (by kernel_rfl) rfl ⟨x0, x2, y0, y1, y2, y3⟩ (fun hHeld => ?_)
   generalize wr.drew = wd at HX1 hHeld x0 x2 y0 y1 y2 y3 ⊢
   repeat (first | refine rP 9 ?_ | refine rT 9 hHeld ?_)
   refine stepL 9 (N := some 30) rfl rfl (by kernel_rfl) (by decide) (fun K hK => ?_)
   refine goes_ Tryz.func78 (by kernel_rfl) rfl #[.int .i64 n, .agg #[.int .i64 x.f0, .int .i64 x.f1, .int .i64 x.f2, .int .i64 x.f3]] (by rfl) rfl rfl (by (try simp only [List.map_toArray, List.map_cons, List.map_nil]); rfl) ?_
   refine (varc_walk n x _).mono ?_
   rintro e w5 ⟨rfl, hb⟩
   rw [← HVV.out]
   refine ⟨_, rfl, ?_⟩
   have HX2 := zh (And.intro (blk_below HX1.out.1 hb) (below_step HX1.out.2 hb))
   refine hK.out _ _ ?_
   clear hK K hHeld hb HX1 x0 x2 y0 y1 y2 y3
   by_cases hv0 : v = 0
   ·have v1 : (v != 0) = false := bne_eq_false_iff_eq.2 hv0
    have v2 : (v == 0) = true := beq_iff_eq.2 hv0
    have HV0 := zh hv0
    clear hv0
    refine sN ?_
    refine rP 9 ?_
    refine done_ (by kernel_rfl) ?_
    go_wp2
    go_roundg (l.length - i)
    case measure => omega
    case rel => exact ⟨i + 1, by omega, by go_num, by omega, zh ⟨HX2.out.1, HX2.out.2, by rw [HV.out, HDR.out, arcsV_cons, ← HVV.out, if_pos HV0.out]⟩⟩
   ·have v1 : (v != 0) = true := bne_iff_ne.2 hv0
    have v2 : (v == 0) = false := beq_eq_false_iff_ne.2 hv0
    have HV0 := zh hv0
    clear hv0
    refine sN ?_
    refine rP 9 ?_
    refine done_ (by kernel_rfl) ?_
    go_wp2
    go_ret
    exact ⟨by rw [HV.out, HDR.out, arcsV_cons, ← HVV.out, if_neg HV0.out]; rfl, HX2.out.2⟩
  ·have d5 : ¬ (i : Int) < (l.length : Int) := by omega
   go_wp2
   go_ret
   refine ⟨?_, HL.out.2.1⟩
   rw [HL.out.2.2, List.drop_of_length_le (by omega)]
   rfl
set_option maxRecDepth 100000 in
theorem vnode_walk (n : Int) (b : Bool) (vl : Value) (v : Int) (R : Bool) (hR : R = (decide (0 ≤ v) && decide (v < n))) (w : World) :
  Calls Tryz.prog 76 #[.agg #[.int .i64 n, .bool b, vl], .int .i64 v] w fun e w' => e = .returned (.bool R) ∧ Below w.heap.size w w' := by
 have hu := Tryz.underlying27
 subst hR
 cases d1 : decide (0 ≤ v) <;> cases d2 : decide (v < n)
 all_goals
  go_enter Tryz.func76, Tryz.ntmps76
  go_wp2
  go_ret
  exact ⟨rfl, below_alloc (Below.refl _ _) _⟩
theorem netV_ok {n : Int} {l : List Arc} (h : netV n l = 0) : 1 ≤ n ∧ n ≤ 50 ∧ l.length ≤ 200 := by
 unfold netV at h
 by_cases c1 : n < 1
 ·rw [if_pos c1] at h; cases h
 rw [if_neg c1] at h
 by_cases c2 : n > 50
 ·rw [if_pos c2] at h; cases h
 rw [if_neg c2] at h
 by_cases c3 : (l.length : Int) > 200
 ·rw [if_pos c3] at h; cases h
 omega
theorem spanV_ok {h : Int} (e : spanV h = 0) : 0 ≤ h ∧ h ≤ 1024 := by
 unfold spanV at e
 by_cases c1 : h < 0
 ·rw [if_pos c1] at e; cases e
 rw [if_neg c1] at e
 by_cases c2 : h > 1024
 ·rw [if_pos c2] at e; cases e
 omega
theorem mul_wrap {h a : Int} (h0 : 0 ≤ h ∧ h ≤ 1024) (a0 : 0 ≤ a ∧ a ≤ 1000) : 0 ≤ (h + 1) * a ∧ (h + 1) * a ≤ 1025000 := by
 have h1 : (h + 1) * a ≤ 1025 * a := Int.mul_le_mul_of_nonneg_right (by omega) a0.1
 have h2 : 0 ≤ (h + 1) * a := Int.mul_nonneg (by omega) a0.1
 omega
def endsV (n : Int) (l : List Arc) (s t : Int) : Int := if netV n l = 0 then (if 0 ≤ s ∧ s < n ∧ 0 ≤ t ∧ t < n ∧ s ≠ t then 0 else 70) else netV n l
def askS (n : Int) (l : List Arc) (s t h : Int) : Int := if endsV n l s t = 0 then spanV h else endsV n l s t
def fitsV (n : Int) (l : List Arc) (h : Int) : Bool := decide ((h + 1) * n ≤ 4000) && decide ((h + 1) * (l.length : Int) ≤ 10000)
def askT (n : Int) (l : List Arc) (s t h : Int) : Int := if askS n l s t h = 0 then (if fitsV n l h = true then 0 else 2) else askS n l s t h
theorem max2_max' (k k' : IntKind) (x y : Int) : Builtin.max2 (.int k x) (.int k' y) = pure (.int k (max x y)) := by
 rw [max2_int]
 have e : (if x < y then y else x) = max x y := by split <;> omega
 rw [e]
theorem min2_min' (k k' : IntKind) (x y : Int) : Builtin.min2 (.int k x) (.int k' y) = pure (.int k (min x y)) := by
 rw [min2_int]
 have e : (if y < x then y else x) = min x y := by split <;> omega
 rw [e]
attribute [local go_sem] max2_max' max_two min2_min' min_two
theorem code_cases (V : Int) : V = 0 ∨ (¬ V = 0 ∧ (V == 0) = false ∧ (V != 0) = true) := by
 by_cases c : V = 0
 ·exact .inl c
 ·exact .inr ⟨c, beq_eq_false_iff_ne.2 c, bne_iff_ne.2 c⟩
theorem endsV_net {n : Int} {l : List Arc} {s t : Int} (h : endsV n l s t = 0) : netV n l = 0 := by
 unfold endsV at h
 by_cases c : netV n l = 0
 ·exact c
 ·rw [if_neg c] at h; exact h
theorem askS_ends {n : Int} {l : List Arc} {s t h : Int} (e : askS n l s t h = 0) : endsV n l s t = 0 ∧ spanV h = 0 := by
 unfold askS at e
 by_cases c : endsV n l s t = 0
 ·rw [if_pos c] at e; exact ⟨c, e⟩
 ·rw [if_neg c] at e; exact absurd e c
section
variable {n : Int} {b : Bool} {A : Option Addr} {c : Nat} {l : List Arc} {s t h : Int} {w : World}
set_option maxHeartbeats 4000000 in
set_option maxRecDepth 100000 in
theorem rends_walk (hr : Kd.C kArc w A l.length l) : Calls Tryz.prog 49 #[.agg #[.int .i64 n, .bool b, .slice A l.length c], .int .i64 s, .int .i64 t] w (VAt (endsV n l s t) w) := by
 have hu := Tryz.underlying27
 have HR := zh hr
 obtain ⟨w1, hw1⟩ : ∃ w1, w1 = w.alloc (.cells #[.int .i64 n, .bool b, .slice A l.length c] 27) := ⟨_, rfl⟩
 have HX : Hid (w1.heap[w.heap.size]? = some (.cells #[.int .i64 n, .bool b, .slice A l.length c] 27 (0, 0)) ∧ Below w.heap.size w w1) := zh (by rw [hw1]; exact ⟨heap_alloc_new _ _, below_alloc (Below.refl _ _) _⟩)
 clear hr
 unfold endsV
 rcases code_cases (netV n l) with d | ⟨d, e1, e2⟩
 ·rw [if_pos d]
  have HN := zh d
  obtain ⟨r1, h1⟩ : ∃ r1, r1 = (decide (0 ≤ s) && decide (s < n)) := ⟨_, rfl⟩
  obtain ⟨r2, h2⟩ : ∃ r2, r2 = (decide (0 ≤ t) && decide (t < n)) := ⟨_, rfl⟩
  have hp : (0 ≤ s ∧ s < n ∧ 0 ≤ t ∧ t < n ∧ s ≠ t) ↔ (r1 = true ∧ r2 = true ∧ (s == t) = false) := by
   rw [h1, h2, beq_eq_false_iff_ne, Bool.and_eq_true, Bool.and_eq_true, decide_eq_true_eq, decide_eq_true_eq, decide_eq_true_eq, decide_eq_true_eq]
   exact ⟨fun h => ⟨⟨h.1, h.2.1⟩, ⟨h.2.2.1, h.2.2.2.1⟩, h.2.2.2.2⟩, fun h => ⟨h.1.1, h.1.2, h.2.1.1, h.2.1.2, h.2.2⟩⟩
  have HS := zh h1
  have HT := zh h2
  have HP := zh hp
  clear h1 h2 hp d
  have hcs : r1 = false ∨ (r1 = true ∧ r2 = false) ∨ (r1 = true ∧ r2 = true ∧ (s == t) = true) ∨ (r1 = true ∧ r2 = true ∧ (s == t) = false) := by
   cases r1 <;> cases r2 <;> cases (s == t) <;> simp
  rcases hcs with d1 | ⟨d1, d2⟩ | ⟨d1, d2, d3⟩ | ⟨d1, d2, d3⟩
  iterate 3
   ·have HF : Hid (¬ (0 ≤ s ∧ s < n ∧ 0 ≤ t ∧ t < n ∧ s ≠ t)) := zh (fun h9 => by
     have h8 := HP.out.1 h9
     simp_all)
    clear HP
    rw [if_neg HF.out]
    subst d1
    try subst d2
    go_enter Tryz.func49, Tryz.ntmps49
    go_wp2_with (first
     |(go_at_call 51; rw [← hw1]; go_loud ((with_reducible refine (vcheck_walk n b A c l _ ?s1).mono ?_); (case s1 => exact Kd.C_below HR.out HX.out.2); rintro e w9 ⟨rfl, hb⟩; rw [HN.out]; have HN9 := zh (And.intro (blk_below HX.out.1 hb) (below_step HX.out.2 hb)); clear HX hb; have HX := HN9; clear HN9; have x0 : w9.cell? ⟨w.heap.size, 0, none⟩ = some (.int .i64 n) := (blk_cell HX.out.1 0).trans rfl; have x1 : w9.cell? ⟨w.heap.size, 1, none⟩ = some (.bool b) := (blk_cell HX.out.1 1).trans rfl; have x2 : w9.cell? ⟨w.heap.size, 2, none⟩ = some (.slice A l.length c) := (blk_cell HX.out.1 2).trans rfl))
     |(go_at_call 76; go_loud ((with_reducible refine (vnode_walk n b (.slice A l.length c) s _ HS.out _).mono ?_); rintro e w9 ⟨rfl, hb⟩; clear x0 x1 x2; have HN9 := zh (And.intro (blk_below HX.out.1 hb) (below_step HX.out.2 hb)); clear HX hb; have HX := HN9; clear HN9; have x0 : w9.cell? ⟨w.heap.size, 0, none⟩ = some (.int .i64 n) := (blk_cell HX.out.1 0).trans rfl; have x1 : w9.cell? ⟨w.heap.size, 1, none⟩ = some (.bool b) := (blk_cell HX.out.1 1).trans rfl; have x2 : w9.cell? ⟨w.heap.size, 2, none⟩ = some (.slice A l.length c) := (blk_cell HX.out.1 2).trans rfl))
     |(go_at_call 76; go_loud ((with_reducible refine (vnode_walk n b (.slice A l.length c) t _ HT.out _).mono ?_); rintro e w9 ⟨rfl, hb⟩; clear x0 x1 x2; have HN9 := zh (And.intro (blk_below HX.out.1 hb) (below_step HX.out.2 hb)); clear HX hb; have HX := HN9; clear HN9; have x0 : w9.cell? ⟨w.heap.size, 0, none⟩ = some (.int .i64 n) := (blk_cell HX.out.1 0).trans rfl; have x1 : w9.cell? ⟨w.heap.size, 1, none⟩ = some (.bool b) := (blk_cell HX.out.1 1).trans rfl; have x2 : w9.cell? ⟨w.heap.size, 2, none⟩ = some (.slice A l.length c) := (blk_cell HX.out.1 2).trans rfl)))
    go_ret
    exact ⟨rfl, HX.out.2⟩
  ·have HF : Hid (0 ≤ s ∧ s < n ∧ 0 ≤ t ∧ t < n ∧ s ≠ t) := zh (HP.out.2 ⟨d1, d2, d3⟩)
   clear HP
   rw [if_pos HF.out]
   subst d1
   subst d2
   go_enter Tryz.func49, Tryz.ntmps49
   go_wp2_with (first
    |(go_at_call 51; rw [← hw1]; go_loud ((with_reducible refine (vcheck_walk n b A c l _ ?s1).mono ?_); (case s1 => exact Kd.C_below HR.out HX.out.2); rintro e w9 ⟨rfl, hb⟩; rw [HN.out]; have HN9 := zh (And.intro (blk_below HX.out.1 hb) (below_step HX.out.2 hb)); clear HX hb; have HX := HN9; clear HN9; have x0 : w9.cell? ⟨w.heap.size, 0, none⟩ = some (.int .i64 n) := (blk_cell HX.out.1 0).trans rfl; have x1 : w9.cell? ⟨w.heap.size, 1, none⟩ = some (.bool b) := (blk_cell HX.out.1 1).trans rfl; have x2 : w9.cell? ⟨w.heap.size, 2, none⟩ = some (.slice A l.length c) := (blk_cell HX.out.1 2).trans rfl))
    |(go_at_call 76; go_loud ((with_reducible refine (vnode_walk n b (.slice A l.length c) s _ HS.out _).mono ?_); rintro e w9 ⟨rfl, hb⟩; clear x0 x1 x2; have HN9 := zh (And.intro (blk_below HX.out.1 hb) (below_step HX.out.2 hb)); clear HX hb; have HX := HN9; clear HN9; have x0 : w9.cell? ⟨w.heap.size, 0, none⟩ = some (.int .i64 n) := (blk_cell HX.out.1 0).trans rfl; have x1 : w9.cell? ⟨w.heap.size, 1, none⟩ = some (.bool b) := (blk_cell HX.out.1 1).trans rfl; have x2 : w9.cell? ⟨w.heap.size, 2, none⟩ = some (.slice A l.length c) := (blk_cell HX.out.1 2).trans rfl))
    |(go_at_call 76; go_loud ((with_reducible refine (vnode_walk n b (.slice A l.length c) t _ HT.out _).mono ?_); rintro e w9 ⟨rfl, hb⟩; clear x0 x1 x2; have HN9 := zh (And.intro (blk_below HX.out.1 hb) (below_step HX.out.2 hb)); clear HX hb; have HX := HN9; clear HN9; have x0 : w9.cell? ⟨w.heap.size, 0, none⟩ = some (.int .i64 n) := (blk_cell HX.out.1 0).trans rfl; have x1 : w9.cell? ⟨w.heap.size, 1, none⟩ = some (.bool b) := (blk_cell HX.out.1 1).trans rfl; have x2 : w9.cell? ⟨w.heap.size, 2, none⟩ = some (.slice A l.length c) := (blk_cell HX.out.1 2).trans rfl)))
   go_ret
   exact ⟨rfl, HX.out.2⟩
 ·rw [if_neg d]
  obtain ⟨V, hV⟩ : ∃ V, V = netV n l := ⟨_, rfl⟩
  rw [← hV] at d e1 e2 ⊢
  have HN := zh hV.symm
  clear hV d
  go_enter Tryz.func49, Tryz.ntmps49
  go_wp2_with (go_at_call 51; rw [← hw1]; go_loud ((with_reducible refine (vcheck_walk n b A c l _ ?s1).mono ?_); (case s1 => exact Kd.C_below HR.out HX.out.2); rintro e w9 ⟨rfl, hb⟩; rw [HN.out]; have HN9 := zh (And.intro (blk_below HX.out.1 hb) (below_step HX.out.2 hb)); clear HX hb; have HX := HN9; clear HN9; have x0 : w9.cell? ⟨w.heap.size, 0, none⟩ = some (.int .i64 n) := (blk_cell HX.out.1 0).trans rfl; have x1 : w9.cell? ⟨w.heap.size, 1, none⟩ = some (.bool b) := (blk_cell HX.out.1 1).trans rfl; have x2 : w9.cell? ⟨w.heap.size, 2, none⟩ = some (.slice A l.length c) := (blk_cell HX.out.1 2).trans rfl))
  go_ret
  exact ⟨rfl, HX.out.2⟩
set_option maxHeartbeats 4000000 in
set_option maxRecDepth 100000 in
theorem rask12_walk (hr : Kd.C kArc w A l.length l) : Calls Tryz.prog 31 #[.agg #[.int .i64 n, .bool b, .slice A l.length c], .int .i64 s, .int .i64 t, .int .i64 h] w (VAt (askS n l s t h) w) := by
 have hu := Tryz.underlying27
 have HR := zh hr
 obtain ⟨w1, hw1⟩ : ∃ w1, w1 = w.alloc (.cells #[.int .i64 n, .bool b, .slice A l.length c] 27) := ⟨_, rfl⟩
 have HX : Hid (w1.heap[w.heap.size]? = some (.cells #[.int .i64 n, .bool b, .slice A l.length c] 27 (0, 0)) ∧ Below w.heap.size w w1) := zh (by rw [hw1]; exact ⟨heap_alloc_new _ _, below_alloc (Below.refl _ _) _⟩)
 clear hr
 unfold askS
 rcases code_cases (endsV n l s t) with d | ⟨d, e1, e2⟩
 ·rw [if_pos d]
  have HN := zh d
  clear d
  go_enter Tryz.func31, Tryz.ntmps31
  go_wp2_with (first
   |(go_at_call 49; rw [← hw1]; go_loud ((with_reducible refine (rends_walk (b := b) (c := c) (s := s) (t := t) ?s1).mono ?_); (case s1 => exact Kd.C_below HR.out HX.out.2); rintro e w9 ⟨rfl, hb⟩; rw [HN.out]; have HN9 := zh (And.intro (blk_below HX.out.1 hb) (below_step HX.out.2 hb)); clear HX hb; have HX := HN9; clear HN9; have x0 : w9.cell? ⟨w.heap.size, 0, none⟩ = some (.int .i64 n) := (blk_cell HX.out.1 0).trans rfl; have x1 : w9.cell? ⟨w.heap.size, 1, none⟩ = some (.bool b) := (blk_cell HX.out.1 1).trans rfl; have x2 : w9.cell? ⟨w.heap.size, 2, none⟩ = some (.slice A l.length c) := (blk_cell HX.out.1 2).trans rfl))
   |(go_at_call 50; go_loud ((with_reducible refine (vspan_walk h _).mono ?_); rintro e w9 ⟨rfl, hb⟩; clear x0 x1 x2; have HN9 := zh (And.intro (blk_below HX.out.1 hb) (below_step HX.out.2 hb)); clear HX hb; have HX := HN9; clear HN9; have x0 : w9.cell? ⟨w.heap.size, 0, none⟩ = some (.int .i64 n) := (blk_cell HX.out.1 0).trans rfl; have x1 : w9.cell? ⟨w.heap.size, 1, none⟩ = some (.bool b) := (blk_cell HX.out.1 1).trans rfl; have x2 : w9.cell? ⟨w.heap.size, 2, none⟩ = some (.slice A l.length c) := (blk_cell HX.out.1 2).trans rfl)))
  go_ret
  exact ⟨rfl, HX.out.2⟩
 ·rw [if_neg d]
  obtain ⟨V, hV⟩ : ∃ V, V = endsV n l s t := ⟨_, rfl⟩
  rw [← hV] at d e1 e2 ⊢
  have HN := zh hV.symm
  clear hV d
  go_enter Tryz.func31, Tryz.ntmps31
  go_wp2_with (go_at_call 49; rw [← hw1]; go_loud ((with_reducible refine (rends_walk (b := b) (c := c) (s := s) (t := t) ?s1).mono ?_); (case s1 => exact Kd.C_below HR.out HX.out.2); rintro e w9 ⟨rfl, hb⟩; rw [HN.out]; have HN9 := zh (And.intro (blk_below HX.out.1 hb) (below_step HX.out.2 hb)); clear HX hb; have HX := HN9; clear HN9; have x0 : w9.cell? ⟨w.heap.size, 0, none⟩ = some (.int .i64 n) := (blk_cell HX.out.1 0).trans rfl; have x1 : w9.cell? ⟨w.heap.size, 1, none⟩ = some (.bool b) := (blk_cell HX.out.1 1).trans rfl; have x2 : w9.cell? ⟨w.heap.size, 2, none⟩ = some (.slice A l.length c) := (blk_cell HX.out.1 2).trans rfl))
  go_ret
  exact ⟨rfl, HX.out.2⟩
set_option maxHeartbeats 4000000 in
set_option maxRecDepth 100000 in
theorem ends_pwalk (hr : Kd.C kArc w A l.length l) (hc : l.length ≤ c) : Calls Tryz.prog 63 #[.agg #[.int .i64 n, .bool b, .slice A l.length c], .int .i64 s, .int .i64 t] w (VAt (endsV n l s t) w) := by
 have hu := Tryz.underlying27
 have HR := zh hr
 obtain ⟨w1, hw1⟩ : ∃ w1, w1 = w.alloc (.cells #[.int .i64 n, .bool b, .slice A l.length c] 27) := ⟨_, rfl⟩
 have HX : Hid (w1.heap[w.heap.size]? = some (.cells #[.int .i64 n, .bool b, .slice A l.length c] 27 (0, 0)) ∧ Below w.heap.size w w1) := zh (by rw [hw1]; exact ⟨heap_alloc_new _ _, below_alloc (Below.refl _ _) _⟩)
 clear hr
 have HC := zh hc
 clear hc
 unfold endsV
 have hnet := net_p (n := n) (b := b) (l := l) (k := 300) (Nat.le_refl _)
 rcases code_cases (netV n l) with d | ⟨d, e1, e2⟩
 ·rw [if_pos d]
  rw [d] at hnet
  have HN := zh hnet
  clear d hnet
  obtain ⟨u, hu9⟩ : ∃ u, u = min s t := ⟨_, rfl⟩
  obtain ⟨v, hv9⟩ : ∃ v, v = max s t := ⟨_, rfl⟩
  have hcs : (u < 0 ∧ Hid (¬ (0 ≤ s ∧ s < n ∧ 0 ≤ t ∧ t < n ∧ s ≠ t))) ∨ (¬ u < 0 ∧ n ≤ v ∧ Hid (¬ (0 ≤ s ∧ s < n ∧ 0 ≤ t ∧ t < n ∧ s ≠ t))) ∨ (¬ u < 0 ∧ ¬ n ≤ v ∧ (s == t) = true ∧ Hid (¬ (0 ≤ s ∧ s < n ∧ 0 ≤ t ∧ t < n ∧ s ≠ t))) ∨ (¬ u < 0 ∧ ¬ n ≤ v ∧ (s == t) = false ∧ Hid (0 ≤ s ∧ s < n ∧ 0 ≤ t ∧ t < n ∧ s ≠ t)) := by
   by_cases c1 : u < 0
   ·exact .inl ⟨c1, zh (by omega)⟩
   ·by_cases c2 : n ≤ v
    ·exact .inr (.inl ⟨c1, c2, zh (by omega)⟩)
    ·by_cases c3 : s = t
     ·exact .inr (.inr (.inl ⟨c1, c2, beq_iff_eq.2 c3, zh (fun h9 => h9.2.2.2.2 c3)⟩))
     ·exact .inr (.inr (.inr ⟨c1, c2, beq_eq_false_iff_ne.2 c3, zh (by omega)⟩))
  have hu8 := hu9.symm
  have hv8 := hv9.symm
  clear hu9 hv9
  rcases hcs with ⟨c1, HF⟩ | ⟨c1, c2, HF⟩ | ⟨c1, c2, c3, HF⟩ | ⟨c1, c2, c3, HF⟩
  all_goals
   first
    |rw [if_neg HF.out]
    |rw [if_pos HF.out]
   go_enter Tryz.func63, Tryz.ntmps63
   go_wp2_with (go_at_call 65; rw [← hw1]; go_loud ((with_reducible refine (netfmt_Check.calls 300 n b A c l _ _ ?s1 HC.out HN.out).mono ?_); (case s1 => exact Kd.C_below HR.out HX.out.2); rintro e w9 ⟨rfl, hb⟩; have HN9 := zh (And.intro (blk_below HX.out.1 hb) (below_step HX.out.2 hb)); clear HX hb; have HX := HN9; clear HN9; have x0 : w9.cell? ⟨w.heap.size, 0, none⟩ = some (.int .i64 n) := (blk_cell HX.out.1 0).trans rfl; have x1 : w9.cell? ⟨w.heap.size, 1, none⟩ = some (.bool b) := (blk_cell HX.out.1 1).trans rfl; have x2 : w9.cell? ⟨w.heap.size, 2, none⟩ = some (.slice A l.length c) := (blk_cell HX.out.1 2).trans rfl))
   go_ret
   exact ⟨rfl, HX.out.2⟩
 ·rw [if_neg d]
  obtain ⟨V, hV⟩ : ∃ V, V = netV n l := ⟨_, rfl⟩
  rw [← hV] at d e1 e2 hnet ⊢
  have HN := zh hnet
  clear hV d hnet
  go_enter Tryz.func63, Tryz.ntmps63
  go_wp2_with (go_at_call 65; rw [← hw1]; go_loud ((with_reducible refine (netfmt_Check.calls 300 n b A c l _ _ ?s1 HC.out HN.out).mono ?_); (case s1 => exact Kd.C_below HR.out HX.out.2); rintro e w9 ⟨rfl, hb⟩; have HN9 := zh (And.intro (blk_below HX.out.1 hb) (below_step HX.out.2 hb)); clear HX hb; have HX := HN9; clear HN9; have x0 : w9.cell? ⟨w.heap.size, 0, none⟩ = some (.int .i64 n) := (blk_cell HX.out.1 0).trans rfl; have x1 : w9.cell? ⟨w.heap.size, 1, none⟩ = some (.bool b) := (blk_cell HX.out.1 1).trans rfl; have x2 : w9.cell? ⟨w.heap.size, 2, none⟩ = some (.slice A l.length c) := (blk_cell HX.out.1 2).trans rfl))
  go_ret
  exact ⟨rfl, HX.out.2⟩
theorem hor_p (h : Int) : span_Horizon.f h = some (spanV h) := by
 unfold span_Horizon.f spanV
 by_cases c1 : h < 0
 ·rw [if_pos c1, if_pos c1]
 ·rw [if_neg c1, if_neg c1]
  by_cases c2 : h > 1024
  ·rw [if_pos c2, if_pos c2]
  ·rw [if_neg c2, if_neg c2]
theorem fits_p {k : Nat} (hn : netV n l = 0) (hs : spanV h = 0) (hk : 300 ≤ k) : expand_Fits.f k n b l h = some (fitsV n l h) := by
 obtain ⟨n0, n1, ll⟩ := netV_ok hn
 have hh := spanV_ok hs
 have b1 := mul_wrap hh (a := n) (by omega)
 have b2 := mul_wrap hh (a := (l.length : Int)) (by omega)
 have e0 : wrap64 (h + 1) = h + 1 := by unfold wrap64; omega
 have e1 : wrap64 ((h + 1) * n) = (h + 1) * n := by unfold wrap64; omega
 have e2 : wrap64 ((h + 1) * (l.length : Int)) = (h + 1) * (l.length : Int) := by unfold wrap64; omega
 unfold expand_Fits.f fitsV
 rw [net_p hk, Option.bind_some, if_pos hn, hor_p, Option.bind_some, if_pos hs, e0, e1, e2]
 by_cases c : (h + 1) * n ≤ 4000
 ·rw [if_pos c, decide_eq_true c, Bool.true_and]
 ·rw [if_neg c, decide_eq_false c, Bool.false_and]
theorem drawn_below {w w2 : World} (h : Drawn0 w w2) : Below w.heap.size w w2 := by
 obtain ⟨m, rfl⟩ := h
 exact pw_below_drewN (Below.refl _ _) m
set_option maxHeartbeats 4000000 in
set_option maxRecDepth 100000 in
theorem ask_span (hr : Kd.C kArc w A l.length l) (hc : l.length ≤ c) : Calls Tryz.prog 43 #[.agg #[.int .i64 n, .bool b, .slice A l.length c], .int .i64 s, .int .i64 t, .int .i64 h] w (VAt (askS n l s t h) w) := by
 have hu := Tryz.underlying27
 have HR := zh hr
 obtain ⟨w1, hw1⟩ : ∃ w1, w1 = w.alloc (.cells #[.int .i64 n, .bool b, .slice A l.length c] 27) := ⟨_, rfl⟩
 have HX : Hid (w1.heap[w.heap.size]? = some (.cells #[.int .i64 n, .bool b, .slice A l.length c] 27 (0, 0)) ∧ Below w.heap.size w w1) := zh (by rw [hw1]; exact ⟨heap_alloc_new _ _, below_alloc (Below.refl _ _) _⟩)
 clear hr
 have HC := zh hc
 clear hc
 unfold askS
 rcases code_cases (endsV n l s t) with d | ⟨d, e1, e2⟩
 ·rw [if_pos d]
  have HN := zh d
  have HH := zh (hor_p h)
  clear d
  go_enter Tryz.func43, Tryz.ntmps43
  go_wp2_with (first
   |(go_at_call 63; rw [← hw1]; go_loud ((with_reducible refine (ends_pwalk (b := b) (c := c) (s := s) (t := t) ?s1 HC.out).mono ?_); (case s1 => exact Kd.C_below HR.out HX.out.2); rintro e w9 ⟨rfl, hb⟩; rw [HN.out]; have HN9 := zh (And.intro (blk_below HX.out.1 hb) (below_step HX.out.2 hb)); clear HX hb; have HX := HN9; clear HN9; have x0 : w9.cell? ⟨w.heap.size, 0, none⟩ = some (.int .i64 n) := (blk_cell HX.out.1 0).trans rfl; have x1 : w9.cell? ⟨w.heap.size, 1, none⟩ = some (.bool b) := (blk_cell HX.out.1 1).trans rfl; have x2 : w9.cell? ⟨w.heap.size, 2, none⟩ = some (.slice A l.length c) := (blk_cell HX.out.1 2).trans rfl))
   |(go_at_call 64; go_loud ((with_reducible refine (span_Horizon.calls h _ _ HH.out).mono ?_); rintro e w9 ⟨rfl, hd⟩; have hb := drawn_below hd; clear hd; clear x0 x1 x2; have HN9 := zh (And.intro (blk_below HX.out.1 hb) (below_step HX.out.2 hb)); clear HX hb; have HX := HN9; clear HN9; have x0 : w9.cell? ⟨w.heap.size, 0, none⟩ = some (.int .i64 n) := (blk_cell HX.out.1 0).trans rfl; have x1 : w9.cell? ⟨w.heap.size, 1, none⟩ = some (.bool b) := (blk_cell HX.out.1 1).trans rfl; have x2 : w9.cell? ⟨w.heap.size, 2, none⟩ = some (.slice A l.length c) := (blk_cell HX.out.1 2).trans rfl)))
  go_ret
  exact ⟨rfl, HX.out.2⟩
 ·rw [if_neg d]
  obtain ⟨V, hV⟩ : ∃ V, V = endsV n l s t := ⟨_, rfl⟩
  rw [← hV] at d e1 e2 ⊢
  have HN := zh hV.symm
  clear hV d
  go_enter Tryz.func43, Tryz.ntmps43
  go_wp2_with (go_at_call 63; rw [← hw1]; go_loud ((with_reducible refine (ends_pwalk (b := b) (c := c) (s := s) (t := t) ?s1 HC.out).mono ?_); (case s1 => exact Kd.C_below HR.out HX.out.2); rintro e w9 ⟨rfl, hb⟩; rw [HN.out]; have HN9 := zh (And.intro (blk_below HX.out.1 hb) (below_step HX.out.2 hb)); clear HX hb; have HX := HN9; clear HN9; have x0 : w9.cell? ⟨w.heap.size, 0, none⟩ = some (.int .i64 n) := (blk_cell HX.out.1 0).trans rfl; have x1 : w9.cell? ⟨w.heap.size, 1, none⟩ = some (.bool b) := (blk_cell HX.out.1 1).trans rfl; have x2 : w9.cell? ⟨w.heap.size, 2, none⟩ = some (.slice A l.length c) := (blk_cell HX.out.1 2).trans rfl))
  go_ret
  exact ⟨rfl, HX.out.2⟩
set_option maxHeartbeats 4000000 in
set_option maxRecDepth 100000 in
theorem ask_walk (hr : Kd.C kArc w A l.length l) (hc : l.length ≤ c) : Calls Tryz.prog 27 #[.agg #[.int .i64 n, .bool b, .slice A l.length c], .int .i64 s, .int .i64 t, .int .i64 h] w (VAt (askT n l s t h) w) := by
 have hu := Tryz.underlying27
 have HR := zh hr
 obtain ⟨w1, hw1⟩ : ∃ w1, w1 = w.alloc (.cells #[.int .i64 n, .bool b, .slice A l.length c] 27) := ⟨_, rfl⟩
 have HX : Hid (w1.heap[w.heap.size]? = some (.cells #[.int .i64 n, .bool b, .slice A l.length c] 27 (0, 0)) ∧ Below w.heap.size w w1) := zh (by rw [hw1]; exact ⟨heap_alloc_new _ _, below_alloc (Below.refl _ _) _⟩)
 clear hr
 have HC := zh hc
 clear hc
 unfold askT
 rcases code_cases (askS n l s t h) with d | ⟨d, e1, e2⟩
 ·rw [if_pos d]
  have HN := zh d
  obtain ⟨R, hR⟩ : ∃ R, R = fitsV n l h := ⟨_, rfl⟩
  have HT : Hid (expand_Fits.f 300 n b l h = some R) := zh (by rw [hR]; exact fits_p (endsV_net (askS_ends d).1) (askS_ends d).2 (by decide))
  rw [← hR]
  clear d hR
  cases R
  all_goals
   go_enter Tryz.func27, Tryz.ntmps27
   go_wp2_with (first
    |(go_at_call 43; rw [← hw1]; go_loud ((with_reducible refine (ask_span (b := b) (c := c) (s := s) (t := t) (h := h) ?s1 HC.out).mono ?_); (case s1 => exact Kd.C_below HR.out HX.out.2); rintro e w9 ⟨rfl, hb⟩; rw [HN.out]; have HN9 := zh (And.intro (blk_below HX.out.1 hb) (below_step HX.out.2 hb)); clear HX hb; have HX := HN9; clear HN9; have x0 : w9.cell? ⟨w.heap.size, 0, none⟩ = some (.int .i64 n) := (blk_cell HX.out.1 0).trans rfl; have x1 : w9.cell? ⟨w.heap.size, 1, none⟩ = some (.bool b) := (blk_cell HX.out.1 1).trans rfl; have x2 : w9.cell? ⟨w.heap.size, 2, none⟩ = some (.slice A l.length c) := (blk_cell HX.out.1 2).trans rfl))
    |(go_at_call 44; go_loud ((with_reducible refine (expand_Fits.calls 300 n b A c l h _ _ ?s1 HC.out HT.out).mono ?_); (case s1 => exact Kd.C_below HR.out HX.out.2); rintro e w9 ⟨rfl, hb⟩; clear x0 x1 x2; have HN9 := zh (And.intro (blk_below HX.out.1 hb) (below_step HX.out.2 hb)); clear HX hb; have HX := HN9; clear HN9; have x0 : w9.cell? ⟨w.heap.size, 0, none⟩ = some (.int .i64 n) := (blk_cell HX.out.1 0).trans rfl; have x1 : w9.cell? ⟨w.heap.size, 1, none⟩ = some (.bool b) := (blk_cell HX.out.1 1).trans rfl; have x2 : w9.cell? ⟨w.heap.size, 2, none⟩ = some (.slice A l.length c) := (blk_cell HX.out.1 2).trans rfl)))
   go_ret
   exact ⟨rfl, HX.out.2⟩
 ·rw [if_neg d]
  obtain ⟨V, hV⟩ : ∃ V, V = askS n l s t h := ⟨_, rfl⟩
  rw [← hV] at d e1 e2 ⊢
  have HN := zh hV.symm
  clear hV d
  go_enter Tryz.func27, Tryz.ntmps27
  go_wp2_with (go_at_call 43; rw [← hw1]; go_loud ((with_reducible refine (ask_span (b := b) (c := c) (s := s) (t := t) (h := h) ?s1 HC.out).mono ?_); (case s1 => exact Kd.C_below HR.out HX.out.2); rintro e w9 ⟨rfl, hb⟩; rw [HN.out]; have HN9 := zh (And.intro (blk_below HX.out.1 hb) (below_step HX.out.2 hb)); clear HX hb; have HX := HN9; clear HN9; have x0 : w9.cell? ⟨w.heap.size, 0, none⟩ = some (.int .i64 n) := (blk_cell HX.out.1 0).trans rfl; have x1 : w9.cell? ⟨w.heap.size, 1, none⟩ = some (.bool b) := (blk_cell HX.out.1 1).trans rfl; have x2 : w9.cell? ⟨w.heap.size, 2, none⟩ = some (.slice A l.length c) := (blk_cell HX.out.1 2).trans rfl))
  go_ret
  exact ⟨rfl, HX.out.2⟩
end
end Go.Proofs.YtdfagllncopmjaaGreat.H
end
section
namespace Go.Proofs.YtdfagllncopmjaaGreat.H
open Go Go.RowKit Go.Proofs.YtdfagllncopmjaaGreat.PrintC Go.Proofs.YtdfagllncopmjaaGreat.PrintE Go.Proofs.YtdfagllncopmjaaGreatW.PrintWords Go.Proofs.YtdfagllncopmjaaGreatW.PrintLast Go.Proofs.YtdfagllncopmjaaGreatW.PrintMore Go.Proofs.YtdfagllncopmjaaGreat.Flow
set_option linter.unusedVariables false
set_option linter.unusedSimpArgs false
theorem GrI.free {w0 : World} {gg : Nat} {N n : Int} {v : Value} {arcs : List Arc} {B : MB} {D : MD} {W : World} (h : GrI w0 gg N n v arcs B D W) : GrI (bare W) gg N n v arcs B D W :=
 ⟨h.bx, Kd.R_lower h.ar (Nat.zero_le _), h.mm, h.mw, h.mf, h.ml, below_bare W W ⟨rfl, rfl, rfl⟩, Nat.zero_le _, Nat.zero_le _, Nat.zero_le _, Nat.zero_le _, Nat.zero_le _, h.n1, h.n2, h.n3, h.n4, h.n5, h.n6⟩
def TfSolved (n h s t N N1 M : Nat) (b : Bool) (l E : List Arc) (w : World) (e : Ending) (w' : World) : Prop :=
 ∃ (w0 : World) (gg : Nat) (v : Value) (B : MB) (D : MD) (bf : Nat) (f : List Int) (S : Int → Bool), e = .returned (.agg #[.pointer (some ⟨gg, 0, none⟩), .slice (some ⟨bf, 0, none⟩) E.length E.length, .int .i64 (leaves E.length (frOf E) (toOf E) (dOf f) N)]) ∧ GrI w0 gg M n v E B D w' ∧ D.m = putAll (tfB n h s t b l).mv ∧ IntBlk w' bf f ∧ FlowOk E f ∧ Top E.length (frOf E) (toOf E) M N N1 (capOf E) (dOf f) S ∧ Below w.heap.size w w'
section
variable {n h s t N N1 M : Nat} {b : Bool} {A : Option Addr} {c : Nat} {l : List Arc} {w : World}
set_option maxHeartbeats 4000000 in
set_option maxRecDepth 100000 in
theorem tof_walk (E : List Arc) (hE : E = tfArcs l b n h s t N N1) (eN : N = (h + 1) * n) (e1 : N1 = N + 1) (e2 : M = N + 2) (o : TfOk n h s t l) (hlc : l.length ≤ c) (hr : Kd.C kArc w A l.length l) :
  Calls Tryz.prog 28 #[.agg #[.int .i64 n, .bool b, .slice A l.length c], .int .i64 s, .int .i64 t, .int .i64 h] w (TfSolved n h s t N N1 M b l E w) := by
 have HO := zh o
 have HR := zh hr
 have HE := zh hE
 have HNO : Hid (NetOk M E ∧ ∀ i : Int, 0 ≤ i → i < E.length → 0 ≤ (rd_T57 E i).f2) := zh (by
  subst e2 e1 eN hE
  exact o.netOk b)
 have HEE := zh (And.intro eN (And.intro e1 e2))
 have hu := Tryz.underlying27
 have hu3 := Tryz.underlying68
 clear o hr hE eN e1 e2
 obtain ⟨w1, hw1⟩ : ∃ w1, w1 = (w.alloc (.cells #[.int .i64 n, .bool b, .slice A l.length c] 27)).alloc (.cells #[.pointer none, .slice none 0 0, .int .i64 0] 68) := ⟨_, rfl⟩
 have HX : Hid (w1.heap[w.heap.size]? = some (.cells #[.int .i64 n, .bool b, .slice A l.length c] 27 (0, 0)) ∧ w1.heap[w.heap.size + 1]? = some (.cells #[.pointer none, .slice none 0 0, .int .i64 0] 68 (0, 0)) ∧ Below w.heap.size w w1) := zh (by
  rw [hw1]
  exact ⟨blk_alloc (heap_alloc_new _ _) _, alloc_at (by rw [alloc_size]), below_alloc (below_alloc (Below.refl _ _) _) _⟩)
 go_enter Tryz.func28, Tryz.ntmps28
 go_wp2_with (first
  |(go_at_call 46; rw [← hw1]; go_loud ((with_reducible refine (of_walk n h s t N N1 M HEE.out.1 HEE.out.2.1 HEE.out.2.2 b A c l _ HO.out hlc ?s1).mono ?_); (case s1 => exact Kd.C_below HR.out HX.out.2.2); rintro e w2 ⟨w0, gg, v, B, D, rfl, hI, hD, hb⟩; rw [← HE.out] at hI; have HI := zh hI; have HD := zh hD; have HX2 := zh (And.intro (blk_below HX.out.2.1 hb) (below_step HX.out.2.2 hb)); clear hI hD hb))
  |(go_at_call 45; go_loud ((with_reducible refine (solve_walk w0 gg N N1 M HEE.out.2.1 HEE.out.2.2 n v E B D _ HI.out HNO.out.1 HNO.out.2).mono ?_); rintro e w3 ⟨bf, f, S, rfl, k1, k2, k3, k4, k5, k6⟩; have HX3 := zh (And.intro (blk_below HX2.out.1 k6) (below_step HX2.out.2 k6)); have K1 := zh k1.free; have K2 := zh k2; have K4 := zh (And.intro k4 k5); have y0 : w3.cell? ⟨w.heap.size + 1, 0, none⟩ = some (.pointer none) := (blk_cell HX3.out.1 0).trans rfl; have y1 : w3.cell? ⟨w.heap.size + 1, 1, none⟩ = some (.slice none 0 0) := (blk_cell HX3.out.1 1).trans rfl; have y2 : w3.cell? ⟨w.heap.size + 1, 2, none⟩ = some (.int .i64 0) := (blk_cell HX3.out.1 2).trans rfl; have f0 := blk_frozen HX3.out.1 0; have f1 := blk_frozen HX3.out.1 1; have f2 := blk_frozen HX3.out.1 2; clear k1 k2 k3 k4 k5 k6)))
 obtain ⟨V, hV⟩ : ∃ V, V = leaves E.length (frOf E) (toOf E) (dOf f) N := ⟨_, rfl⟩
 rw [← hV]
 have k0 := blk_put (cs := #[.pointer none, .slice none 0 0, .int .i64 0]) HX3.out.1 0 (.pointer (some ⟨gg, 0, none⟩)) rfl
 have k1 := blk_put (cs := #[.pointer (some ⟨gg, 0, none⟩), .slice none 0 0, .int .i64 0]) k0 1 (.slice (some ⟨bf, 0, none⟩) E.length E.length) rfl
 have k2 := blk_put (cs := #[.pointer (some ⟨gg, 0, none⟩), .slice (some ⟨bf, 0, none⟩) E.length E.length, .int .i64 0]) k1 2 (.int .i64 V) rfl
 refine bodyPost_ret (results_cell_row rfl _ _ (w.heap.size + 1) 68 #[.pointer (some ⟨gg, 0, none⟩), .slice (some ⟨bf, 0, none⟩) E.length E.length, .int .i64 V] (0, 0) _ rfl k2 hu3 rfl (by kernel_rfl)) rfl ?_
 have hne : bf ≠ w.heap.size + 1 := blk_ne K2.out HX3.out.1 (by decide)
 refine ⟨bare w3, gg, v, B, D, bf, f, S, by rw [hV], ((K1.out.set HX3.out.1 (by decide) (by decide) (Nat.zero_le _) 0 _).set k0 (by decide) (by decide) (Nat.zero_le _) 1 _).set k1 (by decide) (by decide) (Nat.zero_le _) 2 _, HD.out, ?_, K4.out.1, K4.out.2, below_set (below_set (below_set HX3.out.2 (Nat.le_succ _)) (Nat.le_succ _)) (Nat.le_succ _)⟩
 unfold IntBlk
 rw [Below.heap_setCell _ ⟨w.heap.size + 1, 2, none⟩ _ _ hne, Below.heap_setCell _ ⟨w.heap.size + 1, 1, none⟩ _ _ hne, Below.heap_setCell _ ⟨w.heap.size + 1, 0, none⟩ _ _ hne]
 exact K2.out
end
theorem arcsV_of {n : Int} : ∀ {l : List Arc}, (∀ x, x ∈ l → (0 ≤ x.f0 ∧ x.f0 < n) ∧ (0 ≤ x.f1 ∧ x.f1 < n) ∧ (0 ≤ x.f2 ∧ x.f2 ≤ 1048576) ∧ (0 ≤ x.f3 ∧ x.f3 ≤ 1048576)) → arcsV n l = 0
 |[], _ => rfl
 |y :: l, h => by
  have h1 := h y (List.mem_cons_self ..)
  have c : arcV n y.f0 y.f1 y.f2 y.f3 = 0 := by
   unfold arcV
   rw [if_neg (by omega), if_neg (by omega), if_neg (by omega)]
  rw [arcsV_cons, if_pos c]
  exact arcsV_of (fun x hx => h x (List.mem_cons_of_mem _ hx))
theorem ask_of {n h s t : Nat} {l : List Arc} (o : TfOk n h s t l) (h50 : n ≤ 50) (h200 : l.length ≤ 200) : askT n l s t h = 0 := by
 have h1 : netV n l = 0 := by
  have := o.net.n0
  unfold netV
  rw [if_neg (by omega), if_neg (by omega), if_neg (by omega)]
  refine arcsV_of (fun x hx => ?_)
  obtain ⟨i, hi, rfl⟩ := List.getElem_of_mem hx
  have e : arcAt l i = l[i] := by
   unfold arcAt rd_T57
   rw [Int.toNat_natCast, List.getD_eq_getElem?_getD, List.getElem?_eq_getElem hi]
   rfl
  have g1 := o.net.ends i hi
  have g2 := o.net.time i hi
  have g3 := o.caps i hi
  rw [e] at g1 g2 g3
  exact ⟨g1.1, g1.2, g3, g2⟩
 have h2 : endsV n l s t = 0 := by
  have := o.hs
  have := o.ht
  have := o.st
  unfold endsV
  rw [if_pos h1, if_pos (by omega)]
 have h3 : spanV h = 0 := by
  have := o.hh
  unfold spanV
  rw [if_neg (by omega), if_neg (by omega)]
 have h4 : askS n l s t h = 0 := by
  unfold askS
  rw [if_pos h2, h3]
 have h5 : fitsV n l h = true := by
  have a1 : (((h + 1) * n : Nat) : Int) ≤ 4000 := by have := o.net.hn; omega
  have a2 : (((h + 1) * l.length : Nat) : Int) ≤ 10000 := by have := o.net.hl; omega
  unfold fitsV
  rw [Bool.and_eq_true, decide_eq_true_eq, decide_eq_true_eq]
  rw [Int.natCast_mul] at a1 a2
  exact ⟨a1, a2⟩
 unfold askT
 rw [if_pos h4, if_pos h5]
structure PlanM (n h s t : Nat) (b : Bool) (l : List Arc) (m : List Mv) : Prop where
 mg : MgOf m m
 ok : ∀ x, x ∈ m → moveOk l h s t x = true
 st : ∀ v z : Nat, v < n → z ≤ h → ¬ BadT h b s t l m v z
 val : stockV l m t h = tfV n h s t b l
 f2 : ∀ x, x ∈ m → -9223372036854775808 ≤ x.f2 ∧ x.f2 ≤ 9223372036854775807
 len : m.length ≤ 100000
def TopEx (n h s t : Nat) (b : Bool) (l : List Arc) : Prop := ∃ (F : List Int) (S : Int → Bool), FlowOk (tfA n h s t b l) F ∧ Top (tfA n h s t b l).length (frOf (tfA n h s t b l)) (toOf (tfA n h s t b l)) ((h + 1) * n + 2) ((h + 1) * n : Nat) ((h + 1) * n + 1 : Nat) (capOf (tfA n h s t b l)) (dOf F) S
theorem planM_of {n h s t : Nat} {b : Bool} {l : List Arc} (o : TfOk n h s t l) {F : List Int} {S : Int → Bool} {m : List Mv} (hF : FlowOk (tfA n h s t b l) F) (hT : Top (tfA n h s t b l).length (frOf (tfA n h s t b l)) (toOf (tfA n h s t b l)) ((h + 1) * n + 2) ((h + 1) * n : Nat) ((h + 1) * n + 1 : Nat) (capOf (tfA n h s t b l)) (dOf F) S) (hm : MgOf (toldL F (tfB n h s t b l).mv) m) (hl : m.length ≤ 100000) : PlanM n h s t b l m := by
 have hB : Bal (tfA n h s t b l).length (frOf (tfA n h s t b l)) (toOf (tfA n h s t b l)) ((h + 1) * n + 2) ((h + 1) * n : Nat) (((h + 1) * n : Nat) + 1) (dOf F) := hT.2.1
 refine ⟨hm.self, tfMok o hF hm, tfPlan o hF hB hm, ?_, fun x hx => ?_, hl⟩
 ·rw [tfAmount o hF hB hm]
  unfold tfV
  exact (mfVal_eq (o.arcs b) (by omega) hF hT).symm
 ·obtain ⟨h1, h2, -⟩ := told_f2 (tfF_bd o hF) ((told_perm (tfEnt o b).1 (tfF_bd o hF) hm).mem_iff.1 hx)
  omega
theorem told_blk (w0 : World) (gg : Nat) (N n : Int) (v : Value) (arcs : List Arc) (B : MB) (D : MD) (mv : List Ent) (bf k cf : Nat) (f : List Int) (w : World) (h : GrI w0 gg N n v arcs B D w) (hD : D.m = putAll mv) (hm : EntOk mv) (hlm : mv.length ≤ 100000) (hf : IntBlk w bf f) (hk : f.length = k) (hkl : k ≤ 1000000) (hi : ∀ x, x ∈ mv → x.2.2 < f.length) (hb : ∀ x, x ∈ f → x ≤ 9223372036854775807) :
  Calls Tryz.prog 33 #[.pointer (some ⟨gg, 0, none⟩), .slice (some ⟨bf, 0, none⟩) k cf] w (ToldAt f mv w) := by
 subst hk
 exact told_walk w0 gg N n v arcs B D mv (some ⟨bf, 0, none⟩) cf f w h hD hm hlm (hf.reads (by omega)) hi hb
section
variable {n h s t : Nat} {b : Bool} {A : Option Addr} {c : Nat} {l : List Arc} {w : World}
def MaxAt (n h s t : Nat) (b : Bool) (l : List Arc) (w : World) (e : Ending) (w' : World) : Prop :=
 Below w.heap.size w w' ∧ ∃ (m : List Mv) (A1 : Option Addr) (c1 : Nat), e = .returned (.tuple #[.slice A1 m.length c1, .int .i64 (tfV n h s t b l), .int .i64 0]) ∧ Kd.R kMv 78 w' w.heap.size (fun _ => True) (.slice A1 m.length c1) m ∧ PlanM n h s t b l m ∧ TopEx n h s t b l
set_option maxHeartbeats 8000000 in
set_option maxRecDepth 100000 in
theorem max_walk (o : TfOk n h s t l) (ha : askT n l s t h = 0) (hlc : l.length ≤ c) (hr : Kd.C kArc w A l.length l) :
  Calls Tryz.prog 17 #[.agg #[.int .i64 n, .bool b, .slice A l.length c], .int .i64 s, .int .i64 t, .int .i64 h] w (MaxAt n h s t b l w) := by
 have HO := zh o
 have HR := zh hr
 have HA := zh ha
 have HLC := zh hlc
 obtain ⟨E, hE⟩ : ∃ E, E = tfA n h s t b l := ⟨_, rfl⟩
 have HE := zh hE
 have HEL : Hid (E.length ≤ 1000000) := zh (by
  have h1 := o.len b ((h + 1) * n) ((h + 1) * n + 1)
  have h2 := o.hh
  rw [hE]
  show (tfArcs l b n h s t ((h + 1) * n) ((h + 1) * n + 1)).length ≤ _
  omega)
 have hu := Tryz.underlying27
 have hu3 := Tryz.underlying68
 clear o hr ha hlc hE
 obtain ⟨V, hV⟩ : ∃ V, V = tfV n h s t b l := ⟨_, rfl⟩
 have HVE := zh hV
 clear hV
 obtain ⟨w1, hw1⟩ : ∃ w1, w1 = w.alloc (.cells #[.int .i64 n, .bool b, .slice A l.length c] 27) := ⟨_, rfl⟩
 have HX : Hid (w1.heap[w.heap.size]? = some (.cells #[.int .i64 n, .bool b, .slice A l.length c] 27 (0, 0)) ∧ Below w.heap.size w w1) := zh (by rw [hw1]; exact ⟨heap_alloc_new _ _, below_alloc (Below.refl _ _) _⟩)
 go_enter Tryz.func17, Tryz.ntmps17
 go_wp2_with (first
  |(go_at_call 27; rw [← hw1]; go_loud ((with_reducible refine (ask_walk (b := b) (c := c) ?s1 HLC.out).mono ?_); (case s1 => exact Kd.C_below HR.out HX.out.2); rintro e w9 ⟨rfl, hb⟩; rw [HA.out]; have HN9 := zh (And.intro (blk_below HX.out.1 hb) (below_step HX.out.2 hb)); clear HX hb; have HX := HN9; clear HN9; have x0 : w9.cell? ⟨w.heap.size, 0, none⟩ = some (.int .i64 n) := (blk_cell HX.out.1 0).trans rfl; have x1 : w9.cell? ⟨w.heap.size, 1, none⟩ = some (.bool b) := (blk_cell HX.out.1 1).trans rfl; have x2 : w9.cell? ⟨w.heap.size, 2, none⟩ = some (.slice A l.length c) := (blk_cell HX.out.1 2).trans rfl))
  |(go_at_call 28; go_loud ((with_reducible refine (tof_walk E HE.out rfl rfl rfl HO.out HLC.out ?s1).mono ?_); (case s1 => exact Kd.C_below HR.out HX.out.2); rintro e w3 ⟨w0, gg, v, B, D, bf, f, S, rfl, k1, k2, k3, k4, k5, k6⟩; have hv9 : leaves E.length (frOf E) (toOf E) (dOf f) (((h + 1) * n : Nat) : Int) = V := (by rw [HVE.out]; have q4 := k4; have q5 := k5; rw [HE.out] at q4 q5 ⊢; exact (mfVal_eq (HO.out.arcs b) (by omega) q4 q5).symm); rw [hv9]; clear hv9; have HB3 := zh (below_step HX.out.2 k6); have K1 := zh (And.intro k1 k2); have K3 := zh k3; have K4 := zh (And.intro k4 k5); clear k1 k2 k3 k4 k5 k6 x0 x1 x2)))
 have HT : Hid (TopEx n h s t b l) := zh (by
  have := K4.out
  rw [HE.out] at this
  exact ⟨f, S, this.1, this.2⟩)
 obtain ⟨w4, hw4⟩ : ∃ w4, w4 = w3.alloc (.cells #[.pointer (some ⟨gg, 0, none⟩), .slice (some ⟨bf, 0, none⟩) E.length E.length, .int .i64 V] 68) := ⟨_, rfl⟩
 have HX4 : Hid (w4.heap[w3.heap.size]? = some (.cells #[.pointer (some ⟨gg, 0, none⟩), .slice (some ⟨bf, 0, none⟩) E.length E.length, .int .i64 V] 68 (0, 0)) ∧ Below w3.heap.size w3 w4) := zh (by rw [hw4]; exact ⟨heap_alloc_new _ _, below_alloc (Below.refl _ _) _⟩)
 rw [← hw4]
 have HB4 := zh (below_step HB3.out HX4.out.2)
 have HG4 := zh (K1.out.1.below HX4.out.2)
 have HF4 : Hid (IntBlk w4 bf f) := zh (blk_below K3.out HX4.out.2)
 have y0 : w4.cell? ⟨w3.heap.size, 0, none⟩ = some (.pointer (some ⟨gg, 0, none⟩)) := (blk_cell HX4.out.1 0).trans rfl
 have y1 : w4.cell? ⟨w3.heap.size, 1, none⟩ = some (.slice (some ⟨bf, 0, none⟩) E.length E.length) := (blk_cell HX4.out.1 1).trans rfl
 have y2 : w4.cell? ⟨w3.heap.size, 2, none⟩ = some (.int .i64 V) := (blk_cell HX4.out.1 2).trans rfl
 clear hw4
 go_region_held3 (fun w' => w'.cell? ⟨w3.heap.size, 0, none⟩ = some (.pointer (some ⟨gg, 0, none⟩)) ∧ w'.cell? ⟨w3.heap.size, 1, none⟩ = some (.slice (some ⟨bf, 0, none⟩) E.length E.length) ∧ w'.cell? ⟨w3.heap.size, 2, none⟩ = some (.int .i64 V)) (first | exact HS9.out | go_keep) ((go_at_call 33; go_loud ((with_reducible refine (told_blk w0 gg (((h + 1) * n + 2 : Nat) : Int) (n : Int) v E B D (tfB n h s t b l).mv bf E.length _ f _ ?t1 K1.out.2 (tfEnt HO.out b).1 (tfEnt HO.out b).2 ?t2 K4.out.1.len HEL.out ?t4 ?t5).mono ?_); (case t1 => exact HG4.out.below zD); (case t2 => exact blk_below HF4.out zD); (case t4 => have h9 := K4.out.1; rw [HE.out] at h9; exact tfF_in HO.out h9); (case t5 => have h9 := K4.out.1; rw [HE.out] at h9; exact tfF_bd HO.out h9); rintro e w9 ⟨hb, m, A1, c1, rfl, hR2, hmg, hml⟩; have hb9 : Below w4.heap.size w4 w9 := below_step zD hb; have HS9 : Hid (w9.cell? ⟨w3.heap.size, 0, none⟩ = some (.pointer (some ⟨gg, 0, none⟩)) ∧ w9.cell? ⟨w3.heap.size, 1, none⟩ = some (.slice (some ⟨bf, 0, none⟩) E.length E.length) ∧ w9.cell? ⟨w3.heap.size, 2, none⟩ = some (.int .i64 V)) := zh ⟨pw_cell_below hb9 y0, pw_cell_below hb9 y1, pw_cell_below hb9 y2⟩; have HB9 := zh (below_step HB4.out hb9); have HR9 := zh (Kd.R_lower (base' := w.heap.size) hR2 (Nat.le_trans HB4.out.size (show w4.heap.size ≤ _ from Nat.le_refl _))); have HMG := zh (And.intro hmg hml); clear hb hb9 hR2 hmg hml)))
 all_goals
  go_wp2
  go_ret3
  refine ⟨?_, m, A1, c1, by rw [HVE.out]; rfl, ?_, ?_, HT.out⟩
  ·first
    |exact HB9.out
    |exact pw_below_drewN HB9.out _
  ·first
    |exact HR9.out
    |exact Kd.R_drew HR9.out
  ·have h9 := K4.out
   rw [HE.out] at h9
   exact planM_of HO.out h9.1 h9.2 HMG.out.1 (Nat.le_trans HMG.out.2 (tfEnt HO.out b).2)
theorem most_walk (o : TfOk n h s t l) (ha : askT n l s t h = 0) (hlc : l.length ≤ c) (hr : Kd.C kArc w A l.length l) :
  Calls Tryz.prog 10 #[.agg #[.int .i64 n, .bool b, .slice A l.length c], .int .i64 s, .int .i64 t, .int .i64 h] w fun e w' => e = .returned (.tuple #[.int .i64 (tfV n h s t b l), .int .i64 0]) ∧ Below w.heap.size w w' ∧ TopEx n h s t b l := by
 have HO := zh o
 have HR := zh hr
 have HA := zh ha
 have HLC := zh hlc
 have hu := Tryz.underlying27
 clear o hr ha hlc
 obtain ⟨V, hV⟩ : ∃ V, V = tfV n h s t b l := ⟨_, rfl⟩
 rw [← hV]
 have HVE := zh hV
 clear hV
 obtain ⟨w1, hw1⟩ : ∃ w1, w1 = w.alloc (.cells #[.int .i64 n, .bool b, .slice A l.length c] 27) := ⟨_, rfl⟩
 have HX : Hid (w1.heap[w.heap.size]? = some (.cells #[.int .i64 n, .bool b, .slice A l.length c] 27 (0, 0)) ∧ Below w.heap.size w w1) := zh (by rw [hw1]; exact ⟨heap_alloc_new _ _, below_alloc (Below.refl _ _) _⟩)
 go_enter Tryz.func10, Tryz.ntmps10
 go_wp2_with (go_at_call 17; rw [← hw1]; go_loud ((with_reducible refine (max_walk HO.out HA.out HLC.out ?s1).mono ?_); (case s1 => exact Kd.C_below HR.out HX.out.2); rintro e w3 ⟨hb, m, A1, c1, rfl, hR, hP, hT⟩; rw [← HVE.out]; have HB3 := zh (And.intro (below_step HX.out.2 hb) hT); clear hb hR hP hT))
 go_ret2
 exact ⟨rfl, HB3.out.1, HB3.out.2⟩
def TCutAt (X : List Slot) (r : Int) (w : World) (e : Ending) (w' : World) : Prop := ∃ v : Value, e = .returned (.tuple #[v, .int .i64 r]) ∧ Kd.R kSlot 65 w' w.heap.size (fun _ => True) v X ∧ Below w.heap.size w w'
set_option maxHeartbeats 8000000 in
set_option maxRecDepth 100000 in
theorem cut_walk (o : TfOk n h s t l) (ha : askT n l s t h = 0) (hlc : l.length ≤ c) (hr : Kd.C kArc w A l.length l) :
  Calls Tryz.prog 13 #[.agg #[.int .i64 n, .bool b, .slice A l.length c], .int .i64 s, .int .i64 t, .int .i64 h] w (TCutAt (tfCut n h s t b l) 0 w) := by
 have HO := zh o
 have HR := zh hr
 have HA := zh ha
 have HLC := zh hlc
 obtain ⟨E, hE⟩ : ∃ E, E = tfA n h s t b l := ⟨_, rfl⟩
 have HNO : Hid (NetOk ((h + 1) * n + 2) E) := zh (by rw [hE]; exact tf_net o b)
 have HE := zh hE
 have hu := Tryz.underlying27
 have hu3 := Tryz.underlying68
 clear o hr ha hlc hE
 obtain ⟨w1, hw1⟩ : ∃ w1, w1 = w.alloc (.cells #[.int .i64 n, .bool b, .slice A l.length c] 27) := ⟨_, rfl⟩
 have HX : Hid (w1.heap[w.heap.size]? = some (.cells #[.int .i64 n, .bool b, .slice A l.length c] 27 (0, 0)) ∧ Below w.heap.size w w1) := zh (by rw [hw1]; exact ⟨heap_alloc_new _ _, below_alloc (Below.refl _ _) _⟩)
 go_enter Tryz.func13, Tryz.ntmps13
 go_wp2_with (go_at_call 27; rw [← hw1]; go_loud ((with_reducible refine (ask_walk (b := b) (c := c) ?s1 HLC.out).mono ?_); (case s1 => exact Kd.C_below HR.out HX.out.2); rintro e w9 ⟨rfl, hb⟩; rw [HA.out]; have HN9 := zh (And.intro (blk_below HX.out.1 hb) (below_step HX.out.2 hb)); clear HX hb; have HX := HN9; clear HN9; have x0 : w9.cell? ⟨w.heap.size, 0, none⟩ = some (.int .i64 n) := (blk_cell HX.out.1 0).trans rfl; have x1 : w9.cell? ⟨w.heap.size, 1, none⟩ = some (.bool b) := (blk_cell HX.out.1 1).trans rfl; have x2 : w9.cell? ⟨w.heap.size, 2, none⟩ = some (.slice A l.length c) := (blk_cell HX.out.1 2).trans rfl))
 generalize hw5 : w9 = w5 at *
 clear hw5
 go_region_held3 (fun w' => w'.cell? ⟨w.heap.size, 0, none⟩ = some (.int .i64 n) ∧ w'.cell? ⟨w.heap.size, 1, none⟩ = some (.bool b) ∧ w'.cell? ⟨w.heap.size, 2, none⟩ = some (.slice A l.length c)) (first | exact HS10.out | exact HS9.out | go_keep) ((first
  |(go_at_call 28; (with_reducible refine (tof_walk E HE.out rfl rfl rfl HO.out HLC.out ?s1).mono ?_); (case s1 => exact Kd.C_below HR.out (below_step HX.out.2 zD)); rintro e w3 ⟨w0, gg, v, B, D, bf, f, S, rfl, k1, k2, k3, k4, k5, k6⟩; have hb9 : Below w5.heap.size w5 w3 := below_step zD k6; have HS9 : Hid (w3.cell? ⟨w.heap.size, 0, none⟩ = some (.int .i64 n) ∧ w3.cell? ⟨w.heap.size, 1, none⟩ = some (.bool b) ∧ w3.cell? ⟨w.heap.size, 2, none⟩ = some (.slice A l.length c)) := zh ⟨pw_cell_below hb9 x0, pw_cell_below hb9 x1, pw_cell_below hb9 x2⟩; have HB3 := zh (below_step HX.out.2 hb9); have K1 := zh k1; have K3 := zh k3; have K4 := zh (And.intro k4 k5); clear k1 k2 k3 k4 k5 k6 hb9)
  |(go_at_call 29; (with_reducible refine (slots_walk w0 gg ((h + 1) * n) ((h + 1) * n + 1) ((h + 1) * n + 2) rfl rfl n v E B D bf f _ _ ?s1 HNO.out HO.out.net.n0 ?s2 K4.out.1).mono ?_); (case s1 => exact K1.out.below zD); (case s2 => exact blk_below K3.out zD); rintro e w10 ⟨v10, d, rows, rfl, m1, m2, m3, m4, m5⟩; have hb10 : Below w3.heap.size w3 w10 := below_step zD m5; have HB10 := zh (below_step HB3.out hb10); have HS10 : Hid (w10.cell? ⟨w.heap.size, 0, none⟩ = some (.int .i64 n) ∧ w10.cell? ⟨w.heap.size, 1, none⟩ = some (.bool b) ∧ w10.cell? ⟨w.heap.size, 2, none⟩ = some (.slice A l.length c)) := zh ⟨pw_cell_below hb10 HS9.out.1, pw_cell_below hb10 HS9.out.2.1, pw_cell_below hb10 HS9.out.2.2⟩; have HM1 := zh (Kd.R_lower (base' := w.heap.size) m1 (Nat.le_trans HB3.out.size (show w3.heap.size ≤ _ from Nat.le_refl _))); have HCV : Hid (slotsOf n d ((h + 1) * n) = tfCut n h s t b l) := zh (by have h9 := (cutOf_eq (n := n) HNO.out (by omega) (by omega) ⟨f, S, rows, K4.out.1, K4.out.2, m3, m4⟩).symm; rw [h9, HE.out]; rfl); clear m1 m2 m3 m4 m5 hb10)))
 all_goals
  go_wp2
  go_ret2
  refine ⟨_, rfl, ?_, ?_⟩
  ·have h9 := HM1.out
   rw [HCV.out] at h9
   first
    |exact h9
    |exact Kd.R_drew h9
  ·first
    |exact HB10.out
    |exact pw_below_drewN HB10.out _
end
section
variable {n s t h : Int} {b : Bool} {A : Option Addr} {c : Nat} {l : List Arc} {w : World} {r : Int}
def Bad3 (r : Int) (w : World) (e : Ending) (w' : World) : Prop := e = .returned (.tuple #[.slice none 0 0, .int .i64 0, .int .i64 r]) ∧ Below w.heap.size w w'
set_option maxHeartbeats 4000000 in
theorem max_bad (ha : askT n l s t h = r) (h0 : r ≠ 0) (hlc : l.length ≤ c) (hr : Kd.C kArc w A l.length l) :
  Calls Tryz.prog 17 #[.agg #[.int .i64 n, .bool b, .slice A l.length c], .int .i64 s, .int .i64 t, .int .i64 h] w (Bad3 r w) := by
 have HR := zh hr
 have HA := zh ha
 have HLC := zh hlc
 have hu := Tryz.underlying27
 have e1 : (r != 0) = true := bne_iff_ne.2 h0
 have e2 : (r == 0) = false := beq_eq_false_iff_ne.2 h0
 have H0 := zh h0
 clear hr ha hlc h0
 obtain ⟨w1, hw1⟩ : ∃ w1, w1 = w.alloc (.cells #[.int .i64 n, .bool b, .slice A l.length c] 27) := ⟨_, rfl⟩
 have HX : Hid (w1.heap[w.heap.size]? = some (.cells #[.int .i64 n, .bool b, .slice A l.length c] 27 (0, 0)) ∧ Below w.heap.size w w1) := zh (by rw [hw1]; exact ⟨heap_alloc_new _ _, below_alloc (Below.refl _ _) _⟩)
 go_enter Tryz.func17, Tryz.ntmps17
 go_wp2_with (go_at_call 27; rw [← hw1]; go_loud ((with_reducible refine (ask_walk (b := b) (c := c) ?s1 HLC.out).mono ?_); (case s1 => exact Kd.C_below HR.out HX.out.2); rintro e w9 ⟨rfl, hb⟩; rw [HA.out]; have HN9 := zh (And.intro (blk_below HX.out.1 hb) (below_step HX.out.2 hb)); clear HX hb; have HX := HN9; clear HN9; have x0 : w9.cell? ⟨w.heap.size, 0, none⟩ = some (.int .i64 n) := (blk_cell HX.out.1 0).trans rfl; have x1 : w9.cell? ⟨w.heap.size, 1, none⟩ = some (.bool b) := (blk_cell HX.out.1 1).trans rfl; have x2 : w9.cell? ⟨w.heap.size, 2, none⟩ = some (.slice A l.length c) := (blk_cell HX.out.1 2).trans rfl))
 go_ret3
 exact ⟨rfl, HX.out.2⟩
end
def U8 (x : Int) : Prop := 0 ≤ x ∧ x ≤ 255
structure NetSm (m : Nat) (n : Int) (l : List Arc) : Prop where
 n2 : 2 ≤ n
 n5 : n ≤ 5
 ll : l.length ≤ m
 arc : ∀ x, x ∈ l → (0 ≤ x.f0 ∧ x.f0 < n) ∧ (0 ≤ x.f1 ∧ x.f1 < n) ∧ (0 ≤ x.f2 ∧ x.f2 ≤ 5) ∧ 0 ≤ x.f3 ∧ x.f3 ≤ 3
def arcCells (l : List Arc) : List Value := l.flatMap fun x => [.int .i64 x.f0, .int .i64 x.f1, .int .i64 x.f2, .int .i64 x.f3]
theorem arcCells_get : ∀ (l : List Arc) (j : Nat) (x : Arc), l[j]? = some x → ∀ (i : Nat) (u : Value), ([.int .i64 x.f0, .int .i64 x.f1, .int .i64 x.f2, .int .i64 x.f3] : List Value)[i]? = some u → (arcCells l)[j * 4 + i]? = some u
 |[], j, x, h, _, _, _ => by simp at h
 |y :: l, 0, x, h, i, u, hu => by
  have e : y = x := by simpa using h
  subst e
  have hi : i < 4 := (List.getElem?_eq_some_iff.1 hu).1
  show ([Value.int .i64 y.f0, .int .i64 y.f1, .int .i64 y.f2, .int .i64 y.f3] ++ arcCells l)[0 * 4 + i]? = some u
  rw [Nat.zero_mul, Nat.zero_add, List.getElem?_append_left hi]
  exact hu
 |y :: l, j + 1, x, h, i, u, hu => by
  have h2 : l[j]? = some x := by simpa using h
  show ([Value.int .i64 y.f0, .int .i64 y.f1, .int .i64 y.f2, .int .i64 y.f3] ++ arcCells l)[(j + 1) * 4 + i]? = some u
  rw [show (j + 1) * 4 + i = 4 + (j * 4 + i) by omega, List.getElem?_append_right (by simp)]
  simp only [List.length_cons, List.length_nil, Nat.zero_add, Nat.reduceAdd, Nat.add_sub_cancel_left]
  exact arcCells_get l j x h2 i u hu
abbrev lineL : List Arc := [⟨0, 1, 2, 1⟩, ⟨1, 2, 2, 1⟩]
theorem arcs_blk {W : World} {g : Nat} {l : List Arc} (hl : l.length ≤ 100000) (h : W.heap[g]? = some (.cells (arcCells l).toArray 57 (0, 0))) : Kd.C kArc W (some ⟨g, 0, none⟩) l.length l := by
 refine ⟨rfl, by omega, fun _ => ⟨_, rfl, fun j p hj => ⟨[.int .i64 p.f0, .int .i64 p.f1, .int .i64 p.f2, .int .i64 p.f3], rfl, k57_mk _ p, fun i u hu => ?_⟩⟩⟩
 have h1 := arcCells_get l j p hj i u hu
 have h2 : W.cell? ⟨g, j * 4 + i, none⟩ = some u := by
  refine (blk_cell h (j * 4 + i)).trans ?_
  rw [List.getElem?_toArray]
  exact h1
 have h3 : (Addr.add ⟨g, 0, none⟩ (j * kArc.sz + i)) = ⟨g, j * 4 + i, none⟩ := by
  have : kArc.sz = 4 := rfl
  rw [this]
  unfold Addr.add
  split
  ·rename_i h4
   rw [h4]
  ·simp
 rw [h3]
 exact h2
set_option maxHeartbeats 4000000 in
set_option maxRecDepth 100000 in
theorem line_walk (b : Bool) (w : World) : Calls Tryz.prog 26 #[.bool b] w fun e w' => ∃ g, e = .returned (.agg #[.int .i64 3, .bool b, .slice (some ⟨g, 0, none⟩) 2 2]) ∧ Kd.C kArc w' (some ⟨g, 0, none⟩) 2 lineL ∧ Below w.heap.size w w' := by
 have hu := Tryz.underlying27
 go_enter Tryz.func26, Tryz.ntmps26
 go_wp2
 refine bodyPost_ret (results_cell_row rfl _ _ w.heap.size 27 #[.int .i64 3, .bool b, .slice (some ⟨w.heap.size + 1, 0, none⟩) 2 2] (0, 0) _ rfl (blk_alloc (heap_alloc_new w _) _) hu rfl (by kernel_rfl)) rfl ?_
 exact ⟨_, rfl, arcs_blk (l := lineL) (by decide) (alloc_at (by simp)), below_alloc (below_alloc (Below.refl _ _) _) _⟩
def topB (E : List Arc) (M : Nat) (N N1 : Int) (f : List Int) (S : Int → Bool) : Bool :=
 decide (f.length = E.length) && (decide (∀ i, i < E.length → 0 ≤ dOf f i ∧ dOf f i ≤ capOf E i) && (decide (∀ v, v < M → ((v : Int) = N ∨ (v : Int) = N1 ∨ leaves E.length (frOf E) (toOf E) (dOf f) v = 0)) && (decide (∀ i, i < E.length → (S (frOf E i) = false ∨ capOf E i ≤ dOf f i ∨ S (toOf E i) = true) ∧ (S (toOf E i) = false ∨ dOf f i ≤ 0 ∨ S (frOf E i) = true)) && (S N && !S N1))))
theorem top_dec {E : List Arc} {M : Nat} {N N1 : Int} {f : List Int} {S : Int → Bool} (h : topB E M N N1 f S = true) : FlowOk E f ∧ Top E.length (frOf E) (toOf E) M N N1 (capOf E) (dOf f) S := by
 unfold topB at h
 simp only [Bool.and_eq_true, decide_eq_true_eq, Bool.not_eq_true'] at h
 obtain ⟨h1, h2, h3, h4, h5, h6⟩ := h
 refine ⟨⟨h1, fun i i0 i1 => ?_⟩, fun i hi => h2 i hi, fun v hv c1 c2 => ?_, fun i hi => ?_, h5, h6⟩
 ·obtain ⟨k, rfl⟩ := Int.eq_ofNat_of_zero_le i0
  exact h2 k (by omega)
 ·rcases h3 v hv with e | e | e
  ·exact absurd e c1
  ·exact absurd e c2
  ·exact e
 ·obtain ⟨a, c⟩ := h4 i hi
  refine ⟨fun g1 g2 => ?_, fun g1 g2 => ?_⟩
  ·rcases a with e | e | e
   ·rw [e] at g1; cases g1
   ·omega
   ·exact e
  ·rcases c with e | e | e
   ·rw [e] at g1; cases g1
   ·omega
   ·exact e
theorem line_sm : NetSm 6 (3 : Nat) lineL where
 n2 := by decide
 n5 := by decide
 ll := by decide
 arc x hx := by
  simp only [lineL, List.mem_cons, List.not_mem_nil, or_false] at hx
  rcases hx with rfl | rfl <;> decide
theorem tf_sm {m n h s t : Nat} {l : List Arc} (hm : m ≤ 40) (hN : NetSm m n l) (hs : s < n) (ht : t < n) (hst : s ≠ t) (hh : h ≤ 16) : TfOk n h s t l ∧ askT n l s t h = 0 := by
 have n2 := hN.n2
 have n5 := hN.n5
 have ll := hN.ll
 have ha : ∀ i : Nat, i < l.length → _ := fun i hi => hN.arc _ (mem_arcAt hi)
 have o : TfOk n h s t l := ⟨⟨by omega, by omega, by omega, Nat.le_trans (Nat.mul_le_mul (show h + 1 ≤ 17 by omega) (show n ≤ 5 by omega)) (by decide), Nat.le_trans (Nat.mul_le_mul (show h + 1 ≤ 17 by omega) (show l.length ≤ 40 by omega)) (by decide), fun i hi => ⟨(ha i hi).1, (ha i hi).2.1⟩, fun i hi => by have := ha i hi; omega⟩, fun i hi => by have := ha i hi; omega, hs, ht, hst, by omega⟩
 exact ⟨o, ask_of o (by omega) (by omega)⟩
theorem line_five : tfV 3 5 0 2 false lineL = 8 := by
 have o := (tf_sm (h := 5) (s := 0) (t := 2) (by decide) line_sm (by decide) (by decide) (by decide) (by decide)).1
 have h := top_dec (E := tfArcs lineL false 3 5 0 2 ((5 + 1) * 3) ((5 + 1) * 3 + 1)) (M := (5 + 1) * 3 + 2) (N := ((5 + 1) * 3 : Nat)) (N1 := ((5 + 1) * 3 + 1 : Nat)) (f := [2, 0, 2, 2, 2, 2, 2, 2, 0, 2, 2, 2, 2, 2, 0, 0, 0, 0, 2, 2, 2, 2]) (S := fun v => decide (v ∈ ([18, 0, 3, 6, 9, 12, 15, 16] : List Int))) (by decide +kernel)
 unfold tfV
 rw [mfVal_eq (o.arcs false) (by decide) h.1 h.2]
 decide +kernel
theorem line_one : tfCut 3 1 0 2 true lineL = [⟨0, 0⟩, ⟨0, 1⟩, ⟨1, 1⟩] := by
 have o := (tf_sm (h := 1) (s := 0) (t := 2) (by decide) line_sm (by decide) (by decide) (by decide) (by decide)).1
 have h := top_dec (E := tfArcs lineL true 3 1 0 2 ((1 + 1) * 3) ((1 + 1) * 3 + 1)) (M := (1 + 1) * 3 + 2) (N := ((1 + 1) * 3 : Nat)) (N1 := ((1 + 1) * 3 + 1 : Nat)) (f := [0, 0, 0, 0, 0, 0, 0]) (S := fun v => decide (v ∈ ([6, 0, 3, 4] : List Int))) (by decide +kernel)
 have key : ∀ u : Nat, u < (1 + 1) * 3 → (InAll (tfArcs lineL true 3 1 0 2 ((1 + 1) * 3) ((1 + 1) * 3 + 1)) ((1 + 1) * 3 + 2) ((1 + 1) * 3) ((1 + 1) * 3 + 1) u ↔ u = 0 ∨ u = 3 ∨ u = 4) := fun u hu => by
  refine ⟨fun hA => ?_, fun hu2 f2 S2 b1 b2 => ?_⟩
  ·have hx := hA _ _ h.1 h.2
   have e : u = 0 ∨ u = 1 ∨ u = 2 ∨ u = 3 ∨ u = 4 ∨ u = 5 := by omega
   rcases e with rfl | rfl | rfl | rfl | rfl | rfl
   ·exact .inl rfl
   ·exact absurd hx (by decide)
   ·exact absurd hx (by decide)
   ·exact .inr (.inl rfl)
   ·exact .inr (.inr rfl)
   ·exact absurd hx (by decide)
  ·have hc := top_closed (ends_arcs (o.arcs true)) ⟨by decide, by decide⟩ h.2 b2
   have h6 : S2 6 = true := b2.2.2.2.1
   have h0 : S2 0 = true := (hc 3 (by decide +kernel)).1 h6 (by decide +kernel)
   have h3 : S2 3 = true := (hc 4 (by decide +kernel)).1 h6 (by decide +kernel)
   have h4 : S2 4 = true := (hc 0 (by decide +kernel)).1 h0 (by decide +kernel)
   rcases hu2 with rfl | rfl | rfl
   ·exact h0
   ·exact h3
   ·exact h4
 unfold tfCut cutOf
 rw [slotsOf_same 3 (d2 := [0, -1, -1, 0, 0, -1]) ((1 + 1) * 3) (fun u hu => by
  rw [cutD_iff hu, key u hu]
  have e : u = 0 ∨ u = 1 ∨ u = 2 ∨ u = 3 ∨ u = 4 ∨ u = 5 := by omega
  rcases e with rfl | rfl | rfl | rfl | rfl | rfl <;> decide)]
 rfl
theorem line_ask (h : Int) (h0 : h < 0) : askT 3 lineL 0 2 h = 1 := by
 have h1 : endsV 3 lineL 0 2 = 0 := by decide +kernel
 have h2 : spanV h = 1 := by
  unfold spanV
  rw [if_pos h0]
 unfold askT askS
 rw [if_pos h1, h2]
 rfl
end Go.Proofs.YtdfagllncopmjaaGreat.H
end
section
namespace Go.Proofs.YtdfagllncopmjaaGreat.H
open Go Go.RowKit Go.Proofs.YtdfagllncopmjaaGreat.PrintC Go.Proofs.YtdfagllncopmjaaGreatW.PrintWords Go.Proofs.YtdfagllncopmjaaGreatW.PrintLast Go.Proofs.YtdfagllncopmjaaGreatW.PrintMore Go.Proofs.YtdfagllncopmjaaGreat.Flow
set_option linter.unusedVariables false
def stAt (B : List Stp) (j : Nat) : Stp := B.getD j ⟨0, false⟩
structure Sg (l : List Arc) (L : List Stp) (M : Nat) (s : Int) (N : List Int) (B : List Stp) : Prop where
 len : B.length = N.length
 pos : 0 < N.length
 hd : rd N 0 = s
 nd : N.Nodup
 rng : ∀ v, v ∈ N → 0 ≤ v ∧ v < M
 tree : ∃ d : Int → Int, d s = 0 ∧ ∀ j : Nat, 0 < j → j < N.length → stAt B j ∈ L ∧ tgt l (stAt B j) = rd N (j : Int) ∧ ∃ i : Nat, i < j ∧ src l (stAt B j) = rd N (i : Int) ∧ d (rd N (j : Int)) = d (rd N (i : Int)) + 1
theorem rd_get {N : List Int} {j : Nat} (h : j < N.length) : rd N (j : Int) = N[j] := by
 unfold rd
 rw [Int.toNat_natCast, List.getD_eq_getElem?_getD, List.getElem?_eq_getElem h]
 rfl
theorem mem_rd {N : List Int} {v : Int} (h : v ∈ N) : ∃ j : Nat, j < N.length ∧ rd N (j : Int) = v := by
 obtain ⟨j, hj, e⟩ := List.mem_iff_getElem.1 h
 exact ⟨j, hj, by rw [rd_get hj, e]⟩
theorem rd_app {N M : List Int} {j : Nat} (h : j < N.length) : rd (N ++ M) (j : Int) = rd N (j : Int) := by
 rw [rd_get h, rd_get (by rw [List.length_append]; omega), List.getElem_append_left h]
theorem rd_last (N : List Int) (v : Int) : rd (N ++ [v]) (N.length : Int) = v := by
 rw [rd_get (by rw [List.length_append]; exact Nat.lt_succ_self _), List.getElem_append_right (Nat.le_refl _)]
 simp
theorem stAt_app {B C : List Stp} {j : Nat} (h : j < B.length) : stAt (B ++ C) j = stAt B j := by
 unfold stAt
 rw [List.getD_eq_getElem?_getD, List.getD_eq_getElem?_getD, List.getElem?_append_left h]
theorem stAt_last (B : List Stp) (x : Stp) : stAt (B ++ [x]) B.length = x := by
 unfold stAt
 simp
theorem nodup_int {M : Nat} {N : List Int} (h : N.Nodup) (hr : ∀ v, v ∈ N → 0 ≤ v ∧ v < M) : N.length ≤ M := by
 have h1 : (N.map Int.toNat).Nodup := by
  refine List.pairwise_map.2 (List.Pairwise.imp_of_mem (R := fun a b => a ≠ b) (fun {a b} ha hb hab e => hab ?_) h)
  have := hr a ha
  have := hr b hb
  omega
 have h2 := Flow.nodup_le h1 (n := M) (fun a ha => by
  obtain ⟨v, hv, rfl⟩ := List.mem_map.1 ha
  have := hr v hv
  omega)
 rwa [List.length_map] at h2
section
variable {l : List Arc} {L : List Stp} {M : Nat} {s : Int} {N : List Int} {B : List Stp}
theorem Sg.le (h : Sg l L M s N B) : N.length ≤ M := nodup_int h.nd h.rng
theorem Sg.start (h0 : 0 ≤ s) (h1 : s < M) (x : Stp) : Sg l L M s [s] [x] where
 len := rfl
 pos := Nat.one_pos
 hd := rfl
 nd := by simp
 rng := fun v hv => by
  obtain rfl := List.mem_singleton.1 hv
  exact ⟨h0, h1⟩
 tree := ⟨fun _ => 0, rfl, fun j h2 h3 => by
  have : j < 1 := h3
  omega⟩
theorem Sg.snoc (h : Sg l L M s N B) {x : Stp} (hx : x ∈ L) {i : Nat} (hi : i < N.length) (hs : src l x = rd N (i : Int)) (ht : ∀ j : Nat, j < N.length → rd N (j : Int) ≠ tgt l x) (hr : 0 ≤ tgt l x ∧ tgt l x < M) : Sg l L M s (N ++ [tgt l x]) (B ++ [x]) where
 len := by rw [List.length_append, List.length_append, h.len]; rfl
 pos := by rw [List.length_append]; exact Nat.lt_of_lt_of_le h.pos (Nat.le_add_right _ _)
 hd := (rd_app (j := 0) h.pos).trans h.hd
 nd := by
  refine List.nodup_append.2 ⟨h.nd, by simp, fun a ha b hb e => ?_⟩
  obtain ⟨j, hj, e2⟩ := mem_rd ha
  obtain rfl := List.mem_singleton.1 hb
  exact ht j hj (e2.trans e)
 rng := fun v hv => by
  rcases List.mem_append.1 hv with hv | hv
  ·exact h.rng v hv
  ·obtain rfl := List.mem_singleton.1 hv
   exact hr
 tree := by
  obtain ⟨d, d0, hd⟩ := h.tree
  have hst : s ≠ tgt l x := fun e => ht 0 h.pos (h.hd.trans e)
  obtain ⟨D, hD⟩ : ∃ D : Int → Int, ∀ v, D v = if v = tgt l x then d (rd N (i : Int)) + 1 else d v := ⟨_, fun _ => rfl⟩
  refine ⟨D, by rw [hD, if_neg hst]; exact d0, fun j h0 h1 => ?_⟩
  rw [List.length_append] at h1
  by_cases hj : j < N.length
  ·obtain ⟨h2, h3, i', h4, h5, h6⟩ := hd j h0 hj
   rw [stAt_app (by rw [h.len]; exact hj), rd_app hj]
   refine ⟨h2, h3, i', h4, by rw [rd_app (by omega)]; exact h5, ?_⟩
   rw [rd_app (by omega), hD, hD, if_neg (ht j hj), if_neg (ht i' (by omega))]
   exact h6
  ·have e : j = N.length := by
    have : j < N.length + 1 := h1
    omega
   subst e
   rw [← h.len, stAt_last, h.len, rd_last]
   exact ⟨hx, rfl, i, hi, by rw [rd_app hi]; exact hs, by rw [rd_app hi, hD, hD, if_pos rfl, if_neg (ht i hi)]⟩
end
def Cl (l : List Arc) (L : List Stp) (N : List Int) (i k : Nat) : Prop := (∀ a : Nat, a < i → ∀ x, x ∈ L → src l x = rd N (a : Int) → tgt l x ∈ N) ∧ ∀ b : Nat, b < k → src l (stAt L b) = rd N (i : Int) → tgt l (stAt L b) ∈ N
section
variable {l : List Arc} {L : List Stp} {N : List Int} {i k : Nat}
theorem Cl.zero : Cl l L N 0 0 := ⟨fun a h => absurd h (Nat.not_lt_zero _), fun b h => absurd h (Nat.not_lt_zero _)⟩
theorem Cl.next (h : Cl l L N i L.length) : Cl l L N (i + 1) 0 := ⟨fun a ha x hx e => by
 rcases Nat.lt_or_eq_of_le (Nat.le_of_lt_succ ha) with h1 | rfl
 ·exact h.1 a h1 x hx e
 ·obtain ⟨b, hb, e2⟩ := List.mem_iff_getElem.1 hx
  have e3 : stAt L b = x := by
   unfold stAt
   rw [List.getD_eq_getElem?_getD, List.getElem?_eq_getElem hb, e2]
   rfl
  have := h.2 b hb
  rw [e3] at this
  exact this e, fun b h => absurd h (Nat.not_lt_zero _)⟩
theorem Cl.skip (h : Cl l L N i k) (hc : src l (stAt L k) = rd N (i : Int) → tgt l (stAt L k) ∈ N) : Cl l L N i (k + 1) := ⟨h.1, fun b hb e => by
 rcases Nat.lt_or_eq_of_le (Nat.le_of_lt_succ hb) with h1 | rfl
 ·exact h.2 b h1 e
 ·exact hc e⟩
theorem Cl.grow (h : Cl l L N i k) (hi : i < N.length) (t : Int) : Cl l L (N ++ [t]) i k := ⟨fun a ha x hx e => by
 rw [rd_app (by omega)] at e
 exact List.mem_append_left _ (h.1 a ha x hx e), fun b hb e => by
 rw [rd_app hi] at e
 exact List.mem_append_left _ (h.2 b hb e)⟩
end
structure SoI (w : World) (gx : Nat) (cn : Array Value) (N : List Int) (B : List Stp) (v1 v2 : Value) (W : World) : Prop where
 bx : W.heap[gx]? = some (.cells #[v1, v2] 119 (0, 0))
 r1 : Kd.R (Kd.int .i64) 3 W w.heap.size (fun _ => True) v1 N
 r2 : Kd.R kStep 123 W w.heap.size (fun _ => True) v2 B
 bn : W.heap[w.heap.size]? = some (.cells cn 27 (0, 0))
 br : W.heap[w.heap.size + 1]? = some (.cells #[.slice none 0 0, .slice none 0 0] 119 (0, 0))
 ge : w.heap.size + 1 < gx
 low : Below w.heap.size w W
section
variable {w W W1 : World} {gx : Nat} {cn : Array Value} {N : List Int} {B : List Stp} {v1 v2 : Value}
theorem SoI.below (h : SoI w gx cn N B v1 v2 W) (hb : Below W.heap.size W W1) : SoI w gx cn N B v1 v2 W1 := ⟨blk_below h.bx hb, Kd.R_below h.r1 hb, Kd.R_below h.r2 hb, blk_below h.bn hb, blk_below h.br hb, h.ge, below_step h.low hb⟩
theorem SoI.drew (h : SoI w gx cn N B v1 v2 W) : SoI w gx cn N B v1 v2 W.drew := ⟨blk_drew h.bx, Kd.R_drew h.r1, Kd.R_drew h.r2, blk_drew h.bn, blk_drew h.br, h.ge, below_drew1 h.low⟩
end
set_option linter.unusedSimpArgs false
def StP (l : List Arc) (f : List Int) (i : Nat) (L : List Stp) : Prop := (∀ x : Stp, x ∈ L ↔ (0 ≤ x.f0 ∧ x.f0 < (i : Int)) ∧ 0 < rmv l f x) ∧ L.length ≤ 2 * i
theorem StP.zero {l : List Arc} {f : List Int} : StP l f 0 [] := ⟨fun x => ⟨fun h => (nomatch h), fun h => absurd h.1 (fun h2 => by have := h2.1; have := h2.2; omega)⟩, Nat.zero_le _⟩
theorem StP.next {l : List Arc} {f : List Int} {i : Nat} {L : List Stp} (h : StP l f i L) {a b : List Stp} (ha : a = if 0 < rmv l f ⟨i, false⟩ then [⟨i, false⟩] else []) (hb : b = if 0 < rmv l f ⟨i, true⟩ then [⟨i, true⟩] else []) : StP l f (i + 1) (L ++ a ++ b) := by
 refine ⟨fun x => ?_, ?_⟩
 ·have hma : x ∈ a ↔ x = ⟨i, false⟩ ∧ 0 < rmv l f ⟨i, false⟩ := by
   rw [ha]
   split <;> simp_all
  have hmb : x ∈ b ↔ x = ⟨i, true⟩ ∧ 0 < rmv l f ⟨i, true⟩ := by
   rw [hb]
   split <;> simp_all
  rw [List.mem_append, List.mem_append, h.1 x, hma, hmb]
  obtain ⟨y, d⟩ := x
  constructor
  ·rintro ((⟨h1, h2⟩ | ⟨h1, h2⟩) | ⟨h1, h2⟩)
   ·exact ⟨⟨h1.1, by have := h1.2; show y < ((i + 1 : Nat) : Int); have : y < (i : Int) := this; omega⟩, h2⟩
   ·injection h1 with e1 e2
    subst e1 e2
    exact ⟨⟨by show (0 : Int) ≤ (i : Int); omega, by show (i : Int) < ((i + 1 : Nat) : Int); omega⟩, h2⟩
   ·injection h1 with e1 e2
    subst e1 e2
    exact ⟨⟨by show (0 : Int) ≤ (i : Int); omega, by show (i : Int) < ((i + 1 : Nat) : Int); omega⟩, h2⟩
  ·rintro ⟨⟨h1, h2⟩, h3⟩
   have h1 : 0 ≤ y := h1
   have h2 : y < ((i + 1 : Nat) : Int) := h2
   by_cases e : y = (i : Int)
   ·subst e
    cases d
    ·exact .inl (.inr ⟨rfl, h3⟩)
    ·exact .inr ⟨rfl, h3⟩
   ·exact .inl (.inl ⟨⟨h1, by show y < (i : Int); omega⟩, h3⟩)
 ·have la : a.length ≤ 1 := by rw [ha]; split <;> simp
  have lb : b.length ≤ 1 := by rw [hb]; split <;> simp
  rw [List.length_append, List.length_append]
  have := h.2
  omega
set_option linter.unusedSimpArgs false
structure WaI (w : World) (gf : Nat) (cn : Array Value) (N : List Int) (B : List Stp) (A1 : Option Addr) (c1 : Nat) (A2 : Option Addr) (c2 : Nat) (W : World) : Prop where
 bn : W.heap[w.heap.size]? = some (.cells cn 27 (0, 0))
 bf : W.heap[gf]? = some (.cells #[.slice A1 N.length c1, .slice A2 B.length c2] 119 (0, 0))
 r1 : Kd.R (Kd.int .i64) 3 W w.heap.size (fun k => k < gf) (.slice A1 N.length c1) N
 r2 : Kd.R kStep 123 W w.heap.size (fun k => k < gf) (.slice A2 B.length c2) B
 ge : w.heap.size < gf
 low : Below w.heap.size w W
 lt : gf < W.heap.size
section
variable {w W W1 : World} {gf : Nat} {cn : Array Value} {N : List Int} {B : List Stp} {A1 : Option Addr} {c1 : Nat} {A2 : Option Addr} {c2 : Nat}
theorem WaI.below (h : WaI w gf cn N B A1 c1 A2 c2 W) (hb : Below W.heap.size W W1) : WaI w gf cn N B A1 c1 A2 c2 W1 := ⟨blk_below h.bn hb, blk_below h.bf hb, Kd.R_below h.r1 hb, Kd.R_below h.r2 hb, h.ge, below_step h.low hb, Nat.lt_of_lt_of_le h.lt hb.size⟩
theorem WaI.start {w1 w2 : World} (hx : w1.heap[w.heap.size]? = some (.cells cn 27 (0, 0))) (hb1 : Below w.heap.size w w1) (hr1 : Kd.R (Kd.int .i64) 3 w2 w1.heap.size (fun _ => True) (.slice A1 N.length c1) N) (hr2 : Kd.R kStep 123 w2 w1.heap.size (fun _ => True) (.slice A2 B.length c2) B) (hb : Below w1.heap.size w1 w2) :
  WaI w w2.heap.size cn N B A1 c1 A2 c2 (w2.alloc (.cells #[.slice A1 N.length c1, .slice A2 B.length c2] 119)) where
 bn := blk_alloc (blk_below hx hb) _
 bf := heap_alloc_new _ _
 r1 := Kd.R_alloc (Kd.R_lower (Kd.R_mono (Kd.R_bound hr1) (fun k hk => hk.2.2.1)) hb1.size) _
 r2 := Kd.R_alloc (Kd.R_lower (Kd.R_mono (Kd.R_bound hr2) (fun k hk => hk.2.2.1)) hb1.size) _
 ge := Nat.lt_of_lt_of_le (blk_lt hx) hb.size
 low := below_alloc (below_step hb1 hb) _
 lt := by rw [alloc_size]; omega
theorem WaI.drew (h : WaI w gf cn N B A1 c1 A2 c2 W) : WaI w gf cn N B A1 c1 A2 c2 W.drew := ⟨blk_drew h.bn, blk_drew h.bf, Kd.R_drew h.r1, Kd.R_drew h.r2, h.ge, below_drew1 h.low, h.lt⟩
theorem WaI.grown (h : WaI w gf cn N B A1 c1 A2 c2 W) {row : Option Nat} (hg : W.grownBy W1 row) (hr : ∀ k, row = some k → gf < k) (hb : Below w.heap.size w W1) : WaI w gf cn N B A1 c1 A2 c2 W1 :=
 ⟨blk_grown h.bn hg (fun e => by have := hr _ e.symm; have := h.ge; omega), blk_grown h.bf hg (fun e => by have := hr _ e.symm; omega), Kd.R_grown h.r1 hg (fun k hk e => by have := hr _ e.symm; omega), Kd.R_grown h.r2 hg (fun k hk e => by have := hr _ e.symm; omega), h.ge, hb, Nat.lt_of_lt_of_le h.lt hg.size⟩
theorem WaI.set (h : WaI w gf cn N B A1 c1 A2 c2 W) {p : Addr} (hp : gf < p.block) (v : Value) : WaI w gf cn N B A1 c1 A2 c2 (W.setCell p v) :=
 ⟨blk_far h.bn (by have := h.ge; omega) v, blk_far h.bf (by omega) v, Kd.R_far h.r1 (fun k hk => by omega) v, Kd.R_far h.r2 (fun k hk => by omega) v, h.ge, h.low.setCell (by have := h.ge; omega) v, by rw [show (W.setCell p v).heap.size = W.heap.size from by simp]; exact h.lt⟩
end
end Go.Proofs.YtdfagllncopmjaaGreat.H
end
section
namespace Go.Proofs.YtdfagllncopmjaaGreat.H
open Go Go.RowKit Go.Proofs.YtdfagllncopmjaaGreat.PrintC Go.Proofs.YtdfagllncopmjaaGreat.PrintE Go.Proofs.YtdfagllncopmjaaGreatW.PrintWords Go.Proofs.YtdfagllncopmjaaGreatW.PrintLast Go.Proofs.YtdfagllncopmjaaGreatW.PrintMore Go.Proofs.YtdfagllncopmjaaGreat.Flow
set_option linter.unusedVariables false
set_option linter.unusedSimpArgs false
set_option maxHeartbeats 4000000 in
set_option maxRecDepth 100000 in
theorem sameslots_walk (A1 A2 : Option Addr) (c1 c2 : Nat) (X : List Slot) (w : World) (h1 : Kd.C kSlot w A1 X.length X) (h2 : Kd.C kSlot w A2 X.length X) (hl : X.length ≤ 1000000) :
  Calls Tryz.prog 15 #[.slice A1 X.length c1, .slice A2 X.length c2] w fun e w' => e = .returned (.bool true) ∧ Below w.heap.size w w' := by
 have H1 := zh h1
 have H2 := zh h2
 have hu2 := Tryz.underlying65
 clear h1 h2
 go_enter Tryz.func15, Tryz.ntmps15
 go_wp2
 go_loopg [5] (X.length + 1) (fun k iv W => ∃ i : Nat, i ≤ X.length ∧ iv = .int .i64 i ∧ k = X.length + 1 - i ∧ Hid (Below w.heap.size w W))
 case atStart => exact ⟨0, Nat.zero_le _, rfl, rfl, zh (Below.refl _ _)⟩
 case round =>
  obtain ⟨i, hi, rfl, rfl, HB⟩ := hrel
  by_cases hlt : i < X.length
  ·have i0 : (0 : Int) ≤ (i : Int) := by omega
   have i1 : (i : Int) < (X.length : Int) := by omega
   obtain ⟨a1, e1, y0, y1⟩ := at_T65 (Kd.C_drew (Kd.C_below H1.out HB.out)) (i : Int) i0 i1
   obtain ⟨a2, e2, z0, z1⟩ := at_T65 (Kd.C_drew (Kd.C_below H2.out HB.out)) (i : Int) i0 i1
   subst e1 e2
   rw [Int.toNat_natCast] at y0 y1 z0 z1
   obtain ⟨s, hs⟩ : ∃ s, s = rd_T65 X (i : Int) := ⟨_, rfl⟩
   rw [← hs] at y0 y1 z0 z1
   clear hs
   go_wp2
   refine stepS (S := fun w' => w'.cell? (a1.add (i * 2)) = some (.int .i64 s.f0) ∧ w'.cell? ⟨(a1.add (i * 2)).block, (a1.add (i * 2)).off + 1, none⟩ = some (.int .i64 s.f1) ∧ w'.cell? (a2.add (i * 2)) = some (.int .i64 s.f0) ∧ w'.cell? ⟨(a2.add (i * 2)).block, (a2.add (i * 2)).off + 1, none⟩ = some (.int .i64 s.f1)) (ds := []) 9 (by kernel_rfl) rfl ⟨y0, y1, z0, z1⟩ (fun hHeld => ?_)
   have HB9 := zh (below_drew1 HB.out)
   generalize wr.drew = wd at HB9 hHeld ⊢
   repeat (first | refine rP 9 ?_ | refine rT 9 hHeld ?_)
   refine done_ (by kernel_rfl) ?_
   go_wp2
   go_roundg (X.length - i)
   case measure => omega
   case rel => exact ⟨i + 1, by omega, by go_num, by omega, HB9⟩
  ·have e : i = X.length := by omega
   subst e
   go_wp2
   go_ret
   exact ⟨rfl, HB.out⟩
def slotCells (l : List Slot) : List Value := l.flatMap fun x => [.int .i64 x.f0, .int .i64 x.f1]
theorem slotCells_get : ∀ (l : List Slot) (j : Nat) (x : Slot), l[j]? = some x → ∀ (i : Nat) (u : Value), ([.int .i64 x.f0, .int .i64 x.f1] : List Value)[i]? = some u → (slotCells l)[j * 2 + i]? = some u
 |[], j, x, h, _, _, _ => by simp at h
 |y :: l, 0, x, h, i, u, hu => by
  have e : y = x := by simpa using h
  subst e
  have hi : i < 2 := (List.getElem?_eq_some_iff.1 hu).1
  show ([Value.int .i64 y.f0, .int .i64 y.f1] ++ slotCells l)[0 * 2 + i]? = some u
  rw [Nat.zero_mul, Nat.zero_add, List.getElem?_append_left hi]
  exact hu
 |y :: l, j + 1, x, h, i, u, hu => by
  have h2 : l[j]? = some x := by simpa using h
  show ([Value.int .i64 y.f0, .int .i64 y.f1] ++ slotCells l)[(j + 1) * 2 + i]? = some u
  rw [show (j + 1) * 2 + i = 2 + (j * 2 + i) by omega, List.getElem?_append_right (by simp)]
  simp only [List.length_cons, List.length_nil, Nat.zero_add, Nat.reduceAdd, Nat.add_sub_cancel_left]
  exact slotCells_get l j x h2 i u hu
theorem slots_blk {W : World} {g : Nat} {l : List Slot} (hl : l.length ≤ 100000) (h : W.heap[g]? = some (.cells (slotCells l).toArray 65 (0, 0))) : Kd.C kSlot W (some ⟨g, 0, none⟩) l.length l := by
 refine ⟨rfl, by omega, fun _ => ⟨_, rfl, fun j p hj => ⟨[.int .i64 p.f0, .int .i64 p.f1], rfl, k65_mk _ p, fun i u hu => ?_⟩⟩⟩
 have h1 := slotCells_get l j p hj i u hu
 have h2 : W.cell? ⟨g, j * 2 + i, none⟩ = some u := by
  refine (blk_cell h (j * 2 + i)).trans ?_
  rw [List.getElem?_toArray]
  exact h1
 have h3 : (Addr.add ⟨g, 0, none⟩ (j * kSlot.sz + i)) = ⟨g, j * 2 + i, none⟩ := by
  have : kSlot.sz = 2 := rfl
  rw [this]
  unfold Addr.add
  split
  ·rename_i h4
   rw [h4]
  ·simp
 rw [h3]
 exact h2
abbrev sl3 : List Slot := [⟨0, 0⟩, ⟨0, 1⟩, ⟨1, 1⟩]
theorem five_line {A : Option Addr} {w : World} (hA : Kd.C kArc w A 2 lineL) :
  Calls Tryz.prog 10 #[.agg #[.int .i64 3, .bool false, .slice A 2 2], .int .i64 0, .int .i64 2, .int .i64 5] w fun e w' => e = .returned (.tuple #[.int .i64 8, .int .i64 0]) ∧ Below w.heap.size w w' := by
 have o := tf_sm (h := 5) (s := 0) (t := 2) (by decide) line_sm (by decide) (by decide) (by decide) (by decide)
 have h := most_walk (n := 3) (h := 5) (s := 0) (t := 2) (b := false) (A := A) (c := 2) (l := lineL) (w := w) o.1 o.2 (Nat.le_refl 2) hA
 rw [line_five] at h
 exact h.mono (fun e w' k => ⟨k.1, k.2.1⟩)
theorem one_line {A : Option Addr} {w : World} (hA : Kd.C kArc w A 2 lineL) :
  Calls Tryz.prog 13 #[.agg #[.int .i64 3, .bool true, .slice A 2 2], .int .i64 0, .int .i64 2, .int .i64 1] w fun e w' => ∃ (A1 : Option Addr) (c1 : Nat), e = .returned (.tuple #[.slice A1 3 c1, .int .i64 0]) ∧ Kd.C kSlot w' A1 3 sl3 ∧ Below w.heap.size w w' := by
 have o := tf_sm (h := 1) (s := 0) (t := 2) (by decide) line_sm (by decide) (by decide) (by decide) (by decide)
 have h := cut_walk (n := 3) (h := 1) (s := 0) (t := 2) (b := true) (A := A) (c := 2) (l := lineL) (w := w) o.1 o.2 (Nat.le_refl 2) hA
 rw [line_one] at h
 refine h.mono (fun e w' k => ?_)
 obtain ⟨v, k1, k2, k3⟩ := k
 obtain ⟨A1, c1, rfl⟩ := Kd.R_slice k2
 exact ⟨A1, c1, k1, (Kd.R_reads' k2).2.2, k3⟩
theorem neg_line {A : Option Addr} {w : World} (hA : Kd.C kArc w A 2 lineL) :
  Calls Tryz.prog 17 #[.agg #[.int .i64 3, .bool true, .slice A 2 2], .int .i64 0, .int .i64 2, .int .i64 (-1)] w (Bad3 1 w) :=
 max_bad (n := 3) (s := 0) (t := 2) (h := -1) (b := true) (A := A) (c := 2) (l := lineL) (line_ask (-1) (by decide)) (by decide) (Nat.le_refl 2) hA
theorem same_line {A1 A2 : Option Addr} {c1 : Nat} {w : World} (h1 : Kd.C kSlot w A1 3 sl3) (h2 : Kd.C kSlot w A2 3 sl3) :
  Calls Tryz.prog 15 #[.slice A1 3 c1, .slice A2 3 3] w fun e w' => e = .returned (.bool true) ∧ Below w.heap.size w w' :=
 sameslots_walk A1 A2 c1 3 sl3 w h1 h2 (by decide)
set_option maxHeartbeats 4000000 in
set_option maxRecDepth 100000 in
theorem awake_walk (w : World) : Calls Tryz.prog 12 #[] w fun e w' => e = .returned (.bool true) ∧ Below w.heap.size w w' := by
 have hu := Tryz.underlying65
 have HB := zh (Below.refl w.heap.size w)
 go_enter Tryz.func12, Tryz.ntmps12
 go_wp2_with (first
  |(go_at_call 26; have hC9 := HC.out; (with_reducible refine (line_walk _ _).mono ?_); rintro e wl ⟨gl, rfl, hA, hb⟩; have HL := zh hA; have HC8 := zh (Kd.C_below hC9 hb); have HN9 := zh (below_step HB.out hb); clear HB HC hb hA hC9; have HB := HN9; have HC := HC8; clear HN9 HC8)
  |(go_at_call 26; go_loud ((with_reducible refine (line_walk _ _).mono ?_); rintro e wl ⟨gl, rfl, hA, hb⟩; have HL := zh hA; have HN9 := zh (below_step HB.out hb); clear HB hb hA; have HB := HN9; clear HN9))
  |(go_at_call 10; go_loud ((with_reducible refine (five_line HL.out).mono ?_); rintro e w2 ⟨rfl, hb⟩; have HN9 := zh (below_step HB.out hb); clear HB hb HL; have HB := HN9; clear HN9))
  |(go_at_call 13; go_loud ((with_reducible refine (one_line HL.out).mono ?_); rintro e w4 ⟨A1, c1, rfl, hC, hb⟩; have HC := zh hC; have HN9 := zh (below_step HB.out hb); clear HB hb HL hC; have HB := HN9; clear HN9))
  |(go_at_call 17; go_loud ((with_reducible refine (neg_line HL.out).mono ?_); rintro e w6 ⟨rfl, hb⟩; have HN9 := zh (below_step HB.out hb); have HC8 := zh (Kd.C_below HC.out hb); clear HB HC hb; have HB := HN9; have HC := HC8; clear HN9 HC8))
  |(go_at_call 15; go_loud ((with_reducible refine (same_line ?s1 ?s2).mono ?_); (case s1 => exact Kd.C_below HC.out (below_alloc (Below.refl _ _) _)); (case s2 => exact slots_blk (l := sl3) (by decide) (alloc_at rfl)); rintro e w7 ⟨rfl, hb⟩; have HN9 := zh (below_step (below_alloc HB.out _) hb); clear HB hb; have HB := HN9; clear HN9)))
 go_ret
 exact ⟨rfl, HB.out⟩
structure Knd where
 f0 : Bool
 f1 : Bool
 f2 : Int
 f3 : Int
 f4 : Int
def kKnd : Kd Knd := Kd.iso (Kd.pair Kd.bool (Kd.pair Kd.bool (Kd.pair (Kd.int .i64) (Kd.pair (Kd.int .i64) (Kd.int .i64))))) (fun x : Knd => (x.f0, x.f1, x.f2, x.f3, x.f4))
structure AkI (w : World) (xs : Array Value) (v u : Value) (L : List Arc) (K : List Knd) (W : World) : Prop where
 bx : W.heap[w.heap.size]? = some (.cells xs 27 (0, 0))
 ar : Kd.R kArc 57 W w.heap.size (fun _ => True) v L
 kr : Kd.R kKnd 117 W w.heap.size (fun _ => True) u K
 low : Below w.heap.size w W
 len : K.length = L.length
section
variable {w W W1 : World} {xs : Array Value} {v u v2 : Value} {L L2 : List Arc} {K K2 : List Knd}
theorem AkI.below (h : AkI w xs v u L K W) (hb : Below W.heap.size W W1) : AkI w xs v u L K W1 := ⟨blk_below h.bx hb, Kd.R_below h.ar hb, Kd.R_below h.kr hb, below_step h.low hb, h.len⟩
theorem AkI.grow (h : AkI w xs v u L K W) (hg : W.grownBy W1 v.ownBlock) (ho : Kd.R kArc 57 W1 w.heap.size (fun _ => True) v2 L2) (hb : Below w.heap.size w W1) :
  W1.heap[w.heap.size]? = some (.cells xs 27 (0, 0)) ∧ Kd.R kKnd 117 W1 w.heap.size (fun _ => True) u K :=
 ⟨blk_grown h.bx hg (Kd.R_ne h.ar h.bx (by decide)), Kd.R_over' h.kr (v := v) (Kd.R_typed h.ar) (by decide) hg⟩
end
abbrev CBit := S55
def U8s (l : List CBit) : Prop := ∀ x, x ∈ l → U8 x.f0 ∧ U8 x.f1 ∧ U8 x.f2 ∧ U8 x.f3
theorem rd_mem77 {l : List CBit} {i : Nat} (h : i < l.length) : rd_T55 l (i : Int) ∈ l := by
 unfold rd_T55
 rw [Int.toNat_natCast, List.getD_eq_getElem?_getD, List.getElem?_eq_getElem h]
 exact List.getElem_mem h
def Read12At (m : Nat) (b : Bool) (w : World) (e : Ending) (w' : World) : Prop :=
 ∃ (n : Int) (l : List Arc) (s t h : Int) (A : Option Addr) (c : Nat), e = .returned (.tuple #[.agg #[.int .i64 n, .bool b, .slice A l.length c], .int .i64 s, .int .i64 t, .int .i64 h]) ∧ Kd.R kArc 57 w' w.heap.size (fun _ => True) (.slice A l.length c) l ∧ NetSm m n l ∧ (0 ≤ s ∧ s < n) ∧ (0 ≤ t ∧ t < n) ∧ s ≠ t ∧ (0 ≤ h ∧ h ≤ 7) ∧ Below w.heap.size w w'
theorem tmi_bd {x n : Int} (h0 : 0 ≤ x) (h1 : x < 4611686018427387904) (hn : 0 < n) : 0 ≤ (IntKind.i64.wrap x).tmod n ∧ (IntKind.i64.wrap x).tmod n < n := by
 rw [IntWalk.i64_in x (by omega), Int.tmod_eq_emod_of_nonneg h0]
 exact ⟨Int.emod_nonneg _ (by omega), Int.emod_lt_of_pos _ hn⟩
theorem st_ok {n a3 a4 : Int} (n2 : 2 ≤ n) (n5 : n ≤ 5) (h3 : 0 ≤ a3) (h4 : 0 ≤ a4) (g4 : a4 ≤ 255) : (0 ≤ a3 % n ∧ a3 % n < n) ∧ (0 ≤ (IntKind.i64.wrap (IntKind.i64.wrap (a3 % n + 1) + (IntKind.i64.wrap a4).tmod (IntKind.i64.wrap (n - 1)))).tmod n ∧ (IntKind.i64.wrap (IntKind.i64.wrap (a3 % n + 1) + (IntKind.i64.wrap a4).tmod (IntKind.i64.wrap (n - 1)))).tmod n < n) ∧
  a3 % n ≠ (IntKind.i64.wrap (IntKind.i64.wrap (a3 % n + 1) + (IntKind.i64.wrap a4).tmod (IntKind.i64.wrap (n - 1)))).tmod n := by
 have s0 := Int.emod_nonneg a3 (show n ≠ 0 by omega)
 have s1 := Int.emod_lt_of_pos a3 (show 0 < n by omega)
 generalize a3 % n = s at s0 s1
 rw [IntWalk.i64_in (n - 1) (by omega)]
 have r1 := tmi_bd (x := a4) (n := n - 1) h4 (by omega) (by omega)
 generalize (IntKind.i64.wrap a4).tmod (n - 1) = r at r1
 rw [IntWalk.i64_in (s + 1) (by omega), IntWalk.i64_in (s + 1 + r) (by omega), Int.tmod_eq_emod_of_nonneg (by omega)]
 refine ⟨⟨s0, s1⟩, ⟨Int.emod_nonneg _ (by omega), Int.emod_lt_of_pos _ (by omega)⟩, ?_⟩
 have : n = 2 ∨ n = 3 ∨ n = 4 ∨ n = 5 := by omega
 rcases this with rfl | rfl | rfl | rfl <;> omega
def ArcsSm (n : Int) (l : List Arc) : Prop := ∀ x, x ∈ l → (0 ≤ x.f0 ∧ x.f0 < n) ∧ (0 ≤ x.f1 ∧ x.f1 < n) ∧ (0 ≤ x.f2 ∧ x.f2 ≤ 5) ∧ 0 ≤ x.f3 ∧ x.f3 ≤ 3
set_option maxHeartbeats 4000000 in
set_option maxRecDepth 100000 in
theorem read12_walk (m : Nat) (hm : m ≤ 1000) (i : Int) (hi : i = m) (a0 : Int) (a1 : Bool) (A2 : Option Addr) (c2 : Nat) (l2 : List CBit) (a3 a4 a5 : Int) (w : World) (hr : Kd.C k55 w A2 l2.length l2) (h0 : U8 a0) (hb : U8s l2) (h3 : U8 a3) (h4 : U8 a4) (h5 : U8 a5) :
  Calls Tryz.prog 9 #[.agg #[.int .u8 a0, .bool a1, .slice A2 l2.length c2, .int .u8 a3, .int .u8 a4, .int .u8 a5], .int .i64 i] w (Read12At m a1 w) := by
 have HR := zh hr
 have HU := zh hb
 have hu := Tryz.underlying27
 have hu2 := Tryz.underlying24
 have b0 : 0 ≤ a0 := h0.1
 have b1 : a0 ≤ 255 := h0.2
 have b3 : 0 ≤ a3 := h3.1
 have b4 : a3 ≤ 255 := h3.2
 have b5 : 0 ≤ a4 := h4.1
 have b6 : a4 ≤ 255 := h4.2
 have b7 : 0 ≤ a5 := h5.1
 have b8 : a5 ≤ 255 := h5.2
 clear hr hb h0 h3 h4 h5
 go_enter Tryz.func9, Tryz.ntmps9
 go_wp2
 obtain ⟨n, hn⟩ : ∃ n, n = 2 + a0 % 4 := ⟨_, rfl⟩
 have n2 : 2 ≤ n := by omega
 have n5 : n ≤ 5 := by omega
 rw [← hn]
 clear hn b0 b1
 obtain ⟨w3, hw3⟩ : ∃ w3, w3 = ((w.alloc (.cells #[.int .u8 a0, .bool a1, .slice A2 l2.length c2, .int .u8 a3, .int .u8 a4, .int .u8 a5] 24)).alloc (.cells #[.int .i64 0, .bool false, .slice none 0 0] 27)).alloc (.cells #[.int .i64 n, .bool a1, .slice none 0 0] 27) := ⟨_, rfl⟩
 have HX2 : Hid (w3.heap[w.heap.size]? = some (.cells #[.int .u8 a0, .bool a1, .slice A2 l2.length c2, .int .u8 a3, .int .u8 a4, .int .u8 a5] 24 (0, 0))) := zh (by rw [hw3]; exact blk_alloc (blk_alloc (heap_alloc_new _ _) _) _)
 have HX4 : Hid (w3.heap[w.heap.size + 1]? = some (.cells #[.int .i64 0, .bool false, .slice none 0 0] 27 (0, 0))) := zh (by rw [hw3]; exact blk_alloc (alloc_at (by simp)) _)
 have HX8 : Hid (w3.heap[w.heap.size + 1 + 1]? = some (.cells #[.int .i64 n, .bool a1, .slice none 0 0] 27 (0, 0))) := zh (by rw [hw3]; exact alloc_at (by simp))
 have HB3 : Hid (Below w.heap.size w w3) := zh (by rw [hw3]; exact below_alloc (below_alloc (below_alloc (Below.refl _ _) _) _) _)
 rw [← hw3]
 clear hw3
 obtain ⟨base, hbase⟩ : ∃ base, base = w.heap.size := ⟨_, rfl⟩
 obtain ⟨g4, hg4⟩ : ∃ g4, g4 = w.heap.size + 1 := ⟨_, rfl⟩
 obtain ⟨g8, hg8⟩ : ∃ g8, g8 = w.heap.size + 1 + 1 := ⟨_, rfl⟩
 rw [← hg4] at HX4
 rw [← hg8] at HX8
 rw [← hg8, ← hg4]
 have GE4 : Hid (w.heap.size ≤ g4) := zh (by omega)
 have GE8 : Hid (w.heap.size ≤ g8) := zh (by omega)
 have N84 : Hid (g8 ≠ g4) := zh (by omega)
 have N28 : Hid (w.heap.size ≠ g8) := zh (by omega)
 have N48 : Hid (g4 ≠ g8) := zh (by omega)
 have N24 : Hid (w.heap.size ≠ g4) := zh (by omega)
 clear hg4 hg8 hbase base
 have HI := zh hi
 clear hi
 go_loopg [9] (m + 1) (fun k iv W => ∃ (j : Nat) (acc : List Arc) (Av : Option Addr) (cv : Nat), j ≤ m ∧ iv = .int .i64 j ∧ acc.length = j ∧ k = m + 1 - j ∧ Hid (ArcsSm n acc ∧ Kd.R kArc 57 W w.heap.size (fun _ => True) (.slice Av acc.length cv) acc ∧ W.heap[w.heap.size]? = some (.cells #[.int .u8 a0, .bool a1, .slice A2 l2.length c2, .int .u8 a3, .int .u8 a4, .int .u8 a5] 24 (0, 0)) ∧ W.heap[g4]? = some (.cells #[.int .i64 0, .bool false, .slice none 0 0] 27 (0, 0)) ∧ W.heap[g8]? = some (.cells #[.int .i64 n, .bool a1, .slice Av acc.length cv] 27 (0, 0)) ∧ Below w.heap.size w W))
 case atStart => exact ⟨0, [], none, 0, Nat.zero_le _, rfl, rfl, rfl, zh ⟨fun x hx => (nomatch hx), Kd.R_nil _ _ _ _ _, HX2.out, HX4.out, HX8.out, HB3.out⟩⟩
 case round =>
  obtain ⟨j, acc, Av, cv, hj, rfl, hacc, rfl, HL⟩ := hrel
  clear HX2 HX4 HX8 HB3
  have x2 : wr.cell? ⟨w.heap.size, 2, none⟩ = some (.slice A2 l2.length c2) := (blk_cell HL.out.2.2.1 2).trans rfl
  have i0 : (0 : Int) ≤ (j : Int) := by omega
  by_cases c1 : j < l2.length
  ·have c1' : (j : Int) < (l2.length : Int) := by omega
   by_cases c2' : j < m
   ·have c3 : (j : Int) < i := by rw [HI.out]; omega
    obtain ⟨ad, ea, y0, y1, y2, y3⟩ := at_T55 (Kd.C_below HR.out HL.out.2.2.2.2.2) (j : Int) i0 c1'
    subst ea
    rw [Int.toNat_natCast] at y0 y1 y2 y3
    have hx := HU.out _ (rd_mem77 c1)
    obtain ⟨e0, he0⟩ : ∃ e0, e0 = (rd_T55 l2 (j : Int)).f0 := ⟨_, rfl⟩
    obtain ⟨e1, he1⟩ : ∃ e1, e1 = (rd_T55 l2 (j : Int)).f1 := ⟨_, rfl⟩
    obtain ⟨e2, he2⟩ : ∃ e2, e2 = (rd_T55 l2 (j : Int)).f2 := ⟨_, rfl⟩
    obtain ⟨e3, he3⟩ : ∃ e3, e3 = (rd_T55 l2 (j : Int)).f3 := ⟨_, rfl⟩
    rw [← he0] at y0 hx
    rw [← he1] at y1 hx
    rw [← he2] at y2 hx
    rw [← he3] at y3 hx
    obtain ⟨⟨u0, v0⟩, ⟨u1, v1⟩, ⟨u2, v2⟩, ⟨u3, v3⟩⟩ := hx
    clear he0 he1 he2 he3
    go_wp2
    obtain ⟨wq, hwq⟩ : ∃ wq, wq = wr.alloc (.cells #[.int .u8 e0, .int .u8 e1, .int .u8 e2, .int .u8 e3] 55) := ⟨_, rfl⟩
    have HQ : Hid (Kd.R kArc 57 wq w.heap.size (fun _ => True) (.slice Av acc.length cv) acc ∧ wq.heap[w.heap.size]? = some (.cells #[.int .u8 a0, .bool a1, .slice (some ad) l2.length c2, .int .u8 a3, .int .u8 a4, .int .u8 a5] 24 (0, 0)) ∧ wq.heap[g4]? = some (.cells #[.int .i64 0, .bool false, .slice none 0 0] 27 (0, 0)) ∧ wq.heap[g8]? = some (.cells #[.int .i64 n, .bool a1, .slice Av acc.length cv] 27 (0, 0)) ∧ Below w.heap.size w wq) := zh (by rw [hwq]; exact ⟨Kd.R_below HL.out.2.1 (below_alloc (Below.refl _ _) _), blk_alloc HL.out.2.2.1 _, blk_alloc HL.out.2.2.2.1 _, blk_alloc HL.out.2.2.2.2.1 _, below_alloc HL.out.2.2.2.2.2 _⟩)
    have HX10 : Hid (wq.heap[wr.heap.size]? = some (.cells #[.int .u8 e0, .int .u8 e1, .int .u8 e2, .int .u8 e3] 55 (0, 0))) := zh (by rw [hwq]; exact heap_alloc_new _ _)
    rw [← hwq]
    clear hwq x2 y0 y1 y2 y3
    have HA := zh HL.out.1
    clear HL
    generalize wr.heap.size = go at *
    have x0 : wq.cell? ⟨g8, 0, none⟩ = some (.int .i64 n) := (blk_cell HQ.out.2.2.2.1 0).trans rfl
    have x2 : wq.cell? ⟨g8, 2, none⟩ = some (.slice Av acc.length cv) := (blk_cell HQ.out.2.2.2.1 2).trans rfl
    have y0 : wq.cell? ⟨go, 0, none⟩ = some (.int .u8 e0) := (blk_cell HX10.out 0).trans rfl
    have y1 : wq.cell? ⟨go, 1, none⟩ = some (.int .u8 e1) := (blk_cell HX10.out 1).trans rfl
    have y2 : wq.cell? ⟨go, 2, none⟩ = some (.int .u8 e2) := (blk_cell HX10.out 2).trans rfl
    have y3 : wq.cell? ⟨go, 3, none⟩ = some (.int .u8 e3) := (blk_cell HX10.out 3).trans rfl
    have hn0 : ¬ n = 0 := by omega
    have hal : acc.length ≤ 1000 := by omega
    have HAC := zh hacc
    clear hacc
    refine stepS (S := fun w' => w'.cell? ⟨g8, 0, none⟩ = some (.int .i64 n) ∧ w'.cell? ⟨g8, 2, none⟩ = some (.slice Av acc.length cv) ∧ w'.cell? ⟨go, 0, none⟩ = some (.int .u8 e0) ∧ w'.cell? ⟨go, 1, none⟩ = some (.int .u8 e1) ∧ w'.cell? ⟨go, 2, none⟩ = some (.int .u8 e2) ∧ w'.cell? ⟨go, 3, none⟩ = some (.int .u8 e3)) (ds := [26]) 27 (by kernel_rfl) rfl ⟨x0, x2, y0, y1, y2, y3⟩ (fun hHeld => ?_)
    repeat (first | refine rP 27 ?_ | refine rT 27 hHeld ?_)
    refine stepE 27 (N := some 61) rfl rfl (by kernel_rfl) (by decide) (fun K hK => ?_)
    refine value_ (w1 := ?_) (v := ?_) (by rfl) rfl ?_ ?_
    rotate_left 2
    ·go_simp
     constructor
     ·rfl
     ·rfl
    refine hK.out _ _ ⟨(blk_cell (blk_alloc (blk_drew HQ.out.2.2.2.1) _) 0).trans rfl, (blk_cell (blk_alloc (blk_drew HQ.out.2.2.2.1) _) 2).trans rfl, (blk_cell (blk_alloc (blk_drew HX10.out) _) 0).trans rfl, (blk_cell (blk_alloc (blk_drew HX10.out) _) 1).trans rfl, (blk_cell (blk_alloc (blk_drew HX10.out) _) 2).trans rfl, (blk_cell (blk_alloc (blk_drew HX10.out) _) 3).trans rfl⟩ (fun hHeld => ?_)
    clear hK K
    refine sN ?_
    refine stepE 27 (N := some 62) rfl rfl (by kernel_rfl) (by decide) (fun K hK => ?_)
    (repeat rw [drew_of_alloc])
    refine Kd.R_append_step kArc (w0 := w) w.heap.size (by rfl) (.tmp 39) (.tmp 61) 25 57 (.agg #[.int .i64 0, .int .i64 0, .int .i64 0, .int .i64 0]) 32 (by rfl) Tryz.underlying25 infoArc rfl (by decide) (by decide) (.slice Av acc.length cv) acc ⟨(IntKind.i64.wrap e0).tmod n, (IntKind.i64.wrap e1).tmod n, (IntKind.i64.wrap e2).tmod 6, (IntKind.i64.wrap e3).tmod 4⟩ [.int .i64 ((IntKind.i64.wrap e0).tmod n), .int .i64 ((IntKind.i64.wrap e1).tmod n), .int .i64 ((IntKind.i64.wrap e2).tmod 6), .int .i64 ((IntKind.i64.wrap e3).tmod 4)] (fun _ => True) (fun _ => False) (by rfl) (by rfl) (k57_mkM _ _ _ (⟨(IntKind.i64.wrap e0).tmod n, (IntKind.i64.wrap e1).tmod n, (IntKind.i64.wrap e2).tmod 6, (IntKind.i64.wrap e3).tmod 4⟩ : Arc)) (fun _ hk => hk.elim) (fun _ _ => trivial) ?aO ?aB ?aS (by omega) ?_; (case aO => exact Kd.R_drew HQ.out.1); (case aB => exact below_drew1 HQ.out.2.2.2.2); (case aS => exact HQ.out.2.2.2.2.size); intro v1 w9 ho hb hg hat; obtain ⟨A1, c1, rfl⟩ := Kd.R_slice ho; have HS9 := zh (And.intro ho (And.intro (blk_grown (blk_drew HQ.out.2.1) hg (Kd.R_ne HQ.out.1 HQ.out.2.1 (by decide))) (And.intro (blk_grown (blk_drew HQ.out.2.2.1) hg (Kd.R_ne HQ.out.1 HQ.out.2.2.1 (by decide))) (And.intro (blk_grown (blk_drew HQ.out.2.2.2.1) hg (Kd.R_ne HQ.out.1 HQ.out.2.2.2.1 (by decide))) (And.intro (blk_grown (blk_drew HX10.out) hg (Kd.R_ne HQ.out.1 HX10.out (by decide))) hb))))); clear ho hb hg hat
    refine hK.out _ _ ⟨(blk_cell HS9.out.2.2.2.1 0).trans rfl, (blk_cell HS9.out.2.2.2.1 2).trans rfl, (blk_cell HS9.out.2.2.2.2.1 0).trans rfl, (blk_cell HS9.out.2.2.2.2.1 1).trans rfl, (blk_cell HS9.out.2.2.2.2.1 2).trans rfl, (blk_cell HS9.out.2.2.2.2.1 3).trans rfl⟩ (fun hHeld => ?_)
    clear hK K
    refine sN ?_
    refine rP 27 ?_
    refine stepL 27 (N := none) rfl rfl (by kernel_rfl) (by decide) (fun K hK => ?_)
    have z2 : w9.cell? ⟨g8, 2, none⟩ = some (.slice Av acc.length cv) := (blk_cell HS9.out.2.2.2.1 2).trans rfl
    have f2 : w9.frozen? ⟨g8, 2, none⟩ = false := blk_frozen HS9.out.2.2.2.1 2
    refine skip_ (w1 := ?_) (by rfl) rfl ?_ ?_
    rotate_left
    ·go_simp
     rfl
    refine hK.out _ _ ?_
    clear hK K
    refine done_ (by kernel_rfl) ?_
    go_wp2
    have el : (acc ++ [(⟨(IntKind.i64.wrap e0).tmod n, (IntKind.i64.wrap e1).tmod n, (IntKind.i64.wrap e2).tmod 6, (IntKind.i64.wrap e3).tmod 4⟩ : Arc)]).length = acc.length + 1 := by rw [List.length_append]; rfl
    have hs := HS9.out
    rw [el] at hs
    have q0 := tmi_bd (x := e0) (n := n) u0 (by omega) (by omega)
    have q1 := tmi_bd (x := e1) (n := n) u1 (by omega) (by omega)
    have q2 := tmi_bd (x := e2) (n := 6) u2 (by omega) (by omega)
    have q3 := tmi_bd (x := e3) (n := 4) u3 (by omega) (by omega)
    have har : ArcsSm n (acc ++ [(⟨(IntKind.i64.wrap e0).tmod n, (IntKind.i64.wrap e1).tmod n, (IntKind.i64.wrap e2).tmod 6, (IntKind.i64.wrap e3).tmod 4⟩ : Arc)]) := fun x hx => by
     rcases List.mem_append.1 hx with hx | hx
     ·exact HA.out x hx
     ·obtain rfl := List.mem_singleton.1 hx
      exact ⟨q0, q1, ⟨q2.1, Int.le_of_lt_add_one q2.2⟩, q3.1, Int.le_of_lt_add_one q3.2⟩
    have hac := HAC.out
    go_roundg (m - j)
    case measure => omega
    case rel => exact ⟨j + 1, _, A1, c1, by omega, by go_num, by rw [el, hac], by omega, zh ⟨har, by rw [el]; exact Kd.R_mono (Kd.R_far (p := ⟨g8, 2, none⟩) (Kd.R_types hs.1 hs.2.2.2.1 (by decide)) (fun _ hk => hk.2) (.slice A1 (acc.length + 1) c1)) (fun _ hk => trivial), blk_far hs.2.1 N28.out _, blk_far hs.2.2.1 N48.out _, by rw [el]; exact blk_put (cs := #[.int .i64 n, .bool a1, .slice Av acc.length cv]) hs.2.2.2.1 2 _ rfl, below_set hs.2.2.2.2.2 GE8.out⟩⟩
   ·have c3 : ¬ (j : Int) < i := by rw [HI.out]; omega
    have x3 : wr.cell? ⟨w.heap.size, 3, none⟩ = some (.int .u8 a3) := (blk_cell HL.out.2.2.1 3).trans rfl
    have x4 : wr.cell? ⟨w.heap.size, 4, none⟩ = some (.int .u8 a4) := (blk_cell HL.out.2.2.1 4).trans rfl
    have x5 : wr.cell? ⟨w.heap.size, 5, none⟩ = some (.int .u8 a5) := (blk_cell HL.out.2.2.1 5).trans rfl
    have y0 : wr.cell? ⟨g8, 0, none⟩ = some (.int .i64 n) := (blk_cell HL.out.2.2.2.2.1 0).trans rfl
    have y1 : wr.cell? ⟨g8, 1, none⟩ = some (.bool a1) := (blk_cell HL.out.2.2.2.2.1 1).trans rfl
    have y2 : wr.cell? ⟨g8, 2, none⟩ = some (.slice Av acc.length cv) := (blk_cell HL.out.2.2.2.2.1 2).trans rfl
    have hn0 : ¬ n = 0 := by omega
    have hn1 : ¬ IntKind.i64.wrap (n - 1) = 0 := by rw [IntWalk.i64_in _ (by omega)]; omega
    have HAC := zh hacc
    clear hacc
    go_wp2
    refine stepS (S := fun w' => w'.cell? ⟨w.heap.size, 4, none⟩ = some (.int .u8 a4) ∧ w'.cell? ⟨w.heap.size, 5, none⟩ = some (.int .u8 a5) ∧ w'.cell? ⟨g8, 0, none⟩ = some (.int .i64 n) ∧ w'.cell? ⟨g8, 1, none⟩ = some (.bool a1) ∧ w'.cell? ⟨g8, 2, none⟩ = some (.slice Av acc.length cv)) (ds := []) 14 (by kernel_rfl) rfl ⟨x4, x5, y0, y1, y2⟩ (fun hHeld => ?_)
    repeat (first | refine rP 14 ?_ | refine rT 14 hHeld ?_)
    refine done_ (by kernel_rfl) ?_
    go_wp2
    have r4 := blk_drew (blk_drew HL.out.2.2.2.1)
    refine stepS (S := fun w' => w'.cell? ⟨w.heap.size, 4, none⟩ = some (.int .u8 a4) ∧ w'.cell? ⟨w.heap.size, 5, none⟩ = some (.int .u8 a5) ∧ w'.cell? ⟨g8, 0, none⟩ = some (.int .i64 n) ∧ w'.cell? ⟨g8, 1, none⟩ = some (.bool a1) ∧ w'.cell? ⟨g8, 2, none⟩ = some (.slice Av acc.length cv)) (ds := []) 11 (by kernel_rfl) rfl ⟨x4, x5, y0, y1, y2⟩ (fun hHeld => ?_)
    repeat (first | refine rP 11 ?_ | refine rT 11 hHeld ?_)
    refine stepE 11 (N := none) rfl rfl (by kernel_rfl) (by decide) (fun K hK => ?_)
    have HZ := zh (And.intro (Kd.R_drew (Kd.R_drew HL.out.2.1)) (And.intro r4 (And.intro (blk_drew (blk_drew HL.out.2.2.2.2.1)) (below_drew1 (below_drew1 HL.out.2.2.2.2.2)))))
    generalize wr.drew.drew = wz at hHeld r4 HZ ⊢
    have z0 : wz.cell? ⟨g4, 0, none⟩ = some (.int .i64 0) := (blk_cell r4 0).trans rfl
    have z1 : wz.cell? ⟨g4, 1, none⟩ = some (.bool false) := (blk_cell r4 1).trans rfl
    have z2 : wz.cell? ⟨g4, 2, none⟩ = some (.slice none 0 0) := (blk_cell r4 2).trans rfl
    have f0 := blk_frozen r4 0
    have f1 := blk_frozen r4 1
    have f2 := blk_frozen r4 2
    refine skip_ (w1 := ?_) (by rfl) rfl ?_ ?_
    rotate_left
    ·go_simp
     rfl
    refine hK.out _ _ ⟨((cell_far (p := ⟨g4, _, none⟩) N24.out _).trans (((cell_far (p := ⟨g4, _, none⟩) N24.out _).trans (((cell_far (p := ⟨g4, _, none⟩) N24.out _).trans hHeld.1))))), ((cell_far (p := ⟨g4, _, none⟩) N24.out _).trans (((cell_far (p := ⟨g4, _, none⟩) N24.out _).trans (((cell_far (p := ⟨g4, _, none⟩) N24.out _).trans hHeld.2.1))))), ((cell_far (p := ⟨g4, _, none⟩) N84.out _).trans (((cell_far (p := ⟨g4, _, none⟩) N84.out _).trans (((cell_far (p := ⟨g4, _, none⟩) N84.out _).trans hHeld.2.2.1))))), ((cell_far (p := ⟨g4, _, none⟩) N84.out _).trans (((cell_far (p := ⟨g4, _, none⟩) N84.out _).trans (((cell_far (p := ⟨g4, _, none⟩) N84.out _).trans hHeld.2.2.2.1))))), ((cell_far (p := ⟨g4, _, none⟩) N84.out _).trans (((cell_far (p := ⟨g4, _, none⟩) N84.out _).trans (((cell_far (p := ⟨g4, _, none⟩) N84.out _).trans hHeld.2.2.2.2)))))⟩ (fun hHeld => ?_)
    clear hK K
    repeat (first | refine rP 11 ?_ | refine rT 11 hHeld ?_)
    refine done_ (by kernel_rfl) ?_
    go_wp2
    refine bodyPost_ret (results_list (rs := [.cell 4 27, .tmp 5, .tmp 6, .tmp 7]) rfl (by simp) (.cell g4 27 #[.int .i64 n, .bool a1, .slice Av acc.length cv] (0, 0) _ rfl (blk_put (cs := #[.int .i64 n, .bool a1, .slice none 0 0]) (blk_put (cs := #[.int .i64 n, .bool false, .slice none 0 0]) (blk_put (cs := #[.int .i64 0, .bool false, .slice none 0 0]) r4 0 _ rfl) 1 _ rfl) 2 _ rfl) hu rfl (by kernel_rfl) (.tmp (.tmp (.tmp .nil))))) rfl ?_
    have st := st_ok (n := n) (a3 := a3) (a4 := a4) n2 n5 b3 b5 b6
    have q8 := tmi_bd (x := a5) (n := 8) b7 (by omega) (by decide)
    have hac := HAC.out
    exact ⟨n, acc, _, _, _, Av, cv, rfl, Kd.R_mono (Kd.R_far (p := ⟨g4, 2, none⟩) (Kd.R_far (p := ⟨g4, 1, none⟩) (Kd.R_far (p := ⟨g4, 0, none⟩) (Kd.R_types HZ.out.1 HZ.out.2.1 (by decide)) (fun _ hk => hk.2) (.int .i64 n)) (fun _ hk => hk.2) (.bool a1)) (fun _ hk => hk.2) (.slice Av acc.length cv)) (fun _ hk => trivial), ⟨n2, n5, by omega, HL.out.1⟩, st.1, st.2.1, st.2.2, ⟨q8.1, Int.le_of_lt_add_one q8.2⟩, below_set (below_set (below_set HZ.out.2.2.2 GE4.out) GE4.out) GE4.out⟩
  ·have c3 : ¬ (j : Int) < (l2.length : Int) := by omega
   have x3 : wr.cell? ⟨w.heap.size, 3, none⟩ = some (.int .u8 a3) := (blk_cell HL.out.2.2.1 3).trans rfl
   have x4 : wr.cell? ⟨w.heap.size, 4, none⟩ = some (.int .u8 a4) := (blk_cell HL.out.2.2.1 4).trans rfl
   have x5 : wr.cell? ⟨w.heap.size, 5, none⟩ = some (.int .u8 a5) := (blk_cell HL.out.2.2.1 5).trans rfl
   have y0 : wr.cell? ⟨g8, 0, none⟩ = some (.int .i64 n) := (blk_cell HL.out.2.2.2.2.1 0).trans rfl
   have y1 : wr.cell? ⟨g8, 1, none⟩ = some (.bool a1) := (blk_cell HL.out.2.2.2.2.1 1).trans rfl
   have y2 : wr.cell? ⟨g8, 2, none⟩ = some (.slice Av acc.length cv) := (blk_cell HL.out.2.2.2.2.1 2).trans rfl
   have hn0 : ¬ n = 0 := by omega
   have hn1 : ¬ IntKind.i64.wrap (n - 1) = 0 := by rw [IntWalk.i64_in _ (by omega)]; omega
   have HAC := zh hacc
   clear hacc
   go_wp2
   refine stepS (S := fun w' => w'.cell? ⟨w.heap.size, 4, none⟩ = some (.int .u8 a4) ∧ w'.cell? ⟨w.heap.size, 5, none⟩ = some (.int .u8 a5) ∧ w'.cell? ⟨g8, 0, none⟩ = some (.int .i64 n) ∧ w'.cell? ⟨g8, 1, none⟩ = some (.bool a1) ∧ w'.cell? ⟨g8, 2, none⟩ = some (.slice Av acc.length cv)) (ds := []) 14 (by kernel_rfl) rfl ⟨x4, x5, y0, y1, y2⟩ (fun hHeld => ?_)
   repeat (first | refine rP 14 ?_ | refine rT 14 hHeld ?_)
   refine done_ (by kernel_rfl) ?_
   go_wp2
   have r4 := blk_drew (blk_drew HL.out.2.2.2.1)
   refine stepS (S := fun w' => w'.cell? ⟨w.heap.size, 4, none⟩ = some (.int .u8 a4) ∧ w'.cell? ⟨w.heap.size, 5, none⟩ = some (.int .u8 a5) ∧ w'.cell? ⟨g8, 0, none⟩ = some (.int .i64 n) ∧ w'.cell? ⟨g8, 1, none⟩ = some (.bool a1) ∧ w'.cell? ⟨g8, 2, none⟩ = some (.slice Av acc.length cv)) (ds := []) 11 (by kernel_rfl) rfl ⟨x4, x5, y0, y1, y2⟩ (fun hHeld => ?_)
   repeat (first | refine rP 11 ?_ | refine rT 11 hHeld ?_)
   refine stepE 11 (N := none) rfl rfl (by kernel_rfl) (by decide) (fun K hK => ?_)
   have HZ := zh (And.intro (Kd.R_drew (Kd.R_drew HL.out.2.1)) (And.intro r4 (And.intro (blk_drew (blk_drew HL.out.2.2.2.2.1)) (below_drew1 (below_drew1 HL.out.2.2.2.2.2)))))
   generalize wr.drew.drew = wz at hHeld r4 HZ ⊢
   have z0 : wz.cell? ⟨g4, 0, none⟩ = some (.int .i64 0) := (blk_cell r4 0).trans rfl
   have z1 : wz.cell? ⟨g4, 1, none⟩ = some (.bool false) := (blk_cell r4 1).trans rfl
   have z2 : wz.cell? ⟨g4, 2, none⟩ = some (.slice none 0 0) := (blk_cell r4 2).trans rfl
   have f0 := blk_frozen r4 0
   have f1 := blk_frozen r4 1
   have f2 := blk_frozen r4 2
   refine skip_ (w1 := ?_) (by rfl) rfl ?_ ?_
   rotate_left
   ·go_simp
    rfl
   refine hK.out _ _ ⟨((cell_far (p := ⟨g4, _, none⟩) N24.out _).trans (((cell_far (p := ⟨g4, _, none⟩) N24.out _).trans (((cell_far (p := ⟨g4, _, none⟩) N24.out _).trans hHeld.1))))), ((cell_far (p := ⟨g4, _, none⟩) N24.out _).trans (((cell_far (p := ⟨g4, _, none⟩) N24.out _).trans (((cell_far (p := ⟨g4, _, none⟩) N24.out _).trans hHeld.2.1))))), ((cell_far (p := ⟨g4, _, none⟩) N84.out _).trans (((cell_far (p := ⟨g4, _, none⟩) N84.out _).trans (((cell_far (p := ⟨g4, _, none⟩) N84.out _).trans hHeld.2.2.1))))), ((cell_far (p := ⟨g4, _, none⟩) N84.out _).trans (((cell_far (p := ⟨g4, _, none⟩) N84.out _).trans (((cell_far (p := ⟨g4, _, none⟩) N84.out _).trans hHeld.2.2.2.1))))), ((cell_far (p := ⟨g4, _, none⟩) N84.out _).trans (((cell_far (p := ⟨g4, _, none⟩) N84.out _).trans (((cell_far (p := ⟨g4, _, none⟩) N84.out _).trans hHeld.2.2.2.2)))))⟩ (fun hHeld => ?_)
   clear hK K
   repeat (first | refine rP 11 ?_ | refine rT 11 hHeld ?_)
   refine done_ (by kernel_rfl) ?_
   go_wp2
   refine bodyPost_ret (results_list (rs := [.cell 4 27, .tmp 5, .tmp 6, .tmp 7]) rfl (by simp) (.cell g4 27 #[.int .i64 n, .bool a1, .slice Av acc.length cv] (0, 0) _ rfl (blk_put (cs := #[.int .i64 n, .bool a1, .slice none 0 0]) (blk_put (cs := #[.int .i64 n, .bool false, .slice none 0 0]) (blk_put (cs := #[.int .i64 0, .bool false, .slice none 0 0]) r4 0 _ rfl) 1 _ rfl) 2 _ rfl) hu rfl (by kernel_rfl) (.tmp (.tmp (.tmp .nil))))) rfl ?_
   have st := st_ok (n := n) (a3 := a3) (a4 := a4) n2 n5 b3 b5 b6
   have q8 := tmi_bd (x := a5) (n := 8) b7 (by omega) (by decide)
   have hac := HAC.out
   exact ⟨n, acc, _, _, _, Av, cv, rfl, Kd.R_mono (Kd.R_far (p := ⟨g4, 2, none⟩) (Kd.R_far (p := ⟨g4, 1, none⟩) (Kd.R_far (p := ⟨g4, 0, none⟩) (Kd.R_types HZ.out.1 HZ.out.2.1 (by decide)) (fun _ hk => hk.2) (.int .i64 n)) (fun _ hk => hk.2) (.bool a1)) (fun _ hk => hk.2) (.slice Av acc.length cv)) (fun _ hk => trivial), ⟨n2, n5, by omega, HL.out.1⟩, st.1, st.2.1, st.2.2, ⟨q8.1, Int.le_of_lt_add_one q8.2⟩, below_set (below_set (below_set HZ.out.2.2.2 GE4.out) GE4.out) GE4.out⟩
abbrev smallCells (a0 : Int) (a1 : Bool) (A2 : Option Addr) (k c2 : Nat) (a3 a4 a5 : Int) : Array Value := #[.int .u8 a0, .bool a1, .slice A2 k c2, .int .u8 a3, .int .u8 a4, .int .u8 a5]
structure SmallAt (w : World) (a0 : Int) (l2 : List CBit) (a3 a4 a5 : Int) (A2 : Option Addr) : Prop where
 hr : Kd.C k55 w A2 l2.length l2
 h0 : U8 a0
 hb : U8s l2
 h3 : U8 a3
 h4 : U8 a4
 h5 : U8 a5
theorem SmallAt.below {w w2 : World} {a0 : Int} {l2 : List CBit} {a3 a4 a5 : Int} {A2 : Option Addr} (o : SmallAt w a0 l2 a3 a4 a5 A2) (hb : Below w.heap.size w w2) : SmallAt w2 a0 l2 a3 a4 a5 A2 := ⟨Kd.C_below o.hr hb, o.h0, o.hb, o.h3, o.h4, o.h5⟩
def RdAt (m : Nat) (b : Bool) (w : World) (e : Ending) (w' : World) : Prop :=
 ∃ (n h s t : Nat) (l : List Arc) (A : Option Addr) (c : Nat), e = .returned (.tuple #[.agg #[.int .i64 n, .bool b, .slice A l.length c], .int .i64 s, .int .i64 t, .int .i64 h]) ∧ Kd.C kArc w' A l.length l ∧ l.length ≤ c ∧ TfOk n h s t l ∧ askT n l s t h = 0 ∧ h ≤ 7 ∧ n ≤ 5 ∧ NetSm m n l ∧ Below w.heap.size w w'
theorem rd_walk (m : Nat) (hm : m ≤ 40) (i : Int) (hi : i = m) {a0 : Int} {a1 : Bool} {A2 : Option Addr} {c2 : Nat} {l2 : List CBit} {a3 a4 a5 : Int} {w : World} (o : SmallAt w a0 l2 a3 a4 a5 A2) :
  Calls Tryz.prog 9 #[.agg (smallCells a0 a1 A2 l2.length c2 a3 a4 a5), .int .i64 i] w (RdAt m a1 w) := by
 refine (read12_walk m (by omega) i hi a0 a1 A2 c2 l2 a3 a4 a5 w o.hr o.h0 o.hb o.h3 o.h4 o.h5).mono ?_
 rintro e w' ⟨n, l, s, t, h, A, c, rfl, hR, hN, hs, ht, hst, hh, hb⟩
 have n2 := hN.n2
 have n5 := hN.n5
 obtain ⟨n', rfl⟩ := Int.eq_ofNat_of_zero_le (show 0 ≤ n by omega)
 obtain ⟨s', rfl⟩ := Int.eq_ofNat_of_zero_le hs.1
 obtain ⟨t', rfl⟩ := Int.eq_ofNat_of_zero_le ht.1
 obtain ⟨h', rfl⟩ := Int.eq_ofNat_of_zero_le hh.1
 have q := tf_sm (h := h') (s := s') (t := t') hm hN (by omega) (by omega) (fun e => hst (by rw [e])) (by omega)
 exact ⟨n', h', s', t', l, A, c, rfl, (Kd.R_reads' hR).2.2, (Kd.R_reads' hR).2.1, q.1, q.2, by omega, by omega, hN, hb⟩
end Go.Proofs.YtdfagllncopmjaaGreat.H
end
section
namespace Go.Proofs.YtdfagllncopmjaaGreat.H
open Go Go.ChangeShapes Go.WideShapes Go.ChangeAt Go.RowKit Go.Deep Go.Joins Go.Proofs.YtdfagllncopmjaaGreat.PrintC Go.Proofs.YtdfagllncopmjaaGreat.PrintE Go.Proofs.YtdfagllncopmjaaGreatW.PrintWords Go.Proofs.YtdfagllncopmjaaGreatW.PrintLast
theorem ownK : ownKnob Tryz.prog.godebug = none := by kernel_rfl
theorem laidOutK : laidOutB Tryz.prog = true := by kernel_rfl
noncomputable def laidWorld (os : Os) : World := World.holding Tryz.prog os ⟨#[], #[], []⟩
section
variable {Hh : Type} {enc : TypeId × Value → Hh} {P : Program} {W : World} {base : Nat} {spare : Nat → Bool} {held : Bool}
theorem kc_none {α : Type} (d : Kd α) : Kd.C d W none ([] : List α).length [] := ⟨rfl, by simp, fun h => by simp at h⟩
theorem field_of {t : TypeId} {fs : Array Field} {n : Nat} {cs : List Value} {y : DataW Hh × List MemPlace} (hu : P.underlying t = some (.struct fs)) (h : DataW.trod enc P W base spare held n t cs = some y) (i : Nat) (f : Field) (hf : fs[i]? = some f) {k : Nat} (hk : P.cellsOf f.type = k) {cs' : List Value} (hc : (cs.drop f.offset).take k = cs') :
  ∃ m z, DataW.trod enc P W base spare held m f.type cs' = some z := by
 obtain ⟨xs, m, _, _, _, hl, hg⟩ := DataW.trod_struct hu h
 have h1 := hg i f hf
 have hi : i < xs.length := by rw [hl]; exact (Array.getElem?_eq_some_iff.1 hf).1
 rw [List.getElem?_eq_getElem hi, hk, hc] at h1
 exact ⟨m, _, h1⟩
theorem wf_u8 {n : Int} (h : (Lit.int .u8 n).wf = true) : U8 n := by
 simp only [Lit.wf, Bool.and_eq_true, decide_eq_true_eq] at h
 exact h
end
section
variable {Hh : Type} {enc : TypeId × Value → Hh} {W : World} {base : Nat} {spare : Nat → Bool} {held : Bool}
theorem one_u8 {n : Nat} {v : Value} {y : DataW Hh × List MemPlace} (h : DataW.trod enc Tryz.prog W base spare held n 5 [v] = some y) : ∃ k, v = .int .u8 k ∧ U8 k := by
 obtain ⟨k, hc, _, hw⟩ := DataW.trod_int Tryz.underlying5 h
 simp only [List.cons.injEq, and_true] at hc
 exact ⟨k, hc, wf_u8 hw⟩
theorem one_bool {n : Nat} {v : Value} {y : DataW Hh × List MemPlace} (h : DataW.trod enc Tryz.prog W base spare held n 4 [v] = some y) : ∃ b, v = .bool b := by
 obtain ⟨b, hc, _⟩ := DataW.trod_bool Tryz.underlying4 h
 simp only [List.cons.injEq, and_true] at hc
 exact ⟨b, hc⟩
theorem u8_cells : Tryz.prog.cellsOf 5 = 1 := by kernel_rfl
theorem bool_cells : Tryz.prog.cellsOf 4 = 1 := by kernel_rfl
theorem bit_cells : Tryz.prog.cellsOf 55 = 4 := by kernel_rfl
theorem bit3_cells : Tryz.prog.cellsOf 82 = 3 := by kernel_rfl
theorem bits_cells : Tryz.prog.cellsOf 22 = 1 := by kernel_rfl
theorem bits3_cells : Tryz.prog.cellsOf 48 = 1 := by kernel_rfl
theorem small_cells : Tryz.prog.cellsOf 24 = 6 := by kernel_rfl
abbrev CBit3 := S82
set_option maxRecDepth 100000 in
theorem opened_bit {n : Nat} {cs : List Value} {y : DataW Hh × List MemPlace} (h : DataW.trod enc Tryz.prog W base spare held n 55 cs = some y) :
  ∃ a : CBit, cs = [.int .u8 a.f0, .int .u8 a.f1, .int .u8 a.f2, .int .u8 a.f3] ∧ (U8 a.f0 ∧ U8 a.f1 ∧ U8 a.f2 ∧ U8 a.f3) := by
 obtain ⟨y0, y1, y2, y3, m, _, hl, h0, h1, h2, h3⟩ := trod_struct4 Tryz.underlying55 h
 rw [bit_cells] at hl
 match cs, hl with
 |[c0, c1, c2, c3], _ =>
  simp only [u8_cells] at h0 h1 h2 h3
  obtain ⟨k0, rfl, r0⟩ := one_u8 h0
  obtain ⟨k1, rfl, r1⟩ := one_u8 h1
  obtain ⟨k2, rfl, r2⟩ := one_u8 h2
  obtain ⟨k3, rfl, r3⟩ := one_u8 h3
  exact ⟨⟨k0, k1, k2, k3⟩, rfl, r0, r1, r2, r3⟩
set_option maxRecDepth 100000 in
theorem opened_bit3 {n : Nat} {cs : List Value} {y : DataW Hh × List MemPlace} (h : DataW.trod enc Tryz.prog W base spare held n 82 cs = some y) :
  ∃ a : CBit3, cs = [.int .u8 a.f0, .int .u8 a.f1, .int .u8 a.f2] ∧ (U8 a.f0 ∧ U8 a.f1 ∧ U8 a.f2) := by
 obtain ⟨y0, y1, y2, m, _, hl, h0, h1, h2⟩ := trod_struct3 Tryz.underlying82 h
 rw [bit3_cells] at hl
 match cs, hl with
 |[c0, c1, c2], _ =>
  simp only [u8_cells] at h0 h1 h2
  obtain ⟨k0, rfl, r0⟩ := one_u8 h0
  obtain ⟨k1, rfl, r1⟩ := one_u8 h1
  obtain ⟨k2, rfl, r2⟩ := one_u8 h2
  exact ⟨⟨k0, k1, k2⟩, rfl, r0, r1, r2⟩
set_option maxRecDepth 100000 in
theorem opened_bits {n : Nat} {v : Value} {y : DataW Hh × List MemPlace} (h : DataW.trod enc Tryz.prog W base spare held n 22 [v] = some y) :
  ∃ (A : Option Addr) (c : Nat) (l : List CBit), v = .slice A l.length c ∧ l.length ≤ c ∧ Kd.C k55 W A l.length l ∧ U8s l := by
 rcases open_slice Tryz.underlying22 h with ⟨hcs, _⟩ | ⟨a, len, cap, m, n', D, Pl, hcs, hb, hl, hm, hmm, hx, hi⟩
 ·simp only [List.cons.injEq, and_true] at hcs
  subst hcs
  exact ⟨none, 0, [], rfl, Nat.le_refl _, kc_none _, fun x hx => by cases hx⟩
 ·simp only [List.cons.injEq, and_true] at hcs
  subst hcs
  have hlm : len ≤ m := by
   rw [hmm]
   split
   ·exact hl
   ·exact Nat.le_refl _
  have hq : ∀ i, ∃ s : CBit, i < len → (U8 s.f0 ∧ U8 s.f1 ∧ U8 s.f2 ∧ U8 s.f3) ∧ ∀ j u, [Value.int .u8 s.f0, .int .u8 s.f1, .int .u8 s.f2, .int .u8 s.f3][j]? = some u → W.cell? (a.add (i * 4 + j)) = some u := by
   intro i
   by_cases hlt : i < len
   ·obtain ⟨cs', hc, ht⟩ := hi i (by omega)
    obtain ⟨s, rfl, hr⟩ := opened_bit ht
    rw [bit_cells] at hc
    obtain ⟨_, _, hat⟩ := World.cells?_some hc
    refine ⟨s, fun _ => ⟨hr, fun j u hu => ?_⟩⟩
    have hj : j < 4 := (List.getElem?_eq_some_iff.1 hu).1
    have h4 := hat j hj
    rw [← Go.Deep.add_add, h4, hu]
   ·exact ⟨⟨0, 0, 0, 0⟩, fun h => absurd h hlt⟩
  obtain ⟨g, hg⟩ := Classical.axiomOfChoice hq
  have hml : len ≤ 9223372036854775807 := by unfold maxLen at hm; omega
  refine ⟨some a, cap, (List.range len).map g, by simp, by simpa using hl, ⟨by simp, by simpa using hml, fun _ => ⟨a, rfl, fun j p hj => ?_⟩⟩, ?_⟩
  ·have hj1 : j < len := by have := (List.getElem?_eq_some_iff.1 hj).1; simpa using this
   have hj2 : g j = p := by
    have := hj
    simp [hj1] at this
    exact this
   subst hj2
   exact ⟨_, rfl, k55_mk W (g j), fun i u hu => (hg j hj1).2 i u hu⟩
  ·intro s hs
   obtain ⟨i, hi2, rfl⟩ := List.mem_map.1 hs
   exact (hg i (List.mem_range.1 hi2)).1
set_option maxRecDepth 100000 in
theorem opened_bits3 {n : Nat} {v : Value} {y : DataW Hh × List MemPlace} (h : DataW.trod enc Tryz.prog W base spare held n 48 [v] = some y) :
  ∃ (A : Option Addr) (c : Nat) (l : List CBit3), v = .slice A l.length c ∧ l.length ≤ c ∧ Kd.C k82 W A l.length l ∧ ∀ s, s ∈ l → U8 s.f0 ∧ U8 s.f1 ∧ U8 s.f2 := by
 rcases open_slice Tryz.underlying48 h with ⟨hcs, _⟩ | ⟨a, len, cap, m, n', D, Pl, hcs, hb, hl, hm, hmm, hx, hi⟩
 ·simp only [List.cons.injEq, and_true] at hcs
  subst hcs
  exact ⟨none, 0, [], rfl, Nat.le_refl _, kc_none _, fun x hx => by cases hx⟩
 ·simp only [List.cons.injEq, and_true] at hcs
  subst hcs
  have hlm : len ≤ m := by
   rw [hmm]
   split
   ·exact hl
   ·exact Nat.le_refl _
  have hq : ∀ i, ∃ s : CBit3, i < len → (U8 s.f0 ∧ U8 s.f1 ∧ U8 s.f2) ∧ ∀ j u, [Value.int .u8 s.f0, .int .u8 s.f1, .int .u8 s.f2][j]? = some u → W.cell? (a.add (i * 3 + j)) = some u := by
   intro i
   by_cases hlt : i < len
   ·obtain ⟨cs', hc, ht⟩ := hi i (by omega)
    obtain ⟨s, rfl, hr⟩ := opened_bit3 ht
    rw [bit3_cells] at hc
    obtain ⟨_, _, hat⟩ := World.cells?_some hc
    refine ⟨s, fun _ => ⟨hr, fun j u hu => ?_⟩⟩
    have hj : j < 3 := (List.getElem?_eq_some_iff.1 hu).1
    have h4 := hat j hj
    rw [← Go.Deep.add_add, h4, hu]
   ·exact ⟨⟨0, 0, 0⟩, fun h => absurd h hlt⟩
  obtain ⟨g, hg⟩ := Classical.axiomOfChoice hq
  have hml : len ≤ 9223372036854775807 := by unfold maxLen at hm; omega
  refine ⟨some a, cap, (List.range len).map g, by simp, by simpa using hl, ⟨by simp, by simpa using hml, fun _ => ⟨a, rfl, fun j p hj => ?_⟩⟩, ?_⟩
  ·have hj1 : j < len := by have := (List.getElem?_eq_some_iff.1 hj).1; simpa using this
   have hj2 : g j = p := by
    have := hj
    simp [hj1] at this
    exact this
   subst hj2
   exact ⟨_, rfl, k82_mk W (g j), fun i u hu => (hg j hj1).2 i u hu⟩
  ·intro s hs
   obtain ⟨i, hi2, rfl⟩ := List.mem_map.1 hs
   exact (hg i (List.mem_range.1 hi2)).1
set_option maxRecDepth 100000 in
theorem small_in {n : Nat} {x0 x1 x2 x3 x4 x5 : Value} {y : DataW Hh × List MemPlace} (hf : DataW.trod enc Tryz.prog W base spare held n 24 [x0, x1, x2, x3, x4, x5] = some y) :
  ∃ a0 b l2 a3 a4 a5 A2 c2, #[x0, x1, x2, x3, x4, x5] = smallCells a0 b A2 l2.length c2 a3 a4 a5 ∧ SmallAt W a0 l2 a3 a4 a5 A2 := by
 obtain ⟨_, _, f0⟩ := field_of Tryz.underlying24 hf 0 _ rfl u8_cells (cs' := [x0]) rfl
 obtain ⟨_, _, f1⟩ := field_of Tryz.underlying24 hf 1 _ rfl bool_cells (cs' := [x1]) rfl
 obtain ⟨_, _, f2⟩ := field_of Tryz.underlying24 hf 2 _ rfl bits_cells (cs' := [x2]) rfl
 obtain ⟨_, _, f3⟩ := field_of Tryz.underlying24 hf 3 _ rfl u8_cells (cs' := [x3]) rfl
 obtain ⟨_, _, f4⟩ := field_of Tryz.underlying24 hf 4 _ rfl u8_cells (cs' := [x4]) rfl
 obtain ⟨_, _, f5⟩ := field_of Tryz.underlying24 hf 5 _ rfl u8_cells (cs' := [x5]) rfl
 obtain ⟨a0, rfl, u0⟩ := one_u8 f0
 obtain ⟨b, rfl⟩ := one_bool f1
 obtain ⟨A2, c2, l2, rfl, h2, r2, u2⟩ := opened_bits f2
 obtain ⟨a3, rfl, u3⟩ := one_u8 f3
 obtain ⟨a4, rfl, u4⟩ := one_u8 f4
 obtain ⟨a5, rfl, u5⟩ := one_u8 f5
 exact ⟨a0, b, l2, a3, a4, a5, A2, c2, rfl, r2, u0, u2, u3, u4, u5⟩
set_option maxRecDepth 100000 in
theorem opened_small {r : Reach} {b0 : Nat} {v : Value} {d : DataW Hh} {p : List MemPlace} (hv : Value.okWide Tryz.prog W r b0 24 v) (h : DataW.Trod enc Tryz.prog W base spare held 24 v d p) :
  ∃ a0 b l2 a3 a4 a5 A2 c2, v = .agg (smallCells a0 b A2 l2.length c2 a3 a4 a5) ∧ SmallAt W a0 l2 a3 a4 a5 A2 := by
 obtain ⟨cs, rfl, hsz⟩ := okWide_struct Tryz.underlying24 hv
 obtain ⟨l⟩ := cs
 match l, hsz.trans small_cells with
 |[x0, x1, x2, x3, x4, x5], _ =>
  obtain ⟨fuel, hf⟩ := h
  obtain ⟨a0, b, l2, a3, a4, a5, A2, c2, e, o⟩ := small_in hf
  exact ⟨a0, b, l2, a3, a4, a5, A2, c2, by rw [← e], o⟩
theorem case14_cells : Tryz.prog.cellsOf 50 = 7 := by kernel_rfl
set_option maxRecDepth 100000 in
theorem opened_case14 {r : Reach} {b0 : Nat} {v : Value} {d : DataW Hh} {p : List MemPlace} (hv : Value.okWide Tryz.prog W r b0 50 v) (h : DataW.Trod enc Tryz.prog W base spare held 50 v d p) :
  ∃ a0 b l2 a3 a4 a5 A2 c2 A6 c6, ∃ l6 : List CBit3, v = .agg #[.int .u8 a0, .bool b, .slice A2 l2.length c2, .int .u8 a3, .int .u8 a4, .int .u8 a5, .slice A6 l6.length c6] ∧ SmallAt W a0 l2 a3 a4 a5 A2 ∧ Kd.C k82 W A6 l6.length l6 ∧ ∀ s, s ∈ l6 → U8 s.f0 ∧ U8 s.f1 ∧ U8 s.f2 := by
 obtain ⟨cs, rfl, hsz⟩ := okWide_struct Tryz.underlying50 hv
 obtain ⟨l⟩ := cs
 match l, hsz.trans case14_cells with
 |[x0, x1, x2, x3, x4, x5, x6], _ =>
  obtain ⟨fuel, hf⟩ := h
  obtain ⟨m, z, hX⟩ := field_of Tryz.underlying50 hf 0 _ rfl small_cells (cs' := [x0, x1, x2, x3, x4, x5]) rfl
  obtain ⟨m6, z6, f6⟩ := field_of Tryz.underlying50 hf 1 _ rfl bits3_cells (cs' := [x6]) rfl
  obtain ⟨a0, b, l2, a3, a4, a5, A2, c2, e, o⟩ := small_in hX
  obtain ⟨A6, c6, l6, rfl, h6, r6, u6⟩ := opened_bits3 f6
  have e2 : [x0, x1, x2, x3, x4, x5] = (smallCells a0 b A2 l2.length c2 a3 a4 a5).toList := by rw [← e]
  injection e2 with e0 e2
  injection e2 with e1 e2
  injection e2 with e2' e2
  injection e2 with e3 e2
  injection e2 with e4 e2
  injection e2 with e5 _
  exact ⟨a0, b, l2, a3, a4, a5, A2, c2, A6, c6, l6, by rw [e0, e1, e2', e3, e4, e5], o, r6, u6⟩
end
end Go.Proofs.YtdfagllncopmjaaGreat.H
end
section
namespace Go.Proofs.YtdfagllncopmjaaGreat.H
open Go Go.RowKit Go.Proofs.YtdfagllncopmjaaGreat.PrintC Go.Proofs.YtdfagllncopmjaaGreat.PrintE Go.Proofs.YtdfagllncopmjaaGreatW.PrintWords Go.Proofs.YtdfagllncopmjaaGreatW.PrintLast Go.Proofs.YtdfagllncopmjaaGreatW.PrintMore
set_option linter.unusedVariables false
set_option linter.unusedSimpArgs false
theorem appMv : AppK Tryz.prog kMv 40 78 (fun x => [.int .i64 x.f0, .int .i64 x.f1, .int .i64 x.f2]) := ⟨Tryz.underlying40, ⟨_, 24, infoMv, rfl, by decide, by decide⟩, by decide, k78_mkM⟩
theorem mv_swap {W : World} {base g n c : Nat} {a b : List Mv} {X Y : Mv} (h2 : Kd.R kMv 78 W base (fun _ => True) (.slice (some ⟨g, 0, none⟩) n c) (a ++ Y :: X :: b)) {j q : Nat} (hj : j = a.length + 1) (hq : q = a.length) :
  (W.cell? ⟨g, q * 3, none⟩ = some (.int .i64 Y.f0) ∧ W.cell? ⟨g, q * 3 + 1, none⟩ = some (.int .i64 Y.f1) ∧ W.cell? ⟨g, q * 3 + 2, none⟩ = some (.int .i64 Y.f2) ∧
   W.cell? ⟨g, j * 3, none⟩ = some (.int .i64 X.f0) ∧ W.cell? ⟨g, j * 3 + 1, none⟩ = some (.int .i64 X.f1) ∧ W.cell? ⟨g, j * 3 + 2, none⟩ = some (.int .i64 X.f2)) ∧
  (W.frozen? ⟨g, j * 3, none⟩ = false ∧ W.frozen? ⟨g, j * 3 + 1, none⟩ = false ∧ W.frozen? ⟨g, j * 3 + 2, none⟩ = false) ∧
  ∃ W1, W1 = ((W.setCell ⟨g, j * 3, none⟩ (.int .i64 Y.f0)).setCell ⟨g, j * 3 + 1, none⟩ (.int .i64 Y.f1)).setCell ⟨g, j * 3 + 2, none⟩ (.int .i64 Y.f2) ∧
  (∃ u0 u1 u2, W1.cell? ⟨g, q * 3, none⟩ = some u0 ∧ W1.cell? ⟨g, q * 3 + 1, none⟩ = some u1 ∧ W1.cell? ⟨g, q * 3 + 2, none⟩ = some u2) ∧ (W1.frozen? ⟨g, q * 3, none⟩ = false ∧ W1.frozen? ⟨g, q * 3 + 1, none⟩ = false ∧ W1.frozen? ⟨g, q * 3 + 2, none⟩ = false) ∧
  Kd.R kMv 78 (((W1.setCell ⟨g, q * 3, none⟩ (.int .i64 X.f0)).setCell ⟨g, q * 3 + 1, none⟩ (.int .i64 X.f1)).setCell ⟨g, q * 3 + 2, none⟩ (.int .i64 X.f2)) base (fun _ => True) (.slice (some ⟨g, 0, none⟩) n c) (a ++ X :: Y :: b) ∧
  (∀ w0 : World, Below base w0 W → Below base w0 (((W1.setCell ⟨g, q * 3, none⟩ (.int .i64 X.f0)).setCell ⟨g, q * 3 + 1, none⟩ (.int .i64 X.f1)).setCell ⟨g, q * 3 + 2, none⟩ (.int .i64 X.f2))) := by
 have hn : n = (a ++ Y :: X :: b).length := (Kd.R_reads' h2).1
 have hl : (a ++ Y :: X :: b).length = a.length + (b.length + 2) := by rw [List.length_append]; rfl
 have eY : (a ++ Y :: X :: b).getD q z78 = Y := by
  rw [hq, List.getD_eq_getElem?_getD, List.getElem?_append_right (Nat.le_refl _), Nat.sub_self]
  rfl
 have eX : (a ++ Y :: X :: b).getD j z78 = X := by
  rw [hj, List.getD_eq_getElem?_getD, List.getElem?_append_right (by omega), show a.length + 1 - a.length = 1 by omega]
  rfl
 have i0 : (0 : Int) ≤ (j : Int) := by omega
 have i1 : (j : Int) < n := by omega
 have k0 : (0 : Int) ≤ (q : Int) := by omega
 have k1 : (q : Int) < n := by omega
 obtain ⟨ce, hcl, hM, hcc, hfr⟩ := Kd.R_elem h2 z78 (j : Int) i0 i1
 obtain rfl := k78_openM hM
 obtain ⟨ce, hcl', hM', hcc', hfr'⟩ := Kd.R_elem h2 z78 (q : Int) k0 k1
 obtain rfl := k78_openM hM'
 have hg := Kd.R_base h2 g rfl
 have s1 := (Kd.R_seg h2 (j : Int) i0 i1 (seg := [.int .i64 Y.f0, .int .i64 Y.f1, .int .i64 Y.f2]) (j := 0) hcl hcc (show 3 ≤ 3 from by decide) (x' := Y) (k78_mkM _ _ _ _) (fun _ hk => hk)).1
 obtain ⟨ce, hcl2, hM2, hcc2, hfr2⟩ := Kd.R_elem s1 z78 (q : Int) k0 k1
 obtain rfl := k78_openM hM2
 have s2 := (Kd.R_seg s1 (q : Int) k0 k1 (seg := [.int .i64 X.f0, .int .i64 X.f1, .int .i64 X.f2]) (j := 0) hcl2 hcc2 (show 3 ≤ 3 from by decide) (x' := X) (k78_mkM _ _ _ _) (fun _ hk => hk)).1
 have es : ((a ++ Y :: X :: b).set j Y).set q X = a ++ X :: Y :: b := by
  rw [hj, hq, List.set_append_right _ _ (by omega), show a.length + 1 - a.length = 1 by omega, List.set_append_right _ _ (by omega), Nat.sub_self]
  rfl
 simp only [World.setCells, show k78.sz = 3 from rfl, Nat.add_zero, Int.toNat_natCast, eX, eY] at hcc hcc' hfr hfr' hcc2 hfr2 s1 s2
 rw [es] at s2
 refine ⟨⟨hcc' 0 _ rfl, hcc' 1 _ rfl, hcc' 2 _ rfl, hcc 0 _ rfl, hcc 1 _ rfl, hcc 2 _ rfl⟩, ⟨hfr 0, hfr 1, hfr 2⟩, _, rfl, ⟨_, _, _, hcc2 0 _ rfl, hcc2 1 _ rfl, hcc2 2 _ rfl⟩, ⟨hfr2 0, hfr2 1, hfr2 2⟩, s2, fun w0 hw => ?_⟩
 exact (((((hw.setCell hg _).setCell hg _).setCell hg _).setCell hg _).setCell hg _).setCell hg _
def alls (l : List Mv) (i j : Nat) : List Int := ((l.take j).filter (sameK (mvAt l i))).map (·.f2)
theorem alls_next {l : List Mv} {i j : Nat} (hj : j < l.length) : alls l i (j + 1) = alls l i j ++ (if sameK (mvAt l i) (mvAt l j) = true then [(mvAt l j).f2] else []) := by
 unfold alls
 rw [mvAt_take hj, List.filter_append, List.map_append]
 congr 1
 by_cases e : sameK (mvAt l i) (mvAt l j) = true
 ·rw [if_pos e, List.filter_cons_of_pos e]
  rfl
 ·rw [if_neg e, List.filter_cons_of_neg e]
  rfl
theorem alls_first {l : List Mv} {i : Nat} (hi : i ≤ l.length) (h : ∀ k, k < i → sameK (mvAt l k) (mvAt l i) = false) : alls l i i = [] := by
 unfold alls
 rw [List.filter_eq_nil_iff.2 fun x hx e => ?_]
 ·rfl
 ·obtain ⟨k, hk, rfl⟩ := mem_take_at hi hx
  exact absurd (sameK_sym e) (by rw [h k hk]; decide)
theorem alls_len (l : List Mv) (i j : Nat) : (alls l i j).length ≤ l.length := by
 unfold alls
 rw [List.length_map]
 exact Nat.le_trans (List.length_filter_le _ _) (by rw [List.length_take]; omega)
theorem alls_i64 {l : List Mv} (h : ∀ x, x ∈ l → -9223372036854775808 ≤ x.f2 ∧ x.f2 ≤ 9223372036854775807) (i j : Nat) : I64s (alls l i j) := fun y hy => by
 unfold alls at hy
 obtain ⟨x, hx, rfl⟩ := List.mem_map.1 hy
 exact h x (List.mem_of_mem_take (List.mem_filter.1 hx).1)
theorem appInt : AppK Tryz.prog (Kd.int .i64) 60 3 (fun x => [.int .i64 x]) := ⟨Tryz.underlying60, ⟨_, 8, infoNum, rfl, by decide, by decide⟩, by decide, fun _ _ _ _ => rfl⟩
def mvT9 : Bool × List (List Nat × List Nat) := (true, [([], []), ([0], [0]), ([1], [1]), ([1], [1]), ([2, 3, 1], [1, 2, 3]), ([4, 1], [1, 4]), ([5, 1], [1, 5]), ([1], [1]), ([1], [1]), ([7, 8, 1], [1, 7, 8]), ([9, 1], [1, 9]), ([10, 1], [1, 10]), ([6, 11, 1], [1, 6, 11]), ([12, 1, 1], [1, 12]), ([13], [13]), ([13], [13]), ([14, 15, 13], [13, 14, 15]), ([16, 13], [13, 16]), ([17, 13], [13, 17]), ([13], [13]), ([13], [13]), ([19, 20, 13], [13, 19, 20]), ([21, 13], [13, 21]), ([22, 13], [13, 22]), ([18, 23, 13], [13, 18, 23]), ([13, 24, 1], [1, 13, 24]), ([1, 25], [1, 25]), ([26, 13, 0, 1, 2, 3, 4, 5, 6, 7, 8, 9, 10, 11, 12, 13, 14, 15, 16, 17, 18, 19, 20, 21, 22, 23, 24, 25, 26], [0, 26])])
def mvT15 : Bool × List (List Nat × List Nat) := (true, [([], []), ([], []), ([0, 1], [0, 1]), ([2], [2]), ([3], [3]), ([], []), ([], []), ([5, 6], [5, 6]), ([7], [7]), ([8], [8]), ([4, 9], [4, 9]), ([10], [10]), ([11], [11]), ([11], [11]), ([12, 13, 11], [11, 12, 13]), ([14, 11], [11, 14]), ([15, 11], [11, 15]), ([11], [11]), ([11], [11]), ([17, 18, 11], [11, 17, 18]), ([19, 11], [11, 19]), ([20, 11], [11, 20]), ([16, 21, 11], [11, 16, 21]), ([11, 22], [11, 22])])
def mvT23 : Bool × List (List Nat × List Nat) := (true, [([], []), ([0], [0]), ([1], [1]), ([2], [2]), ([2], [2]), ([3, 4, 2], [2, 3, 4]), ([5, 2], [2, 5]), ([6, 2], [2, 6]), ([2], [2]), ([2], [2]), ([9, 2], [2, 9]), ([8, 10, 2], [2, 8, 10]), ([11, 2], [2, 11]), ([12, 2], [2, 12]), ([7, 13, 2], [2, 7, 13]), ([14, 2, 2], [2, 14]), ([15], [15]), ([15], [15]), ([16, 17, 15], [15, 16, 17]), ([18, 15], [15, 18]), ([19, 15], [15, 19]), ([15], [15]), ([15], [15]), ([22, 15], [15, 22]), ([21, 23, 15], [15, 21, 23]), ([24, 15], [15, 24]), ([25, 15], [15, 25]), ([20, 26, 15], [15, 20, 26]), ([27, 15, 15], [15, 27]), ([28], [28]), ([28], [28]), ([29, 30, 28], [28, 29, 30]), ([31, 28], [28, 31]), ([32, 28], [28, 32]), ([28], [28]), ([28], [28]), ([35, 28], [28, 35]), ([34, 36, 28], [28, 34, 36]), ([37, 28], [28, 37]), ([38, 28], [28, 38]), ([33, 39, 28], [28, 33, 39]), ([28, 40, 15], [15, 28, 40]), ([15, 41, 2], [2, 15, 41]), ([2, 42], [2, 42])])
set_option maxHeartbeats 8000000 in
set_option maxRecDepth 100000 in
theorem rmoves_walk (A : Option Addr) (c : Nat) (l : List Mv) (w : World) (hr : Kd.C kMv w A l.length l) (hi : ∀ x, x ∈ l → -9223372036854775808 ≤ x.f2 ∧ x.f2 ≤ 9223372036854775807) (hl : l.length ≤ 100000) :
  Calls Tryz.prog 19 #[.slice A l.length c] w (MovesAt l w) := by
 have HR := zh hr
 have HI := zh hi
 have hu2 := Tryz.underlying78
 clear hr hi
 go_enter Tryz.func19, Tryz.ntmps19
 go_wp2
 go_loopg [4, 5] (l.length + 1) (fun k ov iv W => ∃ (i : Nat) (m : List Mv) (Ao : Option Addr) (co : Nat), i ≤ l.length ∧ ov = .slice Ao m.length co ∧ iv = .int .i64 i ∧ k = l.length + 1 - i ∧ Hid (Kd.R kMv 78 W w.heap.size (fun _ => True) (.slice Ao m.length co) m ∧ Below w.heap.size w W ∧ MgI l i m ∧ m.length ≤ i))
 case atStart => exact ⟨0, [], none, 0, Nat.zero_le _, rfl, rfl, rfl, zh ⟨Kd.R_nil _ _ _ _ _, Below.refl _ _, MgI.zero l, Nat.le_refl _⟩⟩
 case round =>
  obtain ⟨i, m, Ao, co, hi, rfl, rfl, rfl, HL⟩ := hrel
  by_cases hlt : i < l.length
  ·have i0 : (0 : Int) ≤ (i : Int) := by omega
   have i1 : (i : Int) < (l.length : Int) := by omega
   obtain ⟨ad, ea, -⟩ := at_T78 HR.out (i : Int) i0 i1
   subst ea
   obtain ⟨X, hX⟩ : ∃ X, X = mvAt l i := ⟨_, rfl⟩
   have CI : Hid (∀ W, Below w.heap.size w W → W.cell? (ad.add (i * 3)) = some (.int .i64 X.f0) ∧ W.cell? ⟨(ad.add (i * 3)).block, (ad.add (i * 3)).off + 1, none⟩ = some (.int .i64 X.f1) ∧ W.cell? ⟨(ad.add (i * 3)).block, (ad.add (i * 3)).off + 2, none⟩ = some (.int .i64 X.f2)) := zh (fun W hW => by
    obtain ⟨ad2, e2, z0, z1, z2⟩ := at_T78 (Kd.C_below HR.out hW) (i : Int) i0 i1
    injection e2 with e2
    subst e2
    rw [Int.toNat_natCast] at z0 z1 z2
    rw [hX]
    exact ⟨z0, z1, z2⟩)
   have HX := zh hX
   clear hX
   go_wp2
   go_loopg [6, 7] (i + 1) (fun k fv jv W => ∃ (j : Nat) (fb : Bool), j ≤ i ∧ fv = .bool fb ∧ jv = .int .i64 j ∧ k = i + 1 - j ∧ Hid ((fb = true ↔ ∀ t, t < j → sameK (mvAt l t) X = false) ∧ Kd.R kMv 78 W w.heap.size (fun _ => True) (.slice Ao m.length co) m ∧ Below w.heap.size w W))
   case atStart => exact ⟨0, true, Nat.zero_le _, rfl, rfl, rfl, zh ⟨⟨fun _ t ht => absurd ht (Nat.not_lt_zero _), fun _ => rfl⟩, HL.out.1, HL.out.2.1⟩⟩
   case round =>
    obtain ⟨j, fb, hj, rfl, rfl, rfl, HJ⟩ := hrel
    by_cases hjt : j < i
    ·have j0 : (0 : Int) ≤ (j : Int) := by omega
     have j1 : (j : Int) < (l.length : Int) := by omega
     have hji : (j : Int) < (i : Int) := by omega
     obtain ⟨ad2, e2, y0, y1, -⟩ := at_T78 (Kd.C_drew (Kd.C_below HR.out HJ.out.2.2)) (j : Int) j0 j1
     injection e2 with e2
     subst e2
     rw [Int.toNat_natCast] at y0 y1
     obtain ⟨Y, hY⟩ : ∃ Y, Y = mvAt l j := ⟨_, rfl⟩
     have hY2 : rd_T78 l (j : Int) = Y := by rw [hY]; rfl
     rw [hY2] at y0 y1
     have HY := zh hY
     clear hY hY2
     obtain ⟨x0, x1, -⟩ := CI.out _ (below_drew1 HJ.out.2.2)
     have HO := zh (And.intro (Kd.R_drew HJ.out.2.1) (below_drew1 HJ.out.2.2))
     obtain ⟨nf, hnf, HN⟩ : ∃ nf : Bool, nf = (fb && (decide (Y.f0 ≠ X.f0) || decide (Y.f1 ≠ X.f1))) ∧ Hid (nf = true ↔ ∀ t, t < j + 1 → sameK (mvAt l t) X = false) := by
      refine ⟨_, rfl, zh ?_⟩
      have hs : sameK Y X = false ↔ (Y.f0 ≠ X.f0 ∨ Y.f1 ≠ X.f1) := by
       unfold sameK
       rw [decide_eq_false_iff_not]
       omega
      rw [Bool.and_eq_true, Bool.or_eq_true, decide_eq_true_iff, decide_eq_true_iff, ← hs, HJ.out.1, HY.out]
      constructor
      ·rintro ⟨h1, h2⟩ t ht
       by_cases e : t = j
       ·rw [e]; exact h2
       ·exact h1 t (by omega)
      ·exact fun h => ⟨fun t ht => h t (by omega), h j (by omega)⟩
     have HJ2 := zh HJ.out.1
     clear HL HJ
     go_wp2
     refine stepS (S := fun w' => w'.cell? (ad.add (j * 3)) = some (.int .i64 Y.f0) ∧ w'.cell? ⟨(ad.add (j * 3)).block, (ad.add (j * 3)).off + 1, none⟩ = some (.int .i64 Y.f1) ∧ w'.cell? (ad.add (i * 3)) = some (.int .i64 X.f0) ∧ w'.cell? ⟨(ad.add (i * 3)).block, (ad.add (i * 3)).off + 1, none⟩ = some (.int .i64 X.f1)) (ds := []) 28 (by kernel_rfl) rfl ⟨y0, y1, x0, x1⟩ (fun hHeld => ?_)
     generalize wr.drew = wd at HO hHeld ⊢
     refine wT mvT9 (fun hT => ?_)
     clear y0 y1 x0 x1
     cases fb with
     |false =>
      have hn2 : nf = false := by rw [hnf]; rfl
      subst hn2
      clear hnf
      as_aux_lemma =>
       repeat (first | refine qP 28 hT ?_ | refine qT 28 hT hHeld ?_)
       refine done_ (by kernel_rfl) ?_
       go_wp2
       go_roundg (i - j)
       case measure => omega
       case rel => exact ⟨j + 1, false, by omega, rfl, by go_num, by omega, zh ⟨by simpa using HN.out, HO.out.1, HO.out.2⟩⟩
     |true =>
      by_cases c0 : Y.f0 = X.f0
      ·have d0 : (Y.f0 != X.f0) = false := bne_eq_false_iff_eq.2 c0
       have d1 : (Y.f0 == X.f0) = true := beq_iff_eq.2 c0
       by_cases c1 : Y.f1 = X.f1
       ·have d2 : (Y.f1 != X.f1) = false := bne_eq_false_iff_eq.2 c1
        have d3 : (Y.f1 == X.f1) = true := beq_iff_eq.2 c1
        have hn2 : nf = false := by rw [hnf, c0, c1]; simp
        subst hn2
        have HC := zh (And.intro c0 c1)
        clear hnf c0 c1
        as_aux_lemma =>
         repeat (first | refine qP 28 hT ?_ | refine qT 28 hT hHeld ?_)
         refine done_ (by kernel_rfl) ?_
         go_wp2
         go_roundg (i - j)
         case measure => omega
         case rel => exact ⟨j + 1, false, by omega, rfl, by go_num, by omega, zh ⟨by simpa using HN.out, HO.out.1, HO.out.2⟩⟩
       ·have d2 : (Y.f1 != X.f1) = true := bne_iff_ne.2 c1
        have d3 : (Y.f1 == X.f1) = false := beq_eq_false_iff_ne.2 c1
        have hn2 : nf = true := by rw [hnf]; simp [c1]
        subst hn2
        have HC := zh (And.intro c0 c1)
        clear hnf c0 c1
        as_aux_lemma =>
         repeat (first | refine qP 28 hT ?_ | refine qT 28 hT hHeld ?_)
         refine done_ (by kernel_rfl) ?_
         go_wp2
         go_roundg (i - j)
         case measure => omega
         case rel => exact ⟨j + 1, true, by omega, rfl, by go_num, by omega, zh ⟨by simpa using HN.out, HO.out.1, HO.out.2⟩⟩
      ·have d0 : (Y.f0 != X.f0) = true := bne_iff_ne.2 c0
       have d1 : (Y.f0 == X.f0) = false := beq_eq_false_iff_ne.2 c0
       have hn2 : nf = true := by rw [hnf]; simp [c0]
       subst hn2
       have HC := zh c0
       clear hnf c0
       as_aux_lemma =>
        repeat (first | refine qP 28 hT ?_ | refine qT 28 hT hHeld ?_)
        refine done_ (by kernel_rfl) ?_
        go_wp2
        go_roundg (i - j)
        case measure => omega
        case rel => exact ⟨j + 1, true, by omega, rfl, by go_num, by omega, zh ⟨by simpa using HN.out, HO.out.1, HO.out.2⟩⟩
    ·have e : j = i := by omega
     subst e
     cases fb with
     |false =>
      have HH : Hid (∃ t, t < j ∧ sameK (mvAt l t) X = true) := zh (by
       apply Classical.byContradiction
       intro h
       have := HJ.out.1.2 (fun t ht => by
        cases e : sameK (mvAt l t) X with
        |false => rfl
        |true => exact absurd ⟨t, ht, e⟩ h)
       cases this)
      go_wp2
      go_roundg (l.length - j)
      case measure => omega
      case rel =>
       refine ⟨j + 1, m, Ao, co, by omega, rfl, by go_num, by omega, zh ⟨HJ.out.2.1, HJ.out.2.2, ?_, by have := HL.out.2.2.2; omega⟩⟩
       obtain ⟨t, ht, e⟩ := HH.out
       rw [HX.out] at e
       exact HL.out.2.2.1.had hlt ht e
     |true =>
      have HNH : Hid (∀ t, t < j → sameK (mvAt l t) (mvAt l j) = false) := zh (fun t ht => by have := HJ.out.1.1 rfl t ht; rw [HX.out] at this; exact this)
      have HA0 : Hid (alls l j j = []) := zh (alls_first (by omega) HNH.out)
      have HO := zh (And.intro HJ.out.2.1 HJ.out.2.2)
      have HM := zh HL.out.2.2
      have hmj : m.length ≤ j := HL.out.2.2.2
      clear HL HJ
      go_wp2
      obtain ⟨W2, hW2⟩ : ∃ W2, W2 = wr := ⟨_, rfl⟩
      rw [← hW2] at HO ⊢
      clear hW2
      go_loopg [8, 9] (l.length + 1 - j) (fun k av tv W => ∃ (t : Nat) (Aa : Option Addr) (ca : Nat), j ≤ t ∧ t ≤ l.length ∧ av = .slice Aa (alls l j t).length ca ∧ tv = .int .i64 t ∧ k = l.length + 1 - t ∧ Hid (Kd.R (Kd.int .i64) 3 W W2.heap.size (fun _ => True) (.slice Aa (alls l j t).length ca) (alls l j t) ∧ Below W2.heap.size W2 W))
      case atStart => exact ⟨j, none, 0, Nat.le_refl _, by omega, by rw [HA0.out]; rfl, rfl, rfl, zh ⟨by rw [HA0.out]; exact Kd.R_nil _ _ _ _ _, Below.refl _ _⟩⟩
      case round =>
       obtain ⟨t, Aa, ca, ht1, ht, rfl, rfl, rfl, HT⟩ := hrel
       have HB := zh (below_step HO.out.2 HT.out.2)
       by_cases htl : t < l.length
       ·have j0 : (0 : Int) ≤ (t : Int) := by omega
        have j1 : (t : Int) < (l.length : Int) := by omega
        obtain ⟨ad2, e2, y0, y1, y2⟩ := at_T78 (Kd.C_drew (Kd.C_below HR.out HB.out)) (t : Int) j0 j1
        injection e2 with e2
        subst e2
        rw [Int.toNat_natCast] at y0 y1 y2
        obtain ⟨Y, hY⟩ : ∃ Y, Y = mvAt l t := ⟨_, rfl⟩
        have hY2 : rd_T78 l (t : Int) = Y := by rw [hY]; rfl
        rw [hY2] at y0 y1 y2
        clear hY2
        obtain ⟨x0, x1, -⟩ := CI.out _ (below_drew1 HB.out)
        have HO2 := zh (And.intro (Kd.R_drew HT.out.1) (below_drew1 HT.out.2))
        have hnx := alls_next (i := j) htl
        rw [← hY, ← HX.out] at hnx
        go_wp2
        refine stepS (S := fun w' => w'.cell? (ad.add (t * 3)) = some (.int .i64 Y.f0) ∧ w'.cell? ⟨(ad.add (t * 3)).block, (ad.add (t * 3)).off + 1, none⟩ = some (.int .i64 Y.f1) ∧ w'.cell? (ad.add (j * 3)) = some (.int .i64 X.f0) ∧ w'.cell? ⟨(ad.add (j * 3)).block, (ad.add (j * 3)).off + 1, none⟩ = some (.int .i64 X.f1)) (ds := []) 24 (by kernel_rfl) rfl ⟨y0, y1, x0, x1⟩ (fun hHeld => ?_)
        generalize wr.drew = wd at HO2 hHeld y2 ⊢
        refine wT mvT15 (fun hT => ?_)
        clear y0 y1 x0 x1 HT HB
        by_cases c0 : Y.f0 = X.f0
        ·have d0 : (Y.f0 != X.f0) = false := bne_eq_false_iff_eq.2 c0
         have d1 : (Y.f0 == X.f0) = true := beq_iff_eq.2 c0
         by_cases c1 : Y.f1 = X.f1
         ·have d2 : (Y.f1 != X.f1) = false := bne_eq_false_iff_eq.2 c1
          have d3 : (Y.f1 == X.f1) = true := beq_iff_eq.2 c1
          rw [if_pos (sameK_iff.2 ⟨c0.symm, c1.symm⟩)] at hnx
          have HNX := zh hnx
          have HC := zh (And.intro c0 c1)
          clear hnx c0 c1 hY
          as_aux_lemma =>
           repeat (first | refine qP 24 hT ?_ | refine qT 24 hT hHeld ?_)
           refine done_ (by kernel_rfl) ?_
           clear hHeld
           go_wp2_with (first
            |((with_reducible refine gate_dst (N := 91) rfl ?_); (refine gA (w0 := W2) (base := W2.heap.size) appInt (alls l j t) Y.f2 ?aO ?aB ?aS ?aL ?_); (case aO => exact HO2.out.1); (case aB => exact HO2.out.2); (case aS => exact HO2.out.2.size); (case aL => have := alls_len l j t; omega); go_loud (intro A1 c1 w9 ho hb hg; have HO9 := zh (And.intro ho hb); clear ho hb hg HO2)))
           go_roundg (l.length - t)
           case measure => omega
           case rel => exact ⟨t + 1, A1, c1, by omega, by omega, by rw [HNX.out, List.length_append]; rfl, by go_num, by omega, zh ⟨by rw [HNX.out, List.length_append]; exact HO9.out.1, HO9.out.2⟩⟩
         ·have d2 : (Y.f1 != X.f1) = true := bne_iff_ne.2 c1
          have d3 : (Y.f1 == X.f1) = false := beq_eq_false_iff_ne.2 c1
          rw [if_neg (fun e => c1 (sameK_iff.1 e).2.symm), List.append_nil] at hnx
          have HNX := zh hnx
          have HC := zh (And.intro c0 c1)
          clear hnx c0 c1 hY
          as_aux_lemma =>
           repeat (first | refine qP 24 hT ?_ | refine qT 24 hT hHeld ?_)
           refine done_ (by kernel_rfl) ?_
           clear hHeld
           go_wp2
           go_roundg (l.length - t)
           case measure => omega
           case rel => exact ⟨t + 1, Aa, ca, by omega, by omega, by rw [HNX.out], by go_num, by omega, zh ⟨by rw [HNX.out]; exact HO2.out.1, HO2.out.2⟩⟩
        ·have d0 : (Y.f0 != X.f0) = true := bne_iff_ne.2 c0
         have d1 : (Y.f0 == X.f0) = false := beq_eq_false_iff_ne.2 c0
         rw [if_neg (fun e => c0 (sameK_iff.1 e).1.symm), List.append_nil] at hnx
         have HNX := zh hnx
         have HC := zh c0
         clear hnx c0 hY
         as_aux_lemma =>
          repeat (first | refine qP 24 hT ?_ | refine qT 24 hT hHeld ?_)
          refine done_ (by kernel_rfl) ?_
          clear hHeld
          go_wp2
          go_roundg (l.length - t)
          case measure => omega
          case rel => exact ⟨t + 1, Aa, ca, by omega, by omega, by rw [HNX.out], by go_num, by omega, zh ⟨by rw [HNX.out]; exact HO2.out.1, HO2.out.2⟩⟩
       ·have e : t = l.length := by omega
        subst e
        obtain ⟨T, hT⟩ : ∃ T, T = amt l X := ⟨_, rfl⟩
        have HSUM : Hid (sumL (alls l j l.length) = T) := zh (by rw [hT, HX.out]; unfold alls amt; rw [List.take_length])
        have HTE := zh hT
        have hal := alls_len l j l.length
        clear hT
        cases hf : fits T with
        |false =>
         have HF := zh hf
         clear hf
         go_wp2_with (go_at_call 35; go_loud ((with_reducible refine (rsum_walk Aa ca (alls l j l.length) _ ?s1 ?s2 ?s3).mono ?_); (case s1 => exact (Kd.R_reads' HT.out.1).2.2); (case s2 => exact alls_i64 HI.out j _); (case s3 => omega); rintro e w7 hs; obtain ⟨rfl, hb⟩ := hs.no HSUM.out HF.out; have HB7 := zh (below_step HB.out hb); clear hs hb))
         go_ret2
         refine ⟨HB7.out, .inl ⟨rfl, X, ?_, ?_⟩⟩
         ·rw [HX.out]
          exact mvAt_mem hlt
         ·rw [← HTE.out]
          exact HF.out
        |true =>
         have HF := zh hf
         clear hf
         by_cases c9 : T = 0
         ·have c1 : (T == 0) = true := beq_iff_eq.2 c9
          have c2 : (T != 0) = false := bne_eq_false_iff_eq.2 c9
          have HC9 := zh c9
          clear c9
          go_wp2_with (go_at_call 35; go_loud ((with_reducible refine (rsum_walk Aa ca (alls l j l.length) _ ?s1 ?s2 ?s3).mono ?_); (case s1 => exact (Kd.R_reads' HT.out.1).2.2); (case s2 => exact alls_i64 HI.out j _); (case s3 => omega); rintro e w7 hs; obtain ⟨rfl, hb⟩ := hs.yes HSUM.out HF.out; have HB7 := zh (And.intro (Kd.R_below (Kd.R_below HO.out.1 HT.out.2) hb) (below_step HB.out hb)); clear hs hb))
          go_roundg (l.length - j)
          case measure => omega
          case rel =>
           exact ⟨j + 1, m, Ao, co, by omega, rfl, by go_num, by omega, zh ⟨HB7.out.1, HB7.out.2, HM.out.1.none hlt (by rw [← HX.out, ← HTE.out]; exact HC9.out), by omega⟩⟩
         ·have c1 : (T == 0) = false := beq_eq_false_iff_ne.2 c9
          have c2 : (T != 0) = true := bne_iff_ne.2 c9
          have HC9 := zh c9
          clear c9
          go_wp2_with (go_at_call 35; go_loud ((with_reducible refine (rsum_walk Aa ca (alls l j l.length) _ ?s1 ?s2 ?s3).mono ?_); (case s1 => exact (Kd.R_reads' HT.out.1).2.2); (case s2 => exact alls_i64 HI.out j _); (case s3 => omega); rintro e w7 hs; obtain ⟨rfl, hb⟩ := hs.yes HSUM.out HF.out; have HB7 := zh (And.intro (Kd.R_below (Kd.R_below HO.out.1 HT.out.2) hb) (below_step HB.out hb)); clear hs hb))
          obtain ⟨x0, x1, -⟩ := CI.out _ (below_drew1 HB7.out.2)
          refine stepS (S := fun w' => w'.cell? (ad.add (j * 3)) = some (.int .i64 X.f0) ∧ w'.cell? ⟨(ad.add (j * 3)).block, (ad.add (j * 3)).off + 1, none⟩ = some (.int .i64 X.f1)) (ds := [14]) 16 (by kernel_rfl) rfl ⟨x0, x1⟩ (fun hHeld => ?_)
          have HO9 := zh (And.intro (Kd.R_drew HB7.out.1) (below_drew1 HB7.out.2))
          generalize w7.drew = wd at HO9 hHeld ⊢
          clear x0 x1 HB7 HO HB HT
          as_aux_lemma =>
           repeat (first | refine rP 16 ?_ | refine rT 16 hHeld ?_)
           refine sB 13 hHeld (fun hHeld => ?_)
           obtain ⟨XX, hXX⟩ : ∃ XX : Mv, XX = ⟨X.f0, X.f1, T⟩ := ⟨_, rfl⟩
           refine sA 14 appMv m ⟨X.f0, X.f1, T⟩ HO9.out.1 HO9.out.2 HO9.out.2.size (by omega) (fun A1 c1 w9 ho hb hg => ?_)
           refine sN ?_
           refine rP 16 ?_
           refine done_ (by kernel_rfl) ?_
           rw [← hXX] at ho
           have HXX := zh hXX
           obtain ⟨n1, hn1⟩ : ∃ n1, n1 = m.length + 1 := ⟨_, rfl⟩
           rw [← hn1] at ho ⊢
           obtain ⟨g, cap, ev, -⟩ := Kd.R_form ho (by simp)
           injection ev with ev1 ev2 ev3
           subst ev1
           clear ev2 ev3 hXX hg hHeld HO9
           have HO9 := zh (And.intro ho hb)
           clear ho hb
           have HM9 := zh HM.out
           have hn1b : 1 ≤ n1 ∧ n1 ≤ 100001 := by omega
           have HN1 := zh hn1
           clear hn1
           go_wp2
           go_loopg [12] n1 (fun k jv W => ∃ (J : Int) (a b : List Mv), jv = .int .i64 J ∧ J = (a.length : Int) ∧ k = J.toNat + 1 ∧ J ≤ 100000 ∧ Hid (a ++ b = m ∧ (∀ y, y ∈ b → mlt XX y) ∧ Kd.R kMv 78 W w.heap.size (fun _ => True) (.slice (some ⟨g, 0, none⟩) n1 c1) (a ++ XX :: b) ∧ Below w.heap.size w W))
           case atStart => exact ⟨(n1 : Int) - 1, m, [], rfl, by have := HN1.out; omega, by omega, by omega, zh ⟨List.append_nil m, fun _ h => (nomatch h), HO9.out.1, HO9.out.2⟩⟩
           case round =>
            obtain ⟨J, a, b, rfl, hJ, rfl, hJb, HK⟩ := hrel
            rcases List.eq_nil_or_concat a with rfl | ⟨a', Y, ha⟩
            ·have hJ0 : J = 0 := by rw [hJ]; rfl
             subst hJ0
             clear hJ
             go_wp2
             refine stepS (S := fun _ => True) (ds := []) 44 (by kernel_rfl) rfl trivial (fun hHeld => ?_)
             have HO9 := zh (And.intro (Kd.R_drew HK.out.2.2.1) (below_drew1 HK.out.2.2.2))
             generalize wr.drew = wd at HO9 ⊢
             refine wT mvT23 (fun hT => ?_)
             repeat refine qP 44 hT ?_
             refine done_ (by kernel_rfl) ?_
             go_wp2
             go_roundg (l.length - j)
             case measure => omega
             case rel => exact ⟨j + 1, XX :: b, some ⟨g, 0, none⟩, c1, by omega, by rw [List.length_cons, ← List.nil_append b, HK.out.1, ← HN1.out], by go_num, by omega, zh ⟨by rw [List.length_cons, ← List.nil_append b, HK.out.1, ← HN1.out, ← HK.out.1]; exact HO9.out.1, HO9.out.2, MgI.ins (a := []) (by rw [HK.out.1]; exact HM9.out.1) hlt HNH.out (by rw [HXX.out, HTE.out, HX.out]) (by rw [← HX.out, ← HTE.out]; exact HF.out) (by rw [← HX.out, ← HTE.out]; exact HC9.out) HK.out.2.1 (fun a' y e => by simp at e), by rw [List.length_cons, ← List.nil_append b, HK.out.1]; omega⟩⟩
            ·rw [List.concat_eq_append] at ha
             subst ha
             rw [List.length_append, List.length_singleton] at hJ
             obtain ⟨Z, hZ⟩ : ∃ Z : Int, Z = J - 1 := ⟨_, rfl⟩
             have eZ : IntKind.i64.wrap (J - 1) = Z := by rw [IntWalk.i64_in _ (by omega), hZ]
             have ep : J.toNat = a'.length + 1 := by omega
             have eq : Z.toNat = a'.length := by omega
             have hlen : n1 = a'.length + b.length + 2 := by
              have := (Kd.R_reads' HK.out.2.2.1).1
              rw [this]
              simp
              omega
             have z0 : 0 ≤ Z := by omega
             have z1 : Z < (n1 : Int) := by omega
             have J0 : 0 < J := by omega
             have J1 : J < (n1 : Int) := by omega
             have hR9 := HK.out.2.2.1
             rw [List.append_assoc] at hR9
             have HR9 := zh (show Kd.R kMv 78 wr w.heap.size (fun _ => True) (.slice (some ⟨g, 0, none⟩) n1 c1) (a' ++ Y :: XX :: b) from hR9)
             clear hR9
             obtain ⟨q0, q1, -, p0, p1, -⟩ := (mv_swap (Kd.R_drew HR9.out) ep eq).1
             have J00 : 0 ≤ J := by omega
             have HZ := zh (And.intro hZ (And.intro ep (And.intro eq (And.intro hlen hJ))))
             have HK2 := zh (And.intro HK.out.1 (And.intro HK.out.2.1 (below_drew1 (below_drew1 HK.out.2.2.2))))
             have HR10 := zh (Kd.R_drew HR9.out)
             clear hZ ep eq hlen hJ HO9
             go_wp2
             refine stepS (S := fun w' => w'.cell? ⟨g, Z.toNat * 3, none⟩ = some (.int .i64 Y.f0) ∧ w'.cell? ⟨g, Z.toNat * 3 + 1, none⟩ = some (.int .i64 Y.f1) ∧ w'.cell? ⟨g, J.toNat * 3, none⟩ = some (.int .i64 XX.f0) ∧ w'.cell? ⟨g, J.toNat * 3 + 1, none⟩ = some (.int .i64 XX.f1)) (ds := []) 44 (by kernel_rfl) rfl ⟨q0, q1, p0, p1⟩ (fun hHeld => ?_)
             have HB10 := zh (below_drew1 HK.out.2.2.2)
             generalize wr.drew = wd at hHeld HR10 HK2 HB10 ⊢
             refine wT mvT23 (fun hT => ?_)
             clear q0 q1 p0 p1 HR9 HK
             by_cases hm : mlt XX Y
             ·have go9 : XX.f1 < Y.f1 ∨ (¬ XX.f1 < Y.f1 ∧ (XX.f1 == Y.f1) = true ∧ XX.f0 < Y.f0) := by
               unfold mlt at hm
               by_cases h : XX.f1 < Y.f1
               ·exact .inl h
               ·exact .inr ⟨h, beq_iff_eq.2 (by omega), by omega⟩
              have HMT := zh hm
              clear hm
              rcases go9 with g1 | ⟨g1, g2, g3⟩
              all_goals
               repeat (first | refine qP 44 hT ?_ | refine qT 44 hT hHeld ?_)
               refine done_ (by kernel_rfl) ?_
               clear hHeld
               go_wp2
               obtain ⟨⟨q0, q1, q2, p0, p1, p2⟩, ⟨f0, f1, f2⟩, W1, hW1, ⟨u0, u1, u2, v0, v1, v2⟩, ⟨f3, f4, f5⟩, hR2, hB2⟩ := mv_swap (Kd.R_drew HR10.out) HZ.out.2.1 HZ.out.2.2.1
               refine stepS (S := fun w' => w'.cell? ⟨g, Z.toNat * 3, none⟩ = some (.int .i64 Y.f0) ∧ w'.cell? ⟨g, Z.toNat * 3 + 1, none⟩ = some (.int .i64 Y.f1) ∧ w'.cell? ⟨g, Z.toNat * 3 + 2, none⟩ = some (.int .i64 Y.f2) ∧ w'.cell? ⟨g, J.toNat * 3, none⟩ = some (.int .i64 XX.f0) ∧ w'.cell? ⟨g, J.toNat * 3 + 1, none⟩ = some (.int .i64 XX.f1) ∧ w'.cell? ⟨g, J.toNat * 3 + 2, none⟩ = some (.int .i64 XX.f2)) (ds := [15, 17]) 18 (by kernel_rfl) rfl ⟨q0, q1, q2, p0, p1, p2⟩ (fun hHeld => ?_)
               have HN := zh (And.intro hR2 (hB2 _ (below_drew1 HB10.out)))
               have HW1 := zh hW1
               generalize wd.drew = we at q0 q1 q2 p0 p1 p2 f0 f1 f2 HW1 hHeld ⊢
               clear hR2 hB2 hW1
               repeat (first | refine rP 18 ?_ | refine rT 18 hHeld ?_)
               refine sS 15 ?_
               clear hHeld q0 q1 q2 p0 p1 p2 f0 f1 f2
               rw [← HW1.out]
               refine rP 18 ?_
               refine sS 17 ?_
               refine done_ (by kernel_rfl) ?_
               clear u0 u1 u2 v0 v1 v2 f3 f4 f5
               go_wp2
               go_roundg (Z.toNat + 1)
               case measure => have := HZ.out.1; omega
               case rel => exact ⟨Z, a', Y :: b, by first | rfl | go_num, by have := HZ.out.1; have := HZ.out.2.2.2.2; omega, rfl, by have := HZ.out.1; omega, zh ⟨by have := HK2.out.1; rwa [List.append_assoc] at this, fun y hy => (List.mem_cons.1 hy).elim (fun e => e ▸ HMT.out) (HK2.out.2.1 y), HN.out.1, HN.out.2⟩⟩
             ·have go9 : ¬ XX.f1 < Y.f1 ∧ ((XX.f1 == Y.f1) = false ∨ ((XX.f1 == Y.f1) = true ∧ ¬ XX.f0 < Y.f0)) := by
               unfold mlt at hm
               refine ⟨by omega, ?_⟩
               by_cases h : XX.f1 = Y.f1
               ·exact .inr ⟨beq_iff_eq.2 h, by omega⟩
               ·exact .inl (beq_eq_false_iff_ne.2 h)
              have HMT := zh hm
              clear hm
              obtain ⟨g1, (g2 | ⟨g2, g3⟩)⟩ := go9
              all_goals
               repeat (first | refine qP 44 hT ?_ | refine qT 44 hT hHeld ?_)
               refine done_ (by kernel_rfl) ?_
               clear hHeld
               go_wp2
               have hm9 : (a' ++ [Y]).length + (b.length + 1) = n1 := by have := HZ.out.2.2.2.1; simp; omega
               have hmm : ((a' ++ [Y]) ++ XX :: b).length = n1 := by rw [List.length_append, List.length_cons]; exact hm9
               have HMM := zh hmm
               clear hm9 hmm
               go_roundg (l.length - j)
               case measure => omega
               case rel => exact ⟨j + 1, (a' ++ [Y]) ++ XX :: b, some ⟨g, 0, none⟩, c1, by omega, by rw [HMM.out], by go_num, by omega, zh ⟨by rw [HMM.out, List.append_assoc]; exact HR10.out, HB10.out, MgI.ins (by rw [HK2.out.1]; exact HM9.out.1) hlt HNH.out (by rw [HXX.out, HTE.out, HX.out]) (by rw [← HX.out, ← HTE.out]; exact HF.out) (by rw [← HX.out, ← HTE.out]; exact HC9.out) HK2.out.2.1 (fun a2 y e => by
                obtain ⟨_, e2⟩ := List.append_inj' e rfl
                injection e2 with e2
                rw [← e2]
                exact HMT.out), by rw [HMM.out]; have := HN1.out; omega⟩⟩
  ·have e : i = l.length := by omega
   subst e
   go_wp2
   go_ret2
   exact ⟨HL.out.2.1, .inr ⟨m, Ao, co, rfl, HL.out.1, HL.out.2.2.1, HL.out.2.2.2⟩⟩
def rowF (n : Nat) (f : Nat → Int) : List Int := (List.range n).map f
def mat (h n : Nat) (f : Nat → Nat → Int) : List (List Int) := (List.range h).map fun a => rowF n (f a)
def updF (f : Nat → Nat → Int) (a v : Nat) (x : Int) : Nat → Nat → Int := fun b u => if b = a ∧ u = v then x else f b u
theorem rowF_len (n : Nat) (f : Nat → Int) : (rowF n f).length = n := by unfold rowF; rw [List.length_map, List.length_range]
theorem mat_len (h n : Nat) (f : Nat → Nat → Int) : (mat h n f).length = h := by unfold mat; rw [List.length_map, List.length_range]
theorem rowF_get {n : Nat} {f : Nat → Int} {v : Nat} (h : v < n) : (rowF n f)[v]? = some (f v) := by
 unfold rowF
 rw [List.getElem?_map, List.getElem?_range h]
 rfl
theorem mat_get {h n : Nat} {f : Nat → Nat → Int} {a : Nat} (ha : a < h) : (mat h n f)[a]? = some (rowF n (f a)) := by
 unfold mat
 rw [List.getElem?_map, List.getElem?_range ha]
 rfl
theorem rowF_set {n : Nat} {f : Nat → Int} {v : Nat} (x : Int) : (rowF n f).set v x = rowF n (fun u => if u = v then x else f u) := by
 refine List.ext_getElem? fun t => ?_
 by_cases ht : t < n
 ·rw [rowF_get ht]
  by_cases e : v = t
  ·subst e
   rw [List.getElem?_set_self (by rw [rowF_len]; exact ht), if_pos rfl]
  ·rw [List.getElem?_set_ne e, rowF_get ht, if_neg (Ne.symm e)]
 ·rw [List.getElem?_eq_none (by rw [List.length_set, rowF_len]; omega), List.getElem?_eq_none (by rw [rowF_len]; omega)]
theorem mat_set {h n : Nat} {f : Nat → Nat → Int} {a v : Nat} (x : Int) : (mat h n f).set a ((rowF n (f a)).set v x) = mat h n (updF f a v x) := by
 refine List.ext_getElem? fun t => ?_
 by_cases ht : t < h
 ·rw [mat_get ht]
  by_cases e : a = t
  ·subst e
   rw [List.getElem?_set_self (by rw [mat_len]; exact ht), rowF_set]
   congr 2
   funext u
   unfold updF
   by_cases c : u = v
   ·rw [if_pos c, if_pos ⟨rfl, c⟩]
   ·rw [if_neg c, if_neg (fun e => c e.2)]
  ·rw [List.getElem?_set_ne e, mat_get ht]
   congr 2
   funext u
   unfold updF
   rw [if_neg (fun e2 => e e2.1.symm)]
 ·rw [List.getElem?_eq_none (by rw [List.length_set, mat_len]; omega), List.getElem?_eq_none (by rw [mat_len]; omega)]
theorem mat_congr {h n : Nat} {f g : Nat → Nat → Int} (e : ∀ a v, a < h → v < n → f a v = g a v) : mat h n f = mat h n g := by
 refine List.map_congr_left fun a ha => ?_
 exact List.map_congr_left fun v hv => e a v (List.mem_range.1 ha) (List.mem_range.1 hv)
structure MxI (w0 : World) (g cT h n : Nat) (f : Nat → Nat → Int) (W : World) : Prop where
 tab : Kd.S kInts 60 W w0.heap.size (fun _ => True) (.slice (some ⟨g, 0, none⟩) h cT) (mat h n f)
 low : Below w0.heap.size w0 W
section
variable {w0 : World} {g cT h n : Nat} {f : Nat → Nat → Int} {W W1 : World}
theorem MxI.below (k : MxI w0 g cT h n f W) (hb : Below W.heap.size W W1) : MxI w0 g cT h n f W1 := ⟨Kd.S_below k.tab hb, below_step k.low hb⟩
theorem MxI.congr (k : MxI w0 g cT h n f W) {f2 : Nat → Nat → Int} (e : ∀ a v, a < h → v < n → f a v = f2 a v) : MxI w0 g cT h n f2 W := ⟨by rw [← mat_congr e]; exact k.tab, k.low⟩
theorem MxI.cell (k : MxI w0 g cT h n f W) {a v : Nat} (ha : a < h) (hv : v < n) : ∃ gr c, gr ≠ g ∧ W.cell? ⟨g, a, none⟩ = some (.slice (some ⟨gr, 0, none⟩) n c) ∧ W.cell? ⟨gr, v, none⟩ = some (.int .i64 (f a v)) ∧ W.frozen? ⟨gr, v, none⟩ = false ∧
  ∀ W1, Below W.heap.size W W1 → ∀ x : Int, MxI w0 g cT h n (updF f a v x) (W1.setCell ⟨gr, v, none⟩ (.int .i64 x)) := by
 have key : ∀ W1, Below W.heap.size W W1 → ∃ gr c, gr ≠ g ∧ W1.cell? ⟨g, a, none⟩ = some (.slice (some ⟨gr, 0, none⟩) n c) ∧ W1.cell? ⟨gr, v, none⟩ = some (.int .i64 (f a v)) ∧ W1.frozen? ⟨gr, v, none⟩ = false ∧ ∀ x : Int, MxI w0 g cT h n (updF f a v x) (W1.setCell ⟨gr, v, none⟩ (.int .i64 x)) := fun W1 hW => by
  have k1 := k.below hW
  have hl := mat_len h n f
  have h0 : (0 : Int) ≤ (a : Int) := by omega
  have h1 : (a : Int) < (h : Int) := by omega
  obtain ⟨oki, ce, hcl, hM, hcc, hfr, hok, hH⟩ := Kd.S_elem k1.tab [] (a : Int) h0 h1
  obtain ⟨vv, rfl, hR⟩ := hM
  obtain ⟨_, _, hraw, _, _, _, _⟩ := Kd.H_raw hH h0 h1
  obtain ⟨cs, hcs⟩ := Kd.R_typed hraw g (by simp [Value.ownBlock])
  have hz := hcc 0 _ rfl
  simp only [Nat.add_zero, Int.toNat_natCast, show kInts.sz = 1 from rfl, Nat.mul_one] at hz hR hH
  rw [List.getD_eq_getElem?_getD, mat_get ha] at hR
  have hrl : (rowF n (f a)).length = n := rowF_len n (f a)
  obtain ⟨gr, c, e1, hbg, -, cs2, hcs2⟩ := Kd.R_form hR (by show 0 < (rowF n (f a)).length; omega)
  have hne : gr ≠ g := fun e => by
   rw [e, hcs] at hcs2
   injection hcs2 with hcs2
   injection hcs2 with _ e9
   exact absurd e9 (by decide)
  rw [show ((some (rowF n (f a))).getD ([] : List Int)) = rowF n (f a) from rfl] at hR e1
  rw [hrl] at e1
  subst e1
  have hcv := Kd.R_celln (0 : Int) hR (v : Int) (by omega) (by omega)
  rw [Int.toNat_natCast] at hcv
  have ev : rdOf (0 : Int) (rowF n (f a)) (v : Int) = f a v := by
   unfold rdOf
   rw [Int.toNat_natCast, List.getD_eq_getElem?_getD, rowF_get hv]
   rfl
  rw [ev] at hcv
  refine ⟨gr, c, hne, hz, hcv.1, hcv.2, fun x => ?_⟩
  obtain ⟨p1, p2⟩ := Kd.R_putg hR (v : Int) x
  rw [Int.toNat_natCast] at p1 p2
  have hS := Kd.H_back (Kd.H_grown hH p2 (fun j e => by injection e with e; rw [← e]; exact hR.1 gr rfl)) (Kd.M_row p1) (fun _ hj => hj)
  rw [Int.toNat_natCast, mat_set x] at hS
  exact ⟨hS, k1.low.setCell hbg _⟩
 obtain ⟨gr, c, h0, h1, h2, h3, -⟩ := key W (Below.refl _ _)
 refine ⟨gr, c, h0, h1, h2, h3, fun W1 hW x => ?_⟩
 obtain ⟨gr2, c2, q0, q1, q2, q3, q4⟩ := key W1 hW
 have := pw_cell_below hW h1
 rw [q1] at this
 injection this with this
 injection this with this
 injection this with this
 injection this with this
 subst this
 exact q4 x
end
end Go.Proofs.YtdfagllncopmjaaGreat.H
end
section
namespace Go.Proofs.YtdfagllncopmjaaGreat.H
open Go Go.RowKit Go.Proofs.YtdfagllncopmjaaGreat.PrintC Go.Proofs.YtdfagllncopmjaaGreat.PrintE Go.Proofs.YtdfagllncopmjaaGreatW.PrintWords Go.Proofs.YtdfagllncopmjaaGreatW.PrintLast Go.Proofs.YtdfagllncopmjaaGreatW.PrintMore Go.Proofs.YtdfagllncopmjaaGreat.Flow
set_option linter.unusedVariables false
set_option linter.unusedSimpArgs false
def MvBadT (l : List Arc) (h s t : Nat) (L : List Mv) (k : Int) : Prop := (k = 10 ∧ ∃ x, x ∈ L ∧ fits (amt L x) = false) ∨ (k = 140 ∧ ∃ m, MgOf L m ∧ ∃ x, x ∈ m ∧ moveOk l h s t x = false)
def RMgAt (l : List Arc) (h s t : Nat) (L : List Mv) (w : World) (e : Ending) (w' : World) : Prop := Below w.heap.size w w' ∧ ((∃ k : Int, (k == 0) = false ∧ (k != 0) = true ∧ e = .returned (.tuple #[.slice none 0 0, .int .i64 k]) ∧ MvBadT l h s t L k) ∨
 ∃ (m : List Mv) (A1 : Option Addr) (c1 : Nat), e = .returned (.tuple #[.slice A1 m.length c1, .int .i64 0]) ∧ Kd.R kMv 78 w' w.heap.size (fun _ => True) (.slice A1 m.length c1) m ∧ MgOf L m ∧ (∀ x, x ∈ m → moveOk l h s t x = true) ∧ m.length ≤ L.length)
theorem askT_S {n s t h : Int} {l : List Arc} (e : askT n l s t h = 0) : askS n l s t h = 0 := by
 unfold askT at e
 by_cases c : askS n l s t h = 0
 ·exact c
 ·rw [if_neg c] at e; exact absurd e c
theorem TfOk.times {n h s t : Nat} {l : List Arc} (o : TfOk n h s t l) : ∀ i : Int, 0 ≤ i → i < l.length → 0 ≤ (rd_T57 l i).f3 ∧ (rd_T57 l i).f3 ≤ 1048576 := fun i h0 h1 => by
 have h2 := o.net.time i.toNat (by omega)
 unfold arcAt at h2
 rw [Int.toNat_of_nonneg h0] at h2
 exact h2
theorem moveOk_in {n h s t : Nat} {l : List Arc} (o : TfOk n h s t l) {x : Mv} (k : moveOk l h s t x = true) : MvIn l x := by
 have e := of_decide_eq_true k
 have hh := o.hh
 have h2 : x.f2 ≤ 1048576 := by
  have h3 := (o.caps x.f0.toNat (by omega)).2
  have h4 : arcAt l x.f0.toNat = arcOf l x := by
   unfold arcAt arcOf
   rw [Int.toNat_of_nonneg e.1]
  rw [h4] at h3
  have := e.2.2.2.2.2.2.1
  omega
 exact ⟨e.1, e.2.1, e.2.2.1, by omega, e.2.2.2.2.2.1, by omega⟩
section
variable {n h s t : Nat} {b : Bool} {A : Option Addr} {c : Nat} {l : List Arc} {w : World} {AL : Option Addr} {cL : Nat} {L : List Mv}
set_option maxHeartbeats 8000000 in
set_option maxRecDepth 100000 in
theorem rmg_walk (o : TfOk n h s t l) (ha : askT n l s t h = 0) (hr : Kd.C kArc w A l.length l) (hL : Kd.C kMv w AL L.length L) (hi : ∀ x, x ∈ L → -9223372036854775808 ≤ x.f2 ∧ x.f2 ≤ 9223372036854775807) (hl : L.length ≤ 100000) :
  Calls Tryz.prog 53 #[.agg #[.int .i64 n, .bool b, .slice A l.length c], .int .i64 s, .int .i64 t, .int .i64 h, .slice AL L.length cL] w (RMgAt l h s t L w) := by
 have hu := Tryz.underlying27
 have hu2 := Tryz.underlying78
 have hu3 := Tryz.underlying57
 have HR := zh hr
 have HLL := zh hL
 have HI := zh hi
 have HTI := zh o.times
 have HA := zh (askT_S ha)
 have hh9 := o.hh
 clear hr hL hi ha
 obtain ⟨w1, hw1⟩ : ∃ w1, w1 = w.alloc (.cells #[.int .i64 n, .bool b, .slice A l.length c] 27) := ⟨_, rfl⟩
 have HX : Hid (w1.heap[w.heap.size]? = some (.cells #[.int .i64 n, .bool b, .slice A l.length c] 27 (0, 0)) ∧ Below w.heap.size w w1) := zh (by rw [hw1]; exact ⟨heap_alloc_new _ _, below_alloc (Below.refl _ _) _⟩)
 go_enter Tryz.func53, Tryz.ntmps53
 go_wp2_with (first
  |(go_at_call 31; rw [← hw1]; go_loud ((with_reducible refine (rask12_walk (n := (n : Int)) (b := b) (c := c) (s := (s : Int)) (t := (t : Int)) (h := (h : Int)) ?s1).mono ?_); (case s1 => exact Kd.C_below HR.out HX.out.2); rintro e w2 ⟨rfl, hb⟩; rw [HA.out]; have HN9 := zh (And.intro (blk_below HX.out.1 hb) (below_step HX.out.2 hb)); clear HX hb; have HX := HN9; clear HN9))
  |(go_at_call 19; go_loud ((with_reducible refine (rmoves_walk AL cL L _ ?s1 ?s2 ?s3).mono ?_); (case s1 => exact Kd.C_below HLL.out HX.out.2); (case s2 => exact HI.out); (case s3 => exact hl); rintro e w3 ⟨hb, (⟨rfl, hov⟩ | ⟨m, A1, c1, rfl, hm, hmg, hml⟩)⟩; all_goals (have HX3 := zh (And.intro (blk_below HX.out.1 hb) (below_step HX.out.2 hb))))))
 ·go_ret2
  exact ⟨HX3.out.2, .inl ⟨10, rfl, rfl, rfl, .inl ⟨rfl, hov⟩⟩⟩
 have HS1 : Hid (w.heap.size ≤ w2.heap.size) := zh HX.out.2.size
 have HM := zh (And.intro hm hmg)
 have HMC := zh (Kd.R_reads' hm).2.2
 have hmb := Nat.le_trans hml hl
 clear hm hmg hb HX
 go_loopg [15] (m.length + 1) (fun k iv W => ∃ i : Nat, i ≤ m.length ∧ iv = .int .i64 i ∧ k = m.length + 1 - i ∧ Hid (Below w3.heap.size w3 W ∧ ∀ x, x ∈ m.take i → moveOk l h s t x = true))
 case atStart => exact ⟨0, Nat.zero_le _, rfl, rfl, zh ⟨Below.refl _ _, fun x hx => by simp at hx⟩⟩
 case round =>
  obtain ⟨i, hi, rfl, rfl, HL⟩ := hrel
  have HB := zh (below_step HX3.out.2 HL.out.1)
  by_cases hlt : i < m.length
  ·have i0 : (0 : Int) ≤ (i : Int) := by omega
   have i1 : (i : Int) < (m.length : Int) := by omega
   obtain ⟨ad, ea, x0, x1, x2⟩ := at_T78 (Kd.C_drew (Kd.C_below HMC.out HL.out.1)) (i : Int) i0 i1
   subst ea
   rw [Int.toNat_natCast] at x0 x1 x2
   obtain ⟨X, hX⟩ : ∃ X, X = mvAt m i := ⟨_, rfl⟩
   have hX2 : rd_T78 m (i : Int) = X := by rw [hX]; rfl
   rw [hX2] at x0 x1 x2
   have HXE := zh hX
   clear hX hX2
   have z0 : wr.drew.cell? ⟨w.heap.size, 0, none⟩ = some (.int .i64 n) := (blk_cell (blk_drew (blk_below HX3.out.1 HL.out.1)) 0).trans rfl
   have z1 : wr.drew.cell? ⟨w.heap.size, 1, none⟩ = some (.bool b) := (blk_cell (blk_drew (blk_below HX3.out.1 HL.out.1)) 1).trans rfl
   have z2 : wr.drew.cell? ⟨w.heap.size, 2, none⟩ = some (.slice A l.length c) := (blk_cell (blk_drew (blk_below HX3.out.1 HL.out.1)) 2).trans rfl
   have HB9 := zh (And.intro (below_drew1 HB.out) (below_drew1 HL.out.1))
   have HXM : Hid (X ∈ m) := zh (by rw [HXE.out]; exact mvAt_mem hlt)
   obtain ⟨R, hRe⟩ : ∃ R, R = moveOk l h s t ⟨X.f0, X.f1, X.f2⟩ := ⟨_, rfl⟩
   have HRE := zh hRe
   clear hRe
   cases R
   all_goals
    go_wp2
    refine stepS (S := fun w' => w'.cell? ⟨w.heap.size, 0, none⟩ = some (.int .i64 n) ∧ w'.cell? ⟨w.heap.size, 1, none⟩ = some (.bool b) ∧ w'.cell? ⟨w.heap.size, 2, none⟩ = some (.slice A l.length c) ∧ w'.cell? (ad.add (i * 3)) = some (.int .i64 X.f0) ∧ w'.cell? ⟨(ad.add (i * 3)).block, (ad.add (i * 3)).off + 1, none⟩ = some (.int .i64 X.f1) ∧ w'.cell? ⟨(ad.add (i * 3)).block, (ad.add (i * 3)).off + 2, none⟩ = some (.int .i64 X.f2)) (ds := [8]) 10 (by kernel_rfl) rfl ⟨z0, z1, z2, x0, x1, x2⟩ (fun hHeld => ?_)
    generalize wr.drew = wd at HB9 hHeld ⊢
    clear z0 z1 z2 x0 x1 x2
    repeat (first | refine rP 10 ?_ | refine rT 10 hHeld ?_)
    refine sCL 8 Tryz.func87 #[.agg #[.int .i64 n, .bool b, .slice A l.length c], .int .i64 s, .int .i64 t, .int .i64 h, .agg #[.int .i64 X.f0, .int .i64 X.f1, .int .i64 X.f2]] (rmove_walk n b A c l s t h X.f0 X.f1 X.f2 _ HRE.out _ (Kd.C_below HR.out HB9.out.1) HTI.out (by omega) (by omega)) ?_
    rintro e w5 ⟨rfl, hb⟩
    refine ⟨_, rfl, ?_⟩
    refine sN ?_
    repeat refine rP 10 ?_
    refine done_ (by kernel_rfl) ?_
    have HB5 := zh (And.intro (below_step HB9.out.1 hb) (below_step HB9.out.2 hb))
    clear hb hHeld
    go_wp2
   ·go_ret2
    exact ⟨HB5.out.1, .inl ⟨140, rfl, rfl, rfl, .inr ⟨rfl, m, HM.out.2, X, HXM.out, HRE.out.symm⟩⟩⟩
   ·go_roundg (m.length - i)
    case measure => omega
    case rel => exact ⟨i + 1, by omega, by go_num, by omega, zh ⟨HB5.out.2, fun x hx => by
     rw [mvAt_take hlt, List.mem_append, List.mem_singleton] at hx
     rcases hx with hx | rfl
     ·exact HL.out.2 x hx
     ·rw [← HXE.out]
      exact HRE.out.symm⟩⟩
  ·have e : i = m.length := by omega
   subst e
   go_wp2
   go_ret2
   exact ⟨HB.out, .inr ⟨m, A1, c1, rfl, Kd.R_lower (Kd.R_below HM.out.1 HL.out.1) HS1.out, HM.out.2, fun x hx => HL.out.2 x (by rw [List.take_length]; exact hx), hml⟩⟩
end
structure Hdr where
 a : Option Addr
 n : Nat
 c : Nat
def kHdr : Kd Hdr := Kd.scalar (fun x : Hdr => .slice x.a x.n x.c) (fun _ => rfl)
def hdAt (hs : List Hdr) (z : Nat) : Hdr := hs.getD z ⟨none, 0, 0⟩
theorem infoRw : (Tryz.prog.info? 60).map (fun i => (i.zero, i.size, i.bytes)) = some (some (.slice none 0 0), 1, 24) := by kernel_rfl
theorem appHdr : AppK Tryz.prog kHdr 74 60 (fun x => [.slice x.a x.n x.c]) := ⟨Tryz.underlying74, ⟨_, 24, infoRw, rfl, by decide, by decide⟩, by decide, fun _ _ _ _ => rfl⟩
theorem hdr_cell {W : World} {Ao : Option Addr} {H : Nat} {hs : List Hdr} (h : Kd.C kHdr W Ao H hs) {z : Nat} (hz : z < H) : ∃ ad, Ao = some ad ∧ W.cell? (ad.add z) = some (.slice (hdAt hs z).a (hdAt hs z).n (hdAt hs z).c) := by
 obtain ⟨ad, cs, e, _, hK, hc⟩ := Kd.C_get h ⟨none, 0, 0⟩ (z : Int) (by omega) (by omega)
 rw [Int.toNat_natCast] at hK hc
 have hcs : cs = [.slice (hdAt hs z).a (hdAt hs z).n (hdAt hs z).c] := hK
 subst hcs
 have h0 := hc 0 _ rfl
 rw [show z * kHdr.sz + 0 = z from Nat.mul_one z] at h0
 exact ⟨ad, e, h0⟩
theorem int_cell {W : World} {Ao : Option Addr} {H : Nat} {xs : List Int} (h : Kd.C (Kd.int .i64) W Ao H xs) {z : Nat} (hz : z < H) : ∃ ad, Ao = some ad ∧ W.cell? (ad.add z) = some (.int .i64 (xs.getD z 0)) := by
 obtain ⟨ad, cs, e, _, hK, hc⟩ := Kd.C_get h 0 (z : Int) (by omega) (by omega)
 rw [Int.toNat_natCast] at hK hc
 have hcs : cs = [.int .i64 (xs.getD z 0)] := hK
 subst hcs
 have h0 := hc 0 _ rfl
 rw [show z * (Kd.int .i64).sz + 0 = z from Nat.mul_one z] at h0
 exact ⟨ad, e, h0⟩
theorem rowF_snoc (k : Nat) (f : Nat → Int) : rowF (k + 1) f = rowF k f ++ [f k] := by
 unfold rowF
 rw [List.range_succ, List.map_append]
 rfl
def RowsT (n : Nat) (F : Nat → Nat → Int) (base : Nat) (hs : List Hdr) (W : World) : Prop := ∀ z, z < hs.length → (hdAt hs z).n = n ∧ Kd.R (Kd.int .i64) 3 W base (fun _ => True) (.slice (hdAt hs z).a (hdAt hs z).n (hdAt hs z).c) (rowF n (F z))
theorem hdAt_last (hs : List Hdr) (x : Hdr) : hdAt (hs ++ [x]) hs.length = x := by
 unfold hdAt
 rw [List.getD_eq_getElem?_getD, List.getElem?_append_right (Nat.le_refl _), Nat.sub_self]
 rfl
theorem hdAt_old {hs : List Hdr} {x : Hdr} {z : Nat} (h : z < hs.length) : hdAt (hs ++ [x]) z = hdAt hs z := by
 unfold hdAt
 rw [List.getD_eq_getElem?_getD, List.getElem?_append_left h, List.getD_eq_getElem?_getD]
def RStkAt (n h s t : Nat) (l : List Arc) (L : List Mv) (w : World) (e : Ending) (w' : World) : Prop := Below w.heap.size w w' ∧ ((∃ k : Int, (k == 0) = false ∧ (k != 0) = true ∧ e = .returned (.tuple #[.slice none 0 0, .int .i64 k]) ∧ MvBadT l h s t L k) ∨
 ∃ (m : List Mv) (hs : List Hdr) (Ao : Option Addr) (co : Nat), e = .returned (.tuple #[.slice Ao hs.length co, .int .i64 0]) ∧ hs.length = h + 1 ∧ Kd.C kHdr w' Ao hs.length hs ∧ RowsT n (fun z v => stockV l m v z) w.heap.size hs w' ∧ MgOf L m ∧ (∀ x, x ∈ m → moveOk l h s t x = true) ∧ m.length ≤ L.length)
section
variable {n h s t : Nat} {b : Bool} {A : Option Addr} {c : Nat} {l : List Arc} {w : World} {AL : Option Addr} {cL : Nat} {L : List Mv}
set_option maxHeartbeats 8000000 in
set_option maxRecDepth 100000 in
theorem rstk_walk (o : TfOk n h s t l) (ha : askT n l s t h = 0) (hr : Kd.C kArc w A l.length l) (hL : Kd.C kMv w AL L.length L) (hi : ∀ x, x ∈ L → -9223372036854775808 ≤ x.f2 ∧ x.f2 ≤ 9223372036854775807) (hl : L.length ≤ 100000) :
  Calls Tryz.prog 34 #[.agg #[.int .i64 n, .bool b, .slice A l.length c], .int .i64 s, .int .i64 t, .int .i64 h, .slice AL L.length cL] w (RStkAt n h s t l L w) := by
 have hu := Tryz.underlying27
 have HR := zh hr
 have HLL := zh hL
 have HI := zh hi
 have HO := zh o
 have HA := zh ha
 have HTI := zh o.times
 have hh9 := o.hh
 have hn9 := o.net.n1
 clear hr hL hi ha o
 obtain ⟨w1, hw1⟩ : ∃ w1, w1 = w.alloc (.cells #[.int .i64 n, .bool b, .slice A l.length c] 27) := ⟨_, rfl⟩
 have HX : Hid (w1.heap[w.heap.size]? = some (.cells #[.int .i64 n, .bool b, .slice A l.length c] 27 (0, 0)) ∧ Below w.heap.size w w1) := zh (by rw [hw1]; exact ⟨heap_alloc_new _ _, below_alloc (Below.refl _ _) _⟩)
 go_enter Tryz.func34, Tryz.ntmps34
 go_wp2_with (go_at_call 53; rw [← hw1]; go_loud ((with_reducible refine (rmg_walk HO.out HA.out ?s1 ?s2 HI.out hl).mono ?_); (case s1 => exact Kd.C_below HR.out HX.out.2); (case s2 => exact Kd.C_below HLL.out HX.out.2); rintro e w3 ⟨hb, (⟨k9, k0, k1, rfl, hbad⟩ | ⟨m, A1, c1, rfl, hm, hmg, hok, hml⟩)⟩; all_goals (have HX3 := zh (And.intro (blk_below HX.out.1 hb) (below_step HX.out.2 hb)); clear HX)))
 ·have HBAD := zh hbad
  clear hbad hb
  go_wp2
  go_ret2
  exact ⟨HX3.out.2, .inl ⟨k9, by simpa using k0, by simpa using k1, rfl, HBAD.out⟩⟩
 have HM := zh (And.intro hmg hok)
 have HMC := zh (Kd.R_reads' hm).2.2
 have HMI : Hid (∀ x, x ∈ m → MvIn l x) := zh (fun x hx => moveOk_in HO.out (hok x hx))
 have hmb := Nat.le_trans hml hl
 clear hm hmg hok hb
 go_wp2
 go_loopg [14, 15] (h + 2) (fun k ov zv W => ∃ (z : Nat) (Ao : Option Addr) (co : Nat) (hs : List Hdr), z ≤ h + 1 ∧ ov = .slice Ao hs.length co ∧ zv = .int .i64 z ∧ k = h + 2 - z ∧ Hid (hs.length = z ∧ W.heap[w.heap.size]? = some (.cells #[.int .i64 n, .bool b, .slice A l.length c] 27 (0, 0)) ∧ Kd.R kHdr 60 W w3.heap.size (fun _ => True) (.slice Ao hs.length co) hs ∧ RowsT n (fun z v => stockV l m v z) w3.heap.size hs W ∧ Below w3.heap.size w3 W))
 case atStart => exact ⟨0, none, 0, [], Nat.zero_le _, rfl, rfl, rfl, zh ⟨rfl, HX3.out.1, Kd.R_nil _ _ _ _ _, fun z hz => absurd hz (Nat.not_lt_zero _), Below.refl _ _⟩⟩
 case round =>
  obtain ⟨z, Ao, co, hs, hz, rfl, rfl, rfl, HZ⟩ := hrel
  by_cases hlt : z ≤ h
  ·have hlt2 : (z : Int) ≤ (h : Int) := by omega
   obtain ⟨W0, rfl⟩ : ∃ W0, W0 = wr := ⟨_, rfl⟩
   go_wp2
   go_loopg [16, 17] (n + 1) (fun k rv vv W => ∃ (v : Nat) (Ar : Option Addr) (cr : Nat) (xs : List Int), v ≤ n ∧ rv = .slice Ar xs.length cr ∧ vv = .int .i64 v ∧ k = n + 1 - v ∧ Hid (xs = rowF v (fun v => stockV l m v z) ∧ Kd.R (Kd.int .i64) 3 W W0.heap.size (fun _ => True) (.slice Ar xs.length cr) xs ∧ Below W0.heap.size W0 W))
   case atStart => exact ⟨0, none, 0, [], Nat.zero_le _, rfl, rfl, rfl, zh ⟨rfl, Kd.R_nil _ _ _ _ _, Below.refl _ _⟩⟩
   case round =>
    obtain ⟨v, Ar, cr, xs, hv, rfl, rfl, rfl, HV⟩ := hrel
    have HXB := zh (And.intro (blk_below HZ.out.2.1 HV.out.2.2) (below_step HX3.out.2 (below_step HZ.out.2.2.2.2 HV.out.2.2)))
    have x0 : wr.cell? ⟨w.heap.size, 0, none⟩ = some (.int .i64 n) := (blk_cell HXB.out.1 0).trans rfl
    have x1 : wr.cell? ⟨w.heap.size, 1, none⟩ = some (.bool b) := (blk_cell HXB.out.1 1).trans rfl
    have x2 : wr.cell? ⟨w.heap.size, 2, none⟩ = some (.slice A l.length c) := (blk_cell HXB.out.1 2).trans rfl
    by_cases hvl : v < n
    ·have hvl2 : (v : Int) < (n : Int) := by omega
     obtain ⟨K, hK⟩ : ∃ K, K = stockV l m v z := ⟨_, rfl⟩
     have HK := zh hK
     have HXL : Hid (xs.length ≤ 1000) := zh (by rw [HV.out.1, rowF_len]; omega)
     clear hK
     go_wp2_with (first
      |(go_at_call 54; go_loud ((with_reducible refine (rstock_walk n b A c l A1 c1 m v z K HK.out _ ?s1 ?s2 ?s3 ?s4 ?s5).mono ?_); (case s1 => exact Kd.C_below HR.out HXB.out.2); (case s2 => exact Kd.C_below HMC.out (below_step HZ.out.2.2.2.2 HV.out.2.2)); (case s3 => exact HMI.out); (case s4 => exact HTI.out); (case s5 => omega); rintro e w5 ⟨rfl, hb⟩; have HV5 := zh (And.intro (Kd.R_below HV.out.2.1 hb) (below_step HV.out.2.2 hb)); clear hb))
      |((with_reducible refine gate_dst (N := 48) rfl ?_); (refine gA (w0 := W0) (base := W0.heap.size) appInt xs K ?aO ?aB ?aS ?aL ?_); (case aO => exact HV5.out.1); (case aB => exact HV5.out.2); (case aS => exact HV5.out.2.size); (case aL => have := HXL.out; omega); go_loud (intro A2 c2 w6 ho hb hg; have HV6 := zh (And.intro ho hb); clear ho hb hg)))
     go_roundg (n - v)
     case measure => omega
     case rel =>
      have e8 : (xs ++ [K]).length = xs.length + 1 := by rw [List.length_append]; rfl
      exact ⟨v + 1, A2, c2, xs ++ [K], by omega, by rw [e8], by go_num, by omega, zh ⟨by rw [rowF_snoc, ← HV.out.1, ← HK.out], by rw [e8]; exact HV6.out.1, HV6.out.2⟩⟩
    ·have hvl2 : ¬ (v : Int) < (n : Int) := by omega
     have ev : v = n := by omega
     have HSZ := zh HZ.out.2.2.2.2.size
     have HB3 := zh (below_step HZ.out.2.2.2.2 HV.out.2.2)
     have HHL : Hid (hs.length ≤ 2000) := zh (by rw [HZ.out.1]; omega)
     have HRO := zh (Kd.R_below HZ.out.2.2.1 HV.out.2.2)
     go_wp2_with ((with_reducible refine gate_dst (N := 52) rfl ?_); (refine gA (w0 := w3) (base := w3.heap.size) appHdr hs ⟨Ar, xs.length, cr⟩ ?aO ?aB ?aS ?aL ?_); (case aO => exact HRO.out); (case aB => exact HB3.out); (case aS => exact HB3.out.size); (case aL => have := HHL.out; omega); go_loud (intro A2 c2 w6 ho hb hg; have HG := zh (And.intro ho (And.intro hb hg)); clear ho hb hg))
     go_roundg (h + 1 - z)
     case measure => omega
     case rel =>
      have e8 : (hs ++ [(⟨Ar, xs.length, cr⟩ : Hdr)]).length = hs.length + 1 := by rw [List.length_append]; rfl
      have hxl : xs.length = n := by rw [HV.out.1, rowF_len, ev]
      have hty := Kd.R_typed HRO.out
      have hty2 : ∀ k, (Value.slice Ao hs.length co).ownBlock = some k → ∃ cells, wr.heap[k]? = some (.cells cells 60 (0, 0)) := hty
      refine ⟨z + 1, A2, c2, hs ++ [⟨Ar, xs.length, cr⟩], by omega, by rw [e8], by go_num, by omega, zh ⟨by rw [e8, HZ.out.1], blk_grown HXB.out.1 HG.out.2.2 (Kd.R_ne HRO.out HXB.out.1 (by decide)), by rw [e8]; exact HG.out.1, fun z' hz' => ?_, HG.out.2.1⟩⟩
      rw [e8] at hz'
      by_cases c9 : z' < hs.length
      ·rw [hdAt_old c9]
       obtain ⟨q1, q2⟩ := HZ.out.2.2.2.1 z' c9
       exact ⟨q1, Kd.R_over' (Kd.R_below q2 HV.out.2.2) hty2 (by decide) HG.out.2.2⟩
      ·have e9 : z' = hs.length := by omega
       subst e9
       rw [hdAt_last]
       refine ⟨hxl, ?_⟩
       have q3 := Kd.R_over' HV.out.2.1 hty2 (by decide) HG.out.2.2
       have e7 : xs = rowF n (fun v => stockV l m v hs.length) := by rw [HV.out.1, ev, HZ.out.1]
       show Kd.R (Kd.int .i64) 3 w6 w3.heap.size (fun _ => True) (.slice Ar xs.length cr) (rowF n (fun v => stockV l m v hs.length))
       rw [← e7]
       exact Kd.R_lower q3 HSZ.out
  ·have hlt2 : ¬ (z : Int) ≤ (h : Int) := by omega
   have ez : z = h + 1 := by omega
   go_wp2
   go_ret2
   exact ⟨below_step HX3.out.2 HZ.out.2.2.2.2, .inr ⟨m, hs, Ao, co, rfl, by rw [HZ.out.1, ez], (Kd.R_reads' HZ.out.2.2.1).2.2, fun z' hz' => ⟨(HZ.out.2.2.2.1 z' hz').1, Kd.R_lower (HZ.out.2.2.2.1 z' hz').2 HX3.out.2.size⟩, HM.out.1, HM.out.2, hml⟩⟩
end
def RChkT (n h s t : Nat) (b : Bool) (l : List Arc) (L : List Mv) (w : World) (e : Ending) (w' : World) : Prop := Below w.heap.size w w' ∧ ((∃ k : Int, (k == 0) = false ∧ (k != 0) = true ∧ e = .returned (.tuple #[.int .i64 0, .int .i64 k]) ∧ (MvBadT l h s t L k ∨ (k = 141 ∧ ∃ m, MgOf L m ∧ (∀ x, x ∈ m → moveOk l h s t x = true) ∧ ∃ v z : Nat, v < n ∧ z ≤ h ∧ BadT h b s t l m v z))) ∨
 ∃ m, PlanT n h s t b l L m ∧ m.length ≤ L.length ∧ e = .returned (.tuple #[.int .i64 (stockV l m t h), .int .i64 0]))
section
variable {n h s t : Nat} {b : Bool} {A : Option Addr} {c : Nat} {l : List Arc} {w : World} {AL : Option Addr} {cL : Nat} {L : List Mv}
set_option maxHeartbeats 8000000 in
set_option maxRecDepth 100000 in
theorem rchkT_walk (o : TfOk n h s t l) (ha : askT n l s t h = 0) (hr : Kd.C kArc w A l.length l) (hL : Kd.C kMv w AL L.length L) (hi : ∀ x, x ∈ L → -9223372036854775808 ≤ x.f2 ∧ x.f2 ≤ 9223372036854775807) (hl : L.length ≤ 100000) :
  Calls Tryz.prog 18 #[.agg #[.int .i64 n, .bool b, .slice A l.length c], .int .i64 s, .int .i64 t, .int .i64 h, .slice AL L.length cL] w (RChkT n h s t b l L w) := by
 have hu := Tryz.underlying27
 have HR := zh hr
 have HLL := zh hL
 have HI := zh hi
 have HO := zh o
 have HA := zh ha
 have hs9 := o.hs
 have ht9 := o.ht
 have hh9 := o.hh
 have hn9 := o.net.n1
 clear hr hL hi ha o
 obtain ⟨w1, hw1⟩ : ∃ w1, w1 = w.alloc (.cells #[.int .i64 n, .bool b, .slice A l.length c] 27) := ⟨_, rfl⟩
 have HX : Hid (w1.heap[w.heap.size]? = some (.cells #[.int .i64 n, .bool b, .slice A l.length c] 27 (0, 0)) ∧ Below w.heap.size w w1) := zh (by rw [hw1]; exact ⟨heap_alloc_new _ _, below_alloc (Below.refl _ _) _⟩)
 go_enter Tryz.func18, Tryz.ntmps18
 go_wp2_with (go_at_call 34; rw [← hw1]; go_loud ((with_reducible refine (rstk_walk HO.out HA.out ?s1 ?s2 HI.out hl).mono ?_); (case s1 => exact Kd.C_below HR.out HX.out.2); (case s2 => exact Kd.C_below HLL.out HX.out.2); rintro e w3 ⟨hb, (⟨k9, k0, k1, rfl, hbad⟩ | ⟨m, hs, Ao, co, rfl, hsl, hT, hRW, hmg, hok, hml⟩)⟩; all_goals (have HX3 := zh (And.intro (blk_below HX.out.1 hb) (below_step HX.out.2 hb)); clear HX)))
 ·have HBAD := zh hbad
  clear hbad hb
  go_wp2
  go_ret2
  exact ⟨HX3.out.2, .inl ⟨k9, by simpa using k0, by simpa using k1, rfl, .inl HBAD.out⟩⟩
 have HM := zh (And.intro hmg (And.intro hok hml))
 obtain ⟨ad, ea, -⟩ := hdr_cell hT (z := 0) (by omega)
 subst ea
 have HT := zh (And.intro hT hRW)
 clear hT hRW hmg hok hml hb
 go_wp2
 go_loopg [14] (n + 1) (fun k vv W => ∃ v : Nat, v ≤ n ∧ vv = .int .i64 v ∧ k = n + 1 - v ∧ Hid (W.heap[w.heap.size]? = some (.cells #[.int .i64 n, .bool b, .slice A l.length c] 27 (0, 0)) ∧ Below w3.heap.size w3 W ∧ ∀ v' z : Nat, v' < v → z ≤ h → ¬ BadT h b s t l m v' z))
 case atStart => exact ⟨0, Nat.zero_le _, rfl, rfl, zh ⟨HX3.out.1, Below.refl _ _, fun v' z hv => absurd hv (Nat.not_lt_zero _)⟩⟩
 case round =>
  obtain ⟨v, hv, rfl, rfl, HL⟩ := hrel
  have x0 : wr.cell? ⟨w.heap.size, 0, none⟩ = some (.int .i64 n) := (blk_cell HL.out.1 0).trans rfl
  by_cases hlt : v < n
  ·have hlt2 : (v : Int) < (n : Int) := by omega
   have HL9 := zh HL.out.2.2
   go_wp2
   have HST := zh HL.out
   clear HL
   go_loopg [15] (h + 2) (fun k zv W => ∃ z : Nat, z ≤ h + 1 ∧ zv = .int .i64 z ∧ k = h + 2 - z ∧ Hid (W.heap[w.heap.size]? = some (.cells #[.int .i64 n, .bool b, .slice A l.length c] 27 (0, 0)) ∧ Below w3.heap.size w3 W ∧ ∀ z' : Nat, z' < z → ¬ BadT h b s t l m v z'))
   case atStart => exact ⟨0, by omega, rfl, rfl, zh ⟨HST.out.1, HST.out.2.1, fun z' hz => absurd hz (Nat.not_lt_zero _)⟩⟩
   case round =>
    obtain ⟨z, hz, rfl, rfl, HL⟩ := hrel
    clear x0 HST
    by_cases hzl : z ≤ h
    ·have hzd : decide ((z : Int) ≤ (h : Int)) = true := decide_eq_true (by omega)
     have hcs : (((v : Int) != (s : Int)) = false ∧ Hid (v = s ∨ v = t)) ∨ (((v : Int) != (s : Int)) = true ∧ ((v : Int) != (t : Int)) = false ∧ Hid (v = s ∨ v = t)) ∨ (((v : Int) != (s : Int)) = true ∧ ((v : Int) != (t : Int)) = true ∧ Hid (v ≠ s ∧ v ≠ t)) := by
      by_cases g1 : v = s
      ·exact .inl ⟨bne_eq_false_iff_eq.2 (by omega), zh (.inl g1)⟩
      ·by_cases g2 : v = t
       ·exact .inr (.inl ⟨bne_iff_ne.2 (by omega), bne_eq_false_iff_eq.2 (by omega), zh (.inr g2)⟩)
       ·exact .inr (.inr ⟨bne_iff_ne.2 (by omega), bne_iff_ne.2 (by omega), zh ⟨g1, g2⟩⟩)
     rcases hcs with ⟨d1, HE⟩ | ⟨d1, d2, HE⟩ | ⟨d1, d2, HE⟩
     iterate 2
      ·go_wp2
       go_roundg (n - v)
       case measure => omega
       case rel =>
        refine ⟨v + 1, by omega, by go_num, by omega, zh ⟨HL.out.1, HL.out.2.1, fun v' z' hv' hz' => ?_⟩⟩
        rcases Nat.lt_or_eq_of_le (Nat.le_of_lt_succ hv') with h9 | rfl
        ·exact HL9.out v' z' h9 hz'
        ·exact fun hb => HE.out.elim hb.1 hb.2.1
     ·have i0 : (0 : Int) ≤ (z : Int) := by omega
      have i1 : (z : Int) < (hs.length : Int) := by omega
      have j0 : (0 : Int) ≤ (v : Int) := by omega
      have x1 : wr.cell? ⟨w.heap.size, 1, none⟩ = some (.bool b) := (blk_cell HL.out.1 1).trans rfl
      obtain ⟨ad2, e2, y0⟩ := hdr_cell (Kd.C_below HT.out.1 HL.out.2.1) (z := z) (by omega)
      injection e2 with e2
      subst e2
      obtain ⟨hn9, hr9⟩ := HT.out.2 z (by omega)
      obtain ⟨adr, er, y1⟩ := int_cell (Kd.R_reads' (Kd.R_below hr9 HL.out.2.1)).2.2 (z := v) (by rw [rowF_len]; exact hlt)
      rw [er, hn9] at y0
      have ey : (rowF n (fun v => stockV l m v z)).getD v 0 = stockV l m v z := by
       rw [List.getD_eq_getElem?_getD, rowF_get hlt]
       rfl
      rw [ey] at y1
      generalize (hdAt hs z).c = cz at y0
      clear er hn9 hr9 ey
      obtain ⟨K, hK⟩ : ∃ K, K = stockV l m v z := ⟨_, rfl⟩
      rw [← hK] at y1
      have HK := zh hK
      clear hK
      have hcase : (K < 0 ∧ Hid (BadT h b s t l m v z)) ∨ (¬ K < 0 ∧ 0 < K ∧ b = false ∧ Hid (BadT h b s t l m v z)) ∨ (¬ K < 0 ∧ 0 < K ∧ b = true ∧ ((z : Int) == (h : Int)) = true ∧ Hid (BadT h b s t l m v z)) ∨ (¬ K < 0 ∧ 0 < K ∧ b = true ∧ ((z : Int) == (h : Int)) = false ∧ Hid (¬ BadT h b s t l m v z)) ∨ (¬ K < 0 ∧ ¬ 0 < K ∧ Hid (¬ BadT h b s t l m v z)) := by
       have e9 := HK.out
       by_cases g1 : K < 0
       ·exact .inl ⟨g1, zh ⟨HE.out.1, HE.out.2, .inl (by omega)⟩⟩
       ·by_cases g2 : 0 < K
        ·cases hbb : b with
         |false => exact .inr (.inl ⟨g1, g2, rfl, zh ⟨HE.out.1, HE.out.2, .inr ⟨by omega, .inl rfl⟩⟩⟩)
         |true =>
          by_cases g3 : z = h
          ·exact .inr (.inr (.inl ⟨g1, g2, rfl, beq_iff_eq.2 (by omega), zh ⟨HE.out.1, HE.out.2, .inr ⟨by omega, .inr g3⟩⟩⟩))
          ·exact .inr (.inr (.inr (.inl ⟨g1, g2, rfl, beq_eq_false_iff_ne.2 (by omega), zh (fun hb => by
            rcases hb.2.2 with q | ⟨_, q | q⟩
            ·omega
            ·cases q
            ·exact g3 q)⟩)))
        ·exact .inr (.inr (.inr (.inr ⟨g1, g2, zh (fun hb => by
          rcases hb.2.2 with q | ⟨q, _⟩ <;> omega)⟩)))
      rcases hcase with ⟨g1, HB⟩ | ⟨g1, g2, rfl, HB⟩ | ⟨g1, g2, rfl, g4, HB⟩ | ⟨g1, g2, rfl, g4, HB⟩ | ⟨g1, g2, HB⟩
      iterate 3
       ·go_wp2
        go_ret2
        exact ⟨below_step HX3.out.2 HL.out.2.1, .inl ⟨141, rfl, rfl, rfl, .inr ⟨rfl, m, HM.out.1, HM.out.2.1, v, z, hlt, hzl, by first | exact HB.out | (have h9 := HB.out; rw [g3] at h9; exact h9)⟩⟩⟩
      iterate 2
       ·go_wp2
        go_roundg (h + 1 - z)
        case measure => omega
        case rel =>
         refine ⟨z + 1, by omega, by go_num, by omega, zh ⟨HL.out.1, HL.out.2.1, fun z' hz' => ?_⟩⟩
         rcases Nat.lt_or_eq_of_le (Nat.le_of_lt_succ hz') with h9 | rfl
         ·exact HL.out.2.2 z' h9
         ·first
           |exact HB.out
           |(have h9 := HB.out; rw [g3] at h9; exact h9)
    ·have hzd : decide ((z : Int) ≤ (h : Int)) = false := decide_eq_false (by omega)
     go_wp2
     go_roundg (n - v)
     case measure => omega
     case rel =>
      refine ⟨v + 1, by omega, by go_num, by omega, zh ⟨HL.out.1, HL.out.2.1, fun v' z' hv' hz' => ?_⟩⟩
      rcases Nat.lt_or_eq_of_le (Nat.le_of_lt_succ hv') with h9 | rfl
      ·exact HL9.out v' z' h9 hz'
      ·exact HL.out.2.2 z' (by omega)
  ·have hlt2 : ¬ (v : Int) < (n : Int) := by omega
   have e : v = n := by omega
   have i0 : (0 : Int) ≤ (h : Int) := by omega
   have i1 : (h : Int) < (hs.length : Int) := by omega
   have j0 : (0 : Int) ≤ (t : Int) := by omega
   have j1 : (t : Int) < (n : Int) := by omega
   obtain ⟨ad2, e2, y0⟩ := hdr_cell (Kd.C_below HT.out.1 HL.out.2.1) (z := h) (by omega)
   injection e2 with e2
   subst e2
   obtain ⟨hn9, hr9⟩ := HT.out.2 h (by omega)
   obtain ⟨adr, er, y1⟩ := int_cell (Kd.R_reads' (Kd.R_below hr9 HL.out.2.1)).2.2 (z := t) (by rw [rowF_len]; exact ht9)
   rw [er, hn9] at y0
   have ey : (rowF n (fun v => stockV l m v h)).getD t 0 = stockV l m t h := by
    rw [List.getD_eq_getElem?_getD, rowF_get ht9]
    rfl
   rw [ey] at y1
   generalize (hdAt hs h).c = cz at y0
   clear er hn9 hr9 ey
   obtain ⟨K, hK⟩ : ∃ K, K = stockV l m t h := ⟨_, rfl⟩
   rw [← hK] at y1
   have HK := zh hK
   clear hK
   go_wp2
   go_ret2
   refine ⟨below_step HX3.out.2 HL.out.2.1, .inr ⟨m, ⟨HM.out.1, HM.out.2.1, fun v' z' hv' hz' => HL.out.2.2 v' z' (by omega) hz'⟩, HM.out.2.2, ?_⟩⟩
   rw [← HK.out]
   rfl
end
set_option maxHeartbeats 4000000 in
set_option maxRecDepth 100000 in
theorem samemoves_walk (A1 A2 : Option Addr) (c1 c2 : Nat) (X : List Mv) (w : World) (h1 : Kd.C kMv w A1 X.length X) (h2 : Kd.C kMv w A2 X.length X) (hl : X.length ≤ 1000000) :
  Calls Tryz.prog 20 #[.slice A1 X.length c1, .slice A2 X.length c2] w fun e w' => e = .returned (.bool true) ∧ Below w.heap.size w w' := by
 have H1 := zh h1
 have H2 := zh h2
 have hu2 := Tryz.underlying78
 clear h1 h2
 go_enter Tryz.func20, Tryz.ntmps20
 go_wp2
 go_loopg [5] (X.length + 1) (fun k iv W => ∃ i : Nat, i ≤ X.length ∧ iv = .int .i64 i ∧ k = X.length + 1 - i ∧ Hid (Below w.heap.size w W))
 case atStart => exact ⟨0, Nat.zero_le _, rfl, rfl, zh (Below.refl _ _)⟩
 case round =>
  obtain ⟨i, hi, rfl, rfl, HB⟩ := hrel
  by_cases hlt : i < X.length
  ·have i0 : (0 : Int) ≤ (i : Int) := by omega
   have i1 : (i : Int) < (X.length : Int) := by omega
   obtain ⟨a1, e1, y0, y1, y2⟩ := at_T78 (Kd.C_drew (Kd.C_below H1.out HB.out)) (i : Int) i0 i1
   obtain ⟨a2, e2, z0, z1, z2⟩ := at_T78 (Kd.C_drew (Kd.C_below H2.out HB.out)) (i : Int) i0 i1
   subst e1 e2
   rw [Int.toNat_natCast] at y0 y1 y2 z0 z1 z2
   obtain ⟨s, hs⟩ : ∃ s, s = rd_T78 X (i : Int) := ⟨_, rfl⟩
   rw [← hs] at y0 y1 y2 z0 z1 z2
   clear hs
   go_wp2
   refine stepS (S := fun w' => w'.cell? (a1.add (i * 3)) = some (.int .i64 s.f0) ∧ w'.cell? ⟨(a1.add (i * 3)).block, (a1.add (i * 3)).off + 1, none⟩ = some (.int .i64 s.f1) ∧ w'.cell? ⟨(a1.add (i * 3)).block, (a1.add (i * 3)).off + 2, none⟩ = some (.int .i64 s.f2) ∧ w'.cell? (a2.add (i * 3)) = some (.int .i64 s.f0) ∧ w'.cell? ⟨(a2.add (i * 3)).block, (a2.add (i * 3)).off + 1, none⟩ = some (.int .i64 s.f1) ∧ w'.cell? ⟨(a2.add (i * 3)).block, (a2.add (i * 3)).off + 2, none⟩ = some (.int .i64 s.f2)) (ds := []) 9 (by kernel_rfl) rfl ⟨y0, y1, y2, z0, z1, z2⟩ (fun hHeld => ?_)
   have HB9 := zh (below_drew1 HB.out)
   generalize wr.drew = wd at HB9 hHeld ⊢
   repeat (first | refine rP 9 ?_ | refine rT 9 hHeld ?_)
   refine done_ (by kernel_rfl) ?_
   go_wp2
   go_roundg (X.length - i)
   case measure => omega
   case rel => exact ⟨i + 1, by omega, by go_num, by omega, HB9⟩
  ·have e : i = X.length := by omega
   subst e
   go_wp2
   go_ret
   exact ⟨rfl, HB.out⟩
theorem chk_toldT {n h s t : Nat} {b : Bool} {l : List Arc} {m : List Mv} {V : Int} (hV : V = tfV n h s t b l) (P : PlanM n h s t b l m) {w w' : World} {e : Ending} (k : RChkT n h s t b l m w e w') : e = .returned (.tuple #[.int .i64 V, .int .i64 0]) ∧ Below w.heap.size w w' := by
 obtain ⟨hb, h1⟩ := k
 refine ⟨?_, hb⟩
 rcases h1 with ⟨k9, -, -, rfl, h2⟩ | ⟨m2, hP, -, rfl⟩
 ·exfalso
  rcases h2 with (⟨-, x, hx, hf⟩ | ⟨-, m2, hm2, x, hx, hf⟩) | ⟨-, m2, hm2, -, v, z, hv, hz, hbad⟩
  ·have := (P.mg.all x (by rw [List.take_length]; exact hx)).1
   rw [hf] at this
   cases this
  ·rw [hm2.eq P.mg] at hx
   rw [P.ok x hx] at hf
   cases hf
  ·rw [hm2.eq P.mg] at hbad
   exact P.st v z hv hz hbad
 ·rw [hP.1.eq P.mg, P.val, ← hV]
theorem mvs_toldT {n h s t : Nat} {b : Bool} {l : List Arc} {m : List Mv} (P : PlanM n h s t b l m) {w w' : World} {e : Ending} (k : MovesAt m w e w') : ∃ (A1 : Option Addr) (c1 : Nat), e = .returned (.tuple #[.slice A1 m.length c1, .int .i64 0]) ∧ Kd.C kMv w' A1 m.length m ∧ Below w.heap.size w w' := by
 obtain ⟨hb, (⟨rfl, x, hx, hf⟩ | ⟨m2, A1, c1, rfl, hR, hm2, -⟩)⟩ := k
 ·have := (P.mg.all x (by rw [List.take_length]; exact hx)).1
  rw [hf] at this
  cases this
 ·obtain rfl := hm2.eq P.mg
  exact ⟨A1, c1, rfl, (Kd.R_reads' hR).2.2, hb⟩
section
variable {a0 : Int} {b : Bool} {l2 : List CBit} {a3 a4 a5 : Int} {A2 : Option Addr} {c2 : Nat} {w : World}
set_option maxHeartbeats 4000000 in
set_option maxRecDepth 100000 in
theorem law_plans (o : SmallAt w a0 l2 a3 a4 a5 A2) :
  Calls Tryz.prog 6 #[.agg (smallCells a0 b A2 l2.length c2 a3 a4 a5)] w fun e w' => e = .returned (.bool true) ∧ Below w.heap.size w w' := by
 have HO := zh o
 have hu := Tryz.underlying27
 have hu2 := Tryz.underlying24
 clear o
 have HY : Hid ((w.alloc (.cells (smallCells a0 b A2 l2.length c2 a3 a4 a5) 24)).heap[w.heap.size]? = some (.cells (smallCells a0 b A2 l2.length c2 a3 a4 a5) 24 (0, 0)) ∧ Below w.heap.size w (w.alloc (.cells (smallCells a0 b A2 l2.length c2 a3 a4 a5) 24))) := zh ⟨heap_alloc_new _ _, below_alloc (Below.refl _ _) _⟩
 go_enter Tryz.func6, Tryz.ntmps6
 go_wp2_with (first
  |(go_at_call 12; go_loud ((with_reducible refine (awake_walk _).mono ?_); rintro e w1 ⟨rfl, hb⟩; have HY1 := zh (And.intro (blk_below HY.out.1 hb) (below_step HY.out.2 hb)); clear HY hb; have q0 : w1.cell? ⟨w.heap.size, 0, none⟩ = some (.int .u8 a0) := (blk_cell HY1.out.1 0).trans rfl; have q1 : w1.cell? ⟨w.heap.size, 1, none⟩ = some (.bool b) := (blk_cell HY1.out.1 1).trans rfl; have q2 : w1.cell? ⟨w.heap.size, 2, none⟩ = some (.slice A2 l2.length c2) := (blk_cell HY1.out.1 2).trans rfl; have q3 : w1.cell? ⟨w.heap.size, 3, none⟩ = some (.int .u8 a3) := (blk_cell HY1.out.1 3).trans rfl; have q4 : w1.cell? ⟨w.heap.size, 4, none⟩ = some (.int .u8 a4) := (blk_cell HY1.out.1 4).trans rfl; have q5 : w1.cell? ⟨w.heap.size, 5, none⟩ = some (.int .u8 a5) := (blk_cell HY1.out.1 5).trans rfl))
  |(go_at_call 9; go_loud ((with_reducible refine (rd_walk 10 (by decide) 10 (by decide) (HO.out.below HY1.out.2)).mono ?_); rintro e w2 ⟨n, h, s, t, l, A, c, rfl, hA, hc, ho, hq, hh7, hn5, hsm, hb⟩; have HB2 := zh (below_step HY1.out.2 hb); have HA := zh hA; have HC := zh hc; have HK := zh (And.intro ho hq); clear hb hA hc ho hq hsm q0 q1 q2 q3 q4 q5))
  |(go_at_call 17; fail))
 obtain ⟨w3, hw3⟩ : ∃ w3, w3 = w2.alloc (.cells #[.int .i64 n, .bool b, .slice A l.length c] 27) := ⟨_, rfl⟩
 have HX : Hid (w3.heap[w2.heap.size]? = some (.cells #[.int .i64 n, .bool b, .slice A l.length c] 27 (0, 0)) ∧ Below w2.heap.size w2 w3) := zh (by rw [hw3]; exact ⟨heap_alloc_new _ _, below_alloc (Below.refl _ _) _⟩)
 obtain ⟨V, hV⟩ : ∃ V, V = tfV n h s t b l := ⟨_, rfl⟩
 have HV := zh hV
 clear hV
 have t1 : (V == V) = true := by simp
 have t2 : (V != V) = false := by simp
 go_wp2_with (first
  |(go_at_call 17; rw [← hw3]; go_loud ((with_reducible refine (max_walk HK.out.1 HK.out.2 HC.out ?s1).mono ?_); (case s1 => exact Kd.C_below HA.out HX.out.2); rintro e w9 ⟨hb, m, A5, c5, rfl, hR5, hP5, _⟩; rw [← HV.out]; have HP := zh hP5; have HM := zh (Kd.R_reads' hR5).2.2; clear hR5 hP5; have HN9 := zh (And.intro (blk_below HX.out.1 hb) (below_step HX.out.2 hb)); clear HX; have HX := HN9; clear HN9; clear hb; have x0 : w9.cell? ⟨w2.heap.size, 0, none⟩ = some (.int .i64 n) := (blk_cell HX.out.1 0).trans rfl; have x1 : w9.cell? ⟨w2.heap.size, 1, none⟩ = some (.bool b) := (blk_cell HX.out.1 1).trans rfl; have x2 : w9.cell? ⟨w2.heap.size, 2, none⟩ = some (.slice A l.length c) := (blk_cell HX.out.1 2).trans rfl))
  |(go_at_call 18; go_loud ((with_reducible refine (rchkT_walk HK.out.1 HK.out.2 ?s1 ?s2 HP.out.f2 HP.out.len).mono ?_); (case s1 => exact Kd.C_below HA.out HX.out.2); (case s2 => exact HM.out); rintro e w9 hk5; obtain ⟨rfl, hb⟩ := chk_toldT HV.out HP.out hk5; clear hk5; have HM9 := zh (Kd.C_below HM.out hb); clear HM; have HM := HM9; clear HM9; have HN9 := zh (And.intro (blk_below HX.out.1 hb) (below_step HX.out.2 hb)); clear HX; have HX := HN9; clear HN9; clear hb; clear x0 x1 x2; have x0 : w9.cell? ⟨w2.heap.size, 0, none⟩ = some (.int .i64 n) := (blk_cell HX.out.1 0).trans rfl; have x1 : w9.cell? ⟨w2.heap.size, 1, none⟩ = some (.bool b) := (blk_cell HX.out.1 1).trans rfl; have x2 : w9.cell? ⟨w2.heap.size, 2, none⟩ = some (.slice A l.length c) := (blk_cell HX.out.1 2).trans rfl))
  |(go_at_call 19; go_loud ((with_reducible refine (rmoves_walk A5 c5 m _ ?s1 ?s2 ?s3).mono ?_); (case s1 => exact HM.out); (case s2 => exact HP.out.f2); (case s3 => exact HP.out.len); rintro e w9 hk5; obtain ⟨A6, c6, rfl, h6, hb⟩ := mvs_toldT HP.out hk5; have HM6 := zh h6; clear hk5 h6; have HM9 := zh (Kd.C_below HM.out hb); clear HM; have HM := HM9; clear HM9; have HN9 := zh (And.intro (blk_below HX.out.1 hb) (below_step HX.out.2 hb)); clear HX; have HX := HN9; clear HN9; clear hb; clear x0 x1 x2; have x0 : w9.cell? ⟨w2.heap.size, 0, none⟩ = some (.int .i64 n) := (blk_cell HX.out.1 0).trans rfl; have x1 : w9.cell? ⟨w2.heap.size, 1, none⟩ = some (.bool b) := (blk_cell HX.out.1 1).trans rfl; have x2 : w9.cell? ⟨w2.heap.size, 2, none⟩ = some (.slice A l.length c) := (blk_cell HX.out.1 2).trans rfl))
  |(go_at_call 10; go_loud ((with_reducible refine (most_walk HK.out.1 HK.out.2 HC.out ?s1).mono ?_); (case s1 => exact Kd.C_below HA.out HX.out.2); rintro e w9 ⟨rfl, hb, _⟩; rw [← HV.out]; have HM9 := zh (Kd.C_below HM.out hb); clear HM; have HM := HM9; clear HM9; have HM8 := zh (Kd.C_below HM6.out hb); clear HM6; have HM6 := HM8; clear HM8; have HN9 := zh (And.intro (blk_below HX.out.1 hb) (below_step HX.out.2 hb)); clear HX; have HX := HN9; clear HN9; clear hb; clear x0 x1 x2; have x0 : w9.cell? ⟨w2.heap.size, 0, none⟩ = some (.int .i64 n) := (blk_cell HX.out.1 0).trans rfl; have x1 : w9.cell? ⟨w2.heap.size, 1, none⟩ = some (.bool b) := (blk_cell HX.out.1 1).trans rfl; have x2 : w9.cell? ⟨w2.heap.size, 2, none⟩ = some (.slice A l.length c) := (blk_cell HX.out.1 2).trans rfl))
  |(go_at_call 20; go_loud ((with_reducible refine (samemoves_walk A5 A6 c5 c6 m _ HM.out HM6.out ?s3).mono ?_); (case s3 => have := HP.out.len; omega); rintro e w8 ⟨rfl, hb⟩; have HX8 := zh (below_step HX.out.2 hb); clear hb)))
 go_ret
 exact ⟨rfl, below_step HB2.out HX8.out⟩
end
theorem tfV_nn {n h s t : Nat} {b : Bool} {l : List Arc} (o : TfOk n h s t l) (hT : TopEx n h s t b l) : 0 ≤ tfV n h s t b l := by
 obtain ⟨F, S, hF, hT⟩ := hT
 have e1 : tfV n h s t b l = leaves (tfA n h s t b l).length (frOf (tfA n h s t b l)) (toOf (tfA n h s t b l)) (dOf F) ((h + 1) * n : Nat) := mfVal_eq (o.arcs b) (by omega) hF hT
 obtain ⟨a1, a2, a3, a4, a5⟩ := hT
 have e2 := value_eq (tf_ends o b) a1 a2 ⟨by omega, by omega⟩ a3 a4 a5
 rw [takes_cutL S _ _ rfl] at e2
 rw [e1, e2]
 exact (cutL_mem (fun x hx => (o.arcs b x hx).2.2.1)).1
abbrev caseC (a0 : Int) (b : Bool) (A2 : Option Addr) (k2 c2 : Nat) (a3 a4 a5 : Int) (A6 : Option Addr) (k6 c6 : Nat) : Array Value := #[.int .u8 a0, .bool b, .slice A2 k2 c2, .int .u8 a3, .int .u8 a4, .int .u8 a5, .slice A6 k6 c6]
def Rd14At (b : Bool) (w : World) (e : Ending) (w' : World) : Prop :=
 ∃ (n h s t : Nat) (l : List Arc) (L : List Mv) (A : Option Addr) (c : Nat) (AL : Option Addr) (cL : Nat), e = .returned (.tuple #[.agg #[.int .i64 n, .bool b, .slice A l.length c], .int .i64 s, .int .i64 t, .int .i64 h, .slice AL L.length cL]) ∧ Kd.C kArc w' A l.length l ∧ l.length ≤ c ∧ TfOk n h s t l ∧ askT n l s t h = 0 ∧ Kd.C kMv w' AL L.length L ∧ L.length ≤ 30 ∧ (∀ x, x ∈ L → -9223372036854775808 ≤ x.f2 ∧ x.f2 ≤ 9223372036854775807) ∧ Below w.heap.size w w'
def RdRAt (b : Bool) (w : World) (e : Ending) (w' : World) : Prop :=
 ∃ (n h s t : Nat) (l : List Arc) (A : Option Addr) (c : Nat), e = .returned (.tuple #[.agg #[.int .i64 n, .bool b, .slice A l.length c], .int .i64 s, .int .i64 t, .int .i64 h]) ∧ Kd.R kArc 57 w' w.heap.size (fun _ => True) (.slice A l.length c) l ∧ TfOk n h s t l ∧ askT n l s t h = 0 ∧ l.length ≤ 8 ∧ h ≤ 7 ∧ Below w.heap.size w w'
section
variable {a0 : Int} {b : Bool} {l2 : List CBit} {a3 a4 a5 : Int} {A2 : Option Addr} {c2 : Nat} {A6 : Option Addr} {c6 : Nat} {l6 : List S82} {w : World}
theorem rdr_walk (o : SmallAt w a0 l2 a3 a4 a5 A2) :
  Calls Tryz.prog 9 #[.agg (smallCells a0 b A2 l2.length c2 a3 a4 a5), .int .i64 8] w (RdRAt b w) := by
 refine (read12_walk 8 (by omega) 8 (by decide) a0 b A2 c2 l2 a3 a4 a5 w o.hr o.h0 o.hb o.h3 o.h4 o.h5).mono ?_
 rintro e w' ⟨n, l, s, t, h, A, c, rfl, hR, hN, hs, ht, hst, hh, hb⟩
 have n2 := hN.n2
 have n5 := hN.n5
 obtain ⟨n', rfl⟩ := Int.eq_ofNat_of_zero_le (show 0 ≤ n by omega)
 obtain ⟨s', rfl⟩ := Int.eq_ofNat_of_zero_le hs.1
 obtain ⟨t', rfl⟩ := Int.eq_ofNat_of_zero_le ht.1
 obtain ⟨h', rfl⟩ := Int.eq_ofNat_of_zero_le hh.1
 have q := tf_sm (h := h') (s := s') (t := t') (show 8 ≤ 40 by decide) hN (by omega) (by omega) (fun e => hst (by rw [e])) (by omega)
 exact ⟨n', h', s', t', l, A, c, rfl, hR, q.1, q.2, hN.ll, by omega, hb⟩
set_option maxHeartbeats 8000000 in
set_option maxRecDepth 100000 in
theorem read14_walk (o : SmallAt w a0 l2 a3 a4 a5 A2) (hm : Kd.C k82 w A6 l6.length l6) (um : ∀ s, s ∈ l6 → U8 s.f0 ∧ U8 s.f1 ∧ U8 s.f2) :
  Calls Tryz.prog 21 #[.agg (caseC a0 b A2 l2.length c2 a3 a4 a5 A6 l6.length c6)] w (Rd14At b w) := by
 have HO := zh o
 have HC8 := zh hm
 have HU8 := zh um
 have hu := Tryz.underlying27
 have hu2 := Tryz.underlying50
 have hu3 := Tryz.underlying82
 have hu4 := Tryz.underlying78
 have hu5 := Tryz.underlying24
 clear o hm um
 obtain ⟨w1, hw1⟩ : ∃ w1, w1 = (w.alloc (.cells (caseC a0 b A2 l2.length c2 a3 a4 a5 A6 l6.length c6) 50)).alloc (.cells #[.int .i64 0, .bool false, .slice none 0 0] 27) := ⟨_, rfl⟩
 have HX : Hid (w1.heap[w.heap.size]? = some (.cells (caseC a0 b A2 l2.length c2 a3 a4 a5 A6 l6.length c6) 50 (0, 0)) ∧ w1.heap[w.heap.size + 1]? = some (.cells #[.int .i64 0, .bool false, .slice none 0 0] 27 (0, 0)) ∧ Below w.heap.size w w1) := zh (by
  rw [hw1]
  exact ⟨blk_alloc (heap_alloc_new _ _) _, alloc_at (by rw [alloc_size]), below_alloc (below_alloc (Below.refl _ _) _) _⟩)
 go_enter Tryz.func21, Tryz.ntmps21
 go_wp2_with (go_at_call 9; rw [← hw1]; go_loud ((with_reducible refine (rdr_walk (HO.out.below HX.out.2.2)).mono ?_); rintro e w2 ⟨n, h, s, t, l, A, c, rfl, hA, ho, hq, hll, hh7, hb⟩; have HA := zh (And.intro (Kd.R_lower hA HX.out.2.2.size) hll); have HK := zh (And.intro ho hq); have HX2 := zh (And.intro (blk_below HX.out.1 hb) (And.intro (blk_below HX.out.2.1 hb) (below_step HX.out.2.2 hb))); clear hb hA ho hq HX))
 obtain ⟨w3, hw3⟩ : ∃ w3, w3 = w2.alloc (.cells #[.int .i64 n, .bool b, .slice A l.length c] 27) := ⟨_, rfl⟩
 have HX3 : Hid (w3.heap[w.heap.size]? = some (.cells (caseC a0 b A2 l2.length c2 a3 a4 a5 A6 l6.length c6) 50 (0, 0)) ∧ w3.heap[w.heap.size + 1]? = some (.cells #[.int .i64 0, .bool false, .slice none 0 0] 27 (0, 0)) ∧ w3.heap[w2.heap.size]? = some (.cells #[.int .i64 n, .bool b, .slice A l.length c] 27 (0, 0)) ∧ Below w.heap.size w w3 ∧ Below w2.heap.size w2 w3) := zh (by
  rw [hw3]
  exact ⟨blk_alloc HX2.out.1 _, blk_alloc HX2.out.2.1 _, heap_alloc_new _ _, below_alloc HX2.out.2.2 _, below_alloc (Below.refl _ _) _⟩)
 rw [← hw3]
 have HW2 := zh HX2.out.2.2
 clear hw3 HX2
 go_wp2
 have e1 : IntKind.i64.wrap ((h : Int) + 1) = (h : Int) + 1 := IntWalk.i64_in _ (by omega)
 have hkb : l.length ≤ 8 := HA.out.2
 obtain ⟨k, hk⟩ : ∃ k, k = l.length := ⟨_, rfl⟩
 go_loopg [11, 12] 31 (fun m ov iv W => ∃ (i : Nat) (L : List Mv) (Ao : Option Addr) (co : Nat), i ≤ 30 ∧ ov = .slice Ao L.length co ∧ iv = .int .i64 i ∧ m = 31 - i ∧ Hid (L.length = i ∧ Kd.R kMv 78 W w2.heap.size (fun _ => True) (.slice Ao L.length co) L ∧ (∀ x, x ∈ L → -9223372036854775808 ≤ x.f2 ∧ x.f2 ≤ 9223372036854775807) ∧ W.heap[w.heap.size]? = some (.cells (caseC a0 b A2 l2.length c2 a3 a4 a5 A6 l6.length c6) 50 (0, 0)) ∧ W.heap[w.heap.size + 1]? = some (.cells #[.int .i64 0, .bool false, .slice none 0 0] 27 (0, 0)) ∧ W.heap[w2.heap.size]? = some (.cells #[.int .i64 n, .bool b, .slice A l.length c] 27 (0, 0)) ∧ Below w.heap.size w W ∧ Below w2.heap.size w2 W))
 case atStart => exact ⟨0, [], none, 0, by omega, rfl, rfl, rfl, zh ⟨rfl, Kd.R_nil _ _ _ _ _, fun x hx => (nomatch hx), HX3.out⟩⟩
 case round =>
  obtain ⟨i, L, Ao, co, hi, rfl, rfl, rfl, HL⟩ := hrel
  clear HX3
  have x8 : wr.cell? ⟨w.heap.size, 6, none⟩ = some (.slice A6 l6.length c6) := (blk_cell HL.out.2.2.2.1 6).trans rfl
  have y0 : wr.cell? ⟨w2.heap.size, 0, none⟩ = some (.int .i64 n) := (blk_cell HL.out.2.2.2.2.2.1 0).trans rfl
  have y1 : wr.cell? ⟨w2.heap.size, 1, none⟩ = some (.bool b) := (blk_cell HL.out.2.2.2.2.2.1 1).trans rfl
  have y2 : wr.cell? ⟨w2.heap.size, 2, none⟩ = some (.slice A l.length c) := (blk_cell HL.out.2.2.2.2.2.1 2).trans rfl
  have g0 : wr.cell? ⟨w.heap.size + 1, 0, none⟩ = some (.int .i64 0) := (blk_cell HL.out.2.2.2.2.1 0).trans rfl
  have g1 : wr.cell? ⟨w.heap.size + 1, 1, none⟩ = some (.bool false) := (blk_cell HL.out.2.2.2.2.1 1).trans rfl
  have g2 : wr.cell? ⟨w.heap.size + 1, 2, none⟩ = some (.slice none 0 0) := (blk_cell HL.out.2.2.2.2.1 2).trans rfl
  have fz0 := blk_frozen HL.out.2.2.2.2.1 0
  have fz1 := blk_frozen HL.out.2.2.2.2.1 1
  have fz2 := blk_frozen HL.out.2.2.2.2.1 2
  have hc : (¬ (i : Int) < (l6.length : Int)) ∨ ((i : Int) < (l6.length : Int) ∧ ¬ (i : Int) < 30) ∨ ((i : Int) < (l6.length : Int) ∧ (i : Int) < 30 ∧ ¬ (0 : Int) < (l.length : Int)) ∨ ((i : Int) < (l6.length : Int) ∧ (i : Int) < 30 ∧ (0 : Int) < (l.length : Int)) := by omega
  rcases hc with c1 | ⟨c1, c2⟩ | ⟨c1, c2, c3⟩ | ⟨c1, c2, c3⟩
  iterate 3
   ·clear fz0 fz1 fz2
    have fz0 := blk_frozen HL.out.2.2.2.2.1 0
    have fz1 := blk_frozen HL.out.2.2.2.2.1 1
    have fz2 := blk_frozen HL.out.2.2.2.2.1 2
    go_wp2
    have r0 := blk_put (cs := #[.int .i64 0, .bool false, .slice none 0 0]) HL.out.2.2.2.2.1 0 (.int .i64 (n : Int)) rfl
    have r1 := blk_put (cs := #[.int .i64 (n : Int), .bool false, .slice none 0 0]) r0 1 (.bool b) rfl
    have r2 := blk_put (cs := #[.int .i64 (n : Int), .bool b, .slice none 0 0]) r1 2 (.slice A l.length c) rfl
    refine bodyPost_ret (results_list (rs := [.cell 2 27, .tmp 3, .tmp 4, .tmp 5, .tmp 6]) ?q1 ?q2 (.cell (w.heap.size + 1) 27 #[.int .i64 (n : Int), .bool b, .slice A l.length c] (0, 0) _ rfl r2 hu rfl (by kernel_rfl) (.tmp (.tmp (.tmp (.tmp .nil)))))) ?q3 ?_
    case q1 => rfl
    case q2 => simp
    case q3 => rfl
    have hA9 := Kd.R_set (Kd.R_set (Kd.R_set (Kd.R_below HA.out.1 HL.out.2.2.2.2.2.2.2) HL.out.2.2.2.2.1 (by decide) 0 (.int .i64 (n : Int))) r0 (by decide) 1 (.bool b)) r1 (by decide) 2 (.slice A l.length c)
    have hL9 := Kd.R_set (Kd.R_set (Kd.R_set HL.out.2.1 HL.out.2.2.2.2.1 (by decide) 0 (.int .i64 (n : Int))) r0 (by decide) 1 (.bool b)) r1 (by decide) 2 (.slice A l.length c)
    exact ⟨n, h, s, t, l, L, A, c, Ao, co, rfl, (Kd.R_reads' hA9).2.2, (Kd.R_reads' hA9).2.1, HK.out.1, HK.out.2, (Kd.R_reads' hL9).2.2, by have := HL.out.1; omega, HL.out.2.2.1, below_set (below_set (below_set HL.out.2.2.2.2.2.2.1 (Nat.le_succ _)) (Nat.le_succ _)) (Nat.le_succ _)⟩
  ·have i0 : (0 : Int) ≤ (i : Int) := by omega
   have c1' := c1
   have c2' := c2
   have c3' := c3
   have hk1 : 0 < l.length := by omega
   obtain ⟨ad, ea, z0, z1, z2⟩ := at_T82 (Kd.C_drew (Kd.C_below HC8.out HL.out.2.2.2.2.2.2.1)) (i : Int) i0 c1'
   subst ea
   rw [Int.toNat_natCast] at z0 z1 z2
   obtain ⟨q, hq⟩ : ∃ q, q = rd_T82 l6 (i : Int) := ⟨_, rfl⟩
   have hsu := HU8.out q (by
    rw [hq]
    unfold rd_T82
    rw [Int.toNat_natCast, List.getD_eq_getElem?_getD, List.getElem?_eq_getElem (by omega)]
    exact List.getElem_mem _)
   rw [← hq] at z0 z1 z2
   clear hq
   have u0 := hsu.1
   have u1 := hsu.2.1
   have u2 := hsu.2.2
   unfold U8 at u0 u1 u2
   clear hsu g0 g1 g2 fz0 fz1 fz2 y0 y1
   have e2 : IntKind.i64.wrap q.f0 = q.f0 := IntWalk.i64_in _ (by omega)
   have e3 : IntKind.i64.wrap q.f1 = q.f1 := IntWalk.i64_in _ (by omega)
   have e4 : IntKind.i64.wrap q.f2 = q.f2 := IntWalk.i64_in _ (by omega)
   obtain ⟨r0, h0⟩ : ∃ r0, q.f0.tmod (l.length : Int) = r0 := ⟨_, rfl⟩
   obtain ⟨r1, h1⟩ : ∃ r1, q.f1.tmod ((h : Int) + 1) = r1 := ⟨_, rfl⟩
   obtain ⟨r2, h2⟩ : ∃ r2, q.f2.tmod 4 = r2 := ⟨_, rfl⟩
   have hnz : ¬ l.length = 0 := by omega
   have hnz3 : ¬ l = [] := fun e => by rw [e] at hk1; exact absurd hk1 (Nat.lt_irrefl 0)
   have hr2 : Hid (-4 < r2 ∧ r2 < 4) := zh (by
    rw [Int.tmod_eq_emod_of_nonneg (by omega)] at h2
    omega)
   have hnz2 : ¬ (h : Int) + 1 = 0 := by omega
   have x9 : wr.drew.cell? ⟨w.heap.size, 6, none⟩ = some (.slice (some ad) l6.length c6) := (blk_cell (blk_drew HL.out.2.2.2.1) 6).trans rfl
   have y9 : wr.drew.cell? ⟨w2.heap.size, 2, none⟩ = some (.slice A l.length c) := (blk_cell (blk_drew HL.out.2.2.2.2.2.1) 2).trans rfl
   have HB := zh (And.intro (Kd.R_drew HL.out.2.1) (And.intro (below_drew1 HL.out.2.2.2.2.2.2.2) (And.intro (blk_drew HL.out.2.2.2.1) (And.intro (blk_drew HL.out.2.2.2.2.1) (And.intro (blk_drew HL.out.2.2.2.2.2.1) (below_drew1 HL.out.2.2.2.2.2.2.2))))))
   have HLL := zh (And.intro HL.out.1 HL.out.2.2.1)
   clear HL
   go_wp2
   refine stepS (S := fun w' => w'.cell? ⟨w.heap.size, 6, none⟩ = some (.slice (some ad) l6.length c6) ∧ w'.cell? ⟨w2.heap.size, 2, none⟩ = some (.slice A l.length c) ∧ w'.cell? (ad.add (i * 3)) = some (.int .u8 q.f0) ∧ w'.cell? ⟨(ad.add (i * 3)).block, (ad.add (i * 3)).off + 1, none⟩ = some (.int .u8 q.f1) ∧ w'.cell? ⟨(ad.add (i * 3)).block, (ad.add (i * 3)).off + 2, none⟩ = some (.int .u8 q.f2)) (ds := [32]) 34 (by kernel_rfl) rfl ⟨x9, y9, z0, z1, z2⟩ (fun hHeld => ?_)
   generalize wr.drew = wd at HB hHeld ⊢
   clear x8 y2 x9 y9 z0 z1 z2
   repeat (first | refine rP 34 ?_ | refine rT 34 hHeld ?_)
   refine sB 31 hHeld (fun hHeld => ?_)
   refine sA 32 appMv L ⟨r0, r1, r2⟩ HB.out.1 HB.out.2.1 HB.out.2.1.size (by have := HLL.out.1; omega) (fun A1 c1 w9 ho hb hg => ?_)
   refine sN ?_
   refine rP 34 ?_
   refine done_ (by kernel_rfl) ?_
   have HF := zh (And.intro ho (And.intro hb (And.intro (blk_grown HB.out.2.2.1 hg (Kd.R_ne HB.out.1 HB.out.2.2.1 (by decide))) (And.intro (blk_grown HB.out.2.2.2.1 hg (Kd.R_ne HB.out.1 HB.out.2.2.2.1 (by decide))) (blk_grown HB.out.2.2.2.2.1 hg (Kd.R_ne HB.out.1 HB.out.2.2.2.2.1 (by decide)))))))
   clear ho hb hg hHeld HB
   go_wp2
   go_roundg (30 - i)
   case measure => omega
   case rel => exact ⟨i + 1, L ++ [⟨r0, r1, r2⟩], A1, c1, by omega, by rw [List.length_append]; rfl, by go_num, by omega, zh ⟨by rw [List.length_append, HLL.out.1]; rfl, by rw [List.length_append]; exact HF.out.1, fun x hx => by
    rcases List.mem_append.1 hx with hx | hx
    ·exact HLL.out.2 x hx
    ·rw [List.mem_singleton] at hx
     subst hx
     have h9 := hr2.out
     exact ⟨by show (-9223372036854775808 : Int) ≤ r2; omega, by show r2 ≤ (9223372036854775807 : Int); omega⟩, HF.out.2.2.1, HF.out.2.2.2.1, HF.out.2.2.2.2, below_step HW2.out HF.out.2.1, HF.out.2.1⟩⟩
set_option maxHeartbeats 4000000 in
set_option maxRecDepth 100000 in
theorem law_tops (o : SmallAt w a0 l2 a3 a4 a5 A2) (hm : Kd.C k82 w A6 l6.length l6) (um : ∀ s, s ∈ l6 → U8 s.f0 ∧ U8 s.f1 ∧ U8 s.f2) :
  Calls Tryz.prog 7 #[.agg (caseC a0 b A2 l2.length c2 a3 a4 a5 A6 l6.length c6)] w fun e w' => e = .returned (.bool true) ∧ Below w.heap.size w w' := by
 have HO := zh o
 have HMM := zh hm
 have HUM := zh um
 have hu := Tryz.underlying27
 have hu2 := Tryz.underlying50
 clear o hm um
 have HY : Hid ((w.alloc (.cells (caseC a0 b A2 l2.length c2 a3 a4 a5 A6 l6.length c6) 50)).heap[w.heap.size]? = some (.cells (caseC a0 b A2 l2.length c2 a3 a4 a5 A6 l6.length c6) 50 (0, 0)) ∧ Below w.heap.size w (w.alloc (.cells (caseC a0 b A2 l2.length c2 a3 a4 a5 A6 l6.length c6) 50))) := zh ⟨heap_alloc_new _ _, below_alloc (Below.refl _ _) _⟩
 go_enter Tryz.func7, Tryz.ntmps7
 go_wp2_with (first
  |(go_at_call 12; go_loud ((with_reducible refine (awake_walk _).mono ?_); rintro e w1 ⟨rfl, hb⟩; have HY1 := zh (And.intro (blk_below HY.out.1 hb) (below_step HY.out.2 hb)); clear HY hb; have q0 : w1.cell? ⟨w.heap.size, 0, none⟩ = some (.int .u8 a0) := (blk_cell HY1.out.1 0).trans rfl; have q1 : w1.cell? ⟨w.heap.size, 1, none⟩ = some (.bool b) := (blk_cell HY1.out.1 1).trans rfl; have q2 : w1.cell? ⟨w.heap.size, 2, none⟩ = some (.slice A2 l2.length c2) := (blk_cell HY1.out.1 2).trans rfl; have q3 : w1.cell? ⟨w.heap.size, 3, none⟩ = some (.int .u8 a3) := (blk_cell HY1.out.1 3).trans rfl; have q4 : w1.cell? ⟨w.heap.size, 4, none⟩ = some (.int .u8 a4) := (blk_cell HY1.out.1 4).trans rfl; have q5 : w1.cell? ⟨w.heap.size, 5, none⟩ = some (.int .u8 a5) := (blk_cell HY1.out.1 5).trans rfl; have q6 : w1.cell? ⟨w.heap.size, 6, none⟩ = some (.slice A6 l6.length c6) := (blk_cell HY1.out.1 6).trans rfl))
  |(go_at_call 21; go_loud ((with_reducible refine (read14_walk (HO.out.below HY1.out.2) (Kd.C_below HMM.out HY1.out.2) HUM.out).mono ?_); rintro e w2 ⟨n, h, s, t, l, L, A, c, AL, cL, rfl, hA, hc, ho, hq, hL, hLl, hL2, hb⟩; have HB2 := zh (below_step HY1.out.2 hb); have HA := zh hA; have HC := zh hc; have HK := zh (And.intro ho hq); have HL := zh (And.intro hL hL2); clear hb hA hc ho hq hL hL2 q0 q1 q2 q3 q4 q5 q6))
  |(go_at_call 18; fail))
 obtain ⟨w3, hw3⟩ : ∃ w3, w3 = w2.alloc (.cells #[.int .i64 n, .bool b, .slice A l.length c] 27) := ⟨_, rfl⟩
 have HX : Hid (w3.heap[w2.heap.size]? = some (.cells #[.int .i64 n, .bool b, .slice A l.length c] 27 (0, 0)) ∧ Below w2.heap.size w2 w3) := zh (by rw [hw3]; exact ⟨heap_alloc_new _ _, below_alloc (Below.refl _ _) _⟩)
 obtain ⟨V, hV⟩ : ∃ V, V = tfV n h s t b l := ⟨_, rfl⟩
 have HV := zh hV
 clear hV
 go_wp2_with (go_at_call 18; rw [← hw3]; go_loud ((with_reducible refine (rchkT_walk HK.out.1 HK.out.2 ?s1 ?s2 HL.out.2 ?s3).mono ?_); (case s1 => exact Kd.C_below HA.out HX.out.2); (case s2 => exact Kd.C_below HL.out.1 HX.out.2); (case s3 => omega); rintro e w9 ⟨hb, hk⟩; have HN9 := zh (And.intro (blk_below HX.out.1 hb) (below_step HX.out.2 hb)); clear HX hb; have HX := HN9; clear HN9; have x0 : w9.cell? ⟨w2.heap.size, 0, none⟩ = some (.int .i64 n) := (blk_cell HX.out.1 0).trans rfl; have x1 : w9.cell? ⟨w2.heap.size, 1, none⟩ = some (.bool b) := (blk_cell HX.out.1 1).trans rfl; have x2 : w9.cell? ⟨w2.heap.size, 2, none⟩ = some (.slice A l.length c) := (blk_cell HX.out.1 2).trans rfl; rcases hk with ⟨k9, k0, k1, rfl, -⟩ | ⟨m, hP, hml, rfl⟩))
 ·have k0' : (k9 == 0) = false := by simpa using k0
  have k1' : (k9 != 0) = true := by simpa using k1
  clear k0 k1
  go_wp2_with (go_at_call 10; go_loud ((with_reducible refine (most_walk HK.out.1 HK.out.2 HC.out ?s1).mono ?_); (case s1 => exact Kd.C_below HA.out HX.out.2); rintro e w8 ⟨rfl, hb, hT⟩; rw [← HV.out]; have hv0 : 0 ≤ V := (by rw [HV.out]; exact tfV_nn HK.out.1 hT); have HX8 := zh (below_step HX.out.2 hb); clear hb hT))
  go_ret
  exact ⟨rfl, below_step HB2.out HX8.out⟩
 ·obtain ⟨K, hK⟩ : ∃ K, K = stockV l m t h := ⟨_, rfl⟩
  rw [← hK]
  have HPL := zh (And.intro hP hml)
  have HKE := zh hK
  clear hK hP hml
  go_wp2_with (go_at_call 10; go_loud ((with_reducible refine (most_walk HK.out.1 HK.out.2 HC.out ?s1).mono ?_); (case s1 => exact Kd.C_below HA.out HX.out.2); rintro e w8 ⟨rfl, hb, hT⟩; rw [← HV.out]; have hv0 : 0 ≤ V := (by rw [HV.out]; exact tfV_nn HK.out.1 hT); have hle : K ≤ V := (by rw [HV.out, HKE.out]; obtain ⟨F9, S9, q1, q2⟩ := hT; exact (tf_most HK.out.1 HPL.out.1 (by have := HPL.out.2; omega) q1 q2).1); have HX8 := zh (below_step HX.out.2 hb); clear hb hT))
  go_ret
  exact ⟨rfl, below_step HB2.out HX8.out⟩
end
end Go.Proofs.YtdfagllncopmjaaGreat.H
end
