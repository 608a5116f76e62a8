/- Texts of this proof, joined; what the statement doesn't need is left out. -/
import Derived.Test.YtdfagllncopmjaaGreatT5
section
namespace Go.Proofs.YtdfagllncopmjaaGreat.H
open Go Go.RowKit Go.Proofs.YtdfagllncopmjaaGreat.PrintC Go.Proofs.YtdfagllncopmjaaGreat.PrintE Go.Proofs.YtdfagllncopmjaaGreatW.PrintWords Go.Proofs.YtdfagllncopmjaaGreatW.PrintLast Go.Proofs.YtdfagllncopmjaaGreatW.PrintMore Go.Proofs.YtdfagllncopmjaaGreat.Flow
set_option linter.unusedVariables false
set_option linter.unusedSimpArgs false
section
variable {b : Bool} {A : Option Addr} {c : Nat} {l : List Arc} {w : World}
def TrueAt (w : World) (e : Ending) (w' : World) : Prop := e = .returned (.bool true) ∧ Below w.heap.size w w'
set_option maxHeartbeats 8000000 in
set_option maxRecDepth 100000 in
theorem refuses_good {n s t h : Nat} (o : TfOk n h s t l) (ha : askT n l s t h = 0) (h4 : h ≤ 4) (hr : Kd.C kArc w A l.length l) (hc : l.length ≤ c) :
  Calls Tryz.prog 5 #[.agg #[.int .i64 n, .bool b, .slice A l.length c], .int .i64 s, .int .i64 t, .int .i64 h] w (TrueAt w) := by
 have HO := zh o
 have HQ := zh ha
 have hd : decide ((4 : Int) < (h : Int)) = false := decide_eq_false (by omega)
 obtain ⟨V, hV⟩ : ∃ V, V = tfV n h s t b l := ⟨_, rfl⟩
 have HV := zh hV
 clear hV
 have t1 : (V == V) = true := by simp
 have t2 : (V != V) = false := by simp
 clear o ha h4
 have HR := zh hr
 have HC := zh hc
 have hu := Tryz.underlying27
 clear hr hc
 obtain ⟨w1, hw1⟩ : ∃ w1, w1 = w.alloc (.cells #[.int .i64 n, .bool b, .slice A l.length c] 27) := ⟨_, rfl⟩
 have HX : Hid (w1.heap[w.heap.size]? = some (.cells #[.int .i64 n, .bool b, .slice A l.length c] 27 (0, 0)) ∧ Below w.heap.size w w1) := zh (by rw [hw1]; exact ⟨heap_alloc_new _ _, below_alloc (Below.refl _ _) _⟩)
 go_enter Tryz.func5, Tryz.ntmps5
 go_wp2_with (first
  |(go_at_call 12; rw [← hw1]; go_loud ((with_reducible refine (awake_walk _).mono ?_); rintro e w9 ⟨rfl, hb⟩; have HN9 := zh (And.intro (blk_below HX.out.1 hb) (below_step HX.out.2 hb)); clear HX hb; have HX := HN9; clear HN9; have x0 : w9.cell? ⟨w.heap.size, 0, none⟩ = some (.int .i64 n) := (blk_cell HX.out.1 0).trans rfl; have x1 : w9.cell? ⟨w.heap.size, 1, none⟩ = some (.bool b) := (blk_cell HX.out.1 1).trans rfl; have x2 : w9.cell? ⟨w.heap.size, 2, none⟩ = some (.slice A l.length c) := (blk_cell HX.out.1 2).trans rfl))
  |(go_at_call 16; (with_reducible refine (rask15_walk (n := (n : Int)) (b := b) (c := c) (s := (s : Int)) (t := (t : Int)) (h := (h : Int)) ?s1).mono ?_); (case s1 => exact Kd.C_below HR.out HX.out.2); rintro e w9 ⟨rfl, hb⟩; rw [HQ.out]; clear x0 x1 x2; have HN9 := zh (And.intro (blk_below HX.out.1 hb) (below_step HX.out.2 hb)); clear HX hb; have HX := HN9; clear HN9; have x0 : w9.cell? ⟨w.heap.size, 0, none⟩ = some (.int .i64 n) := (blk_cell HX.out.1 0).trans rfl; have x1 : w9.cell? ⟨w.heap.size, 1, none⟩ = some (.bool b) := (blk_cell HX.out.1 1).trans rfl; have x2 : w9.cell? ⟨w.heap.size, 2, none⟩ = some (.slice A l.length c) := (blk_cell HX.out.1 2).trans rfl)
  |(go_at_call 10; go_loud ((with_reducible refine (most_walk HO.out HQ.out HC.out ?s1).mono ?_); (case s1 => exact Kd.C_below HR.out HX.out.2); rintro e w9 ⟨rfl, hb, _⟩; rw [← HV.out]; clear x0 x1 x2; have HN9 := zh (And.intro (blk_below HX.out.1 hb) (below_step HX.out.2 hb)); clear HX hb; have HX := HN9; clear HN9; have x0 : w9.cell? ⟨w.heap.size, 0, none⟩ = some (.int .i64 n) := (blk_cell HX.out.1 0).trans rfl; have x1 : w9.cell? ⟨w.heap.size, 1, none⟩ = some (.bool b) := (blk_cell HX.out.1 1).trans rfl; have x2 : w9.cell? ⟨w.heap.size, 2, none⟩ = some (.slice A l.length c) := (blk_cell HX.out.1 2).trans rfl))
  |(go_at_call 17; go_loud ((with_reducible refine (max_walk HO.out HQ.out HC.out ?s1).mono ?_); (case s1 => exact Kd.C_below HR.out HX.out.2); rintro e w9 ⟨hb, m5, A5, c5, rfl, _, _, _⟩; rw [← HV.out]; clear x0 x1 x2; have HN9 := zh (And.intro (blk_below HX.out.1 hb) (below_step HX.out.2 hb)); clear HX hb; have HX := HN9; clear HN9; have x0 : w9.cell? ⟨w.heap.size, 0, none⟩ = some (.int .i64 n) := (blk_cell HX.out.1 0).trans rfl; have x1 : w9.cell? ⟨w.heap.size, 1, none⟩ = some (.bool b) := (blk_cell HX.out.1 1).trans rfl; have x2 : w9.cell? ⟨w.heap.size, 2, none⟩ = some (.slice A l.length c) := (blk_cell HX.out.1 2).trans rfl))
  |(go_at_call 13; go_loud ((with_reducible refine (cut_walk HO.out HQ.out HC.out ?s1).mono ?_); (case s1 => exact Kd.C_below HR.out HX.out.2); rintro e w9 ⟨v6, rfl, _, hb⟩; clear x0 x1 x2; have HN9 := zh (And.intro (blk_below HX.out.1 hb) (below_step HX.out.2 hb)); clear HX hb; have HX := HN9; clear HN9; have x0 : w9.cell? ⟨w.heap.size, 0, none⟩ = some (.int .i64 n) := (blk_cell HX.out.1 0).trans rfl; have x1 : w9.cell? ⟨w.heap.size, 1, none⟩ = some (.bool b) := (blk_cell HX.out.1 1).trans rfl; have x2 : w9.cell? ⟨w.heap.size, 2, none⟩ = some (.slice A l.length c) := (blk_cell HX.out.1 2).trans rfl)))
 go_ret
 exact ⟨rfl, HX.out.2⟩
set_option maxHeartbeats 8000000 in
set_option maxRecDepth 100000 in
theorem refuses_far {n s t h q : Nat} (o : TfOk n q s t l) (ha : askT n l s t q = 0) (hb : askT n l s t h = 0) (h4 : 4 < h) (hq : q = h % 5) (hr : Kd.C kArc w A l.length l) (hc : l.length ≤ c) :
  Calls Tryz.prog 5 #[.agg #[.int .i64 n, .bool b, .slice A l.length c], .int .i64 s, .int .i64 t, .int .i64 h] w (TrueAt w) := by
 have HO := zh o
 have HQ := zh ha
 have HF := zh hb
 have hd : decide ((4 : Int) < (h : Int)) = true := decide_eq_true (by omega)
 have er : ((h : Int)).tmod 5 = (q : Int) := by
  rw [Int.tmod_eq_emod_of_nonneg (by omega), hq]
  rfl
 obtain ⟨V, hV⟩ : ∃ V, V = tfV n q s t b l := ⟨_, rfl⟩
 have HV := zh hV
 clear hV
 have t1 : (V == V) = true := by simp
 have t2 : (V != V) = false := by simp
 clear o ha hb h4 hq
 have HR := zh hr
 have HC := zh hc
 have hu := Tryz.underlying27
 clear hr hc
 obtain ⟨w1, hw1⟩ : ∃ w1, w1 = w.alloc (.cells #[.int .i64 n, .bool b, .slice A l.length c] 27) := ⟨_, rfl⟩
 have HX : Hid (w1.heap[w.heap.size]? = some (.cells #[.int .i64 n, .bool b, .slice A l.length c] 27 (0, 0)) ∧ Below w.heap.size w w1) := zh (by rw [hw1]; exact ⟨heap_alloc_new _ _, below_alloc (Below.refl _ _) _⟩)
 go_enter Tryz.func5, Tryz.ntmps5
 go_wp2_with (first
  |(go_at_call 12; rw [← hw1]; go_loud ((with_reducible refine (awake_walk _).mono ?_); rintro e w9 ⟨rfl, hb⟩; have HN9 := zh (And.intro (blk_below HX.out.1 hb) (below_step HX.out.2 hb)); clear HX hb; have HX := HN9; clear HN9; have x0 : w9.cell? ⟨w.heap.size, 0, none⟩ = some (.int .i64 n) := (blk_cell HX.out.1 0).trans rfl; have x1 : w9.cell? ⟨w.heap.size, 1, none⟩ = some (.bool b) := (blk_cell HX.out.1 1).trans rfl; have x2 : w9.cell? ⟨w.heap.size, 2, none⟩ = some (.slice A l.length c) := (blk_cell HX.out.1 2).trans rfl))
  |(go_at_call 16; (with_reducible refine (rask15_walk (n := (n : Int)) (b := b) (c := c) (s := (s : Int)) (t := (t : Int)) (h := (h : Int)) ?s1).mono ?_); (case s1 => exact Kd.C_below HR.out HX.out.2); rintro e w9 ⟨rfl, hb⟩; rw [HF.out]; clear x0 x1 x2; have HN9 := zh (And.intro (blk_below HX.out.1 hb) (below_step HX.out.2 hb)); clear HX hb; have HX := HN9; clear HN9; have x0 : w9.cell? ⟨w.heap.size, 0, none⟩ = some (.int .i64 n) := (blk_cell HX.out.1 0).trans rfl; have x1 : w9.cell? ⟨w.heap.size, 1, none⟩ = some (.bool b) := (blk_cell HX.out.1 1).trans rfl; have x2 : w9.cell? ⟨w.heap.size, 2, none⟩ = some (.slice A l.length c) := (blk_cell HX.out.1 2).trans rfl)
  |(go_at_call 16; (with_reducible refine (rask15_walk (n := (n : Int)) (b := b) (c := c) (s := (s : Int)) (t := (t : Int)) (h := (q : Int)) ?s1).mono ?_); (case s1 => exact Kd.C_below HR.out HX.out.2); rintro e w9 ⟨rfl, hb⟩; rw [HQ.out]; clear x0 x1 x2; have HN9 := zh (And.intro (blk_below HX.out.1 hb) (below_step HX.out.2 hb)); clear HX hb; have HX := HN9; clear HN9; have x0 : w9.cell? ⟨w.heap.size, 0, none⟩ = some (.int .i64 n) := (blk_cell HX.out.1 0).trans rfl; have x1 : w9.cell? ⟨w.heap.size, 1, none⟩ = some (.bool b) := (blk_cell HX.out.1 1).trans rfl; have x2 : w9.cell? ⟨w.heap.size, 2, none⟩ = some (.slice A l.length c) := (blk_cell HX.out.1 2).trans rfl)
  |(go_at_call 10; go_loud ((with_reducible refine (most_walk HO.out HQ.out HC.out ?s1).mono ?_); (case s1 => exact Kd.C_below HR.out HX.out.2); rintro e w9 ⟨rfl, hb, _⟩; rw [← HV.out]; clear x0 x1 x2; have HN9 := zh (And.intro (blk_below HX.out.1 hb) (below_step HX.out.2 hb)); clear HX hb; have HX := HN9; clear HN9; have x0 : w9.cell? ⟨w.heap.size, 0, none⟩ = some (.int .i64 n) := (blk_cell HX.out.1 0).trans rfl; have x1 : w9.cell? ⟨w.heap.size, 1, none⟩ = some (.bool b) := (blk_cell HX.out.1 1).trans rfl; have x2 : w9.cell? ⟨w.heap.size, 2, none⟩ = some (.slice A l.length c) := (blk_cell HX.out.1 2).trans rfl))
  |(go_at_call 17; go_loud ((with_reducible refine (max_walk HO.out HQ.out HC.out ?s1).mono ?_); (case s1 => exact Kd.C_below HR.out HX.out.2); rintro e w9 ⟨hb, m5, A5, c5, rfl, _, _, _⟩; rw [← HV.out]; clear x0 x1 x2; have HN9 := zh (And.intro (blk_below HX.out.1 hb) (below_step HX.out.2 hb)); clear HX hb; have HX := HN9; clear HN9; have x0 : w9.cell? ⟨w.heap.size, 0, none⟩ = some (.int .i64 n) := (blk_cell HX.out.1 0).trans rfl; have x1 : w9.cell? ⟨w.heap.size, 1, none⟩ = some (.bool b) := (blk_cell HX.out.1 1).trans rfl; have x2 : w9.cell? ⟨w.heap.size, 2, none⟩ = some (.slice A l.length c) := (blk_cell HX.out.1 2).trans rfl))
  |(go_at_call 13; go_loud ((with_reducible refine (cut_walk HO.out HQ.out HC.out ?s1).mono ?_); (case s1 => exact Kd.C_below HR.out HX.out.2); rintro e w9 ⟨v6, rfl, _, hb⟩; clear x0 x1 x2; have HN9 := zh (And.intro (blk_below HX.out.1 hb) (below_step HX.out.2 hb)); clear HX hb; have HX := HN9; clear HN9; have x0 : w9.cell? ⟨w.heap.size, 0, none⟩ = some (.int .i64 n) := (blk_cell HX.out.1 0).trans rfl; have x1 : w9.cell? ⟨w.heap.size, 1, none⟩ = some (.bool b) := (blk_cell HX.out.1 1).trans rfl; have x2 : w9.cell? ⟨w.heap.size, 2, none⟩ = some (.slice A l.length c) := (blk_cell HX.out.1 2).trans rfl)))
 go_ret
 exact ⟨rfl, HX.out.2⟩
set_option maxHeartbeats 8000000 in
set_option maxRecDepth 100000 in
theorem refuses_bad {n s t h r : Int} (ha : askT n l s t h = r) (h0 : r ≠ 0) (hr : Kd.C kArc w A l.length l) (hc : l.length ≤ c) :
  Calls Tryz.prog 5 #[.agg #[.int .i64 n, .bool b, .slice A l.length c], .int .i64 s, .int .i64 t, .int .i64 h] w (TrueAt w) := by
 have HA := zh ha
 have H0 := zh h0
 have e1 : (r != 0) = true := bne_iff_ne.2 h0
 have e2 : (r == 0) = false := beq_eq_false_iff_ne.2 h0
 have t1 : (r == r) = true := by simp
 have t2 : (r != r) = false := by simp
 clear ha h0
 have HR := zh hr
 have HC := zh hc
 have hu := Tryz.underlying27
 clear hr hc
 obtain ⟨w1, hw1⟩ : ∃ w1, w1 = w.alloc (.cells #[.int .i64 n, .bool b, .slice A l.length c] 27) := ⟨_, rfl⟩
 have HX : Hid (w1.heap[w.heap.size]? = some (.cells #[.int .i64 n, .bool b, .slice A l.length c] 27 (0, 0)) ∧ Below w.heap.size w w1) := zh (by rw [hw1]; exact ⟨heap_alloc_new _ _, below_alloc (Below.refl _ _) _⟩)
 go_enter Tryz.func5, Tryz.ntmps5
 by_cases h4 : 4 < h
 ·have hd : decide ((4 : Int) < h) = true := decide_eq_true h4
  go_wp2_with (first
   |(go_at_call 12; rw [← hw1]; go_loud ((with_reducible refine (awake_walk _).mono ?_); rintro e w9 ⟨rfl, hb⟩; have HN9 := zh (And.intro (blk_below HX.out.1 hb) (below_step HX.out.2 hb)); clear HX hb; have HX := HN9; clear HN9; have x0 : w9.cell? ⟨w.heap.size, 0, none⟩ = some (.int .i64 n) := (blk_cell HX.out.1 0).trans rfl; have x1 : w9.cell? ⟨w.heap.size, 1, none⟩ = some (.bool b) := (blk_cell HX.out.1 1).trans rfl; have x2 : w9.cell? ⟨w.heap.size, 2, none⟩ = some (.slice A l.length c) := (blk_cell HX.out.1 2).trans rfl))
   |(go_at_call 16; go_loud ((with_reducible refine (rask15_walk (b := b) (c := c) (s := s) (t := t) (h := h) ?s1).mono ?_); (case s1 => exact Kd.C_below HR.out HX.out.2); rintro e w9 ⟨rfl, hb⟩; rw [HA.out]; clear x0 x1 x2; have HN9 := zh (And.intro (blk_below HX.out.1 hb) (below_step HX.out.2 hb)); clear HX hb; have HX := HN9; clear HN9; have x0 : w9.cell? ⟨w.heap.size, 0, none⟩ = some (.int .i64 n) := (blk_cell HX.out.1 0).trans rfl; have x1 : w9.cell? ⟨w.heap.size, 1, none⟩ = some (.bool b) := (blk_cell HX.out.1 1).trans rfl; have x2 : w9.cell? ⟨w.heap.size, 2, none⟩ = some (.slice A l.length c) := (blk_cell HX.out.1 2).trans rfl))
   |(go_at_call 10; go_loud ((with_reducible refine (most_bad HA.out H0.out HC.out ?s1).mono ?_); (case s1 => exact Kd.C_below HR.out HX.out.2); rintro e w9 ⟨rfl, hb⟩; clear x0 x1 x2; have HN9 := zh (And.intro (blk_below HX.out.1 hb) (below_step HX.out.2 hb)); clear HX hb; have HX := HN9; clear HN9; have x0 : w9.cell? ⟨w.heap.size, 0, none⟩ = some (.int .i64 n) := (blk_cell HX.out.1 0).trans rfl; have x1 : w9.cell? ⟨w.heap.size, 1, none⟩ = some (.bool b) := (blk_cell HX.out.1 1).trans rfl; have x2 : w9.cell? ⟨w.heap.size, 2, none⟩ = some (.slice A l.length c) := (blk_cell HX.out.1 2).trans rfl))
   |(go_at_call 17; go_loud ((with_reducible refine (max_bad HA.out H0.out HC.out ?s1).mono ?_); (case s1 => exact Kd.C_below HR.out HX.out.2); rintro e w9 ⟨rfl, hb⟩; clear x0 x1 x2; have HN9 := zh (And.intro (blk_below HX.out.1 hb) (below_step HX.out.2 hb)); clear HX hb; have HX := HN9; clear HN9; have x0 : w9.cell? ⟨w.heap.size, 0, none⟩ = some (.int .i64 n) := (blk_cell HX.out.1 0).trans rfl; have x1 : w9.cell? ⟨w.heap.size, 1, none⟩ = some (.bool b) := (blk_cell HX.out.1 1).trans rfl; have x2 : w9.cell? ⟨w.heap.size, 2, none⟩ = some (.slice A l.length c) := (blk_cell HX.out.1 2).trans rfl))
   |(go_at_call 13; go_loud ((with_reducible refine (cut_bad HA.out H0.out HC.out ?s1).mono ?_); (case s1 => exact Kd.C_below HR.out HX.out.2); rintro e w9 ⟨rfl, hb⟩; clear x0 x1 x2; have HN9 := zh (And.intro (blk_below HX.out.1 hb) (below_step HX.out.2 hb)); clear HX hb; have HX := HN9; clear HN9; have x0 : w9.cell? ⟨w.heap.size, 0, none⟩ = some (.int .i64 n) := (blk_cell HX.out.1 0).trans rfl; have x1 : w9.cell? ⟨w.heap.size, 1, none⟩ = some (.bool b) := (blk_cell HX.out.1 1).trans rfl; have x2 : w9.cell? ⟨w.heap.size, 2, none⟩ = some (.slice A l.length c) := (blk_cell HX.out.1 2).trans rfl)))
  go_ret
  exact ⟨rfl, HX.out.2⟩
 ·have hd : decide ((4 : Int) < h) = false := decide_eq_false h4
  go_wp2_with (first
   |(go_at_call 12; rw [← hw1]; go_loud ((with_reducible refine (awake_walk _).mono ?_); rintro e w9 ⟨rfl, hb⟩; have HN9 := zh (And.intro (blk_below HX.out.1 hb) (below_step HX.out.2 hb)); clear HX hb; have HX := HN9; clear HN9; have x0 : w9.cell? ⟨w.heap.size, 0, none⟩ = some (.int .i64 n) := (blk_cell HX.out.1 0).trans rfl; have x1 : w9.cell? ⟨w.heap.size, 1, none⟩ = some (.bool b) := (blk_cell HX.out.1 1).trans rfl; have x2 : w9.cell? ⟨w.heap.size, 2, none⟩ = some (.slice A l.length c) := (blk_cell HX.out.1 2).trans rfl))
   |(go_at_call 16; go_loud ((with_reducible refine (rask15_walk (b := b) (c := c) (s := s) (t := t) (h := h) ?s1).mono ?_); (case s1 => exact Kd.C_below HR.out HX.out.2); rintro e w9 ⟨rfl, hb⟩; rw [HA.out]; clear x0 x1 x2; have HN9 := zh (And.intro (blk_below HX.out.1 hb) (below_step HX.out.2 hb)); clear HX hb; have HX := HN9; clear HN9; have x0 : w9.cell? ⟨w.heap.size, 0, none⟩ = some (.int .i64 n) := (blk_cell HX.out.1 0).trans rfl; have x1 : w9.cell? ⟨w.heap.size, 1, none⟩ = some (.bool b) := (blk_cell HX.out.1 1).trans rfl; have x2 : w9.cell? ⟨w.heap.size, 2, none⟩ = some (.slice A l.length c) := (blk_cell HX.out.1 2).trans rfl))
   |(go_at_call 10; go_loud ((with_reducible refine (most_bad HA.out H0.out HC.out ?s1).mono ?_); (case s1 => exact Kd.C_below HR.out HX.out.2); rintro e w9 ⟨rfl, hb⟩; clear x0 x1 x2; have HN9 := zh (And.intro (blk_below HX.out.1 hb) (below_step HX.out.2 hb)); clear HX hb; have HX := HN9; clear HN9; have x0 : w9.cell? ⟨w.heap.size, 0, none⟩ = some (.int .i64 n) := (blk_cell HX.out.1 0).trans rfl; have x1 : w9.cell? ⟨w.heap.size, 1, none⟩ = some (.bool b) := (blk_cell HX.out.1 1).trans rfl; have x2 : w9.cell? ⟨w.heap.size, 2, none⟩ = some (.slice A l.length c) := (blk_cell HX.out.1 2).trans rfl))
   |(go_at_call 17; go_loud ((with_reducible refine (max_bad HA.out H0.out HC.out ?s1).mono ?_); (case s1 => exact Kd.C_below HR.out HX.out.2); rintro e w9 ⟨rfl, hb⟩; clear x0 x1 x2; have HN9 := zh (And.intro (blk_below HX.out.1 hb) (below_step HX.out.2 hb)); clear HX hb; have HX := HN9; clear HN9; have x0 : w9.cell? ⟨w.heap.size, 0, none⟩ = some (.int .i64 n) := (blk_cell HX.out.1 0).trans rfl; have x1 : w9.cell? ⟨w.heap.size, 1, none⟩ = some (.bool b) := (blk_cell HX.out.1 1).trans rfl; have x2 : w9.cell? ⟨w.heap.size, 2, none⟩ = some (.slice A l.length c) := (blk_cell HX.out.1 2).trans rfl))
   |(go_at_call 13; go_loud ((with_reducible refine (cut_bad HA.out H0.out HC.out ?s1).mono ?_); (case s1 => exact Kd.C_below HR.out HX.out.2); rintro e w9 ⟨rfl, hb⟩; clear x0 x1 x2; have HN9 := zh (And.intro (blk_below HX.out.1 hb) (below_step HX.out.2 hb)); clear HX hb; have HX := HN9; clear HN9; have x0 : w9.cell? ⟨w.heap.size, 0, none⟩ = some (.int .i64 n) := (blk_cell HX.out.1 0).trans rfl; have x1 : w9.cell? ⟨w.heap.size, 1, none⟩ = some (.bool b) := (blk_cell HX.out.1 1).trans rfl; have x2 : w9.cell? ⟨w.heap.size, 2, none⟩ = some (.slice A l.length c) := (blk_cell HX.out.1 2).trans rfl)))
  go_ret
  exact ⟨rfl, HX.out.2⟩
theorem law_refuses {n s t h : Int} (hr : Kd.C kArc w A l.length l) (hc : l.length ≤ c) :
  Calls Tryz.prog 5 #[.agg #[.int .i64 n, .bool b, .slice A l.length c], .int .i64 s, .int .i64 t, .int .i64 h] w fun e w' => e = .returned (.bool true) ∧ Below w.heap.size w w' := by
 rcases code_cases (askT n l s t h) with d | ⟨d, -, -⟩
 ·obtain ⟨n', h', s', t', rfl, rfl, rfl, rfl, o⟩ := tfOk_of d
  by_cases h4 : h' ≤ 4
  ·exact refuses_good o d h4 hr hc
  ·have hn := (netV_ok (askT_zero d).1)
   have o2 := o.le (k := h' % 5) (by omega)
   exact refuses_far o2 (ask_of o2 (by omega) (by omega)) d (by omega) rfl hr hc
 ·exact refuses_bad rfl d hr hc
end
end Go.Proofs.YtdfagllncopmjaaGreat.H
end
