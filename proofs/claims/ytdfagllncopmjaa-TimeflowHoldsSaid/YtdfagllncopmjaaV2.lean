/- Texts of this proof, joined; what the statement doesn't need is left out. -/
import Derived.Test.YtdfagllncopmjaaV1
section
namespace Go.Proofs.Ytdfagllncopmjaa.PrintC
open Go.RowKit Go.Proofs.Ytdfagllncopmjaa.H Go.Proofs.YtdfagllncopmjaaW.PrintWords Go.Proofs.YtdfagllncopmjaaW.PrintLast Go.Proofs.YtdfagllncopmjaaW.PrintMore
attribute [local go_sem] max2_int min2_int max_two min_two max_three min_three max_four min_four
set_option linter.unusedVariables false
set_option linter.unusedSimpArgs false
def maxflow_Value.l0 : Nat → Int → List Int → Int → List (S48) → Int → Int → Option (Int)
 |0, _, _, _, _, _, _ => none
 |k + 1, x1, x2, x7, x11, x12, x13 => if x13 < x12 then (if 0 ≤ x13 then (if x13 < (x11.length : Int) then (if ((rd_T48 x11 x13).f0) = x1 then (if x13 < (x2.length : Int) then (if ((rd_T48 x11 x13).f1) = x1 then (maxflow_Value.l0 k x1 x2 (wrap64 ((wrap64 (x7 + (rd x2 x13))) - (rd x2 x13))) x11 x12 (wrap64 (x13 + 1))) else (maxflow_Value.l0 k x1 x2 (wrap64 (x7 + (rd x2 x13))) x11 x12 (wrap64 (x13 + 1)))) else (none)) else (if ((rd_T48 x11 x13).f1) = x1 then (if x13 < (x2.length : Int) then (maxflow_Value.l0 k x1 x2 (wrap64 (x7 - (rd x2 x13))) x11 x12 (wrap64 (x13 + 1))) else (none)) else (maxflow_Value.l0 k x1 x2 x7 x11 x12 (wrap64 (x13 + 1))))) else (none)) else (none)) else (some x7)
def maxflow_Value.f (k : Nat) (a0_0 : Int) (a0_1 : Bool) (l0_2 : List (S48)) (a1 : Int) (l2 : List Int) : Option (Int) := maxflow_Value.l0 k a1 l2 0 l0_2 (l0_2.length : Int) 0
set_option maxHeartbeats 8000000 in
set_option maxRecDepth 100000 in
theorem maxflow_Value.calls (k : Nat) (a0_0 : Int) (a0_1 : Bool) (A0_2 : Option Addr) (c0_2 : Nat) (l0_2 : List (S48)) (a1 : Int) (A2 : Option Addr) (c2 : Nat) (l2 : List Int) (r : Int) (w : World) (hr0_2 : Kd.C k48 w A0_2 l0_2.length l0_2) (hc0_2 : l0_2.length ≤ c0_2) (hr2 : Kd.C (Kd.int .i64) w A2 l2.length l2) (hc2 : l2.length ≤ c2) (h : maxflow_Value.f k a0_0 a0_1 l0_2 a1 l2 = some r) :
  Calls Try.prog 26 #[.agg #[.int .i64 a0_0, .bool a0_1, .slice A0_2 l0_2.length c0_2], .int .i64 a1, .slice A2 l2.length c2] w fun e w' => e = .returned (.int .i64 r) ∧ Below w.heap.size w w' := by
 have hu28 := Try.underlying28
 have hu48 := Try.underlying48
 have HR0_2 := Aside0.mk hr0_2
 have HC0_2 := Aside0.mk hc0_2
 clear hr0_2 hc0_2
 have HR2 := Aside0.mk hr2
 have HC2 := Aside0.mk hc2
 clear hr2 hc2
 have HB := Aside0.mk (Below.refl w.heap.size w)
 have H : (maxflow_Value.l0 k a1 l2 0 l0_2 (l0_2.length : Int) 0) = some r := h
 clear h
 have H' := Aside0.mk H
 clear H
 go_enter Try.func26, Try.ntmps26
 go_wp2_with (first | ((with_reducible refine gate_dst (N := 3) rfl ?_); refine box_event ?hg (N := 3) ?hd (cs := #[.int .i64 a0_0, .bool a0_1, .slice A0_2 l0_2.length c0_2]) (t := 28) ?hr ?_; (case hd => rfl); (case hg => rfl); (case hr => first | (go_simp; done) | (go_simp; rfl)); intro gb133 hg w4 hbox hb; have n0_ := Aside0.mk (below_step (zB HB.out) hb); have n1_ := Aside0.mk (hbox); have n2_ := Aside0.mk ((by rw [hg]; exact (below_size (zB HB.out)) : w.heap.size ≤ gb133)); have n3_ := Aside0.mk ((by rw [hg]; exact (below_size (zB HB.out)) : w.heap.size ≤ gb133)); clear HB; have HB := n0_; have BK133 := n1_; have GW133 := n2_; have GE133 := n3_; clear n0_ n1_ n2_ n3_; clear hb hbox hg; have hcz5_0 : w4.cell? ⟨gb133, 0, none⟩ = some (.int .i64 a0_0) := (blk_cell BK133.out 0).trans rfl; have hcz5_1 : w4.cell? ⟨gb133, 1, none⟩ = some (.bool a0_1) := (blk_cell BK133.out 1).trans rfl; have hcz5_2 : w4.cell? ⟨gb133, 2, none⟩ = some (.slice A0_2 l0_2.length c0_2) := (blk_cell BK133.out 2).trans rfl; have hfz5_0 := blk_frozen BK133.out 0; have hfz5_1 := blk_frozen BK133.out 1; have hfz5_2 := blk_frozen BK133.out 2))
 go_loopg [7, 13] k (fun kq v7 v13 w' => ∃ (x7_1 : Int) (x13_1 : Int), v7 = .int .i64 x7_1 ∧ v13 = .int .i64 x13_1 ∧ Aside0 (maxflow_Value.l0 kq a1 l2 x7_1 l0_2 (l0_2.length : Int) x13_1 = some r) ∧ Aside0 (kq ≤ k) ∧ Aside0 (w'.heap[gb133]? = some (.cells #[.int .i64 a0_0, .bool a0_1, (.slice A0_2 l0_2.length c0_2)] 28 (0, 0))) ∧ Aside0 (Below w.heap.size w w'))
 case atStart => exact ⟨(0), (0), (by first | rfl | (simp; done) | (simp [*]; done)), (by first | rfl | (simp; done) | (simp [*]; done)), H', ⟨Nat.le_refl _⟩, ⟨by (with_reducible repeat (first | refine blk_drewN ?_ _ | refine blk_drew ?_ | refine blk_alloc ?_ _)); exact BK133.out⟩, ⟨by repeat (first | (with_reducible first | exact HB.out | apply below_alloc | apply pw_below_drewN | apply below_drew1 | refine below_set ?_ GE133.out) | exact HB.out)⟩⟩
 case round =>
  clear H'
  try clear c2
  try clear p2
  try clear hcz5_0
  try clear hcz5_1
  try clear hcz5_2
  try clear hfz5_0
  try clear hfz5_1
  try clear hfz5_2
  obtain ⟨x7_1, x13_1, rfl, rfl, HA, HK1, BK133, HB⟩ := hrel
  cases gk with
  |zero => exact absurd HA.out (by simp [maxflow_Value.l0])
  |succ k1 =>
   have H := HA.out
   clear HA
   simp only [maxflow_Value.l0] at H
   by_cases c6 : x13_1 < (l0_2.length : Int)
   ·rw [if_pos c6] at H
    have c6b0 : decide (x13_1 < (l0_2.length : Int)) = true := decide_eq_true c6
    clear c6
    by_cases c7 : 0 ≤ x13_1
    ·rw [if_pos c7] at H
     have c7b0 : decide (0 ≤ x13_1) = true := decide_eq_true c7
     clear c7
     by_cases c8 : x13_1 < (l0_2.length : Int)
     ·rw [if_pos c8] at H
      have c8b0 : decide (x13_1 < (l0_2.length : Int)) = true := decide_eq_true c8
      clear c8
      by_cases c9 : ((rd_T48 l0_2 x13_1).f0) = a1
      ·rw [if_pos c9] at H
       have c9b0 : (((rd_T48 l0_2 x13_1).f0) == a1) = true := beq_iff_eq.mpr c9
       have c9b1 : (((rd_T48 l0_2 x13_1).f0) != a1) = false := bne_eq_false_iff_eq.mpr c9
       clear c9
       by_cases c10 : x13_1 < (l2.length : Int)
       ·rw [if_pos c10] at H
        have c10b0 : decide (x13_1 < (l2.length : Int)) = true := decide_eq_true c10
        clear c10
        by_cases c11 : ((rd_T48 l0_2 x13_1).f1) = a1
        ·rw [if_pos c11] at H
         have c11b0 : (((rd_T48 l0_2 x13_1).f1) == a1) = true := beq_iff_eq.mpr c11
         have c11b1 : (((rd_T48 l0_2 x13_1).f1) != a1) = false := bne_eq_false_iff_eq.mpr c11
         clear c11
         have H' := Aside0.mk H
         clear H
         have p134 : 0 ≤ (x13_1 : Int) := of_decide_eq_true (by assumption)
         have q134 : x13_1 < (l0_2.length : Int) := of_decide_eq_true (by assumption)
         obtain ⟨ad134, e134, hx134_0, hx134_1, hx134_2, hx134_3⟩ := at_T48 HR0_2.out x13_1 p134 q134
         cases e134
         replace hx134_0 := (HB.out.cell (World.block_lt_of_cell? w _ hx134_0)).trans hx134_0
         replace hx134_1 := (HB.out.cell (World.block_lt_of_cell? w _ hx134_1)).trans hx134_1
         replace hx134_2 := (HB.out.cell (World.block_lt_of_cell? w _ hx134_2)).trans hx134_2
         replace hx134_3 := (HB.out.cell (World.block_lt_of_cell? w _ hx134_3)).trans hx134_3
         replace p134 := eq_true p134
         replace q134 := eq_true q134
         go_wp2_with (first | ((with_reducible refine gate_dst (N := 9) rfl ?_); refine box_event ?hg (N := 9) ?hd (cs := #[.int .i64 0, .int .i64 0, .int .i64 0, .int .i64 0]) (t := 48) ?hr ?_; (case hd => rfl); (case hg => rfl); (case hr => first | (go_simp; done) | (go_simp; rfl)); intro gb135 hg w12 hbox hb; have n0_ := Aside0.mk (blk_below (g := gb133) (o := .cells #[.int .i64 a0_0, .bool a0_1, .slice (some ad134) l0_2.length c0_2] 28 (0, 0)) (zK BK133.out) hb); have n1_ := Aside0.mk (below_step (zC HB.out GE133.out) hb); have n2_ := Aside0.mk (hbox); have n3_ := Aside0.mk ((by rw [hg]; exact (below_size (zC HB.out GE133.out)) : w.heap.size ≤ gb135)); have n4_ := Aside0.mk ((by rw [hg]; exact (below_size (zC HB.out GE133.out)) : w.heap.size ≤ gb135)); have n5_ := Aside0.mk ((by rw [hg]; exact Nat.ne_of_lt (blk_lt (g := gb133) (o := .cells #[.int .i64 a0_0, .bool a0_1, .slice (some ad134) l0_2.length c0_2] 28 (0, 0)) (zK BK133.out)) : gb133 ≠ gb135)); have n6_ := Aside0.mk ((by rw [hg]; exact Nat.ne_of_gt (blk_lt (g := gb133) (o := .cells #[.int .i64 a0_0, .bool a0_1, .slice (some ad134) l0_2.length c0_2] 28 (0, 0)) (zK BK133.out)) : gb135 ≠ gb133)); clear BK133; clear HB; have BK133 := n0_; have HB := n1_; have BK135 := n2_; have GW135 := n3_; have GE135 := n4_; have NB133_135 := n5_; have NB135_133 := n6_; clear n0_ n1_ n2_ n3_ n4_ n5_ n6_; clear hb hbox hg; have hnb13 := NB135_133.out; have hnc13 := NB133_135.out; have hcz14_0 : w12.cell? ⟨gb135, 0, none⟩ = some (.int .i64 0) := (blk_cell BK135.out 0).trans rfl; have hcz14_1 : w12.cell? ⟨gb135, 1, none⟩ = some (.int .i64 0) := (blk_cell BK135.out 1).trans rfl; have hcz14_2 : w12.cell? ⟨gb135, 2, none⟩ = some (.int .i64 0) := (blk_cell BK135.out 2).trans rfl; have hcz14_3 : w12.cell? ⟨gb135, 3, none⟩ = some (.int .i64 0) := (blk_cell BK135.out 3).trans rfl; have hfz14_0 := blk_frozen BK135.out 0; have hfz14_1 := blk_frozen BK135.out 1; have hfz14_2 := blk_frozen BK135.out 2; have hfz14_3 := blk_frozen BK135.out 3; have p136 : 0 ≤ (x13_1 : Int) := of_decide_eq_true (by assumption); have q136 : x13_1 < (l2.length : Int) := of_decide_eq_true (by assumption); obtain ⟨ad136, e136, hx136_0⟩ := Kd.at_int HR2.out x13_1 p136 q136; cases e136; have hn136_0 : ad136.block ≠ gb135 := Nat.ne_of_lt (Nat.lt_of_lt_of_le (by have := World.block_lt_of_cell? _ _ hx136_0; first | rwa [add_block] at this | exact this) GW135.out); have hn136_1 : ad136.block ≠ gb135 := Nat.ne_of_lt (Nat.lt_of_lt_of_le (by have := World.block_lt_of_cell? _ _ hx136_0; first | rwa [add_block] at this | exact this) GW135.out); have hn136_2 : ad136.block ≠ gb135 := Nat.ne_of_lt (Nat.lt_of_lt_of_le (by have := World.block_lt_of_cell? _ _ hx136_0; first | rwa [add_block] at this | exact this) GW135.out); have hn136_3 : ad136.block ≠ gb135 := Nat.ne_of_lt (Nat.lt_of_lt_of_le (by have := World.block_lt_of_cell? _ _ hx136_0; first | rwa [add_block] at this | exact this) GW135.out); replace hx136_0 := (HB.out.cell (World.block_lt_of_cell? w _ hx136_0)).trans hx136_0; replace hx136_0 := (cell_far (p := ⟨gb135, 0, none⟩) (by first | (rw [add_block]; exact hn136_0) | (show (Addr.add _ _).block ≠ _; rw [add_block]; exact hn136_0) | exact hn136_0) (.int .i64 ((rd_T48 l0_2 x13_1).f0))).trans hx136_0; replace hx136_0 := (cell_far (p := ⟨gb135, 1, none⟩) (by first | (rw [add_block]; exact hn136_1) | (show (Addr.add _ _).block ≠ _; rw [add_block]; exact hn136_1) | exact hn136_1) (.int .i64 ((rd_T48 l0_2 x13_1).f1))).trans hx136_0; replace hx136_0 := (cell_far (p := ⟨gb135, 2, none⟩) (by first | (rw [add_block]; exact hn136_2) | (show (Addr.add _ _).block ≠ _; rw [add_block]; exact hn136_2) | exact hn136_2) (.int .i64 ((rd_T48 l0_2 x13_1).f2))).trans hx136_0; replace hx136_0 := (cell_far (p := ⟨gb135, 3, none⟩) (by first | (rw [add_block]; exact hn136_3) | (show (Addr.add _ _).block ≠ _; rw [add_block]; exact hn136_3) | exact hn136_3) (.int .i64 ((rd_T48 l0_2 x13_1).f3))).trans hx136_0; clear hn136_0; clear hn136_1; clear hn136_2; clear hn136_3; replace p136 := eq_true p136; replace q136 := eq_true q136; have p137 : 0 ≤ (x13_1 : Int) := of_decide_eq_true (by assumption); have q137 : x13_1 < (l2.length : Int) := of_decide_eq_true (by assumption); obtain ⟨ad137, e137, hx137_0⟩ := Kd.at_int HR2.out x13_1 p137 q137; obtain rfl : ad136 = ad137 := (by injection e137); have hn137_0 : ad136.block ≠ gb135 := Nat.ne_of_lt (Nat.lt_of_lt_of_le (by have := World.block_lt_of_cell? _ _ hx137_0; first | rwa [add_block] at this | exact this) GW135.out); have hn137_1 : ad136.block ≠ gb135 := Nat.ne_of_lt (Nat.lt_of_lt_of_le (by have := World.block_lt_of_cell? _ _ hx137_0; first | rwa [add_block] at this | exact this) GW135.out); have hn137_2 : ad136.block ≠ gb135 := Nat.ne_of_lt (Nat.lt_of_lt_of_le (by have := World.block_lt_of_cell? _ _ hx137_0; first | rwa [add_block] at this | exact this) GW135.out); have hn137_3 : ad136.block ≠ gb135 := Nat.ne_of_lt (Nat.lt_of_lt_of_le (by have := World.block_lt_of_cell? _ _ hx137_0; first | rwa [add_block] at this | exact this) GW135.out); replace hx137_0 := (HB.out.cell (World.block_lt_of_cell? w _ hx137_0)).trans hx137_0; replace hx137_0 := (cell_far (p := ⟨gb135, 0, none⟩) (by first | (rw [add_block]; exact hn137_0) | (show (Addr.add _ _).block ≠ _; rw [add_block]; exact hn137_0) | exact hn137_0) (.int .i64 ((rd_T48 l0_2 x13_1).f0))).trans hx137_0; replace hx137_0 := (cell_far (p := ⟨gb135, 1, none⟩) (by first | (rw [add_block]; exact hn137_1) | (show (Addr.add _ _).block ≠ _; rw [add_block]; exact hn137_1) | exact hn137_1) (.int .i64 ((rd_T48 l0_2 x13_1).f1))).trans hx137_0; replace hx137_0 := (cell_far (p := ⟨gb135, 2, none⟩) (by first | (rw [add_block]; exact hn137_2) | (show (Addr.add _ _).block ≠ _; rw [add_block]; exact hn137_2) | exact hn137_2) (.int .i64 ((rd_T48 l0_2 x13_1).f2))).trans hx137_0; replace hx137_0 := (cell_far (p := ⟨gb135, 3, none⟩) (by first | (rw [add_block]; exact hn137_3) | (show (Addr.add _ _).block ≠ _; rw [add_block]; exact hn137_3) | exact hn137_3) (.int .i64 ((rd_T48 l0_2 x13_1).f3))).trans hx137_0; clear hn137_0; clear hn137_1; clear hn137_2; clear hn137_3; replace p137 := eq_true p137; replace q137 := eq_true q137))
         go_roundg k1
         case measure => have := HK1.out; omega
         case rel => exact ⟨(wrap64 ((wrap64 (x7_1 + (rd l2 x13_1))) - (rd l2 x13_1))), (wrap64 (x13_1 + 1)), (by first | rfl | (simp; done) | (simp [*]; done)), (by first | rfl | (simp; done) | (simp [*]; done)), H', ⟨by have := HK1.out; omega⟩, ⟨by (with_reducible repeat (first | refine blk_drewN ?_ _ | refine blk_drew ?_ | refine blk_alloc ?_ _)); refine blk_far ?_ NB133_135.out _; (with_reducible repeat (first | refine blk_drewN ?_ _ | refine blk_drew ?_ | refine blk_alloc ?_ _)); refine blk_far ?_ NB133_135.out _; (with_reducible repeat (first | refine blk_drewN ?_ _ | refine blk_drew ?_ | refine blk_alloc ?_ _)); refine blk_far ?_ NB133_135.out _; (with_reducible repeat (first | refine blk_drewN ?_ _ | refine blk_drew ?_ | refine blk_alloc ?_ _)); refine blk_far ?_ NB133_135.out _; (with_reducible repeat (first | refine blk_drewN ?_ _ | refine blk_drew ?_ | refine blk_alloc ?_ _)); exact BK133.out⟩, ⟨by repeat (first | (with_reducible first | exact HB.out | apply below_alloc | apply pw_below_drewN | apply below_drew1 | refine below_set ?_ GE133.out | refine below_set ?_ GE135.out) | exact HB.out)⟩⟩
        ·rw [if_neg c11] at H
         have c11b0 : (((rd_T48 l0_2 x13_1).f1) == a1) = false := beq_eq_false_iff_ne.mpr c11
         have c11b1 : (((rd_T48 l0_2 x13_1).f1) != a1) = true := bne_iff_ne.mpr c11
         have H' := Aside0.mk H
         clear H
         have p134 : 0 ≤ (x13_1 : Int) := of_decide_eq_true (by assumption)
         have q134 : x13_1 < (l0_2.length : Int) := of_decide_eq_true (by assumption)
         obtain ⟨ad134, e134, hx134_0, hx134_1, hx134_2, hx134_3⟩ := at_T48 HR0_2.out x13_1 p134 q134
         cases e134
         replace hx134_0 := (HB.out.cell (World.block_lt_of_cell? w _ hx134_0)).trans hx134_0
         replace hx134_1 := (HB.out.cell (World.block_lt_of_cell? w _ hx134_1)).trans hx134_1
         replace hx134_2 := (HB.out.cell (World.block_lt_of_cell? w _ hx134_2)).trans hx134_2
         replace hx134_3 := (HB.out.cell (World.block_lt_of_cell? w _ hx134_3)).trans hx134_3
         replace p134 := eq_true p134
         replace q134 := eq_true q134
         go_wp2_with (first | ((with_reducible refine gate_dst (N := 9) rfl ?_); refine box_event ?hg (N := 9) ?hd (cs := #[.int .i64 0, .int .i64 0, .int .i64 0, .int .i64 0]) (t := 48) ?hr ?_; (case hd => rfl); (case hg => rfl); (case hr => first | (go_simp; done) | (go_simp; rfl)); intro gb135 hg w15 hbox hb; have n0_ := Aside0.mk (blk_below (g := gb133) (o := .cells #[.int .i64 a0_0, .bool a0_1, .slice (some ad134) l0_2.length c0_2] 28 (0, 0)) (zK BK133.out) hb); have n1_ := Aside0.mk (below_step (zC HB.out GE133.out) hb); have n2_ := Aside0.mk (hbox); have n3_ := Aside0.mk ((by rw [hg]; exact (below_size (zC HB.out GE133.out)) : w.heap.size ≤ gb135)); have n4_ := Aside0.mk ((by rw [hg]; exact (below_size (zC HB.out GE133.out)) : w.heap.size ≤ gb135)); have n5_ := Aside0.mk ((by rw [hg]; exact Nat.ne_of_lt (blk_lt (g := gb133) (o := .cells #[.int .i64 a0_0, .bool a0_1, .slice (some ad134) l0_2.length c0_2] 28 (0, 0)) (zK BK133.out)) : gb133 ≠ gb135)); have n6_ := Aside0.mk ((by rw [hg]; exact Nat.ne_of_gt (blk_lt (g := gb133) (o := .cells #[.int .i64 a0_0, .bool a0_1, .slice (some ad134) l0_2.length c0_2] 28 (0, 0)) (zK BK133.out)) : gb135 ≠ gb133)); clear BK133; clear HB; have BK133 := n0_; have HB := n1_; have BK135 := n2_; have GW135 := n3_; have GE135 := n4_; have NB133_135 := n5_; have NB135_133 := n6_; clear n0_ n1_ n2_ n3_ n4_ n5_ n6_; clear hb hbox hg; have hnb16 := NB135_133.out; have hnc16 := NB133_135.out; have hcz17_0 : w15.cell? ⟨gb135, 0, none⟩ = some (.int .i64 0) := (blk_cell BK135.out 0).trans rfl; have hcz17_1 : w15.cell? ⟨gb135, 1, none⟩ = some (.int .i64 0) := (blk_cell BK135.out 1).trans rfl; have hcz17_2 : w15.cell? ⟨gb135, 2, none⟩ = some (.int .i64 0) := (blk_cell BK135.out 2).trans rfl; have hcz17_3 : w15.cell? ⟨gb135, 3, none⟩ = some (.int .i64 0) := (blk_cell BK135.out 3).trans rfl; have hfz17_0 := blk_frozen BK135.out 0; have hfz17_1 := blk_frozen BK135.out 1; have hfz17_2 := blk_frozen BK135.out 2; have hfz17_3 := blk_frozen BK135.out 3; have p136 : 0 ≤ (x13_1 : Int) := of_decide_eq_true (by assumption); have q136 : x13_1 < (l2.length : Int) := of_decide_eq_true (by assumption); obtain ⟨ad136, e136, hx136_0⟩ := Kd.at_int HR2.out x13_1 p136 q136; cases e136; have hn136_0 : ad136.block ≠ gb135 := Nat.ne_of_lt (Nat.lt_of_lt_of_le (by have := World.block_lt_of_cell? _ _ hx136_0; first | rwa [add_block] at this | exact this) GW135.out); have hn136_1 : ad136.block ≠ gb135 := Nat.ne_of_lt (Nat.lt_of_lt_of_le (by have := World.block_lt_of_cell? _ _ hx136_0; first | rwa [add_block] at this | exact this) GW135.out); have hn136_2 : ad136.block ≠ gb135 := Nat.ne_of_lt (Nat.lt_of_lt_of_le (by have := World.block_lt_of_cell? _ _ hx136_0; first | rwa [add_block] at this | exact this) GW135.out); have hn136_3 : ad136.block ≠ gb135 := Nat.ne_of_lt (Nat.lt_of_lt_of_le (by have := World.block_lt_of_cell? _ _ hx136_0; first | rwa [add_block] at this | exact this) GW135.out); replace hx136_0 := (HB.out.cell (World.block_lt_of_cell? w _ hx136_0)).trans hx136_0; replace hx136_0 := (cell_far (p := ⟨gb135, 0, none⟩) (by first | (rw [add_block]; exact hn136_0) | (show (Addr.add _ _).block ≠ _; rw [add_block]; exact hn136_0) | exact hn136_0) (.int .i64 ((rd_T48 l0_2 x13_1).f0))).trans hx136_0; replace hx136_0 := (cell_far (p := ⟨gb135, 1, none⟩) (by first | (rw [add_block]; exact hn136_1) | (show (Addr.add _ _).block ≠ _; rw [add_block]; exact hn136_1) | exact hn136_1) (.int .i64 ((rd_T48 l0_2 x13_1).f1))).trans hx136_0; replace hx136_0 := (cell_far (p := ⟨gb135, 2, none⟩) (by first | (rw [add_block]; exact hn136_2) | (show (Addr.add _ _).block ≠ _; rw [add_block]; exact hn136_2) | exact hn136_2) (.int .i64 ((rd_T48 l0_2 x13_1).f2))).trans hx136_0; replace hx136_0 := (cell_far (p := ⟨gb135, 3, none⟩) (by first | (rw [add_block]; exact hn136_3) | (show (Addr.add _ _).block ≠ _; rw [add_block]; exact hn136_3) | exact hn136_3) (.int .i64 ((rd_T48 l0_2 x13_1).f3))).trans hx136_0; clear hn136_0; clear hn136_1; clear hn136_2; clear hn136_3; replace p136 := eq_true p136; replace q136 := eq_true q136))
         go_roundg k1
         case measure => have := HK1.out; omega
         case rel => exact ⟨(wrap64 (x7_1 + (rd l2 x13_1))), (wrap64 (x13_1 + 1)), (by first | rfl | (simp; done) | (simp [*]; done)), (by first | rfl | (simp; done) | (simp [*]; done)), H', ⟨by have := HK1.out; omega⟩, ⟨by (with_reducible repeat (first | refine blk_drewN ?_ _ | refine blk_drew ?_ | refine blk_alloc ?_ _)); refine blk_far ?_ NB133_135.out _; (with_reducible repeat (first | refine blk_drewN ?_ _ | refine blk_drew ?_ | refine blk_alloc ?_ _)); refine blk_far ?_ NB133_135.out _; (with_reducible repeat (first | refine blk_drewN ?_ _ | refine blk_drew ?_ | refine blk_alloc ?_ _)); refine blk_far ?_ NB133_135.out _; (with_reducible repeat (first | refine blk_drewN ?_ _ | refine blk_drew ?_ | refine blk_alloc ?_ _)); refine blk_far ?_ NB133_135.out _; (with_reducible repeat (first | refine blk_drewN ?_ _ | refine blk_drew ?_ | refine blk_alloc ?_ _)); exact BK133.out⟩, ⟨by repeat (first | (with_reducible first | exact HB.out | apply below_alloc | apply pw_below_drewN | apply below_drew1 | refine below_set ?_ GE133.out | refine below_set ?_ GE135.out) | exact HB.out)⟩⟩
       ·rw [if_neg c10] at H
        exact absurd H (by simp)
      ·rw [if_neg c9] at H
       have c9b0 : (((rd_T48 l0_2 x13_1).f0) == a1) = false := beq_eq_false_iff_ne.mpr c9
       have c9b1 : (((rd_T48 l0_2 x13_1).f0) != a1) = true := bne_iff_ne.mpr c9
       by_cases c18 : ((rd_T48 l0_2 x13_1).f1) = a1
       ·rw [if_pos c18] at H
        have c18b0 : (((rd_T48 l0_2 x13_1).f1) == a1) = true := beq_iff_eq.mpr c18
        have c18b1 : (((rd_T48 l0_2 x13_1).f1) != a1) = false := bne_eq_false_iff_eq.mpr c18
        clear c18
        by_cases c19 : x13_1 < (l2.length : Int)
        ·rw [if_pos c19] at H
         have c19b0 : decide (x13_1 < (l2.length : Int)) = true := decide_eq_true c19
         clear c19
         have H' := Aside0.mk H
         clear H
         have p134 : 0 ≤ (x13_1 : Int) := of_decide_eq_true (by assumption)
         have q134 : x13_1 < (l0_2.length : Int) := of_decide_eq_true (by assumption)
         obtain ⟨ad134, e134, hx134_0, hx134_1, hx134_2, hx134_3⟩ := at_T48 HR0_2.out x13_1 p134 q134
         cases e134
         replace hx134_0 := (HB.out.cell (World.block_lt_of_cell? w _ hx134_0)).trans hx134_0
         replace hx134_1 := (HB.out.cell (World.block_lt_of_cell? w _ hx134_1)).trans hx134_1
         replace hx134_2 := (HB.out.cell (World.block_lt_of_cell? w _ hx134_2)).trans hx134_2
         replace hx134_3 := (HB.out.cell (World.block_lt_of_cell? w _ hx134_3)).trans hx134_3
         replace p134 := eq_true p134
         replace q134 := eq_true q134
         go_wp2_with (first | ((with_reducible refine gate_dst (N := 9) rfl ?_); refine box_event ?hg (N := 9) ?hd (cs := #[.int .i64 0, .int .i64 0, .int .i64 0, .int .i64 0]) (t := 48) ?hr ?_; (case hd => rfl); (case hg => rfl); (case hr => first | (go_simp; done) | (go_simp; rfl)); intro gb135 hg w20 hbox hb; have n0_ := Aside0.mk (blk_below (g := gb133) (o := .cells #[.int .i64 a0_0, .bool a0_1, .slice (some ad134) l0_2.length c0_2] 28 (0, 0)) (zK BK133.out) hb); have n1_ := Aside0.mk (below_step (zC HB.out GE133.out) hb); have n2_ := Aside0.mk (hbox); have n3_ := Aside0.mk ((by rw [hg]; exact (below_size (zC HB.out GE133.out)) : w.heap.size ≤ gb135)); have n4_ := Aside0.mk ((by rw [hg]; exact (below_size (zC HB.out GE133.out)) : w.heap.size ≤ gb135)); have n5_ := Aside0.mk ((by rw [hg]; exact Nat.ne_of_lt (blk_lt (g := gb133) (o := .cells #[.int .i64 a0_0, .bool a0_1, .slice (some ad134) l0_2.length c0_2] 28 (0, 0)) (zK BK133.out)) : gb133 ≠ gb135)); have n6_ := Aside0.mk ((by rw [hg]; exact Nat.ne_of_gt (blk_lt (g := gb133) (o := .cells #[.int .i64 a0_0, .bool a0_1, .slice (some ad134) l0_2.length c0_2] 28 (0, 0)) (zK BK133.out)) : gb135 ≠ gb133)); clear BK133; clear HB; have BK133 := n0_; have HB := n1_; have BK135 := n2_; have GW135 := n3_; have GE135 := n4_; have NB133_135 := n5_; have NB135_133 := n6_; clear n0_ n1_ n2_ n3_ n4_ n5_ n6_; clear hb hbox hg; have hnb21 := NB135_133.out; have hnc21 := NB133_135.out; have hcz22_0 : w20.cell? ⟨gb135, 0, none⟩ = some (.int .i64 0) := (blk_cell BK135.out 0).trans rfl; have hcz22_1 : w20.cell? ⟨gb135, 1, none⟩ = some (.int .i64 0) := (blk_cell BK135.out 1).trans rfl; have hcz22_2 : w20.cell? ⟨gb135, 2, none⟩ = some (.int .i64 0) := (blk_cell BK135.out 2).trans rfl; have hcz22_3 : w20.cell? ⟨gb135, 3, none⟩ = some (.int .i64 0) := (blk_cell BK135.out 3).trans rfl; have hfz22_0 := blk_frozen BK135.out 0; have hfz22_1 := blk_frozen BK135.out 1; have hfz22_2 := blk_frozen BK135.out 2; have hfz22_3 := blk_frozen BK135.out 3; have p138 : 0 ≤ (x13_1 : Int) := of_decide_eq_true (by assumption); have q138 : x13_1 < (l2.length : Int) := of_decide_eq_true (by assumption); obtain ⟨ad138, e138, hx138_0⟩ := Kd.at_int HR2.out x13_1 p138 q138; cases e138; have hn138_0 : ad138.block ≠ gb135 := Nat.ne_of_lt (Nat.lt_of_lt_of_le (by have := World.block_lt_of_cell? _ _ hx138_0; first | rwa [add_block] at this | exact this) GW135.out); have hn138_1 : ad138.block ≠ gb135 := Nat.ne_of_lt (Nat.lt_of_lt_of_le (by have := World.block_lt_of_cell? _ _ hx138_0; first | rwa [add_block] at this | exact this) GW135.out); have hn138_2 : ad138.block ≠ gb135 := Nat.ne_of_lt (Nat.lt_of_lt_of_le (by have := World.block_lt_of_cell? _ _ hx138_0; first | rwa [add_block] at this | exact this) GW135.out); have hn138_3 : ad138.block ≠ gb135 := Nat.ne_of_lt (Nat.lt_of_lt_of_le (by have := World.block_lt_of_cell? _ _ hx138_0; first | rwa [add_block] at this | exact this) GW135.out); replace hx138_0 := (HB.out.cell (World.block_lt_of_cell? w _ hx138_0)).trans hx138_0; replace hx138_0 := (cell_far (p := ⟨gb135, 0, none⟩) (by first | (rw [add_block]; exact hn138_0) | (show (Addr.add _ _).block ≠ _; rw [add_block]; exact hn138_0) | exact hn138_0) (.int .i64 ((rd_T48 l0_2 x13_1).f0))).trans hx138_0; replace hx138_0 := (cell_far (p := ⟨gb135, 1, none⟩) (by first | (rw [add_block]; exact hn138_1) | (show (Addr.add _ _).block ≠ _; rw [add_block]; exact hn138_1) | exact hn138_1) (.int .i64 ((rd_T48 l0_2 x13_1).f1))).trans hx138_0; replace hx138_0 := (cell_far (p := ⟨gb135, 2, none⟩) (by first | (rw [add_block]; exact hn138_2) | (show (Addr.add _ _).block ≠ _; rw [add_block]; exact hn138_2) | exact hn138_2) (.int .i64 ((rd_T48 l0_2 x13_1).f2))).trans hx138_0; replace hx138_0 := (cell_far (p := ⟨gb135, 3, none⟩) (by first | (rw [add_block]; exact hn138_3) | (show (Addr.add _ _).block ≠ _; rw [add_block]; exact hn138_3) | exact hn138_3) (.int .i64 ((rd_T48 l0_2 x13_1).f3))).trans hx138_0; clear hn138_0; clear hn138_1; clear hn138_2; clear hn138_3; replace p138 := eq_true p138; replace q138 := eq_true q138))
         go_roundg k1
         case measure => have := HK1.out; omega
         case rel => exact ⟨(wrap64 (x7_1 - (rd l2 x13_1))), (wrap64 (x13_1 + 1)), (by first | rfl | (simp; done) | (simp [*]; done)), (by first | rfl | (simp; done) | (simp [*]; done)), H', ⟨by have := HK1.out; omega⟩, ⟨by (with_reducible repeat (first | refine blk_drewN ?_ _ | refine blk_drew ?_ | refine blk_alloc ?_ _)); refine blk_far ?_ NB133_135.out _; (with_reducible repeat (first | refine blk_drewN ?_ _ | refine blk_drew ?_ | refine blk_alloc ?_ _)); refine blk_far ?_ NB133_135.out _; (with_reducible repeat (first | refine blk_drewN ?_ _ | refine blk_drew ?_ | refine blk_alloc ?_ _)); refine blk_far ?_ NB133_135.out _; (with_reducible repeat (first | refine blk_drewN ?_ _ | refine blk_drew ?_ | refine blk_alloc ?_ _)); refine blk_far ?_ NB133_135.out _; (with_reducible repeat (first | refine blk_drewN ?_ _ | refine blk_drew ?_ | refine blk_alloc ?_ _)); exact BK133.out⟩, ⟨by repeat (first | (with_reducible first | exact HB.out | apply below_alloc | apply pw_below_drewN | apply below_drew1 | refine below_set ?_ GE133.out | refine below_set ?_ GE135.out) | exact HB.out)⟩⟩
        ·rw [if_neg c19] at H
         exact absurd H (by simp)
       ·rw [if_neg c18] at H
        have c18b0 : (((rd_T48 l0_2 x13_1).f1) == a1) = false := beq_eq_false_iff_ne.mpr c18
        have c18b1 : (((rd_T48 l0_2 x13_1).f1) != a1) = true := bne_iff_ne.mpr c18
        have H' := Aside0.mk H
        clear H
        have p134 : 0 ≤ (x13_1 : Int) := of_decide_eq_true (by assumption)
        have q134 : x13_1 < (l0_2.length : Int) := of_decide_eq_true (by assumption)
        obtain ⟨ad134, e134, hx134_0, hx134_1, hx134_2, hx134_3⟩ := at_T48 HR0_2.out x13_1 p134 q134
        cases e134
        replace hx134_0 := (HB.out.cell (World.block_lt_of_cell? w _ hx134_0)).trans hx134_0
        replace hx134_1 := (HB.out.cell (World.block_lt_of_cell? w _ hx134_1)).trans hx134_1
        replace hx134_2 := (HB.out.cell (World.block_lt_of_cell? w _ hx134_2)).trans hx134_2
        replace hx134_3 := (HB.out.cell (World.block_lt_of_cell? w _ hx134_3)).trans hx134_3
        replace p134 := eq_true p134
        replace q134 := eq_true q134
        go_wp2_with (first | ((with_reducible refine gate_dst (N := 9) rfl ?_); refine box_event ?hg (N := 9) ?hd (cs := #[.int .i64 0, .int .i64 0, .int .i64 0, .int .i64 0]) (t := 48) ?hr ?_; (case hd => rfl); (case hg => rfl); (case hr => first | (go_simp; done) | (go_simp; rfl)); intro gb135 hg w23 hbox hb; have n0_ := Aside0.mk (blk_below (g := gb133) (o := .cells #[.int .i64 a0_0, .bool a0_1, .slice (some ad134) l0_2.length c0_2] 28 (0, 0)) (zK BK133.out) hb); have n1_ := Aside0.mk (below_step (zC HB.out GE133.out) hb); have n2_ := Aside0.mk (hbox); have n3_ := Aside0.mk ((by rw [hg]; exact (below_size (zC HB.out GE133.out)) : w.heap.size ≤ gb135)); have n4_ := Aside0.mk ((by rw [hg]; exact (below_size (zC HB.out GE133.out)) : w.heap.size ≤ gb135)); have n5_ := Aside0.mk ((by rw [hg]; exact Nat.ne_of_lt (blk_lt (g := gb133) (o := .cells #[.int .i64 a0_0, .bool a0_1, .slice (some ad134) l0_2.length c0_2] 28 (0, 0)) (zK BK133.out)) : gb133 ≠ gb135)); have n6_ := Aside0.mk ((by rw [hg]; exact Nat.ne_of_gt (blk_lt (g := gb133) (o := .cells #[.int .i64 a0_0, .bool a0_1, .slice (some ad134) l0_2.length c0_2] 28 (0, 0)) (zK BK133.out)) : gb135 ≠ gb133)); clear BK133; clear HB; have BK133 := n0_; have HB := n1_; have BK135 := n2_; have GW135 := n3_; have GE135 := n4_; have NB133_135 := n5_; have NB135_133 := n6_; clear n0_ n1_ n2_ n3_ n4_ n5_ n6_; clear hb hbox hg; have hnb24 := NB135_133.out; have hnc24 := NB133_135.out; have hcz25_0 : w23.cell? ⟨gb135, 0, none⟩ = some (.int .i64 0) := (blk_cell BK135.out 0).trans rfl; have hcz25_1 : w23.cell? ⟨gb135, 1, none⟩ = some (.int .i64 0) := (blk_cell BK135.out 1).trans rfl; have hcz25_2 : w23.cell? ⟨gb135, 2, none⟩ = some (.int .i64 0) := (blk_cell BK135.out 2).trans rfl; have hcz25_3 : w23.cell? ⟨gb135, 3, none⟩ = some (.int .i64 0) := (blk_cell BK135.out 3).trans rfl; have hfz25_0 := blk_frozen BK135.out 0; have hfz25_1 := blk_frozen BK135.out 1; have hfz25_2 := blk_frozen BK135.out 2; have hfz25_3 := blk_frozen BK135.out 3))
        go_roundg k1
        case measure => have := HK1.out; omega
        case rel => exact ⟨(x7_1), (wrap64 (x13_1 + 1)), (by first | rfl | (simp; done) | (simp [*]; done)), (by first | rfl | (simp; done) | (simp [*]; done)), H', ⟨by have := HK1.out; omega⟩, ⟨by (with_reducible repeat (first | refine blk_drewN ?_ _ | refine blk_drew ?_ | refine blk_alloc ?_ _)); refine blk_far ?_ NB133_135.out _; (with_reducible repeat (first | refine blk_drewN ?_ _ | refine blk_drew ?_ | refine blk_alloc ?_ _)); refine blk_far ?_ NB133_135.out _; (with_reducible repeat (first | refine blk_drewN ?_ _ | refine blk_drew ?_ | refine blk_alloc ?_ _)); refine blk_far ?_ NB133_135.out _; (with_reducible repeat (first | refine blk_drewN ?_ _ | refine blk_drew ?_ | refine blk_alloc ?_ _)); refine blk_far ?_ NB133_135.out _; (with_reducible repeat (first | refine blk_drewN ?_ _ | refine blk_drew ?_ | refine blk_alloc ?_ _)); exact BK133.out⟩, ⟨by repeat (first | (with_reducible first | exact HB.out | apply below_alloc | apply pw_below_drewN | apply below_drew1 | refine below_set ?_ GE133.out | refine below_set ?_ GE135.out) | exact HB.out)⟩⟩
     ·rw [if_neg c8] at H
      exact absurd H (by simp)
    ·rw [if_neg c7] at H
     exact absurd H (by simp)
   ·rw [if_neg c6] at H
    have c6b0 : decide (x13_1 < (l0_2.length : Int)) = false := decide_eq_false c6
    clear c6
    obtain rfl := Option.some.inj H
    go_wp2
    go_ret
    exact ⟨by first | rfl | (simp [errW_none, errW_some] <;> rfl) | (simp [*, errW_none, errW_some] <;> rfl), by repeat (first | (with_reducible first | exact HB.out | apply below_alloc | apply pw_below_drewN | apply below_drew1 | refine below_set ?_ GE133.out) | exact HB.out)⟩
def mincut_reached.l0 : Nat → List Bool → List Int → Int → Int → Option (List Bool)
 |0, _, _, _, _ => none
 |k + 1, x3, x9, x10, x11 => if x11 < x10 then (if 0 ≤ x11 then (if x11 < (x9.length : Int) then (if x11 < (x3.length : Int) then (mincut_reached.l0 k (x3.set (x11 : Int).toNat (decide ((rd x9 x11) ≥ 0))) x9 x10 (wrap64 (x11 + 1))) else (none)) else (none)) else (none)) else (some x3)
def mincut_reached.f (k : Nat) (l0 : List Int) : Option (List Bool) := if 0 ≤ (l0.length : Int) then (if ((l0.length : Int) : Int).toNat ≤ 281474976710656 then (mincut_reached.l0 k (List.replicate ((l0.length : Int) : Int).toNat false) l0 (l0.length : Int) 0) else (none)) else (none)
set_option maxHeartbeats 8000000 in
set_option maxRecDepth 100000 in
theorem mincut_reached.calls (k : Nat) (A0 : Option Addr) (c0 : Nat) (l0 : List Int) (r : List Bool) (w : World) (hr0 : Kd.C (Kd.int .i64) w A0 l0.length l0) (hc0 : l0.length ≤ c0) (h : mincut_reached.f k l0 = some r) :
  Calls Try.prog 32 #[.slice A0 l0.length c0] w fun e w' => ∃ v0_ : Value, e = .returned (v0_) ∧ Kd.R Kd.bool 4 w' w.heap.size (fun _ => True) v0_ r ∧ Below w.heap.size w w' := by
 have HR0 := Aside0.mk hr0
 have HC0 := Aside0.mk hc0
 clear hr0 hc0
 have HB := Aside0.mk (Below.refl w.heap.size w)
 have H : (if 0 ≤ (l0.length : Int) then (if ((l0.length : Int) : Int).toNat ≤ 281474976710656 then (mincut_reached.l0 k (List.replicate ((l0.length : Int) : Int).toNat false) l0 (l0.length : Int) 0) else (none)) else (none)) = some r := h
 clear h
 by_cases c2 : 0 ≤ (l0.length : Int)
 ·rw [if_pos c2] at H
  have c2b0 := eq_true c2
  have c2b1 : decide (0 ≤ (l0.length : Int)) = true := decide_eq_true c2
  clear c2
  by_cases c3 : ((l0.length : Int) : Int).toNat ≤ 281474976710656
  ·rw [if_pos c3] at H
   have c3b0 := eq_true c3
   have c3b1 : decide (((l0.length : Int) : Int).toNat ≤ 281474976710656) = true := decide_eq_true c3
   clear c3
   obtain ⟨y139, hy139⟩ : ∃ y_ : List Bool, y_ = (List.replicate ((l0.length : Int) : Int).toNat false) := ⟨_, rfl⟩
   replace H : (mincut_reached.l0 k y139 l0 (l0.length : Int) 0) = some r := by first | (rw [hy139]; with_reducible exact H) | (have H2_ := (Option.bind_some _ _).symm.trans H; rw [hy139]; with_reducible exact H2_) | (have H2_ := (Option.bind_some _ _).symm.trans H; with_reducible exact H2_) | with_reducible exact H | (rw [hy139]; exact H) | exact H
   have Ny139 := Aside0.mk hy139
   clear hy139
   have H' := Aside0.mk H
   clear H
   go_enter Try.func32, Try.ntmps32
   go_wp2_with (first | ((with_reducible refine gate_dst (N := 8) rfl ?_); refine Kd.R_make Kd.bool _ 4 rfl (N := 8) rfl 62 _ _ rfl (l0.length : Int) rfl rfl Try.underlying62 (.bool false) 1 info4 rfl (by decide) (by omega) false (ok := fun _ => True) (okp := fun _ => True) rfl (fun _ hk => hk) trivial (of_decide_eq_true (by assumption)) (Nat.le_trans (Nat.mul_le_mul_right _ (of_decide_eq_true (by assumption) : (l0.length : Int).toNat ≤ 281474976710656)) (by omega)) (Below.refl _ _) (Nat.le_refl _) ?_; intro v140 w4 ho5 hb hg_ hnew_; clear hg_ hnew_; (first | rw [← Ny139.out] at ho5 | (simp only [Int.reduceToNat] at ho5; rw [← Ny139.out] at ho5)); have n0_ := Aside0.mk (Kd.R_lower ho5 (below_size (zB HB.out))); have n1_ := Aside0.mk (below_step (zB HB.out) hb); clear HB; have HO141 := n0_; have HB := n1_; clear n0_ n1_; clear hb ho5))
   go_loopg [11] k (fun kq v11 w' => ∃ (x3_1 : List Bool) (x11_1 : Int), v11 = .int .i64 x11_1 ∧ Aside0 (mincut_reached.l0 kq x3_1 l0 (l0.length : Int) x11_1 = some r) ∧ Aside0 (kq ≤ k) ∧ Aside0 (Kd.R Kd.bool 4 w' w.heap.size (fun _ => True) v140 x3_1) ∧ Aside0 (Below w.heap.size w w'))
   case atStart => exact ⟨(y139), (0), (by first | rfl | (simp; done) | (simp [*]; done)), H', ⟨Nat.le_refl _⟩, ⟨by (with_reducible repeat (first | apply Kd.R_alloc | apply Kd.R_drewN | apply Kd.R_drew)); exact HO141.out⟩, ⟨by repeat (first | (with_reducible first | exact HB.out | apply below_alloc | apply pw_below_drewN | apply below_drew1) | exact HB.out)⟩⟩
   case round =>
    clear H'
    try clear c2
    try clear c2b0
    try clear c2b1
    try clear p2
    try clear c3
    try clear c3b0
    try clear c3b1
    obtain ⟨x3_1, x11_1, rfl, HA, HK1, HO_3, HB⟩ := hrel
    cases gk with
    |zero => exact absurd HA.out (by simp [mincut_reached.l0])
    |succ k1 =>
     have H := HA.out
     clear HA
     simp only [mincut_reached.l0] at H
     by_cases c6 : x11_1 < (l0.length : Int)
     ·rw [if_pos c6] at H
      have c6b0 : decide (x11_1 < (l0.length : Int)) = true := decide_eq_true c6
      clear c6
      by_cases c7 : 0 ≤ x11_1
      ·rw [if_pos c7] at H
       have c7b0 : decide (0 ≤ x11_1) = true := decide_eq_true c7
       clear c7
       by_cases c8 : x11_1 < (l0.length : Int)
       ·rw [if_pos c8] at H
        have c8b0 : decide (x11_1 < (l0.length : Int)) = true := decide_eq_true c8
        clear c8
        by_cases c9 : x11_1 < (x3_1.length : Int)
        ·rw [if_pos c9] at H
         have c9b0 : decide (x11_1 < (x3_1.length : Int)) = true := decide_eq_true c9
         clear c9
         obtain ⟨y143, hy143⟩ : ∃ y_ : List Bool, y_ = (x3_1.set (x11_1 : Int).toNat (decide ((rd l0 x11_1) ≥ 0))) := ⟨_, rfl⟩
         replace H : (mincut_reached.l0 k1 y143 l0 (l0.length : Int) (wrap64 (x11_1 + 1))) = some r := by first | (rw [hy143]; with_reducible exact H) | (have H2_ := (Option.bind_some _ _).symm.trans H; rw [hy143]; with_reducible exact H2_) | (have H2_ := (Option.bind_some _ _).symm.trans H; with_reducible exact H2_) | with_reducible exact H | (rw [hy143]; exact H) | exact H
         have Ny143 := Aside0.mk hy143
         clear hy143
         have H' := Aside0.mk H
         clear H
         have p142 : 0 ≤ (x11_1 : Int) := of_decide_eq_true (by assumption)
         have q142 : x11_1 < (l0.length : Int) := of_decide_eq_true (by assumption)
         obtain ⟨ad142, e142, hx142_0⟩ := Kd.at_int HR0.out x11_1 p142 q142
         cases e142
         replace hx142_0 := (HB.out.cell (World.block_lt_of_cell? w _ hx142_0)).trans hx142_0
         replace p142 := eq_true p142
         replace q142 := eq_true q142
         have p10 : 0 ≤ (x11_1 : Int) := of_decide_eq_true (by assumption)
         have q10 : (x11_1 : Int) < ((x3_1.length : Int) : Int) := of_decide_eq_true (by assumption)
         obtain ⟨go10, co10, eo10, gb10, gl10, cl10, HG10⟩ := Kd.R_form HO_3.out (by omega)
         (first | cases eo10 | (injection eo10 with ea_ en_ ec_; (first | subst ea_ | (injection ea_ with ea_; subst ea_)); subst ec_; clear en_))
         have GB10 := Aside0.mk gb10
         have GG10 := Aside0.mk HG10
         clear gb10 gl10 HG10
         obtain ⟨hx10_0, hf10_0⟩ := Kd.R_celln false HO_3.out (x11_1 : Int) p10 q10
         replace p10 := eq_true p10
         replace q10 := eq_true q10
         have HP11 := Kd.R_putg HO_3.out (x11_1 : Int) (decide ((rd l0 x11_1) ≥ 0))
         go_wp2_with (first | ((with_reducible refine gate_store (t := 4) (p := 20) rfl ?_); refine store_event (t := 4) (p := 20) (v := ?vo_w12) (w1 := (wr.setCell ⟨go10, (x11_1 : Int).toNat, none⟩ (.bool (decide ((rd l0 x11_1) ≥ 0))))) ?hg ?ho ?hn ?hr ?_; (case ho => rfl); (case hg => rfl); (case hn => rfl); (case hr => first | (go_simp; done) | (go_simp; rfl)); intro w12 hw; have hg : wr.grownBy w12 (some go10) := (by rw [hw]; exact HP11.2); have hp_ : Kd.R Kd.bool 4 w12 w.heap.size (fun _ => True) (.slice (some ⟨go10, 0, none⟩) x3_1.length co10) y143 := (by rw [hw, Ny143.out]; exact HP11.1); clear HP11; have n0_ := Aside0.mk (hp_); have n1_ := Aside0.mk ((by rw [hw]; exact below_set (HB.out) GB10.out : Below w.heap.size w w12)); clear HO_3; clear HB; have HO_3 := n0_; have HB := n1_; clear n0_ n1_; clear hg hw hp_))
         go_roundg k1
         case measure => have := HK1.out; omega
         case rel => exact ⟨(y143), (wrap64 (x11_1 + 1)), (by first | rfl | (simp; done) | (simp [*]; done)), H', ⟨by have := HK1.out; omega⟩, ⟨by (with_reducible repeat (first | apply Kd.R_alloc | apply Kd.R_drewN | apply Kd.R_drew)); exact HO_3.out⟩, ⟨by repeat (first | (with_reducible first | exact HB.out | apply below_alloc | apply pw_below_drewN | apply below_drew1) | exact HB.out)⟩⟩
        ·rw [if_neg c9] at H
         exact absurd H (by simp)
       ·rw [if_neg c8] at H
        exact absurd H (by simp)
      ·rw [if_neg c7] at H
       exact absurd H (by simp)
     ·rw [if_neg c6] at H
      have c6b0 : decide (x11_1 < (l0.length : Int)) = false := decide_eq_false c6
      clear c6
      obtain rfl := Option.some.inj H
      go_wp2
      go_ret
      exact ⟨_, by first | rfl | (simp [errW_none, errW_some] <;> rfl) | (simp [*, errW_none, errW_some] <;> rfl), by (with_reducible repeat (first | apply Kd.R_alloc | apply Kd.R_drewN | apply Kd.R_drew)); exact HO_3.out, by repeat (first | (with_reducible first | exact HB.out | apply below_alloc | apply pw_below_drewN | apply below_drew1) | exact HB.out)⟩
  ·rw [if_neg c3] at H
   exact absurd H (by simp)
 ·rw [if_neg c2] at H
  exact absurd H (by simp)
def netfmt_nodes.f (a0 : Int) : Option (Int) := if a0 < 1 then (some 51) else (if a0 > 50 then (some 2) else (some 0))
set_option maxHeartbeats 8000000 in
set_option maxRecDepth 100000 in
theorem netfmt_nodes.calls (a0 : Int) (r : Int) (w : World) (h : netfmt_nodes.f a0 = some r) :
  Calls Try.prog 43 #[.int .i64 a0] w fun e w' => e = .returned (.int .i64 r) ∧ Drawn0 w w' := by
 have H : (if a0 < 1 then (some 51) else (if a0 > 50 then (some 2) else (some 0))) = some r := h
 clear h
 by_cases c2 : a0 < 1
 ·rw [if_pos c2] at H
  have c2b0 : decide (a0 < 1) = true := decide_eq_true c2
  clear c2
  obtain rfl := Option.some.inj H
  go_enter Try.func43, Try.ntmps43
  go_wp2
  go_ret
  exact ⟨by first | rfl | (simp; done) | (simp [*]; done), by repeat (first | exact Drawn0.refl _ | apply Drawn0.step)⟩
 ·rw [if_neg c2] at H
  have c2b0 : decide (a0 < 1) = false := decide_eq_false c2
  clear c2
  by_cases c3 : a0 > 50
  ·rw [if_pos c3] at H
   have c3b0 : decide (50 < a0) = true := decide_eq_true c3
   clear c3
   obtain rfl := Option.some.inj H
   go_enter Try.func43, Try.ntmps43
   go_wp2
   go_ret
   exact ⟨by first | rfl | (simp; done) | (simp [*]; done), by repeat (first | exact Drawn0.refl _ | apply Drawn0.step)⟩
  ·rw [if_neg c3] at H
   have c3b0 : decide (50 < a0) = false := decide_eq_false c3
   clear c3
   obtain rfl := Option.some.inj H
   go_enter Try.func43, Try.ntmps43
   go_wp2
   go_ret
   exact ⟨by first | rfl | (simp; done) | (simp [*]; done), by repeat (first | exact Drawn0.refl _ | apply Drawn0.step)⟩
def netfmt_arc.j0 : Nat → Bool → Int → Int → Int → Int → Option (Int)
 |0, _, _, _, _, _ => none
 |k + 1, x5, x145000, x145001, x145002, x145003 => if x5 = true then (some 51) else (if x145002 > 1048576 then (some 2) else (if x145003 > 1048576 then (some 2) else (some 0)))
def netfmt_arc.f (k : Nat) (a0 : Int) (a1_0 : Int) (a1_1 : Int) (a1_2 : Int) (a1_3 : Int) : Option (Int) := if (mn (mn (mn a1_0 a1_1) a1_2) a1_3) < 0 then (netfmt_arc.j0 k true a1_0 a1_1 a1_2 a1_3) else (netfmt_arc.j0 k (decide ((mx a1_0 a1_1) ≥ a0)) a1_0 a1_1 a1_2 a1_3)
set_option maxHeartbeats 8000000 in
set_option maxRecDepth 100000 in
theorem netfmt_arc.calls (k : Nat) (a0 : Int) (a1_0 : Int) (a1_1 : Int) (a1_2 : Int) (a1_3 : Int) (r : Int) (w : World) (h : netfmt_arc.f k a0 a1_0 a1_1 a1_2 a1_3 = some r) :
  Calls Try.prog 44 #[.int .i64 a0, .agg #[.int .i64 a1_0, .int .i64 a1_1, .int .i64 a1_2, .int .i64 a1_3]] w fun e w' => e = .returned (.int .i64 r) ∧ Below w.heap.size w w' := by
 have hu48 := Try.underlying48
 have HB := Aside0.mk (Below.refl w.heap.size w)
 have H : (if (mn (mn (mn a1_0 a1_1) a1_2) a1_3) < 0 then (netfmt_arc.j0 k true a1_0 a1_1 a1_2 a1_3) else (netfmt_arc.j0 k (decide ((mx a1_0 a1_1) ≥ a0)) a1_0 a1_1 a1_2 a1_3)) = some r := h
 clear h
 have HC3 := Aside0.mk H
 clear H
 go_enter Try.func44, Try.ntmps44
 go_upto_region 1 with (first | ((with_reducible refine gate_dst (N := 3) rfl ?_); (try (refine gate_guard (by rfl) ?_; dsimp only)); refine box_event ?hg (N := 3) ?hd (cs := #[.int .i64 a1_0, .int .i64 a1_1, .int .i64 a1_2, .int .i64 a1_3]) (t := 48) ?hr ?_; (case hd => rfl); (case hg => rfl); (case hr => first | (go_simp; done) | (go_simp; rfl)); intro gb144 hg w4 hbox hb; have n0_ := Aside0.mk (below_step (zB HB.out) hb); have n1_ := Aside0.mk (hbox); have n2_ := Aside0.mk ((by rw [hg]; exact (below_size (zB HB.out)) : w.heap.size ≤ gb144)); have n3_ := Aside0.mk ((by rw [hg]; exact (below_size (zB HB.out)) : w.heap.size ≤ gb144)); clear HB; have HB := n0_; have BK144 := n1_; have GW144 := n2_; have GE144 := n3_; clear n0_ n1_ n2_ n3_; clear hb hbox hg))
 (try simp only [Act.put, List.setIfInBounds_toArray, List.set_cons_zero, List.set_cons_succ])
 go_cut [5] (fun v5 wc => ∃ (kq : Nat) (x5_2 : Bool), v5 = .bool x5_2 ∧ Aside0 (netfmt_arc.j0 kq x5_2 a1_0 a1_1 a1_2 a1_3 = some r) ∧ Aside0 (kq ≤ k) ∧ Aside0 (wc.heap[gb144]? = some (.cells #[.int .i64 a1_0, .int .i64 a1_1, .int .i64 a1_2, .int .i64 a1_3] 48 (0, 0))) ∧ Aside0 (Below w.heap.size w wc))
 case first =>
  have H := HC3.out
  clear HC3
  obtain ⟨ji5, hji5⟩ : ∃ j_ : Int, (mn a1_0 a1_1) = j_ := ⟨_, rfl⟩
  replace H : (if (mn (mn (ji5) a1_2) a1_3) < 0 then (netfmt_arc.j0 k true a1_0 a1_1 a1_2 a1_3) else (netfmt_arc.j0 k (decide ((mx a1_0 a1_1) ≥ a0)) a1_0 a1_1 a1_2 a1_3)) = some r := by first | (rw [hji5] at H; exact H) | (simp only [hji5] at H ⊢; exact H)
  have hji5_ : (if a1_1 < a1_0 then a1_1 else a1_0) = ji5 := hji5
  obtain ⟨ji6, hji6⟩ : ∃ j_ : Int, (mn (ji5) a1_2) = j_ := ⟨_, rfl⟩
  replace H : (if (mn (ji6) a1_3) < 0 then (netfmt_arc.j0 k true a1_0 a1_1 a1_2 a1_3) else (netfmt_arc.j0 k (decide ((mx a1_0 a1_1) ≥ a0)) a1_0 a1_1 a1_2 a1_3)) = some r := by first | (rw [hji6] at H; exact H) | (simp only [hji6] at H ⊢; exact H)
  have hji6_ : (if a1_2 < (ji5) then a1_2 else (ji5)) = ji6 := hji6
  obtain ⟨ji7, hji7⟩ : ∃ j_ : Int, (mn (ji6) a1_3) = j_ := ⟨_, rfl⟩
  replace H : (if (ji7) < 0 then (netfmt_arc.j0 k true a1_0 a1_1 a1_2 a1_3) else (netfmt_arc.j0 k (decide ((mx a1_0 a1_1) ≥ a0)) a1_0 a1_1 a1_2 a1_3)) = some r := by first | (rw [hji7] at H; exact H) | (simp only [hji7] at H ⊢; exact H)
  have hji7_ : (if a1_3 < (ji6) then a1_3 else (ji6)) = ji7 := hji7
  by_cases c8 : (ji7) < 0
  ·rw [if_pos c8] at H
   have c8b0 : decide ((ji7) < 0) = true := decide_eq_true c8
   clear c8
   (first | rw [c8b0] | (simp only [i64_w, i32_w]; rw [c8b0]) | skip)
   have H' := Aside0.mk H
   clear H
   have hcz9_0 : w4.cell? ⟨gb144, 0, none⟩ = some (.int .i64 a1_0) := (blk_cell BK144.out 0).trans rfl
   have hcz9_1 : w4.cell? ⟨gb144, 1, none⟩ = some (.int .i64 a1_1) := (blk_cell BK144.out 1).trans rfl
   have hcz9_2 : w4.cell? ⟨gb144, 2, none⟩ = some (.int .i64 a1_2) := (blk_cell BK144.out 2).trans rfl
   have hcz9_3 : w4.cell? ⟨gb144, 3, none⟩ = some (.int .i64 a1_3) := (blk_cell BK144.out 3).trans rfl
   have hfz9_0 := blk_frozen BK144.out 0
   have hfz9_1 := blk_frozen BK144.out 1
   have hfz9_2 := blk_frozen BK144.out 2
   have hfz9_3 := blk_frozen BK144.out 3
   go_wp2
   go_meet
   case rel => exact ⟨_, (true), (by first | rfl | (simp; done) | (simp [*]; done)), H', ⟨by first | omega | exact Nat.le_refl _⟩, ⟨by (with_reducible repeat (first | refine blk_drewN ?_ _ | refine blk_drew ?_ | refine blk_alloc ?_ _)); exact BK144.out⟩, ⟨by repeat (first | (with_reducible first | exact HB.out | apply below_alloc | apply pw_below_drewN | apply below_drew1 | refine below_set ?_ GE144.out) | exact HB.out)⟩⟩
  ·rw [if_neg c8] at H
   have c8b0 : decide ((ji7) < 0) = false := decide_eq_false c8
   clear c8
   (first | rw [c8b0] | (simp only [i64_w, i32_w]; rw [c8b0]) | skip)
   obtain ⟨ji10, hji10⟩ : ∃ j_ : Int, (mx a1_0 a1_1) = j_ := ⟨_, rfl⟩
   replace H : (netfmt_arc.j0 k (decide ((ji10) ≥ a0)) a1_0 a1_1 a1_2 a1_3) = some r := by first | (rw [hji10] at H; exact H) | (simp only [hji10] at H ⊢; exact H)
   have hji10_ : (if a1_0 < a1_1 then a1_1 else a1_0) = ji10 := hji10
   have H' := Aside0.mk H
   clear H
   have hcz11_0 : w4.cell? ⟨gb144, 0, none⟩ = some (.int .i64 a1_0) := (blk_cell BK144.out 0).trans rfl
   have hcz11_1 : w4.cell? ⟨gb144, 1, none⟩ = some (.int .i64 a1_1) := (blk_cell BK144.out 1).trans rfl
   have hcz11_2 : w4.cell? ⟨gb144, 2, none⟩ = some (.int .i64 a1_2) := (blk_cell BK144.out 2).trans rfl
   have hcz11_3 : w4.cell? ⟨gb144, 3, none⟩ = some (.int .i64 a1_3) := (blk_cell BK144.out 3).trans rfl
   have hfz11_0 := blk_frozen BK144.out 0
   have hfz11_1 := blk_frozen BK144.out 1
   have hfz11_2 := blk_frozen BK144.out 2
   have hfz11_3 := blk_frozen BK144.out 3
   go_wp2
   go_meet
   case rel => exact ⟨_, (decide ((ji10) ≥ a0)), (by first | rfl | (simp; done) | (simp only [← hji10] <;> (first | rfl | simp)) | (simp [*]; done)), H', ⟨by first | omega | exact Nat.le_refl _⟩, ⟨by (with_reducible repeat (first | refine blk_drewN ?_ _ | refine blk_drew ?_ | refine blk_alloc ?_ _)); exact BK144.out⟩, ⟨by repeat (first | (with_reducible first | exact HB.out | apply below_alloc | apply pw_below_drewN | apply below_drew1 | refine below_set ?_ GE144.out) | exact HB.out)⟩⟩
 case rest =>
  clear HC3
  try clear p2
  try clear c4
  try clear c8
  try clear c8b0
  try clear hcz11_0
  try clear hcz11_1
  try clear hcz11_2
  try clear hcz11_3
  try clear hcz9_0
  try clear hcz9_1
  try clear hcz9_2
  try clear hcz9_3
  try clear hfz11_0
  try clear hfz11_1
  try clear hfz11_2
  try clear hfz11_3
  try clear hfz9_0
  try clear hfz9_1
  try clear hfz9_2
  try clear hfz9_3
  obtain ⟨kq, x5_2, rfl, HA, HJ2, BK144, HB⟩ := hcut
  cases kq with
  |zero => exact absurd HA.out (by simp [netfmt_arc.j0])
  |succ kj2 =>
   have H := HA.out
   clear HA
   simp only [netfmt_arc.j0] at H
   by_cases c12 : x5_2 = true
   ·subst c12
    have H1 : (some 51) = some r := by rw [if_pos rfl] at H; exact H
    clear H
    have H := H1
    clear H1
    obtain rfl := Option.some.inj H
    go_wp2
    go_ret
    exact ⟨by first | rfl | (simp [errW_none, errW_some] <;> rfl) | (simp [*, errW_none, errW_some] <;> rfl), by repeat (first | (with_reducible first | exact HB.out | apply below_alloc | apply pw_below_drewN | apply below_drew1 | refine below_set ?_ GE144.out) | exact HB.out)⟩
   ·replace c12 := Bool.eq_false_iff.mpr c12
    subst c12
    have H1 : (if a1_2 > 1048576 then (some 2) else (if a1_3 > 1048576 then (some 2) else (some 0))) = some r := by rw [if_neg (show ¬ (false = true) by decide)] at H; exact H
    clear H
    have H := H1
    clear H1
    by_cases c13 : a1_2 > 1048576
    ·rw [if_pos c13] at H
     have c13b0 : decide (1048576 < a1_2) = true := decide_eq_true c13
     clear c13
     obtain rfl := Option.some.inj H
     have hcz14_0 : wc.cell? ⟨gb144, 0, none⟩ = some (.int .i64 a1_0) := (blk_cell BK144.out 0).trans rfl
     have hcz14_1 : wc.cell? ⟨gb144, 1, none⟩ = some (.int .i64 a1_1) := (blk_cell BK144.out 1).trans rfl
     have hcz14_2 : wc.cell? ⟨gb144, 2, none⟩ = some (.int .i64 a1_2) := (blk_cell BK144.out 2).trans rfl
     have hcz14_3 : wc.cell? ⟨gb144, 3, none⟩ = some (.int .i64 a1_3) := (blk_cell BK144.out 3).trans rfl
     have hfz14_0 := blk_frozen BK144.out 0
     have hfz14_1 := blk_frozen BK144.out 1
     have hfz14_2 := blk_frozen BK144.out 2
     have hfz14_3 := blk_frozen BK144.out 3
     go_wp2
     go_ret
     exact ⟨by first | rfl | (simp [errW_none, errW_some] <;> rfl) | (simp [*, errW_none, errW_some] <;> rfl), by repeat (first | (with_reducible first | exact HB.out | apply below_alloc | apply pw_below_drewN | apply below_drew1 | refine below_set ?_ GE144.out) | exact HB.out)⟩
    ·rw [if_neg c13] at H
     have c13b0 : decide (1048576 < a1_2) = false := decide_eq_false c13
     clear c13
     by_cases c15 : a1_3 > 1048576
     ·rw [if_pos c15] at H
      have c15b0 : decide (1048576 < a1_3) = true := decide_eq_true c15
      clear c15
      obtain rfl := Option.some.inj H
      have hcz16_0 : wc.cell? ⟨gb144, 0, none⟩ = some (.int .i64 a1_0) := (blk_cell BK144.out 0).trans rfl
      have hcz16_1 : wc.cell? ⟨gb144, 1, none⟩ = some (.int .i64 a1_1) := (blk_cell BK144.out 1).trans rfl
      have hcz16_2 : wc.cell? ⟨gb144, 2, none⟩ = some (.int .i64 a1_2) := (blk_cell BK144.out 2).trans rfl
      have hcz16_3 : wc.cell? ⟨gb144, 3, none⟩ = some (.int .i64 a1_3) := (blk_cell BK144.out 3).trans rfl
      have hfz16_0 := blk_frozen BK144.out 0
      have hfz16_1 := blk_frozen BK144.out 1
      have hfz16_2 := blk_frozen BK144.out 2
      have hfz16_3 := blk_frozen BK144.out 3
      go_wp2
      go_ret
      exact ⟨by first | rfl | (simp [errW_none, errW_some] <;> rfl) | (simp [*, errW_none, errW_some] <;> rfl), by repeat (first | (with_reducible first | exact HB.out | apply below_alloc | apply pw_below_drewN | apply below_drew1 | refine below_set ?_ GE144.out) | exact HB.out)⟩
     ·rw [if_neg c15] at H
      have c15b0 : decide (1048576 < a1_3) = false := decide_eq_false c15
      clear c15
      obtain rfl := Option.some.inj H
      have hcz17_0 : wc.cell? ⟨gb144, 0, none⟩ = some (.int .i64 a1_0) := (blk_cell BK144.out 0).trans rfl
      have hcz17_1 : wc.cell? ⟨gb144, 1, none⟩ = some (.int .i64 a1_1) := (blk_cell BK144.out 1).trans rfl
      have hcz17_2 : wc.cell? ⟨gb144, 2, none⟩ = some (.int .i64 a1_2) := (blk_cell BK144.out 2).trans rfl
      have hcz17_3 : wc.cell? ⟨gb144, 3, none⟩ = some (.int .i64 a1_3) := (blk_cell BK144.out 3).trans rfl
      have hfz17_0 := blk_frozen BK144.out 0
      have hfz17_1 := blk_frozen BK144.out 1
      have hfz17_2 := blk_frozen BK144.out 2
      have hfz17_3 := blk_frozen BK144.out 3
      go_wp2
      go_ret
      exact ⟨by first | rfl | (simp [errW_none, errW_some] <;> rfl) | (simp [*, errW_none, errW_some] <;> rfl), by repeat (first | (with_reducible first | exact HB.out | apply below_alloc | apply pw_below_drewN | apply below_drew1 | refine below_set ?_ GE144.out) | exact HB.out)⟩
end Go.Proofs.Ytdfagllncopmjaa.PrintC
end
section
namespace Go.Proofs.Ytdfagllncopmjaa.PrintC
open Go.RowKit Go.Proofs.Ytdfagllncopmjaa.H Go.Proofs.YtdfagllncopmjaaW.PrintWords Go.Proofs.YtdfagllncopmjaaW.PrintLast Go.Proofs.YtdfagllncopmjaaW.PrintMore
attribute [local go_sem] max2_int min2_int max_two min_two max_three min_three max_four min_four
set_option linter.unusedVariables false
set_option linter.unusedSimpArgs false
def netfmt_Check.l0 : Nat → List (S48) → Int → Int → Int → Bool → List (S48) → Option (Int)
 |0, _, _, _, _, _, _ => none
 |k + 1, x18, x19, x20, x146000, x146001, x146002 => if x20 < x19 then (if 0 ≤ x20 then (if x20 < (x18.length : Int) then ((netfmt_arc.f k x146000 ((rd_T48 x18 x20).f0) ((rd_T48 x18 x20).f1) ((rd_T48 x18 x20).f2) ((rd_T48 x18 x20).f3)).bind fun t149 => (if t149 = 0 then (netfmt_Check.l0 k x18 x19 (wrap64 (x20 + 1)) x146000 x146001 x146002) else (some t149))) else (none)) else (none)) else (some 0)
def netfmt_Check.f (k : Nat) (a0_0 : Int) (a0_1 : Bool) (l0_2 : List (S48)) : Option (Int) := (netfmt_nodes.f a0_0).bind fun t146 => (if t146 = 0 then (if (l0_2.length : Int) > 200 then (some 2) else (netfmt_Check.l0 k l0_2 (l0_2.length : Int) 0 a0_0 a0_1 l0_2)) else (some t146))
set_option maxHeartbeats 8000000 in
set_option maxRecDepth 100000 in
theorem netfmt_Check.calls (k : Nat) (a0_0 : Int) (a0_1 : Bool) (A0_2 : Option Addr) (c0_2 : Nat) (l0_2 : List (S48)) (r : Int) (w : World) (hr0_2 : Kd.C k48 w A0_2 l0_2.length l0_2) (hc0_2 : l0_2.length ≤ c0_2) (h : netfmt_Check.f k a0_0 a0_1 l0_2 = some r) :
  Calls Try.prog 24 #[.agg #[.int .i64 a0_0, .bool a0_1, .slice A0_2 l0_2.length c0_2]] w fun e w' => e = .returned (.int .i64 r) ∧ Below w.heap.size w w' := by
 have hu28 := Try.underlying28
 have hu48 := Try.underlying48
 have HR0_2 := Aside0.mk hr0_2
 have HC0_2 := Aside0.mk hc0_2
 clear hr0_2 hc0_2
 have HB := Aside0.mk (Below.refl w.heap.size w)
 have H : ((netfmt_nodes.f a0_0).bind fun t146 => (if t146 = 0 then (if (l0_2.length : Int) > 200 then (some 2) else (netfmt_Check.l0 k l0_2 (l0_2.length : Int) 0 a0_0 a0_1 l0_2)) else (some t146))) = some r := h
 clear h
 replace H := Option.bind_eq_some_iff.mp H
 obtain ⟨t146, A20, H⟩ := H
 replace H : (if t146 = 0 then (if (l0_2.length : Int) > 200 then (some 2) else (netfmt_Check.l0 k l0_2 (l0_2.length : Int) 0 a0_0 a0_1 l0_2)) else (some t146)) = some r := H
 have A2 := Aside0.mk A20
 clear A20
 by_cases c3 : t146 = 0
 ·rw [if_pos c3] at H
  have c3b0 : (t146 == 0) = true := beq_iff_eq.mpr c3
  have c3b1 : (t146 != 0) = false := bne_eq_false_iff_eq.mpr c3
  clear c3
  by_cases c4 : (l0_2.length : Int) > 200
  ·rw [if_pos c4] at H
   have c4b0 : decide (200 < (l0_2.length : Int)) = true := decide_eq_true c4
   have c4b1 : decide (200 < l0_2.length) = true := decide_eq_true (by omega)
   clear c4
   obtain rfl := Option.some.inj H
   go_enter Try.func24, Try.ntmps24
   go_wp2_with (first | ((with_reducible refine gate_dst (N := 1) rfl ?_); refine box_event ?hg (N := 1) ?hd (cs := #[.int .i64 a0_0, .bool a0_1, .slice A0_2 l0_2.length c0_2]) (t := 28) ?hr ?_; (case hd => rfl); (case hg => rfl); (case hr => first | (go_simp; done) | (go_simp; rfl)); intro gb145 hg w5 hbox hb; have n0_ := Aside0.mk (below_step (zB HB.out) hb); have n1_ := Aside0.mk (hbox); have n2_ := Aside0.mk ((by rw [hg]; exact (below_size (zB HB.out)) : w.heap.size ≤ gb145)); have n3_ := Aside0.mk ((by rw [hg]; exact (below_size (zB HB.out)) : w.heap.size ≤ gb145)); clear HB; have HB := n0_; have BK145 := n1_; have GW145 := n2_; have GE145 := n3_; clear n0_ n1_ n2_ n3_; clear hb hbox hg; have hcz6_0 : w5.cell? ⟨gb145, 0, none⟩ = some (.int .i64 a0_0) := (blk_cell BK145.out 0).trans rfl; have hcz6_1 : w5.cell? ⟨gb145, 1, none⟩ = some (.bool a0_1) := (blk_cell BK145.out 1).trans rfl; have hcz6_2 : w5.cell? ⟨gb145, 2, none⟩ = some (.slice A0_2 l0_2.length c0_2) := (blk_cell BK145.out 2).trans rfl; have hfz6_0 := blk_frozen BK145.out 0; have hfz6_1 := blk_frozen BK145.out 1; have hfz6_2 := blk_frozen BK145.out 2) | ((with_reducible refine gate_callee (f := 43) rfl ?_); refine goesL_ (some 9) rfl rfl Try.func43 (by kernel_rfl) rfl #[.int .i64 a0_0] rfl (by (try simp only [List.map_toArray, List.map_cons, List.map_nil]); first | done | rfl | (simp only [List.length_drop, List.length_take]; rfl)) ?_; (with_reducible refine (netfmt_nodes.calls a0_0 t146 _ A2.out).mono ?_); rintro e w' ⟨rfl, ⟨nd, rfl⟩⟩; refine ⟨_, rfl, ?_⟩))
   go_ret
   exact ⟨by first | rfl | (simp [errW_none, errW_some] <;> rfl) | (simp [*, errW_none, errW_some] <;> rfl), by repeat (first | (with_reducible first | exact HB.out | apply below_alloc | apply pw_below_drewN | apply below_drew1 | refine below_set ?_ GE145.out) | exact HB.out)⟩
  ·rw [if_neg c4] at H
   have c4b0 : decide (200 < (l0_2.length : Int)) = false := decide_eq_false c4
   have c4b1 : decide (200 < l0_2.length) = false := decide_eq_false (by omega)
   clear c4
   have H' := Aside0.mk H
   clear H
   go_enter Try.func24, Try.ntmps24
   go_wp2_with (first | ((with_reducible refine gate_dst (N := 1) rfl ?_); refine box_event ?hg (N := 1) ?hd (cs := #[.int .i64 a0_0, .bool a0_1, .slice A0_2 l0_2.length c0_2]) (t := 28) ?hr ?_; (case hd => rfl); (case hg => rfl); (case hr => first | (go_simp; done) | (go_simp; rfl)); intro gb145 hg w7 hbox hb; have n0_ := Aside0.mk (below_step (zB HB.out) hb); have n1_ := Aside0.mk (hbox); have n2_ := Aside0.mk ((by rw [hg]; exact (below_size (zB HB.out)) : w.heap.size ≤ gb145)); have n3_ := Aside0.mk ((by rw [hg]; exact (below_size (zB HB.out)) : w.heap.size ≤ gb145)); clear HB; have HB := n0_; have BK145 := n1_; have GW145 := n2_; have GE145 := n3_; clear n0_ n1_ n2_ n3_; clear hb hbox hg; have hcz8_0 : w7.cell? ⟨gb145, 0, none⟩ = some (.int .i64 a0_0) := (blk_cell BK145.out 0).trans rfl; have hcz8_1 : w7.cell? ⟨gb145, 1, none⟩ = some (.bool a0_1) := (blk_cell BK145.out 1).trans rfl; have hcz8_2 : w7.cell? ⟨gb145, 2, none⟩ = some (.slice A0_2 l0_2.length c0_2) := (blk_cell BK145.out 2).trans rfl; have hfz8_0 := blk_frozen BK145.out 0; have hfz8_1 := blk_frozen BK145.out 1; have hfz8_2 := blk_frozen BK145.out 2) | ((with_reducible refine gate_callee (f := 43) rfl ?_); refine goesL_ (some 9) rfl rfl Try.func43 (by kernel_rfl) rfl #[.int .i64 a0_0] rfl (by (try simp only [List.map_toArray, List.map_cons, List.map_nil]); first | done | rfl | (simp only [List.length_drop, List.length_take]; rfl)) ?_; (with_reducible refine (netfmt_nodes.calls a0_0 t146 _ A2.out).mono ?_); rintro e w' ⟨rfl, ⟨nd, rfl⟩⟩; refine ⟨_, rfl, ?_⟩))
   go_loopg [20] k (fun kq v20 w' => ∃ (x20_1 : Int), v20 = .int .i64 x20_1 ∧ Aside0 (netfmt_Check.l0 kq l0_2 (l0_2.length : Int) x20_1 a0_0 a0_1 l0_2 = some r) ∧ Aside0 (kq ≤ k) ∧ Aside0 (w'.heap[gb145]? = some (.cells #[.int .i64 a0_0, .bool a0_1, (.slice A0_2 l0_2.length c0_2)] 28 (0, 0))) ∧ Aside0 (Below w.heap.size w w'))
   case atStart => exact ⟨(0), (by first | rfl | (simp; done) | (simp [*]; done)), H', ⟨Nat.le_refl _⟩, ⟨by (with_reducible repeat (first | refine blk_drewN ?_ _ | refine blk_drew ?_ | refine blk_alloc ?_ _)); exact BK145.out⟩, ⟨by repeat (first | (with_reducible first | exact HB.out | apply below_alloc | apply pw_below_drewN | apply below_drew1 | refine below_set ?_ GE145.out) | exact HB.out)⟩⟩
   case round =>
    clear H'
    try clear c2
    try clear p2
    try clear c3
    try clear c3b0
    try clear c3b1
    try clear c4
    try clear c4b0
    try clear c4b1
    try clear hcz6_0
    try clear hcz6_1
    try clear hcz6_2
    try clear hcz8_0
    try clear hcz8_1
    try clear hcz8_2
    try clear hfz6_0
    try clear hfz6_1
    try clear hfz6_2
    try clear hfz8_0
    try clear hfz8_1
    try clear hfz8_2
    obtain ⟨x20_1, rfl, HA, HK1, BK145, HB⟩ := hrel
    cases gk with
    |zero => exact absurd HA.out (by simp [netfmt_Check.l0])
    |succ k1 =>
     have H := HA.out
     clear HA
     simp only [netfmt_Check.l0] at H
     by_cases c9 : x20_1 < (l0_2.length : Int)
     ·rw [if_pos c9] at H
      have c9b0 : decide (x20_1 < (l0_2.length : Int)) = true := decide_eq_true c9
      clear c9
      by_cases c10 : 0 ≤ x20_1
      ·rw [if_pos c10] at H
       have c10b0 : decide (0 ≤ x20_1) = true := decide_eq_true c10
       clear c10
       by_cases c11 : x20_1 < (l0_2.length : Int)
       ·rw [if_pos c11] at H
        have c11b0 : decide (x20_1 < (l0_2.length : Int)) = true := decide_eq_true c11
        clear c11
        replace H := Option.bind_eq_some_iff.mp H
        obtain ⟨t149, A120, H⟩ := H
        replace H : (if t149 = 0 then (netfmt_Check.l0 k1 l0_2 (l0_2.length : Int) (wrap64 (x20_1 + 1)) a0_0 a0_1 l0_2) else (some t149)) = some r := H
        have A12 := Aside0.mk A120
        clear A120
        by_cases c13 : t149 = 0
        ·rw [if_pos c13] at H
         have c13b0 : (t149 == 0) = true := beq_iff_eq.mpr c13
         have c13b1 : (t149 != 0) = false := bne_eq_false_iff_eq.mpr c13
         clear c13
         have H' := Aside0.mk H
         clear H
         have p147 : 0 ≤ (x20_1 : Int) := of_decide_eq_true (by assumption)
         have q147 : x20_1 < (l0_2.length : Int) := of_decide_eq_true (by assumption)
         obtain ⟨ad147, e147, hx147_0, hx147_1, hx147_2, hx147_3⟩ := at_T48 HR0_2.out x20_1 p147 q147
         cases e147
         replace hx147_0 := (HB.out.cell (World.block_lt_of_cell? w _ hx147_0)).trans hx147_0
         replace hx147_1 := (HB.out.cell (World.block_lt_of_cell? w _ hx147_1)).trans hx147_1
         replace hx147_2 := (HB.out.cell (World.block_lt_of_cell? w _ hx147_2)).trans hx147_2
         replace hx147_3 := (HB.out.cell (World.block_lt_of_cell? w _ hx147_3)).trans hx147_3
         replace p147 := eq_true p147
         replace q147 := eq_true q147
         go_wp2_with (first | ((with_reducible refine gate_dst (N := 5) rfl ?_); refine box_event ?hg (N := 5) ?hd (cs := #[.int .i64 0, .int .i64 0, .int .i64 0, .int .i64 0]) (t := 48) ?hr ?_; (case hd => rfl); (case hg => rfl); (case hr => first | (go_simp; done) | (go_simp; rfl)); intro gb148 hg w14 hbox hb; have n0_ := Aside0.mk (blk_below (g := gb145) (o := .cells #[.int .i64 a0_0, .bool a0_1, .slice (some ad147) l0_2.length c0_2] 28 (0, 0)) (zK BK145.out) hb); have n1_ := Aside0.mk (below_step (zC HB.out GE145.out) hb); have n2_ := Aside0.mk (hbox); have n3_ := Aside0.mk ((by rw [hg]; exact (below_size (zC HB.out GE145.out)) : w.heap.size ≤ gb148)); have n4_ := Aside0.mk ((by rw [hg]; exact (below_size (zC HB.out GE145.out)) : w.heap.size ≤ gb148)); have n5_ := Aside0.mk ((by rw [hg]; exact Nat.ne_of_lt (blk_lt (g := gb145) (o := .cells #[.int .i64 a0_0, .bool a0_1, .slice (some ad147) l0_2.length c0_2] 28 (0, 0)) (zK BK145.out)) : gb145 ≠ gb148)); have n6_ := Aside0.mk ((by rw [hg]; exact Nat.ne_of_gt (blk_lt (g := gb145) (o := .cells #[.int .i64 a0_0, .bool a0_1, .slice (some ad147) l0_2.length c0_2] 28 (0, 0)) (zK BK145.out)) : gb148 ≠ gb145)); clear BK145; clear HB; have BK145 := n0_; have HB := n1_; have BK148 := n2_; have GW148 := n3_; have GE148 := n4_; have NB145_148 := n5_; have NB148_145 := n6_; clear n0_ n1_ n2_ n3_ n4_ n5_ n6_; clear hb hbox hg; have hnb15 := NB148_145.out; have hnc15 := NB145_148.out; have hcz16_0 : w14.cell? ⟨gb148, 0, none⟩ = some (.int .i64 0) := (blk_cell BK148.out 0).trans rfl; have hcz16_1 : w14.cell? ⟨gb148, 1, none⟩ = some (.int .i64 0) := (blk_cell BK148.out 1).trans rfl; have hcz16_2 : w14.cell? ⟨gb148, 2, none⟩ = some (.int .i64 0) := (blk_cell BK148.out 2).trans rfl; have hcz16_3 : w14.cell? ⟨gb148, 3, none⟩ = some (.int .i64 0) := (blk_cell BK148.out 3).trans rfl; have hfz16_0 := blk_frozen BK148.out 0; have hfz16_1 := blk_frozen BK148.out 1; have hfz16_2 := blk_frozen BK148.out 2; have hfz16_3 := blk_frozen BK148.out 3; have hcz17_0 : w14.cell? ⟨gb145, 0, none⟩ = some (.int .i64 a0_0) := (blk_cell BK145.out 0).trans rfl; have hcz17_1 : w14.cell? ⟨gb145, 1, none⟩ = some (.bool a0_1) := (blk_cell BK145.out 1).trans rfl; have hcz17_2 : w14.cell? ⟨gb145, 2, none⟩ = some (.slice (some ad147) l0_2.length c0_2) := (blk_cell BK145.out 2).trans rfl; have hfz17_0 := blk_frozen BK145.out 0; have hfz17_1 := blk_frozen BK145.out 1; have hfz17_2 := blk_frozen BK145.out 2) | ((with_reducible refine gate_callee (f := 44) rfl ?_); refine goesL_ (some 27) rfl rfl Try.func44 (by kernel_rfl) rfl #[.int .i64 a0_0, .agg #[.int .i64 ((rd_T48 l0_2 x20_1).f0), .int .i64 ((rd_T48 l0_2 x20_1).f1), .int .i64 ((rd_T48 l0_2 x20_1).f2), .int .i64 ((rd_T48 l0_2 x20_1).f3)]] rfl (by (try simp only [List.map_toArray, List.map_cons, List.map_nil]); first | done | rfl | (simp only [List.length_drop, List.length_take]; rfl)) ?_; (with_reducible refine (netfmt_arc.calls k1 a0_0 ((rd_T48 l0_2 x20_1).f0) ((rd_T48 l0_2 x20_1).f1) ((rd_T48 l0_2 x20_1).f2) ((rd_T48 l0_2 x20_1).f3) t149 _ A12.out).mono ?_); rintro e w18 ⟨rfl, hb⟩; refine ⟨_, rfl, ?_⟩; have n0_ := Aside0.mk (blk_below (g := gb145) (o := .cells #[.int .i64 a0_0, .bool a0_1, .slice (some ad147) l0_2.length c0_2] 28 (0, 0)) (by (with_reducible repeat (first | refine blk_drewN ?_ _ | refine blk_drew ?_ | refine blk_alloc ?_ _)); refine blk_far ?_ NB145_148.out _; (with_reducible repeat (first | refine blk_drewN ?_ _ | refine blk_drew ?_ | refine blk_alloc ?_ _)); refine blk_far ?_ NB145_148.out _; (with_reducible repeat (first | refine blk_drewN ?_ _ | refine blk_drew ?_ | refine blk_alloc ?_ _)); refine blk_far ?_ NB145_148.out _; (with_reducible repeat (first | refine blk_drewN ?_ _ | refine blk_drew ?_ | refine blk_alloc ?_ _)); refine blk_far ?_ NB145_148.out _; (with_reducible repeat (first | refine blk_drewN ?_ _ | refine blk_drew ?_ | refine blk_alloc ?_ _)); exact BK145.out) hb); have n1_ := Aside0.mk (blk_below (g := gb148) (o := .cells #[.int .i64 ((rd_T48 l0_2 x20_1).f0), .int .i64 ((rd_T48 l0_2 x20_1).f1), .int .i64 ((rd_T48 l0_2 x20_1).f2), .int .i64 ((rd_T48 l0_2 x20_1).f3)] 48 (0, 0)) (by (with_reducible repeat (first | refine blk_drewN ?_ _ | refine blk_drew ?_ | refine blk_alloc ?_ _)); refine blk_put (cs := #[.int .i64 ((rd_T48 l0_2 x20_1).f0), .int .i64 ((rd_T48 l0_2 x20_1).f1), .int .i64 ((rd_T48 l0_2 x20_1).f2), .int .i64 0]) ?_ 3 _ rfl; (with_reducible repeat (first | refine blk_drewN ?_ _ | refine blk_drew ?_ | refine blk_alloc ?_ _)); refine blk_put (cs := #[.int .i64 ((rd_T48 l0_2 x20_1).f0), .int .i64 ((rd_T48 l0_2 x20_1).f1), .int .i64 0, .int .i64 0]) ?_ 2 _ rfl; (with_reducible repeat (first | refine blk_drewN ?_ _ | refine blk_drew ?_ | refine blk_alloc ?_ _)); refine blk_put (cs := #[.int .i64 ((rd_T48 l0_2 x20_1).f0), .int .i64 0, .int .i64 0, .int .i64 0]) ?_ 1 _ rfl; (with_reducible repeat (first | refine blk_drewN ?_ _ | refine blk_drew ?_ | refine blk_alloc ?_ _)); refine blk_put (cs := #[.int .i64 0, .int .i64 0, .int .i64 0, .int .i64 0]) ?_ 0 _ rfl; (with_reducible repeat (first | refine blk_drewN ?_ _ | refine blk_drew ?_ | refine blk_alloc ?_ _)); exact BK148.out) hb); have n2_ := Aside0.mk (below_step (by repeat (first | (with_reducible first | exact HB.out | apply below_alloc | apply pw_below_drewN | apply below_drew1 | refine below_set ?_ GE145.out | refine below_set ?_ GE148.out) | exact HB.out)) hb); clear BK145; clear BK148; clear HB; have BK145 := n0_; have BK148 := n1_; have HB := n2_; clear n0_ n1_ n2_; (try clear hb); (try clear hb2); (try clear hk); (try clear hi)))
         go_roundg k1
         case measure => have := HK1.out; omega
         case rel => exact ⟨(wrap64 (x20_1 + 1)), (by first | rfl | (simp; done) | (simp [*]; done)), H', ⟨by have := HK1.out; omega⟩, ⟨by (with_reducible repeat (first | refine blk_drewN ?_ _ | refine blk_drew ?_ | refine blk_alloc ?_ _)); exact BK145.out⟩, ⟨by repeat (first | (with_reducible first | exact HB.out | apply below_alloc | apply pw_below_drewN | apply below_drew1 | refine below_set ?_ GE145.out | refine below_set ?_ GE148.out) | exact HB.out)⟩⟩
        ·rw [if_neg c13] at H
         have c13b0 : (t149 == 0) = false := beq_eq_false_iff_ne.mpr c13
         have c13b1 : (t149 != 0) = true := bne_iff_ne.mpr c13
         obtain rfl := Option.some.inj H
         have p147 : 0 ≤ (x20_1 : Int) := of_decide_eq_true (by assumption)
         have q147 : x20_1 < (l0_2.length : Int) := of_decide_eq_true (by assumption)
         obtain ⟨ad147, e147, hx147_0, hx147_1, hx147_2, hx147_3⟩ := at_T48 HR0_2.out x20_1 p147 q147
         cases e147
         replace hx147_0 := (HB.out.cell (World.block_lt_of_cell? w _ hx147_0)).trans hx147_0
         replace hx147_1 := (HB.out.cell (World.block_lt_of_cell? w _ hx147_1)).trans hx147_1
         replace hx147_2 := (HB.out.cell (World.block_lt_of_cell? w _ hx147_2)).trans hx147_2
         replace hx147_3 := (HB.out.cell (World.block_lt_of_cell? w _ hx147_3)).trans hx147_3
         replace p147 := eq_true p147
         replace q147 := eq_true q147
         go_wp2_with (first | ((with_reducible refine gate_dst (N := 5) rfl ?_); refine box_event ?hg (N := 5) ?hd (cs := #[.int .i64 0, .int .i64 0, .int .i64 0, .int .i64 0]) (t := 48) ?hr ?_; (case hd => rfl); (case hg => rfl); (case hr => first | (go_simp; done) | (go_simp; rfl)); intro gb148 hg w19 hbox hb; have n0_ := Aside0.mk (blk_below (g := gb145) (o := .cells #[.int .i64 a0_0, .bool a0_1, .slice (some ad147) l0_2.length c0_2] 28 (0, 0)) (zK BK145.out) hb); have n1_ := Aside0.mk (below_step (zC HB.out GE145.out) hb); have n2_ := Aside0.mk (hbox); have n3_ := Aside0.mk ((by rw [hg]; exact (below_size (zC HB.out GE145.out)) : w.heap.size ≤ gb148)); have n4_ := Aside0.mk ((by rw [hg]; exact (below_size (zC HB.out GE145.out)) : w.heap.size ≤ gb148)); have n5_ := Aside0.mk ((by rw [hg]; exact Nat.ne_of_lt (blk_lt (g := gb145) (o := .cells #[.int .i64 a0_0, .bool a0_1, .slice (some ad147) l0_2.length c0_2] 28 (0, 0)) (zK BK145.out)) : gb145 ≠ gb148)); have n6_ := Aside0.mk ((by rw [hg]; exact Nat.ne_of_gt (blk_lt (g := gb145) (o := .cells #[.int .i64 a0_0, .bool a0_1, .slice (some ad147) l0_2.length c0_2] 28 (0, 0)) (zK BK145.out)) : gb148 ≠ gb145)); clear BK145; clear HB; have BK145 := n0_; have HB := n1_; have BK148 := n2_; have GW148 := n3_; have GE148 := n4_; have NB145_148 := n5_; have NB148_145 := n6_; clear n0_ n1_ n2_ n3_ n4_ n5_ n6_; clear hb hbox hg; have hnb20 := NB148_145.out; have hnc20 := NB145_148.out; have hcz21_0 : w19.cell? ⟨gb148, 0, none⟩ = some (.int .i64 0) := (blk_cell BK148.out 0).trans rfl; have hcz21_1 : w19.cell? ⟨gb148, 1, none⟩ = some (.int .i64 0) := (blk_cell BK148.out 1).trans rfl; have hcz21_2 : w19.cell? ⟨gb148, 2, none⟩ = some (.int .i64 0) := (blk_cell BK148.out 2).trans rfl; have hcz21_3 : w19.cell? ⟨gb148, 3, none⟩ = some (.int .i64 0) := (blk_cell BK148.out 3).trans rfl; have hfz21_0 := blk_frozen BK148.out 0; have hfz21_1 := blk_frozen BK148.out 1; have hfz21_2 := blk_frozen BK148.out 2; have hfz21_3 := blk_frozen BK148.out 3; have hcz22_0 : w19.cell? ⟨gb145, 0, none⟩ = some (.int .i64 a0_0) := (blk_cell BK145.out 0).trans rfl; have hcz22_1 : w19.cell? ⟨gb145, 1, none⟩ = some (.bool a0_1) := (blk_cell BK145.out 1).trans rfl; have hcz22_2 : w19.cell? ⟨gb145, 2, none⟩ = some (.slice (some ad147) l0_2.length c0_2) := (blk_cell BK145.out 2).trans rfl; have hfz22_0 := blk_frozen BK145.out 0; have hfz22_1 := blk_frozen BK145.out 1; have hfz22_2 := blk_frozen BK145.out 2) | ((with_reducible refine gate_callee (f := 44) rfl ?_); refine goesL_ (some 27) rfl rfl Try.func44 (by kernel_rfl) rfl #[.int .i64 a0_0, .agg #[.int .i64 ((rd_T48 l0_2 x20_1).f0), .int .i64 ((rd_T48 l0_2 x20_1).f1), .int .i64 ((rd_T48 l0_2 x20_1).f2), .int .i64 ((rd_T48 l0_2 x20_1).f3)]] rfl (by (try simp only [List.map_toArray, List.map_cons, List.map_nil]); first | done | rfl | (simp only [List.length_drop, List.length_take]; rfl)) ?_; (with_reducible refine (netfmt_arc.calls k1 a0_0 ((rd_T48 l0_2 x20_1).f0) ((rd_T48 l0_2 x20_1).f1) ((rd_T48 l0_2 x20_1).f2) ((rd_T48 l0_2 x20_1).f3) t149 _ A12.out).mono ?_); rintro e w23 ⟨rfl, hb⟩; refine ⟨_, rfl, ?_⟩; have n0_ := Aside0.mk (blk_below (g := gb145) (o := .cells #[.int .i64 a0_0, .bool a0_1, .slice (some ad147) l0_2.length c0_2] 28 (0, 0)) (by (with_reducible repeat (first | refine blk_drewN ?_ _ | refine blk_drew ?_ | refine blk_alloc ?_ _)); refine blk_far ?_ NB145_148.out _; (with_reducible repeat (first | refine blk_drewN ?_ _ | refine blk_drew ?_ | refine blk_alloc ?_ _)); refine blk_far ?_ NB145_148.out _; (with_reducible repeat (first | refine blk_drewN ?_ _ | refine blk_drew ?_ | refine blk_alloc ?_ _)); refine blk_far ?_ NB145_148.out _; (with_reducible repeat (first | refine blk_drewN ?_ _ | refine blk_drew ?_ | refine blk_alloc ?_ _)); refine blk_far ?_ NB145_148.out _; (with_reducible repeat (first | refine blk_drewN ?_ _ | refine blk_drew ?_ | refine blk_alloc ?_ _)); exact BK145.out) hb); have n1_ := Aside0.mk (blk_below (g := gb148) (o := .cells #[.int .i64 ((rd_T48 l0_2 x20_1).f0), .int .i64 ((rd_T48 l0_2 x20_1).f1), .int .i64 ((rd_T48 l0_2 x20_1).f2), .int .i64 ((rd_T48 l0_2 x20_1).f3)] 48 (0, 0)) (by (with_reducible repeat (first | refine blk_drewN ?_ _ | refine blk_drew ?_ | refine blk_alloc ?_ _)); refine blk_put (cs := #[.int .i64 ((rd_T48 l0_2 x20_1).f0), .int .i64 ((rd_T48 l0_2 x20_1).f1), .int .i64 ((rd_T48 l0_2 x20_1).f2), .int .i64 0]) ?_ 3 _ rfl; (with_reducible repeat (first | refine blk_drewN ?_ _ | refine blk_drew ?_ | refine blk_alloc ?_ _)); refine blk_put (cs := #[.int .i64 ((rd_T48 l0_2 x20_1).f0), .int .i64 ((rd_T48 l0_2 x20_1).f1), .int .i64 0, .int .i64 0]) ?_ 2 _ rfl; (with_reducible repeat (first | refine blk_drewN ?_ _ | refine blk_drew ?_ | refine blk_alloc ?_ _)); refine blk_put (cs := #[.int .i64 ((rd_T48 l0_2 x20_1).f0), .int .i64 0, .int .i64 0, .int .i64 0]) ?_ 1 _ rfl; (with_reducible repeat (first | refine blk_drewN ?_ _ | refine blk_drew ?_ | refine blk_alloc ?_ _)); refine blk_put (cs := #[.int .i64 0, .int .i64 0, .int .i64 0, .int .i64 0]) ?_ 0 _ rfl; (with_reducible repeat (first | refine blk_drewN ?_ _ | refine blk_drew ?_ | refine blk_alloc ?_ _)); exact BK148.out) hb); have n2_ := Aside0.mk (below_step (by repeat (first | (with_reducible first | exact HB.out | apply below_alloc | apply pw_below_drewN | apply below_drew1 | refine below_set ?_ GE145.out | refine below_set ?_ GE148.out) | exact HB.out)) hb); clear BK145; clear BK148; clear HB; have BK145 := n0_; have BK148 := n1_; have HB := n2_; clear n0_ n1_ n2_; (try clear hb); (try clear hb2); (try clear hk); (try clear hi)))
         go_ret
         exact ⟨by first | rfl | (simp [errW_none, errW_some] <;> rfl) | (simp [*, errW_none, errW_some] <;> rfl), by repeat (first | (with_reducible first | exact HB.out | apply below_alloc | apply pw_below_drewN | apply below_drew1 | refine below_set ?_ GE145.out | refine below_set ?_ GE148.out) | exact HB.out)⟩
       ·rw [if_neg c11] at H
        exact absurd H (by simp)
      ·rw [if_neg c10] at H
       exact absurd H (by simp)
     ·rw [if_neg c9] at H
      have c9b0 : decide (x20_1 < (l0_2.length : Int)) = false := decide_eq_false c9
      clear c9
      obtain rfl := Option.some.inj H
      go_wp2
      go_ret
      exact ⟨by first | rfl | (simp [errW_none, errW_some] <;> rfl) | (simp [*, errW_none, errW_some] <;> rfl), by repeat (first | (with_reducible first | exact HB.out | apply below_alloc | apply pw_below_drewN | apply below_drew1 | refine below_set ?_ GE145.out) | exact HB.out)⟩
 ·rw [if_neg c3] at H
  have c3b0 : (t146 == 0) = false := beq_eq_false_iff_ne.mpr c3
  have c3b1 : (t146 != 0) = true := bne_iff_ne.mpr c3
  obtain rfl := Option.some.inj H
  go_enter Try.func24, Try.ntmps24
  go_wp2_with (first | ((with_reducible refine gate_dst (N := 1) rfl ?_); refine box_event ?hg (N := 1) ?hd (cs := #[.int .i64 a0_0, .bool a0_1, .slice A0_2 l0_2.length c0_2]) (t := 28) ?hr ?_; (case hd => rfl); (case hg => rfl); (case hr => first | (go_simp; done) | (go_simp; rfl)); intro gb145 hg w24 hbox hb; have n0_ := Aside0.mk (below_step (zB HB.out) hb); have n1_ := Aside0.mk (hbox); have n2_ := Aside0.mk ((by rw [hg]; exact (below_size (zB HB.out)) : w.heap.size ≤ gb145)); have n3_ := Aside0.mk ((by rw [hg]; exact (below_size (zB HB.out)) : w.heap.size ≤ gb145)); clear HB; have HB := n0_; have BK145 := n1_; have GW145 := n2_; have GE145 := n3_; clear n0_ n1_ n2_ n3_; clear hb hbox hg; have hcz25_0 : w24.cell? ⟨gb145, 0, none⟩ = some (.int .i64 a0_0) := (blk_cell BK145.out 0).trans rfl; have hcz25_1 : w24.cell? ⟨gb145, 1, none⟩ = some (.bool a0_1) := (blk_cell BK145.out 1).trans rfl; have hcz25_2 : w24.cell? ⟨gb145, 2, none⟩ = some (.slice A0_2 l0_2.length c0_2) := (blk_cell BK145.out 2).trans rfl; have hfz25_0 := blk_frozen BK145.out 0; have hfz25_1 := blk_frozen BK145.out 1; have hfz25_2 := blk_frozen BK145.out 2) | ((with_reducible refine gate_callee (f := 43) rfl ?_); refine goesL_ (some 9) rfl rfl Try.func43 (by kernel_rfl) rfl #[.int .i64 a0_0] rfl (by (try simp only [List.map_toArray, List.map_cons, List.map_nil]); first | done | rfl | (simp only [List.length_drop, List.length_take]; rfl)) ?_; (with_reducible refine (netfmt_nodes.calls a0_0 t146 _ A2.out).mono ?_); rintro e w' ⟨rfl, ⟨nd, rfl⟩⟩; refine ⟨_, rfl, ?_⟩))
  go_ret
  exact ⟨by first | rfl | (simp [errW_none, errW_some] <;> rfl) | (simp [*, errW_none, errW_some] <;> rfl), by repeat (first | (with_reducible first | exact HB.out | apply below_alloc | apply pw_below_drewN | apply below_drew1 | refine below_set ?_ GE145.out) | exact HB.out)⟩
def span_Horizon.f (a0 : Int) : Option (Int) := if a0 < 0 then (some 1) else (if a0 > 1024 then (some 2) else (some 0))
set_option maxHeartbeats 8000000 in
set_option maxRecDepth 100000 in
theorem span_Horizon.calls (a0 : Int) (r : Int) (w : World) (h : span_Horizon.f a0 = some r) :
  Calls Try.prog 23 #[.int .i64 a0] w fun e w' => e = .returned (.int .i64 r) ∧ Drawn0 w w' := by
 have H : (if a0 < 0 then (some 1) else (if a0 > 1024 then (some 2) else (some 0))) = some r := h
 clear h
 by_cases c2 : a0 < 0
 ·rw [if_pos c2] at H
  have c2b0 : decide (a0 < 0) = true := decide_eq_true c2
  clear c2
  obtain rfl := Option.some.inj H
  go_enter Try.func23, Try.ntmps23
  go_wp2
  go_ret
  exact ⟨by first | rfl | (simp; done) | (simp [*]; done), by repeat (first | exact Drawn0.refl _ | apply Drawn0.step)⟩
 ·rw [if_neg c2] at H
  have c2b0 : decide (a0 < 0) = false := decide_eq_false c2
  clear c2
  by_cases c3 : a0 > 1024
  ·rw [if_pos c3] at H
   have c3b0 : decide (1024 < a0) = true := decide_eq_true c3
   clear c3
   obtain rfl := Option.some.inj H
   go_enter Try.func23, Try.ntmps23
   go_wp2
   go_ret
   exact ⟨by first | rfl | (simp; done) | (simp [*]; done), by repeat (first | exact Drawn0.refl _ | apply Drawn0.step)⟩
  ·rw [if_neg c3] at H
   have c3b0 : decide (1024 < a0) = false := decide_eq_false c3
   clear c3
   obtain rfl := Option.some.inj H
   go_enter Try.func23, Try.ntmps23
   go_wp2
   go_ret
   exact ⟨by first | rfl | (simp; done) | (simp [*]; done), by repeat (first | exact Drawn0.refl _ | apply Drawn0.step)⟩
def expand_Fits.f (k : Nat) (a0_0 : Int) (a0_1 : Bool) (l0_2 : List (S48)) (a1 : Int) : Option (Bool) := (netfmt_Check.f k a0_0 a0_1 l0_2).bind fun t151 => (if t151 = 0 then ((span_Horizon.f a1).bind fun t152 => (if t152 = 0 then (if (wrap64 ((wrap64 (a1 + 1)) * a0_0)) ≤ 4000 then (some (decide ((wrap64 ((wrap64 (a1 + 1)) * (l0_2.length : Int))) ≤ 10000))) else (some false)) else (some false))) else (some false))
set_option maxHeartbeats 8000000 in
set_option maxRecDepth 100000 in
theorem expand_Fits.calls (k : Nat) (a0_0 : Int) (a0_1 : Bool) (A0_2 : Option Addr) (c0_2 : Nat) (l0_2 : List (S48)) (a1 : Int) (r : Bool) (w : World) (hr0_2 : Kd.C k48 w A0_2 l0_2.length l0_2) (hc0_2 : l0_2.length ≤ c0_2) (h : expand_Fits.f k a0_0 a0_1 l0_2 a1 = some r) :
  Calls Try.prog 16 #[.agg #[.int .i64 a0_0, .bool a0_1, .slice A0_2 l0_2.length c0_2], .int .i64 a1] w fun e w' => e = .returned (.bool r) ∧ Below w.heap.size w w' := by
 have hu28 := Try.underlying28
 have HR0_2 := Aside0.mk hr0_2
 have HC0_2 := Aside0.mk hc0_2
 clear hr0_2 hc0_2
 have HB := Aside0.mk (Below.refl w.heap.size w)
 have H : ((netfmt_Check.f k a0_0 a0_1 l0_2).bind fun t151 => (if t151 = 0 then ((span_Horizon.f a1).bind fun t152 => (if t152 = 0 then (if (wrap64 ((wrap64 (a1 + 1)) * a0_0)) ≤ 4000 then (some (decide ((wrap64 ((wrap64 (a1 + 1)) * (l0_2.length : Int))) ≤ 10000))) else (some false)) else (some false))) else (some false))) = some r := h
 clear h
 replace H := Option.bind_eq_some_iff.mp H
 obtain ⟨t151, A30, H⟩ := H
 replace H : (if t151 = 0 then ((span_Horizon.f a1).bind fun t152 => (if t152 = 0 then (if (wrap64 ((wrap64 (a1 + 1)) * a0_0)) ≤ 4000 then (some (decide ((wrap64 ((wrap64 (a1 + 1)) * (l0_2.length : Int))) ≤ 10000))) else (some false)) else (some false))) else (some false)) = some r := H
 have A3 := Aside0.mk A30
 clear A30
 by_cases c4 : t151 = 0
 ·rw [if_pos c4] at H
  have c4b0 : (t151 == 0) = true := beq_iff_eq.mpr c4
  have c4b1 : (t151 != 0) = false := bne_eq_false_iff_eq.mpr c4
  clear c4
  replace H := Option.bind_eq_some_iff.mp H
  obtain ⟨t152, A50, H⟩ := H
  replace H : (if t152 = 0 then (if (wrap64 ((wrap64 (a1 + 1)) * a0_0)) ≤ 4000 then (some (decide ((wrap64 ((wrap64 (a1 + 1)) * (l0_2.length : Int))) ≤ 10000))) else (some false)) else (some false)) = some r := H
  have A5 := Aside0.mk A50
  clear A50
  by_cases c6 : t152 = 0
  ·rw [if_pos c6] at H
   have c6b0 : (t152 == 0) = true := beq_iff_eq.mpr c6
   have c6b1 : (t152 != 0) = false := bne_eq_false_iff_eq.mpr c6
   clear c6
   by_cases c7 : (wrap64 ((wrap64 (a1 + 1)) * a0_0)) ≤ 4000
   ·rw [if_pos c7] at H
    have c7b0 : decide ((wrap64 ((wrap64 (a1 + 1)) * a0_0)) ≤ 4000) = true := decide_eq_true c7
    clear c7
    obtain rfl := Option.some.inj H
    go_enter Try.func16, Try.ntmps16
    go_wp2_with (first | ((with_reducible refine gate_dst (N := 2) rfl ?_); (try (refine gate_guard (by rfl) ?_; dsimp only)); refine box_event ?hg (N := 2) ?hd (cs := #[.int .i64 a0_0, .bool a0_1, .slice A0_2 l0_2.length c0_2]) (t := 28) ?hr ?_; (case hd => rfl); (case hg => rfl); (case hr => first | (go_simp; done) | (go_simp; rfl)); intro gb150 hg w8 hbox hb; have n0_ := Aside0.mk (below_step (zB HB.out) hb); have n1_ := Aside0.mk (hbox); have n2_ := Aside0.mk ((by rw [hg]; exact (below_size (zB HB.out)) : w.heap.size ≤ gb150)); have n3_ := Aside0.mk ((by rw [hg]; exact (below_size (zB HB.out)) : w.heap.size ≤ gb150)); clear HB; have HB := n0_; have BK150 := n1_; have GW150 := n2_; have GE150 := n3_; clear n0_ n1_ n2_ n3_; clear hb hbox hg; have hcz9_0 : w8.cell? ⟨gb150, 0, none⟩ = some (.int .i64 a0_0) := (blk_cell BK150.out 0).trans rfl; have hcz9_1 : w8.cell? ⟨gb150, 1, none⟩ = some (.bool a0_1) := (blk_cell BK150.out 1).trans rfl; have hcz9_2 : w8.cell? ⟨gb150, 2, none⟩ = some (.slice A0_2 l0_2.length c0_2) := (blk_cell BK150.out 2).trans rfl; have hfz9_0 := blk_frozen BK150.out 0; have hfz9_1 := blk_frozen BK150.out 1; have hfz9_2 := blk_frozen BK150.out 2) | ((with_reducible refine gate_callee (f := 24) rfl ?_); refine goesL_ (some 6) rfl rfl Try.func24 (by kernel_rfl) rfl #[.agg #[.int .i64 a0_0, .bool a0_1, .slice A0_2 l0_2.length c0_2]] rfl (by (try simp only [List.map_toArray, List.map_cons, List.map_nil]); first | done | rfl | (simp only [List.length_drop, List.length_take]; rfl)) ?_; (with_reducible refine (netfmt_Check.calls k a0_0 a0_1 _ _ l0_2 t151 _ ?side1 ?side2 A3.out).mono ?_); (case side1 => repeat (first | exact (Kd.C_below HR0_2.out HB.out) | (with_reducible refine Kd.C_alloc ?_ _) | (with_reducible refine Kd.C_drewN ?_ _) | (with_reducible refine Kd.C_drew ?_))); (case side2 => exact HC0_2.out); rintro e w10 ⟨rfl, hb⟩; refine ⟨_, rfl, ?_⟩; have n0_ := Aside0.mk (blk_below (g := gb150) (o := .cells #[.int .i64 a0_0, .bool a0_1, .slice A0_2 l0_2.length c0_2] 28 (0, 0)) (zK BK150.out) hb); have n1_ := Aside0.mk (below_step (zC HB.out GE150.out) hb); clear BK150; clear HB; have BK150 := n0_; have HB := n1_; clear n0_ n1_; (try clear hb); (try clear hb2); (try clear hk); (try clear hi)) | (go_at_call 23; (with_reducible refine (span_Horizon.calls a1 t152 _ A5.out).mono ?_); rintro e w' ⟨rfl, ⟨nd, rfl⟩⟩; have hcz11_0 : w10.cell? ⟨gb150, 0, none⟩ = some (.int .i64 a0_0) := (blk_cell BK150.out 0).trans rfl; have hcz11_1 : w10.cell? ⟨gb150, 1, none⟩ = some (.bool a0_1) := (blk_cell BK150.out 1).trans rfl; have hcz11_2 : w10.cell? ⟨gb150, 2, none⟩ = some (.slice A0_2 l0_2.length c0_2) := (blk_cell BK150.out 2).trans rfl; have hfz11_0 := blk_frozen BK150.out 0; have hfz11_1 := blk_frozen BK150.out 1; have hfz11_2 := blk_frozen BK150.out 2))
    go_ret
    exact ⟨by first | rfl | (simp [errW_none, errW_some] <;> rfl) | (simp [*, errW_none, errW_some] <;> rfl), by repeat (first | (with_reducible first | exact HB.out | apply below_alloc | apply pw_below_drewN | apply below_drew1 | refine below_set ?_ GE150.out) | exact HB.out)⟩
   ·rw [if_neg c7] at H
    have c7b0 : decide ((wrap64 ((wrap64 (a1 + 1)) * a0_0)) ≤ 4000) = false := decide_eq_false c7
    clear c7
    obtain rfl := Option.some.inj H
    go_enter Try.func16, Try.ntmps16
    go_wp2_with (first | ((with_reducible refine gate_dst (N := 2) rfl ?_); (try (refine gate_guard (by rfl) ?_; dsimp only)); refine box_event ?hg (N := 2) ?hd (cs := #[.int .i64 a0_0, .bool a0_1, .slice A0_2 l0_2.length c0_2]) (t := 28) ?hr ?_; (case hd => rfl); (case hg => rfl); (case hr => first | (go_simp; done) | (go_simp; rfl)); intro gb150 hg w12 hbox hb; have n0_ := Aside0.mk (below_step (zB HB.out) hb); have n1_ := Aside0.mk (hbox); have n2_ := Aside0.mk ((by rw [hg]; exact (below_size (zB HB.out)) : w.heap.size ≤ gb150)); have n3_ := Aside0.mk ((by rw [hg]; exact (below_size (zB HB.out)) : w.heap.size ≤ gb150)); clear HB; have HB := n0_; have BK150 := n1_; have GW150 := n2_; have GE150 := n3_; clear n0_ n1_ n2_ n3_; clear hb hbox hg; have hcz13_0 : w12.cell? ⟨gb150, 0, none⟩ = some (.int .i64 a0_0) := (blk_cell BK150.out 0).trans rfl; have hcz13_1 : w12.cell? ⟨gb150, 1, none⟩ = some (.bool a0_1) := (blk_cell BK150.out 1).trans rfl; have hcz13_2 : w12.cell? ⟨gb150, 2, none⟩ = some (.slice A0_2 l0_2.length c0_2) := (blk_cell BK150.out 2).trans rfl; have hfz13_0 := blk_frozen BK150.out 0; have hfz13_1 := blk_frozen BK150.out 1; have hfz13_2 := blk_frozen BK150.out 2) | ((with_reducible refine gate_callee (f := 24) rfl ?_); refine goesL_ (some 6) rfl rfl Try.func24 (by kernel_rfl) rfl #[.agg #[.int .i64 a0_0, .bool a0_1, .slice A0_2 l0_2.length c0_2]] rfl (by (try simp only [List.map_toArray, List.map_cons, List.map_nil]); first | done | rfl | (simp only [List.length_drop, List.length_take]; rfl)) ?_; (with_reducible refine (netfmt_Check.calls k a0_0 a0_1 _ _ l0_2 t151 _ ?side1 ?side2 A3.out).mono ?_); (case side1 => repeat (first | exact (Kd.C_below HR0_2.out HB.out) | (with_reducible refine Kd.C_alloc ?_ _) | (with_reducible refine Kd.C_drewN ?_ _) | (with_reducible refine Kd.C_drew ?_))); (case side2 => exact HC0_2.out); rintro e w14 ⟨rfl, hb⟩; refine ⟨_, rfl, ?_⟩; have n0_ := Aside0.mk (blk_below (g := gb150) (o := .cells #[.int .i64 a0_0, .bool a0_1, .slice A0_2 l0_2.length c0_2] 28 (0, 0)) (zK BK150.out) hb); have n1_ := Aside0.mk (below_step (zC HB.out GE150.out) hb); clear BK150; clear HB; have BK150 := n0_; have HB := n1_; clear n0_ n1_; (try clear hb); (try clear hb2); (try clear hk); (try clear hi)) | (go_at_call 23; (with_reducible refine (span_Horizon.calls a1 t152 _ A5.out).mono ?_); rintro e w' ⟨rfl, ⟨nd, rfl⟩⟩; have hcz15_0 : w14.cell? ⟨gb150, 0, none⟩ = some (.int .i64 a0_0) := (blk_cell BK150.out 0).trans rfl; have hcz15_1 : w14.cell? ⟨gb150, 1, none⟩ = some (.bool a0_1) := (blk_cell BK150.out 1).trans rfl; have hcz15_2 : w14.cell? ⟨gb150, 2, none⟩ = some (.slice A0_2 l0_2.length c0_2) := (blk_cell BK150.out 2).trans rfl; have hfz15_0 := blk_frozen BK150.out 0; have hfz15_1 := blk_frozen BK150.out 1; have hfz15_2 := blk_frozen BK150.out 2))
    go_ret
    exact ⟨by first | rfl | (simp [errW_none, errW_some] <;> rfl) | (simp [*, errW_none, errW_some] <;> rfl), by repeat (first | (with_reducible first | exact HB.out | apply below_alloc | apply pw_below_drewN | apply below_drew1 | refine below_set ?_ GE150.out) | exact HB.out)⟩
  ·rw [if_neg c6] at H
   have c6b0 : (t152 == 0) = false := beq_eq_false_iff_ne.mpr c6
   have c6b1 : (t152 != 0) = true := bne_iff_ne.mpr c6
   obtain rfl := Option.some.inj H
   go_enter Try.func16, Try.ntmps16
   go_wp2_with (first | ((with_reducible refine gate_dst (N := 2) rfl ?_); (try (refine gate_guard (by rfl) ?_; dsimp only)); refine box_event ?hg (N := 2) ?hd (cs := #[.int .i64 a0_0, .bool a0_1, .slice A0_2 l0_2.length c0_2]) (t := 28) ?hr ?_; (case hd => rfl); (case hg => rfl); (case hr => first | (go_simp; done) | (go_simp; rfl)); intro gb150 hg w16 hbox hb; have n0_ := Aside0.mk (below_step (zB HB.out) hb); have n1_ := Aside0.mk (hbox); have n2_ := Aside0.mk ((by rw [hg]; exact (below_size (zB HB.out)) : w.heap.size ≤ gb150)); have n3_ := Aside0.mk ((by rw [hg]; exact (below_size (zB HB.out)) : w.heap.size ≤ gb150)); clear HB; have HB := n0_; have BK150 := n1_; have GW150 := n2_; have GE150 := n3_; clear n0_ n1_ n2_ n3_; clear hb hbox hg; have hcz17_0 : w16.cell? ⟨gb150, 0, none⟩ = some (.int .i64 a0_0) := (blk_cell BK150.out 0).trans rfl; have hcz17_1 : w16.cell? ⟨gb150, 1, none⟩ = some (.bool a0_1) := (blk_cell BK150.out 1).trans rfl; have hcz17_2 : w16.cell? ⟨gb150, 2, none⟩ = some (.slice A0_2 l0_2.length c0_2) := (blk_cell BK150.out 2).trans rfl; have hfz17_0 := blk_frozen BK150.out 0; have hfz17_1 := blk_frozen BK150.out 1; have hfz17_2 := blk_frozen BK150.out 2) | ((with_reducible refine gate_callee (f := 24) rfl ?_); refine goesL_ (some 6) rfl rfl Try.func24 (by kernel_rfl) rfl #[.agg #[.int .i64 a0_0, .bool a0_1, .slice A0_2 l0_2.length c0_2]] rfl (by (try simp only [List.map_toArray, List.map_cons, List.map_nil]); first | done | rfl | (simp only [List.length_drop, List.length_take]; rfl)) ?_; (with_reducible refine (netfmt_Check.calls k a0_0 a0_1 _ _ l0_2 t151 _ ?side1 ?side2 A3.out).mono ?_); (case side1 => repeat (first | exact (Kd.C_below HR0_2.out HB.out) | (with_reducible refine Kd.C_alloc ?_ _) | (with_reducible refine Kd.C_drewN ?_ _) | (with_reducible refine Kd.C_drew ?_))); (case side2 => exact HC0_2.out); rintro e w18 ⟨rfl, hb⟩; refine ⟨_, rfl, ?_⟩; have n0_ := Aside0.mk (blk_below (g := gb150) (o := .cells #[.int .i64 a0_0, .bool a0_1, .slice A0_2 l0_2.length c0_2] 28 (0, 0)) (zK BK150.out) hb); have n1_ := Aside0.mk (below_step (zC HB.out GE150.out) hb); clear BK150; clear HB; have BK150 := n0_; have HB := n1_; clear n0_ n1_; (try clear hb); (try clear hb2); (try clear hk); (try clear hi)) | (go_at_call 23; (with_reducible refine (span_Horizon.calls a1 t152 _ A5.out).mono ?_); rintro e w' ⟨rfl, ⟨nd, rfl⟩⟩))
   go_ret
   exact ⟨by first | rfl | (simp [errW_none, errW_some] <;> rfl) | (simp [*, errW_none, errW_some] <;> rfl), by repeat (first | (with_reducible first | exact HB.out | apply below_alloc | apply pw_below_drewN | apply below_drew1 | refine below_set ?_ GE150.out) | exact HB.out)⟩
 ·rw [if_neg c4] at H
  have c4b0 : (t151 == 0) = false := beq_eq_false_iff_ne.mpr c4
  have c4b1 : (t151 != 0) = true := bne_iff_ne.mpr c4
  obtain rfl := Option.some.inj H
  go_enter Try.func16, Try.ntmps16
  go_wp2_with (first | ((with_reducible refine gate_dst (N := 2) rfl ?_); (try (refine gate_guard (by rfl) ?_; dsimp only)); refine box_event ?hg (N := 2) ?hd (cs := #[.int .i64 a0_0, .bool a0_1, .slice A0_2 l0_2.length c0_2]) (t := 28) ?hr ?_; (case hd => rfl); (case hg => rfl); (case hr => first | (go_simp; done) | (go_simp; rfl)); intro gb150 hg w19 hbox hb; have n0_ := Aside0.mk (below_step (zB HB.out) hb); have n1_ := Aside0.mk (hbox); have n2_ := Aside0.mk ((by rw [hg]; exact (below_size (zB HB.out)) : w.heap.size ≤ gb150)); have n3_ := Aside0.mk ((by rw [hg]; exact (below_size (zB HB.out)) : w.heap.size ≤ gb150)); clear HB; have HB := n0_; have BK150 := n1_; have GW150 := n2_; have GE150 := n3_; clear n0_ n1_ n2_ n3_; clear hb hbox hg; have hcz20_0 : w19.cell? ⟨gb150, 0, none⟩ = some (.int .i64 a0_0) := (blk_cell BK150.out 0).trans rfl; have hcz20_1 : w19.cell? ⟨gb150, 1, none⟩ = some (.bool a0_1) := (blk_cell BK150.out 1).trans rfl; have hcz20_2 : w19.cell? ⟨gb150, 2, none⟩ = some (.slice A0_2 l0_2.length c0_2) := (blk_cell BK150.out 2).trans rfl; have hfz20_0 := blk_frozen BK150.out 0; have hfz20_1 := blk_frozen BK150.out 1; have hfz20_2 := blk_frozen BK150.out 2) | ((with_reducible refine gate_callee (f := 24) rfl ?_); refine goesL_ (some 6) rfl rfl Try.func24 (by kernel_rfl) rfl #[.agg #[.int .i64 a0_0, .bool a0_1, .slice A0_2 l0_2.length c0_2]] rfl (by (try simp only [List.map_toArray, List.map_cons, List.map_nil]); first | done | rfl | (simp only [List.length_drop, List.length_take]; rfl)) ?_; (with_reducible refine (netfmt_Check.calls k a0_0 a0_1 _ _ l0_2 t151 _ ?side1 ?side2 A3.out).mono ?_); (case side1 => repeat (first | exact (Kd.C_below HR0_2.out HB.out) | (with_reducible refine Kd.C_alloc ?_ _) | (with_reducible refine Kd.C_drewN ?_ _) | (with_reducible refine Kd.C_drew ?_))); (case side2 => exact HC0_2.out); rintro e w21 ⟨rfl, hb⟩; refine ⟨_, rfl, ?_⟩; have n0_ := Aside0.mk (blk_below (g := gb150) (o := .cells #[.int .i64 a0_0, .bool a0_1, .slice A0_2 l0_2.length c0_2] 28 (0, 0)) (zK BK150.out) hb); have n1_ := Aside0.mk (below_step (zC HB.out GE150.out) hb); clear BK150; clear HB; have BK150 := n0_; have HB := n1_; clear n0_ n1_; (try clear hb); (try clear hb2); (try clear hk); (try clear hi)))
  go_ret
  exact ⟨by first | rfl | (simp [errW_none, errW_some] <;> rfl) | (simp [*, errW_none, errW_some] <;> rfl), by repeat (first | (with_reducible first | exact HB.out | apply below_alloc | apply pw_below_drewN | apply below_drew1 | refine below_set ?_ GE150.out) | exact HB.out)⟩
def bits_Mul64.f (a0 : Int) (a1 : Int) : Option (Int × Int) := some (IntKind.u64.wrap ((IntKind.u64.wrap ((IntKind.u64.wrap ((a0 / 4294967296) * (a1 / 4294967296))) + ((IntKind.u64.wrap ((IntKind.u64.wrap ((a0 / 4294967296) * (Go.bits .and .u64 a1 4294967295))) + ((IntKind.u64.wrap ((Go.bits .and .u64 a0 4294967295) * (Go.bits .and .u64 a1 4294967295))) / 4294967296))) / 4294967296))) + ((IntKind.u64.wrap ((Go.bits .and .u64 (IntKind.u64.wrap ((IntKind.u64.wrap ((a0 / 4294967296) * (Go.bits .and .u64 a1 4294967295))) + ((IntKind.u64.wrap ((Go.bits .and .u64 a0 4294967295) * (Go.bits .and .u64 a1 4294967295))) / 4294967296))) 4294967295) + (IntKind.u64.wrap ((Go.bits .and .u64 a0 4294967295) * (a1 / 4294967296))))) / 4294967296)), IntKind.u64.wrap (a0 * a1))
set_option maxHeartbeats 8000000 in
set_option maxRecDepth 100000 in
theorem bits_Mul64.calls (a0 : Int) (a1 : Int) (r1 : Int) (r2 : Int) (w : World) (h : bits_Mul64.f a0 a1 = some (r1, r2)) :
  Calls Try.prog 95 #[.int .u64 a0, .int .u64 a1] w fun e w' => e = .returned (.tuple #[.int .u64 r1, .int .u64 r2]) ∧ Drawn0 w w' := by
 have H : (some (IntKind.u64.wrap ((IntKind.u64.wrap ((IntKind.u64.wrap ((a0 / 4294967296) * (a1 / 4294967296))) + ((IntKind.u64.wrap ((IntKind.u64.wrap ((a0 / 4294967296) * (Go.bits .and .u64 a1 4294967295))) + ((IntKind.u64.wrap ((Go.bits .and .u64 a0 4294967295) * (Go.bits .and .u64 a1 4294967295))) / 4294967296))) / 4294967296))) + ((IntKind.u64.wrap ((Go.bits .and .u64 (IntKind.u64.wrap ((IntKind.u64.wrap ((a0 / 4294967296) * (Go.bits .and .u64 a1 4294967295))) + ((IntKind.u64.wrap ((Go.bits .and .u64 a0 4294967295) * (Go.bits .and .u64 a1 4294967295))) / 4294967296))) 4294967295) + (IntKind.u64.wrap ((Go.bits .and .u64 a0 4294967295) * (a1 / 4294967296))))) / 4294967296)), IntKind.u64.wrap (a0 * a1))) = some (r1, r2) := h
 clear h
 simp only [Option.some.injEq, Prod.mk.injEq] at H
 obtain ⟨rfl, rfl⟩ := H
 go_enter Try.func95, Try.ntmps95
 go_wp2
 go_ret2
 exact ⟨by first | rfl | (simp; done) | (simp [*]; done), by repeat (first | exact Drawn0.refl _ | apply Drawn0.step)⟩
def bits_Mul.f (a0 : Int) (a1 : Int) : Option (Int × Int) := (bits_Mul64.f a0 a1).bind fun bt153 => (some (bt153.1, bt153.2))
set_option maxHeartbeats 8000000 in
set_option maxRecDepth 100000 in
theorem bits_Mul.calls (a0 : Int) (a1 : Int) (r1 : Int) (r2 : Int) (w : World) (h : bits_Mul.f a0 a1 = some (r1, r2)) :
  Calls Try.prog 83 #[.int .u64 a0, .int .u64 a1] w fun e w' => e = .returned (.tuple #[.int .u64 r1, .int .u64 r2]) ∧ Drawn0 w w' := by
 have H : ((bits_Mul64.f a0 a1).bind fun bt153 => (some (bt153.1, bt153.2))) = some (r1, r2) := h
 clear h
 replace H := Option.bind_eq_some_iff.mp H
 obtain ⟨⟨t153, t154⟩, A30, H⟩ := H
 replace H : (some (t153, t154)) = some (r1, r2) := H
 have A3 := Aside0.mk A30
 clear A30
 simp only [Option.some.injEq, Prod.mk.injEq] at H
 obtain ⟨rfl, rfl⟩ := H
 go_enter Try.func83, Try.ntmps83
 go_wp2_with (first | ((with_reducible refine gate_callee (f := 95) rfl ?_); refine goesL_ (some 25) rfl rfl Try.func95 (by kernel_rfl) rfl #[.int .u64 a0, .int .u64 a1] rfl (by (try simp only [List.map_toArray, List.map_cons, List.map_nil]); first | done | rfl | (simp only [List.length_drop, List.length_take]; rfl)) ?_; (with_reducible refine (bits_Mul64.calls a0 a1 t153 t154 _ A3.out).mono ?_); rintro e w' ⟨rfl, ⟨nd, rfl⟩⟩; refine ⟨_, rfl, ?_⟩))
 go_ret2
 exact ⟨by first | rfl | (simp; done) | (simp [*]; done), by repeat (first | exact Drawn0.refl _ | apply Drawn0.step)⟩
end Go.Proofs.Ytdfagllncopmjaa.PrintC
end
section
namespace Go.Proofs.Ytdfagllncopmjaa.PrintLF
open Go.Proofs.Ytdfagllncopmjaa.PrintC Go.RowKit Go.Proofs.Ytdfagllncopmjaa.H Go.Proofs.YtdfagllncopmjaaW.PrintWords Go.Proofs.YtdfagllncopmjaaW.PrintLast Go.Proofs.YtdfagllncopmjaaW.PrintMore
attribute [local go_sem] max2_int min2_int max_two min_two max_three min_three max_four min_four
set_option linter.unusedVariables false
set_option linter.unusedSimpArgs false
theorem info3 : (Try.prog.info? 3).map (fun i => (i.zero, i.size, i.bytes)) = some (some (.int .i64 0), 1, 8) := by kernel_rfl
theorem info51 : (Try.prog.info? 51).map (fun i => (i.zero, i.size, i.bytes)) = some (some (.slice none 0 0), 1, 24) := by kernel_rfl
def rd_L2 (xs : List (List Int)) (i : Int) : (List Int) := xs.getD i.toNat ([] : List Int)
theorem at_L2 {w : World} {A : Option Addr} {n : Nat} {xs : List (List Int)} (h : Kd.C (Kd.slice 3 (Kd.int .i64)) w A n xs) (i : Int) (h0 : 0 ≤ i) (h1 : i < n) : ∃ ad A0 c0, A = some ad ∧ w.cell? (ad.add i.toNat) = some (.slice A0 (rd_L2 xs i).length c0) ∧ (rd_L2 xs i).length ≤ c0 ∧ (Kd.int .i64).C w A0 (rd_L2 xs i).length (rd_L2 xs i) := by
 obtain ⟨ad, c, e, _, hK, hc0⟩ := Kd.C_get h ([] : List Int) i h0 h1
 have hc : ∀ j u, c[j]? = some u → w.cell? (ad.add (i.toNat * 1 + j)) = some u := hc0
 obtain ⟨A0, c0, rfl, l0, g0⟩ := hK
 exact ⟨ad, A0, c0, e, by have hq := hc 0 _ rfl; rwa [Nat.mul_one, Nat.add_zero] at hq, l0, g0⟩
end Go.Proofs.Ytdfagllncopmjaa.PrintLF
end
section
namespace Go.Proofs.Ytdfagllncopmjaa.H
open Go Go.RowKit Go.Proofs.YtdfagllncopmjaaW.PrintLast
section
variable {P : Program} {ops : Array Oper} {Q : Exit → Act → World → Prop}
theorem gateV {o : Oper} {rest : List Oper} {a : Act} {W : World} {x : Nat} {az : Array Operand} {ts : Array TypeId} (_ho : o.op = .call { callee := .value (.tmp x), args := az, argTypes := ts }) (h : wpList P ops Q (o :: rest) a W) : wpList P ops Q (o :: rest) a W := h
theorem goesV {rest : List Oper} {oi : Oper} {a : Act} {w : World} (N : Option Tmp) (hd : oi.dst = N) (hg : oi.guard = none) {f : FuncId} {fn : Func} {x : Operand} {az : Array Operand} {ts : Array TypeId} (hf : P.funcs[f]? = some fn) (hname : (fn.name == "runtime.NumGoroutine") = false) (hb : fn.body.isSome = true) (args : Array Value) (first cap : Array Value)
  (hop : oi.op = .call { callee := .value x, args := az, argTypes := ts }) (hx : a.eval x = .func (.func f) first cap) (hargs : first ++ az.map a.eval ++ cap = args)
  (h : Calls P f args w fun e w' => ∃ v, e = .returned v ∧ wpList P ops Q rest (a.put N v) w') : wpList P ops Q (oi :: rest) a w := by
 refine wpList_plain hg fun K hK => ?_
 have he := enters_ hf hname hb args w
 have hrun : (execOp a.eval oi).run P w = .ok (.enter f args) w := by
  unfold execOp
  simp [hop, resolve, Deferred.ofValue, hx, invoke, hargs, he]
 unfold Oper.wp
 rw [hrun, Oper.upon_enter]
 refine h.mono fun e w'' hh => ?_
 obtain ⟨v, rfl, hk⟩ := hh
 subst hd
 exact hK _ _ hk
theorem goesVD {oi : Oper} {N : Option Tmp} {a : Act} {w : World} {K : Act → World → Prop} {f : FuncId} {fn : Func} {x : Operand} {az : Array Operand} {ts : Array TypeId} (hf : P.funcs[f]? = some fn) (hname : (fn.name == "runtime.NumGoroutine") = false) (hb : fn.body.isSome = true) (args : Array Value) (first cap : Array Value)
  (hw : Region.wanted oi (yielded ops a.tmps) = true) (hN : oi.dst = N) (hop : oi.op = .call { callee := .value x, args := az, argTypes := ts }) (hx : a.eval x = .func (.func f) first cap) (hargs : first ++ az.map a.eval ++ cap = args)
  (h : Calls P f args w fun e w' => ∃ v, e = .returned v ∧ K (a.put N v) w') : if Region.wanted oi (yielded ops a.tmps) = true then Oper.wp P oi a w K Q else K (a.put N undef) w := by
 refine call_ f args hw hN ?_ h
 have he := enters_ hf hname hb args w
 unfold execOp
 simp [hop, resolve, Deferred.ofValue, hx, invoke, hargs, he]
end
end Go.Proofs.Ytdfagllncopmjaa.H
end
section
namespace Go.Proofs.Ytdfagllncopmjaa.PrintLF
open Go.Proofs.Ytdfagllncopmjaa.PrintC Go.RowKit Go.Proofs.Ytdfagllncopmjaa.H Go.Proofs.YtdfagllncopmjaaW.PrintWords Go.Proofs.YtdfagllncopmjaaW.PrintLast Go.Proofs.YtdfagllncopmjaaW.PrintMore
attribute [local go_sem] max2_int min2_int max_two min_two max_three min_three max_four min_four
set_option linter.unusedVariables false
set_option linter.unusedSimpArgs false
def adj_lists.l0 : Nat → List (List Int) → List (S48) → Int → Int → Option ((List (List Int)))
 |0, _, _, _, _ => none
 |k + 1, x5, x13, x14, x15 => if x15 < x14 then (if 0 ≤ x15 then (if x15 < (x13.length : Int) then ((adj_from.f ((rd_T48 x13 x15).f0) ((rd_T48 x13 x15).f1) ((rd_T48 x13 x15).f2) ((rd_T48 x13 x15).f3)).bind fun t107 => (if 0 ≤ t107 then (if t107 < (x5.length : Int) then (if (rd_L2 x5 t107).length < 17592186044416 then (adj_lists.l0 k (x5.set (t107 : Int).toNat ((rd_L2 x5 t107) ++ [x15])) x13 x14 (wrap64 (x15 + 1))) else (none)) else (none)) else (none))) else (none)) else (none)) else (some x5)
def adj_lists.f (k : Nat) (a0_0 : Int) (a0_1 : Bool) (l0_2 : List (S48)) : Option ((List (List Int))) := if 0 ≤ a0_0 then (if (a0_0 : Int).toNat ≤ 11728124029610 then (adj_lists.l0 k (List.replicate (a0_0 : Int).toNat []) l0_2 (l0_2.length : Int) 0) else (none)) else (none)
theorem adj_lists.mono_l : ∀ k, (∀ y0 y1 y2 y3, LeO (adj_lists.l0 k y0 y1 y2 y3) (adj_lists.l0 (k + 1) y0 y1 y2 y3))
 |0 => fun _ _ _ _ r h => by simp [adj_lists.l0] at h
 |k + 1 => by
  have ih0 := adj_lists.mono_l k
  ·intro y0 y1 y2 y3
   unfold adj_lists.l0
   repeat' first
   |(with_reducible exact ih0 _ _ _ _)
   |(with_reducible exact LeO.refl _)
   |(with_reducible exact LeO.none _)
   |(with_reducible refine LeO.ite ?_ ?_)
   |(with_reducible refine LeO.bind ?_ (fun _ => ?_))
   |exact ih0 _ _ _ _
   |exact LeO.none _
   |refine LeO.ite ?_ ?_
   |refine LeO.bind ?_ (fun _ => ?_)
theorem adj_lists.mono : ∀ a0 a1 a2 k, LeO (adj_lists.f k a0 a1 a2) (adj_lists.f (k + 1) a0 a1 a2) := by
 intro a0 a1 a2 k
 have ih0 := adj_lists.mono_l k
 unfold adj_lists.f
 repeat' first
   |(with_reducible exact ih0 _ _ _ _)
   |(with_reducible exact LeO.refl _)
   |(with_reducible exact LeO.none _)
   |(with_reducible refine LeO.ite ?_ ?_)
   |(with_reducible refine LeO.bind ?_ (fun _ => ?_))
   |exact ih0 _ _ _ _
   |exact LeO.none _
   |refine LeO.ite ?_ ?_
   |refine LeO.bind ?_ (fun _ => ?_)
set_option maxHeartbeats 8000000 in
set_option maxRecDepth 100000 in
theorem adj_lists.calls (k : Nat) (a0_0 : Int) (a0_1 : Bool) (A0_2 : Option Addr) (c0_2 : Nat) (l0_2 : List (S48)) (r : List (List Int)) (w : World) (hr0_2 : Kd.C k48 w A0_2 l0_2.length l0_2) (hc0_2 : l0_2.length ≤ c0_2) (h : adj_lists.f k a0_0 a0_1 l0_2 = some r) :
  Calls Try.prog 56 #[.agg #[.int .i64 a0_0, .bool a0_1, .slice A0_2 l0_2.length c0_2], .func (.func 57) #[] #[]] w fun e w' => ∃ v0_ : Value, e = .returned (v0_) ∧ Kd.S (Kd.slice 3 (Kd.int .i64)) 51 w' w.heap.size (fun _ => True) v0_ r ∧ Below w.heap.size w w' := by
 have hu28 := Try.underlying28
 have hu48 := Try.underlying48
 have HR0_2 := Aside0.mk hr0_2
 have HC0_2 := Aside0.mk hc0_2
 clear hr0_2 hc0_2
 have HB := Aside0.mk (Below.refl w.heap.size w)
 have H : (if 0 ≤ a0_0 then (if (a0_0 : Int).toNat ≤ 11728124029610 then (adj_lists.l0 k (List.replicate (a0_0 : Int).toNat []) l0_2 (l0_2.length : Int) 0) else (none)) else (none)) = some r := h
 clear h
 by_cases c2 : 0 ≤ a0_0
 ·rw [if_pos c2] at H
  have c2b0 := eq_true c2
  have c2b1 : decide (0 ≤ a0_0) = true := decide_eq_true c2
  clear c2
  by_cases c3 : (a0_0 : Int).toNat ≤ 11728124029610
  ·rw [if_pos c3] at H
   have c3b0 := eq_true c3
   have c3b1 : decide ((a0_0 : Int).toNat ≤ 11728124029610) = true := decide_eq_true c3
   clear c3
   obtain ⟨y102, hy102⟩ : ∃ y_ : List (List Int), y_ = (List.replicate (a0_0 : Int).toNat []) := ⟨_, rfl⟩
   replace H : (adj_lists.l0 k y102 l0_2 (l0_2.length : Int) 0) = some r := by first | (rw [hy102]; with_reducible exact H) | (have H2_ := (Option.bind_some _ _).symm.trans H; rw [hy102]; with_reducible exact H2_) | (have H2_ := (Option.bind_some _ _).symm.trans H; with_reducible exact H2_) | with_reducible exact H | (rw [hy102]; exact H) | exact H
   have Ny102 := Aside0.mk hy102
   clear hy102
   have H' := Aside0.mk H
   clear H
   go_enter Try.func56, Try.ntmps56
   go_wp2_with (first | ((with_reducible refine gate_dst (N := 2) rfl ?_); refine box_event ?hg (N := 2) ?hd (cs := #[.int .i64 a0_0, .bool a0_1, .slice A0_2 l0_2.length c0_2]) (t := 28) ?hr ?_; (case hd => rfl); (case hg => rfl); (case hr => first | (go_simp; done) | (go_simp; rfl)); intro gb101 hg w4 hbox hb; have n0_ := Aside0.mk (below_step (zB HB.out) hb); have n1_ := Aside0.mk (hbox); have n2_ := Aside0.mk ((by rw [hg]; exact (below_size (zB HB.out)) : w.heap.size ≤ gb101)); have n3_ := Aside0.mk ((by rw [hg]; exact (below_size (zB HB.out)) : w.heap.size ≤ gb101)); clear HB; have HB := n0_; have BK101 := n1_; have GW101 := n2_; have GE101 := n3_; clear n0_ n1_ n2_ n3_; clear hb hbox hg; have hcz5_0 : w4.cell? ⟨gb101, 0, none⟩ = some (.int .i64 a0_0) := (blk_cell BK101.out 0).trans rfl; have hcz5_1 : w4.cell? ⟨gb101, 1, none⟩ = some (.bool a0_1) := (blk_cell BK101.out 1).trans rfl; have hcz5_2 : w4.cell? ⟨gb101, 2, none⟩ = some (.slice A0_2 l0_2.length c0_2) := (blk_cell BK101.out 2).trans rfl; have hfz5_0 := blk_frozen BK101.out 0; have hfz5_1 := blk_frozen BK101.out 1; have hfz5_2 := blk_frozen BK101.out 2) | ((with_reducible refine gate_dst (N := 11) rfl ?_); refine Kd.S_make (Kd.slice 3 (Kd.int .i64)) _ 51 rfl (N := 11) rfl 90 _ _ rfl a0_0 rfl rfl Try.underlying90 (.slice none 0 0) 24 info51 rfl (by decide) (by omega) [] (ok := fun _ => True) (okp := fun _ => True) ⟨_, rfl, Kd.R_nil _ _ _ _ _⟩ (fun _ hk => hk) trivial (of_decide_eq_true (by assumption)) (Nat.le_trans (Nat.mul_le_mul_right _ (of_decide_eq_true (by assumption) : a0_0.toNat ≤ 11728124029610)) (by omega)) (Below.refl _ _) (Nat.le_refl _) ?_; intro v103 w6 ho7 hb hg_ hnew_; clear hg_ hnew_; (first | rw [← Ny102.out] at ho7 | (simp only [Int.reduceToNat] at ho7; rw [← Ny102.out] at ho7)); have n0_ := Aside0.mk (Kd.S_lower ho7 (below_size (zC HB.out GE101.out))); have n1_ := Aside0.mk (blk_below (g := gb101) (o := .cells #[.int .i64 a0_0, .bool a0_1, .slice A0_2 l0_2.length c0_2] 28 (0, 0)) (zK BK101.out) hb); have n2_ := Aside0.mk (below_step (zC HB.out GE101.out) hb); clear BK101; clear HB; have HO104 := n0_; have BK101 := n1_; have HB := n2_; clear n0_ n1_ n2_; clear hb ho7; have hcz8_0 : w6.cell? ⟨gb101, 0, none⟩ = some (.int .i64 a0_0) := (blk_cell BK101.out 0).trans rfl; have hcz8_1 : w6.cell? ⟨gb101, 1, none⟩ = some (.bool a0_1) := (blk_cell BK101.out 1).trans rfl; have hcz8_2 : w6.cell? ⟨gb101, 2, none⟩ = some (.slice A0_2 l0_2.length c0_2) := (blk_cell BK101.out 2).trans rfl; have hfz8_0 := blk_frozen BK101.out 0; have hfz8_1 := blk_frozen BK101.out 1; have hfz8_2 := blk_frozen BK101.out 2))
   go_loopg [15] k (fun kq v15 w' => ∃ (x5_1 : List (List Int)) (x15_1 : Int), v15 = .int .i64 x15_1 ∧ Aside0 (adj_lists.l0 kq x5_1 l0_2 (l0_2.length : Int) x15_1 = some r) ∧ Aside0 (kq ≤ k) ∧ Aside0 (Kd.S (Kd.slice 3 (Kd.int .i64)) 51 w' w.heap.size (fun _ => True) v103 x5_1) ∧ Aside0 (w'.heap[gb101]? = some (.cells #[.int .i64 a0_0, .bool a0_1, (.slice A0_2 l0_2.length c0_2)] 28 (0, 0))) ∧ Aside0 (Below w.heap.size w w'))
   case atStart => exact ⟨(y102), (0), (by first | rfl | (simp; done) | (simp [*]; done)), H', ⟨Nat.le_refl _⟩, ⟨by (with_reducible repeat (first | apply Kd.S_alloc | apply Kd.S_drewN | apply Kd.S_drew)); exact HO104.out⟩, ⟨by (with_reducible repeat (first | refine blk_drewN ?_ _ | refine blk_drew ?_ | refine blk_alloc ?_ _)); exact BK101.out⟩, ⟨by repeat (first | (with_reducible first | exact HB.out | apply below_alloc | apply pw_below_drewN | apply below_drew1 | refine below_set ?_ GE101.out) | exact HB.out)⟩⟩
   case round =>
    clear H'
    try clear c2
    try clear c2b0
    try clear c2b1
    try clear p2
    try clear c3
    try clear c3b0
    try clear c3b1
    try clear c5
    try clear hcz5_0
    try clear hcz5_1
    try clear hcz5_2
    try clear hcz8_0
    try clear hcz8_1
    try clear hcz8_2
    try clear hfz5_0
    try clear hfz5_1
    try clear hfz5_2
    try clear hfz8_0
    try clear hfz8_1
    try clear hfz8_2
    obtain ⟨x5_1, x15_1, rfl, HA, HK1, HO_5, BK101, HB⟩ := hrel
    cases gk with
    |zero => exact absurd HA.out (by simp [adj_lists.l0])
    |succ k1 =>
     have H := HA.out
     clear HA
     simp only [adj_lists.l0] at H
     by_cases c9 : x15_1 < (l0_2.length : Int)
     ·rw [if_pos c9] at H
      have c9b0 : decide (x15_1 < (l0_2.length : Int)) = true := decide_eq_true c9
      clear c9
      by_cases c10 : 0 ≤ x15_1
      ·rw [if_pos c10] at H
       have c10b0 : decide (0 ≤ x15_1) = true := decide_eq_true c10
       clear c10
       by_cases c11 : x15_1 < (l0_2.length : Int)
       ·rw [if_pos c11] at H
        have c11b0 : decide (x15_1 < (l0_2.length : Int)) = true := decide_eq_true c11
        clear c11
        replace H := Option.bind_eq_some_iff.mp H
        obtain ⟨t107, A120, H⟩ := H
        replace H : (if 0 ≤ t107 then (if t107 < (x5_1.length : Int) then (if (rd_L2 x5_1 t107).length < 17592186044416 then (adj_lists.l0 k1 (x5_1.set (t107 : Int).toNat ((rd_L2 x5_1 t107) ++ [x15_1])) l0_2 (l0_2.length : Int) (wrap64 (x15_1 + 1))) else (none)) else (none)) else (none)) = some r := H
        have A12 := Aside0.mk A120
        clear A120
        by_cases c13 : 0 ≤ t107
        ·rw [if_pos c13] at H
         have c13b0 : decide (0 ≤ t107) = true := decide_eq_true c13
         clear c13
         by_cases c14 : t107 < (x5_1.length : Int)
         ·rw [if_pos c14] at H
          have c14b0 : decide (t107 < (x5_1.length : Int)) = true := decide_eq_true c14
          clear c14
          by_cases c15 : (rd_L2 x5_1 t107).length < 17592186044416
          ·rw [if_pos c15] at H
           have LMc15 := Aside0.mk c15
           clear c15
           obtain ⟨y109, hy109⟩ : ∃ y_ : List Int, y_ = ((rd_L2 x5_1 t107) ++ [x15_1]) := ⟨_, rfl⟩
           replace H : (adj_lists.l0 k1 (x5_1.set (t107 : Int).toNat y109) l0_2 (l0_2.length : Int) (wrap64 (x15_1 + 1))) = some r := by first | (rw [hy109]; with_reducible exact H) | (have H2_ := (Option.bind_some _ _).symm.trans H; rw [hy109]; with_reducible exact H2_) | (have H2_ := (Option.bind_some _ _).symm.trans H; with_reducible exact H2_) | with_reducible exact H | (rw [hy109]; exact H) | exact H
           have Ny109 := Aside0.mk hy109
           clear hy109
           obtain ⟨y112, hy112⟩ : ∃ y_ : List (List Int), y_ = (x5_1.set (t107 : Int).toNat y109) := ⟨_, rfl⟩
           replace H : (adj_lists.l0 k1 y112 l0_2 (l0_2.length : Int) (wrap64 (x15_1 + 1))) = some r := by first | (rw [hy112]; with_reducible exact H) | (have H2_ := (Option.bind_some _ _).symm.trans H; rw [hy112]; with_reducible exact H2_) | (have H2_ := (Option.bind_some _ _).symm.trans H; with_reducible exact H2_) | with_reducible exact H | (rw [hy112]; exact H) | exact H
           have Ny112 := Aside0.mk hy112
           clear hy112
           have H' := Aside0.mk H
           clear H
           have p105 : 0 ≤ (x15_1 : Int) := of_decide_eq_true (by assumption)
           have q105 : x15_1 < (l0_2.length : Int) := of_decide_eq_true (by assumption)
           obtain ⟨ad105, e105, hx105_0, hx105_1, hx105_2, hx105_3⟩ := at_T48 HR0_2.out x15_1 p105 q105
           cases e105
           replace hx105_0 := (HB.out.cell (World.block_lt_of_cell? w _ hx105_0)).trans hx105_0
           replace hx105_1 := (HB.out.cell (World.block_lt_of_cell? w _ hx105_1)).trans hx105_1
           replace hx105_2 := (HB.out.cell (World.block_lt_of_cell? w _ hx105_2)).trans hx105_2
           replace hx105_3 := (HB.out.cell (World.block_lt_of_cell? w _ hx105_3)).trans hx105_3
           replace p105 := eq_true p105
           replace q105 := eq_true q105
           go_wp2_with (first | ((with_reducible refine gate_dst (N := 7) rfl ?_); refine box_event ?hg (N := 7) ?hd (cs := #[.int .i64 0, .int .i64 0, .int .i64 0, .int .i64 0]) (t := 48) ?hr ?_; (case hd => rfl); (case hg => rfl); (case hr => first | (go_simp; done) | (go_simp; rfl)); intro gb106 hg w17 hbox hb; have n0_ := Aside0.mk (Kd.S_below (by (with_reducible repeat (first | apply Kd.S_alloc | apply Kd.S_drewN | apply Kd.S_drew)); exact HO_5.out) hb); have n1_ := Aside0.mk (blk_below (g := gb101) (o := .cells #[.int .i64 a0_0, .bool a0_1, .slice (some ad105) l0_2.length c0_2] 28 (0, 0)) (zK BK101.out) hb); have n2_ := Aside0.mk (below_step (zC HB.out GE101.out) hb); have n3_ := Aside0.mk (hbox); have n4_ := Aside0.mk ((by rw [hg]; exact (below_size (zC HB.out GE101.out)) : w.heap.size ≤ gb106)); have n5_ := Aside0.mk ((by rw [hg]; exact (below_size (zC HB.out GE101.out)) : w.heap.size ≤ gb106)); have n6_ := Aside0.mk ((by rw [hg]; exact Nat.ne_of_lt (blk_lt (g := gb101) (o := .cells #[.int .i64 a0_0, .bool a0_1, .slice (some ad105) l0_2.length c0_2] 28 (0, 0)) (zK BK101.out)) : gb101 ≠ gb106)); have n7_ := Aside0.mk ((by rw [hg]; exact Nat.ne_of_gt (blk_lt (g := gb101) (o := .cells #[.int .i64 a0_0, .bool a0_1, .slice (some ad105) l0_2.length c0_2] 28 (0, 0)) (zK BK101.out)) : gb106 ≠ gb101)); clear HO_5; clear BK101; clear HB; have HO_5 := n0_; have BK101 := n1_; have HB := n2_; have BK106 := n3_; have GW106 := n4_; have GE106 := n5_; have NB101_106 := n6_; have NB106_101 := n7_; clear n0_ n1_ n2_ n3_ n4_ n5_ n6_ n7_; clear hb hbox hg; have hnb18 := NB106_101.out; have hnc18 := NB101_106.out; have hcz19_0 : w17.cell? ⟨gb106, 0, none⟩ = some (.int .i64 0) := (blk_cell BK106.out 0).trans rfl; have hcz19_1 : w17.cell? ⟨gb106, 1, none⟩ = some (.int .i64 0) := (blk_cell BK106.out 1).trans rfl; have hcz19_2 : w17.cell? ⟨gb106, 2, none⟩ = some (.int .i64 0) := (blk_cell BK106.out 2).trans rfl; have hcz19_3 : w17.cell? ⟨gb106, 3, none⟩ = some (.int .i64 0) := (blk_cell BK106.out 3).trans rfl; have hfz19_0 := blk_frozen BK106.out 0; have hfz19_1 := blk_frozen BK106.out 1; have hfz19_2 := blk_frozen BK106.out 2; have hfz19_3 := blk_frozen BK106.out 3) | ((with_reducible refine gateV (x := 20) rfl ?_); refine goesV (some 22) rfl rfl Try.func57 (by kernel_rfl) rfl #[.agg #[.int .i64 ((rd_T48 l0_2 x15_1).f0), .int .i64 ((rd_T48 l0_2 x15_1).f1), .int .i64 ((rd_T48 l0_2 x15_1).f2), .int .i64 ((rd_T48 l0_2 x15_1).f3)]] #[] #[] rfl (by rfl) (by (try simp only [List.map_toArray, List.map_cons, List.map_nil, Array.empty_append, Array.append_empty]); first | done | rfl | (simp only [List.length_drop, List.length_take]; rfl)) ?_; (with_reducible refine (adj_from.calls ((rd_T48 l0_2 x15_1).f0) ((rd_T48 l0_2 x15_1).f1) ((rd_T48 l0_2 x15_1).f2) ((rd_T48 l0_2 x15_1).f3) t107 _ A12.out).mono ?_); rintro e w20 ⟨rfl, hb⟩; refine ⟨_, rfl, ?_⟩; have n0_ := Aside0.mk (Kd.S_below (by (with_reducible repeat (first | apply Kd.S_alloc | apply Kd.S_drewN | apply Kd.S_drew)); exact (Kd.S_mono (Kd.S_far (p := ⟨gb106, 3, none⟩) (Kd.S_far (p := ⟨gb106, 2, none⟩) (Kd.S_far (p := ⟨gb106, 1, none⟩) (Kd.S_far (p := ⟨gb106, 0, none⟩) (Kd.S_types HO_5.out BK106.out (by decide)) (fun _ hk => hk.2) (.int .i64 ((rd_T48 l0_2 x15_1).f0))) (fun _ hk => hk.2) (.int .i64 ((rd_T48 l0_2 x15_1).f1))) (fun _ hk => hk.2) (.int .i64 ((rd_T48 l0_2 x15_1).f2))) (fun _ hk => hk.2) (.int .i64 ((rd_T48 l0_2 x15_1).f3))) (fun _ h_ => h_.1))) hb); have n1_ := Aside0.mk (blk_below (g := gb101) (o := .cells #[.int .i64 a0_0, .bool a0_1, .slice (some ad105) l0_2.length c0_2] 28 (0, 0)) (by (with_reducible repeat (first | refine blk_drewN ?_ _ | refine blk_drew ?_ | refine blk_alloc ?_ _)); refine blk_far ?_ NB101_106.out _; (with_reducible repeat (first | refine blk_drewN ?_ _ | refine blk_drew ?_ | refine blk_alloc ?_ _)); refine blk_far ?_ NB101_106.out _; (with_reducible repeat (first | refine blk_drewN ?_ _ | refine blk_drew ?_ | refine blk_alloc ?_ _)); refine blk_far ?_ NB101_106.out _; (with_reducible repeat (first | refine blk_drewN ?_ _ | refine blk_drew ?_ | refine blk_alloc ?_ _)); refine blk_far ?_ NB101_106.out _; (with_reducible repeat (first | refine blk_drewN ?_ _ | refine blk_drew ?_ | refine blk_alloc ?_ _)); exact BK101.out) hb); have n2_ := Aside0.mk (blk_below (g := gb106) (o := .cells #[.int .i64 ((rd_T48 l0_2 x15_1).f0), .int .i64 ((rd_T48 l0_2 x15_1).f1), .int .i64 ((rd_T48 l0_2 x15_1).f2), .int .i64 ((rd_T48 l0_2 x15_1).f3)] 48 (0, 0)) (by (with_reducible repeat (first | refine blk_drewN ?_ _ | refine blk_drew ?_ | refine blk_alloc ?_ _)); refine blk_put (cs := #[.int .i64 ((rd_T48 l0_2 x15_1).f0), .int .i64 ((rd_T48 l0_2 x15_1).f1), .int .i64 ((rd_T48 l0_2 x15_1).f2), .int .i64 0]) ?_ 3 _ rfl; (with_reducible repeat (first | refine blk_drewN ?_ _ | refine blk_drew ?_ | refine blk_alloc ?_ _)); refine blk_put (cs := #[.int .i64 ((rd_T48 l0_2 x15_1).f0), .int .i64 ((rd_T48 l0_2 x15_1).f1), .int .i64 0, .int .i64 0]) ?_ 2 _ rfl; (with_reducible repeat (first | refine blk_drewN ?_ _ | refine blk_drew ?_ | refine blk_alloc ?_ _)); refine blk_put (cs := #[.int .i64 ((rd_T48 l0_2 x15_1).f0), .int .i64 0, .int .i64 0, .int .i64 0]) ?_ 1 _ rfl; (with_reducible repeat (first | refine blk_drewN ?_ _ | refine blk_drew ?_ | refine blk_alloc ?_ _)); refine blk_put (cs := #[.int .i64 0, .int .i64 0, .int .i64 0, .int .i64 0]) ?_ 0 _ rfl; (with_reducible repeat (first | refine blk_drewN ?_ _ | refine blk_drew ?_ | refine blk_alloc ?_ _)); exact BK106.out) hb); have n3_ := Aside0.mk (below_step (by repeat (first | (with_reducible first | exact HB.out | apply below_alloc | apply pw_below_drewN | apply below_drew1 | refine below_set ?_ GE101.out | refine below_set ?_ GE106.out) | exact HB.out)) hb); clear HO_5; clear BK101; clear BK106; clear HB; have HO_5 := n0_; have BK101 := n1_; have BK106 := n2_; have HB := n3_; clear n0_ n1_ n2_ n3_; (try clear hb); (try clear hb2); (try clear hk); (try clear hi); obtain ⟨Ao21, co21, eo21⟩ := Kd.S_slice HO_5.out; subst eo21; have p108 : 0 ≤ (t107 : Int) := of_decide_eq_true (by assumption); have q108 : t107 < (x5_1.length : Int) := of_decide_eq_true (by assumption); obtain ⟨ad108, A108_0, c108_0, e108, hx108_0, hl108_0, hi108_0⟩ := at_L2 (Kd.S_reads' HO_5.out).2.2 t107 p108 q108; cases e108; obtain ⟨ce108, hce108, hMe108, hcc108⟩ := Kd.S_get HO_5.out [] t107 p108 (by first | exact q108 | exact of_decide_eq_true (by assumption) | (have e_ := (Kd.S_reads' HO_5.out).1; omega)); obtain ⟨ve108_0, rfl, ge108_0⟩ := hMe108; have hv108_0 := hcc108 0 _ rfl; rw [Nat.add_zero, show ((Kd.slice 3 (Kd.int .i64))).sz = 1 from rfl, Nat.mul_one] at hv108_0; replace hv108_0 := Option.some.inj (hv108_0.symm.trans hx108_0); rw [hv108_0] at ge108_0; have HL108_0 := Aside0.mk (show Kd.R (Kd.int .i64) 3 _ _ _ _ (rd_L2 x5_1 t107) from ge108_0); clear hv108_0 ge108_0; have HX108_0 := Aside0.mk hx108_0; clear hcc108 hce108; have HR108_0 := Aside0.mk hi108_0; have HC108_0 := Aside0.mk hl108_0; clear hi108_0 hl108_0; replace p108 := eq_true p108; replace q108 := eq_true q108; obtain ⟨go22, co22, eo22, gb22, gl22, cl22, HG22⟩ := Kd.S_form HO_5.out (by have h_ : (t107 : Int) < ((x5_1.length : Int) : Int) := of_decide_eq_true (by assumption); have h2_ : 0 ≤ (t107 : Int) := (of_decide_eq_true (by assumption)); omega); (first | cases eo22 | (injection eo22 with ea_ en_ ec_; (first | subst ea_ | (injection ea_ with ea_; subst ea_)); subst ec_; clear en_)); have GB22 := Aside0.mk gb22; have GG22 := Aside0.mk HG22; clear gb22 gl22 HG22; (first | simp only [add_plain] at hx108_0 | skip); obtain ⟨oki22, ce22, hcl22, hM22, hcc22, _, _, hH22⟩ := Kd.S_elem HO_5.out [] (t107 : Int) (of_decide_eq_true (by assumption)) (by have h_ : (t107 : Int) < ((x5_1.length : Int) : Int) := of_decide_eq_true (by assumption); first | exact h_ | (have e_ := (Kd.S_reads' HO_5.out).1; omega) | simpa using h_); obtain ⟨ve22_0, rfl, ge22_0⟩ := hM22; have hv22 := hcc22 0 _ rfl; have hX22 := HX108_0.out; (try simp only [add_plain] at hX22); (try simp only [Nat.add_zero] at hv22); (try rw [show ((Kd.slice 3 (Kd.int .i64))).sz = 1 from rfl, Nat.mul_one] at hv22); replace hv22 := Option.some.inj (hv22.symm.trans hX22); subst hv22; clear hX22 hcc22 hcl22; have UU22 := Aside0.mk (show Kd.R (Kd.int .i64) 3 _ w.heap.size oki22 (.slice A108_0 (rd_L2 x5_1 t107).length c108_0) (rd_L2 x5_1 t107) from ge22_0); have HH22 := Aside0.mk hH22; have HN22 := Aside0.mk (Kd.S_reads' HO_5.out).1; clear hH22 ge22_0) | ((with_reducible refine gate_builtin (b := .append) (xs := #[.tmp 28, .tmp 30]) rfl ?_); at_builtin; refine Kd.R_append (Kd.int .i64) (w0 := w) w.heap.size rfl (.tmp 28) (.tmp 30) 51 3 (.int .i64 0) 8 rfl Try.underlying51 info3 rfl (by decide) (by omega) (.slice A108_0 (rd_L2 x5_1 t107).length c108_0) (rd_L2 x5_1 t107) x15_1 [.int .i64 x15_1] (fun k_ => oki22 k_ ∨ ((fun _ => True)) k_ ∧ w20.heap.size ≤ k_) (fun _ => False) rfl rfl ?aP (fun _ hk => hk.elim) ?aF ?aO ?aB ?aS ?aL ?_; (case aP => exact rfl); (case aB => exact (by repeat (first | (with_reducible first | exact HB.out | apply below_alloc | apply pw_below_drewN | apply below_drew1 | refine below_set ?_ GE101.out | refine below_set ?_ GE106.out) | exact HB.out))); (case aF => exact (fun k_ hk => .inr ⟨trivial, hk⟩)); (case aO => exact (by (with_reducible repeat (first | apply Kd.R_alloc | apply Kd.R_drewN | apply Kd.R_drew)); exact Kd.R_mono UU22.out (fun _ hk => .inl hk))); (case aS => exact (below_size (by repeat (first | (with_reducible first | exact HB.out | apply below_alloc | apply pw_below_drewN | apply below_drew1 | refine below_set ?_ GE101.out | refine below_set ?_ GE106.out) | exact HB.out)))); (case aL => have := LMc15.out; omega); intro v110 w23 ho hb hg hat; rw [← Ny109.out] at ho; have n0_ := Aside0.mk (blk_grown (g := gb101) (o := .cells #[.int .i64 a0_0, .bool a0_1, .slice (some ad105) l0_2.length c0_2] 28 (0, 0)) (zK BK101.out) hg (Kd.R_ne HL108_0.out BK101.out (by decide))); have n1_ := Aside0.mk (blk_grown (g := gb106) (o := .cells #[.int .i64 ((rd_T48 l0_2 x15_1).f0), .int .i64 ((rd_T48 l0_2 x15_1).f1), .int .i64 ((rd_T48 l0_2 x15_1).f2), .int .i64 ((rd_T48 l0_2 x15_1).f3)] 48 (0, 0)) (zK BK106.out) hg (Kd.R_ne HL108_0.out BK106.out (by decide))); have n2_ := Aside0.mk (hb); have n3_ := Aside0.mk (Kd.H_grown (Kd.H_widen (by repeat (first | exact HH22.out | refine Kd.H_alloc ?_ _ | refine Kd.H_drewN ?_ _ | refine Kd.H_drew ?_))) hg (fun k_ e_ => .inl (UU22.out.1 k_ e_))); have n4_ := Aside0.mk (ho); clear BK101; clear BK106; clear HB; clear HH22; clear HO_5; clear UU22; clear HL108_0; have BK101 := n0_; have BK106 := n1_; have HB := n2_; have HH22 := n3_; have HO111 := n4_; clear n0_ n1_ n2_ n3_ n4_; clear ho hb hg hat; have p16 : 0 ≤ (t107 : Int) := of_decide_eq_true (by assumption); have q16 : (t107 : Int) < ((x5_1.length : Int) : Int) := of_decide_eq_true (by assumption); replace p16 := eq_true p16; replace q16 := eq_true q16; obtain ⟨Ao26, co26, eo26⟩ := Kd.R_slice HO111.out; subst eo26; obtain ⟨_, _, hraw24, _, _, hcc24, _⟩ := Kd.H_raw HH22.out (of_decide_eq_true (by assumption)) (by have h_ : (t107 : Int) < ((x5_1.length : Int) : Int) := of_decide_eq_true (by assumption); first | exact h_ | (have e_ := (HN22.out); omega) | simpa using h_); obtain ⟨_, hfr24⟩ := Kd.H_at HH22.out (of_decide_eq_true (by assumption)) (by have h_ : (t107 : Int) < ((x5_1.length : Int) : Int) := of_decide_eq_true (by assumption); first | exact h_ | (have e_ := (HN22.out); omega) | simpa using h_); have hx24_0 := hcc24 0 _ rfl; have hf24_0 := hfr24 0; (try simp only [Nat.add_zero] at hx24_0 hf24_0); (try rw [show ((Kd.slice 3 (Kd.int .i64))).sz = 1 from rfl, Nat.mul_one] at hx24_0); (try rw [show ((Kd.slice 3 (Kd.int .i64))).sz = 1 from rfl, Nat.mul_one] at hf24_0); have HP24 := Kd.S_seg0 HH22.out (of_decide_eq_true (by assumption)) (by have h_ : (t107 : Int) < ((x5_1.length : Int) : Int) := of_decide_eq_true (by assumption); first | exact h_ | (have e_ := (HN22.out); omega) | simpa using h_) (seg := [.slice Ao26 y109.length co26]) (j := 0) (show 1 ≤ 1 from by decide) (x' := y109) (Kd.M_row HO111.out) (fun _ hk => hk); (try simp only [show ((Kd.slice 3 (Kd.int .i64))).sz = 1 from rfl, Nat.mul_one, Nat.add_zero] at HP24); clear hcc24 hfr24) | ((with_reducible refine gate_store (t := 51) (p := 32) rfl ?_); refine store_event (t := 51) (p := 32) (v := ?vo_w25) (w1 := (w23.setCell ⟨go22, (t107 : Int).toNat, none⟩ (.slice Ao26 y109.length co26))) ?hg ?ho ?hn ?hr ?_; (case ho => rfl); (case hg => rfl); (case hn => rfl); (case hr => first | (go_simp; done) | (go_simp; rfl)); intro w25 hw; have hg : w23.grownBy w25 (some go22) := (by rw [hw]; exact HP24.2); have hp_ : Kd.S (Kd.slice 3 (Kd.int .i64)) 51 w25 w.heap.size (fun _ => True) (.slice (some ⟨go22, 0, none⟩) x5_1.length co21) y112 := (by rw [hw, Ny112.out]; exact HP24.1); clear HP24; have n0_ := Aside0.mk (blk_grown (g := gb101) (o := .cells #[.int .i64 a0_0, .bool a0_1, .slice (some ad105) l0_2.length c0_2] 28 (0, 0)) (zK BK101.out) hg (Kd.R_ne hraw24 BK101.out (by decide))); have n1_ := Aside0.mk (blk_grown (g := gb106) (o := .cells #[.int .i64 ((rd_T48 l0_2 x15_1).f0), .int .i64 ((rd_T48 l0_2 x15_1).f1), .int .i64 ((rd_T48 l0_2 x15_1).f2), .int .i64 ((rd_T48 l0_2 x15_1).f3)] 48 (0, 0)) (zK BK106.out) hg (Kd.R_ne hraw24 BK106.out (by decide))); have n2_ := Aside0.mk ((by rw [hw]; exact below_set HB.out GB22.out : Below w.heap.size w w25)); have n3_ := Aside0.mk (hp_); clear BK101; clear BK106; clear HB; clear HO111; clear HH22; have BK101 := n0_; have BK106 := n1_; have HB := n2_; have HO_5 := n3_; clear n0_ n1_ n2_ n3_; clear hg hw hp_ hraw24))
           go_roundg k1
           case measure => have := HK1.out; omega
           case rel => exact ⟨(y112), (wrap64 (x15_1 + 1)), (by first | rfl | (simp; done) | (simp [*]; done)), H', ⟨by have := HK1.out; omega⟩, ⟨by (with_reducible repeat (first | apply Kd.S_alloc | apply Kd.S_drewN | apply Kd.S_drew)); exact HO_5.out⟩, ⟨by (with_reducible repeat (first | refine blk_drewN ?_ _ | refine blk_drew ?_ | refine blk_alloc ?_ _)); exact BK101.out⟩, ⟨by repeat (first | (with_reducible first | exact HB.out | apply below_alloc | apply pw_below_drewN | apply below_drew1 | refine below_set ?_ GE101.out | refine below_set ?_ GE106.out) | exact HB.out)⟩⟩
          ·rw [if_neg c15] at H
           exact absurd H (by simp)
         ·rw [if_neg c14] at H
          exact absurd H (by simp)
        ·rw [if_neg c13] at H
         exact absurd H (by simp)
       ·rw [if_neg c11] at H
        exact absurd H (by simp)
      ·rw [if_neg c10] at H
       exact absurd H (by simp)
     ·rw [if_neg c9] at H
      have c9b0 : decide (x15_1 < (l0_2.length : Int)) = false := decide_eq_false c9
      clear c9
      obtain rfl := Option.some.inj H
      go_wp2
      go_ret
      exact ⟨_, by first | rfl | (simp [errW_none, errW_some] <;> rfl) | (simp [*, errW_none, errW_some] <;> rfl), by (with_reducible repeat (first | apply Kd.S_alloc | apply Kd.S_drewN | apply Kd.S_drew)); exact HO_5.out, by repeat (first | (with_reducible first | exact HB.out | apply below_alloc | apply pw_below_drewN | apply below_drew1 | refine below_set ?_ GE101.out) | exact HB.out)⟩
  ·rw [if_neg c3] at H
   exact absurd H (by simp)
 ·rw [if_neg c2] at H
  exact absurd H (by simp)
end Go.Proofs.Ytdfagllncopmjaa.PrintLF
end
section
namespace Go.Proofs.Ytdfagllncopmjaa.PrintLT
open Go.Proofs.Ytdfagllncopmjaa.PrintC Go.RowKit Go.Proofs.Ytdfagllncopmjaa.H Go.Proofs.YtdfagllncopmjaaW.PrintWords Go.Proofs.YtdfagllncopmjaaW.PrintLast Go.Proofs.YtdfagllncopmjaaW.PrintMore
attribute [local go_sem] max2_int min2_int max_two min_two max_three min_three max_four min_four
set_option linter.unusedVariables false
set_option linter.unusedSimpArgs false
theorem info3 : (Try.prog.info? 3).map (fun i => (i.zero, i.size, i.bytes)) = some (some (.int .i64 0), 1, 8) := by kernel_rfl
theorem info51 : (Try.prog.info? 51).map (fun i => (i.zero, i.size, i.bytes)) = some (some (.slice none 0 0), 1, 24) := by kernel_rfl
def rd_L2 (xs : List (List Int)) (i : Int) : (List Int) := xs.getD i.toNat ([] : List Int)
theorem at_L2 {w : World} {A : Option Addr} {n : Nat} {xs : List (List Int)} (h : Kd.C (Kd.slice 3 (Kd.int .i64)) w A n xs) (i : Int) (h0 : 0 ≤ i) (h1 : i < n) : ∃ ad A0 c0, A = some ad ∧ w.cell? (ad.add i.toNat) = some (.slice A0 (rd_L2 xs i).length c0) ∧ (rd_L2 xs i).length ≤ c0 ∧ (Kd.int .i64).C w A0 (rd_L2 xs i).length (rd_L2 xs i) := by
 obtain ⟨ad, c, e, _, hK, hc0⟩ := Kd.C_get h ([] : List Int) i h0 h1
 have hc : ∀ j u, c[j]? = some u → w.cell? (ad.add (i.toNat * 1 + j)) = some u := hc0
 obtain ⟨A0, c0, rfl, l0, g0⟩ := hK
 exact ⟨ad, A0, c0, e, by have hq := hc 0 _ rfl; rwa [Nat.mul_one, Nat.add_zero] at hq, l0, g0⟩
end Go.Proofs.Ytdfagllncopmjaa.PrintLT
end
section
namespace Go.Proofs.Ytdfagllncopmjaa.PrintLT
open Go.Proofs.Ytdfagllncopmjaa.PrintC Go.RowKit Go.Proofs.Ytdfagllncopmjaa.H Go.Proofs.YtdfagllncopmjaaW.PrintWords Go.Proofs.YtdfagllncopmjaaW.PrintLast Go.Proofs.YtdfagllncopmjaaW.PrintMore
attribute [local go_sem] max2_int min2_int max_two min_two max_three min_three max_four min_four
set_option linter.unusedVariables false
set_option linter.unusedSimpArgs false
def adj_lists.l0 : Nat → List (List Int) → List (S48) → Int → Int → Option ((List (List Int)))
 |0, _, _, _, _ => none
 |k + 1, x5, x13, x14, x15 => if x15 < x14 then (if 0 ≤ x15 then (if x15 < (x13.length : Int) then ((adj_to.f ((rd_T48 x13 x15).f0) ((rd_T48 x13 x15).f1) ((rd_T48 x13 x15).f2) ((rd_T48 x13 x15).f3)).bind fun t107 => (if 0 ≤ t107 then (if t107 < (x5.length : Int) then (if (rd_L2 x5 t107).length < 17592186044416 then (adj_lists.l0 k (x5.set (t107 : Int).toNat ((rd_L2 x5 t107) ++ [x15])) x13 x14 (wrap64 (x15 + 1))) else (none)) else (none)) else (none))) else (none)) else (none)) else (some x5)
def adj_lists.f (k : Nat) (a0_0 : Int) (a0_1 : Bool) (l0_2 : List (S48)) : Option ((List (List Int))) := if 0 ≤ a0_0 then (if (a0_0 : Int).toNat ≤ 11728124029610 then (adj_lists.l0 k (List.replicate (a0_0 : Int).toNat []) l0_2 (l0_2.length : Int) 0) else (none)) else (none)
theorem adj_lists.mono_l : ∀ k, (∀ y0 y1 y2 y3, LeO (adj_lists.l0 k y0 y1 y2 y3) (adj_lists.l0 (k + 1) y0 y1 y2 y3))
 |0 => fun _ _ _ _ r h => by simp [adj_lists.l0] at h
 |k + 1 => by
  have ih0 := adj_lists.mono_l k
  ·intro y0 y1 y2 y3
   unfold adj_lists.l0
   repeat' first
   |(with_reducible exact ih0 _ _ _ _)
   |(with_reducible exact LeO.refl _)
   |(with_reducible exact LeO.none _)
   |(with_reducible refine LeO.ite ?_ ?_)
   |(with_reducible refine LeO.bind ?_ (fun _ => ?_))
   |exact ih0 _ _ _ _
   |exact LeO.none _
   |refine LeO.ite ?_ ?_
   |refine LeO.bind ?_ (fun _ => ?_)
theorem adj_lists.mono : ∀ a0 a1 a2 k, LeO (adj_lists.f k a0 a1 a2) (adj_lists.f (k + 1) a0 a1 a2) := by
 intro a0 a1 a2 k
 have ih0 := adj_lists.mono_l k
 unfold adj_lists.f
 repeat' first
   |(with_reducible exact ih0 _ _ _ _)
   |(with_reducible exact LeO.refl _)
   |(with_reducible exact LeO.none _)
   |(with_reducible refine LeO.ite ?_ ?_)
   |(with_reducible refine LeO.bind ?_ (fun _ => ?_))
   |exact ih0 _ _ _ _
   |exact LeO.none _
   |refine LeO.ite ?_ ?_
   |refine LeO.bind ?_ (fun _ => ?_)
set_option maxHeartbeats 8000000 in
set_option maxRecDepth 100000 in
theorem adj_lists.calls (k : Nat) (a0_0 : Int) (a0_1 : Bool) (A0_2 : Option Addr) (c0_2 : Nat) (l0_2 : List (S48)) (r : List (List Int)) (w : World) (hr0_2 : Kd.C k48 w A0_2 l0_2.length l0_2) (hc0_2 : l0_2.length ≤ c0_2) (h : adj_lists.f k a0_0 a0_1 l0_2 = some r) :
  Calls Try.prog 56 #[.agg #[.int .i64 a0_0, .bool a0_1, .slice A0_2 l0_2.length c0_2], .func (.func 58) #[] #[]] w fun e w' => ∃ v0_ : Value, e = .returned (v0_) ∧ Kd.S (Kd.slice 3 (Kd.int .i64)) 51 w' w.heap.size (fun _ => True) v0_ r ∧ Below w.heap.size w w' := by
 have hu28 := Try.underlying28
 have hu48 := Try.underlying48
 have HR0_2 := Aside0.mk hr0_2
 have HC0_2 := Aside0.mk hc0_2
 clear hr0_2 hc0_2
 have HB := Aside0.mk (Below.refl w.heap.size w)
 have H : (if 0 ≤ a0_0 then (if (a0_0 : Int).toNat ≤ 11728124029610 then (adj_lists.l0 k (List.replicate (a0_0 : Int).toNat []) l0_2 (l0_2.length : Int) 0) else (none)) else (none)) = some r := h
 clear h
 by_cases c2 : 0 ≤ a0_0
 ·rw [if_pos c2] at H
  have c2b0 := eq_true c2
  have c2b1 : decide (0 ≤ a0_0) = true := decide_eq_true c2
  clear c2
  by_cases c3 : (a0_0 : Int).toNat ≤ 11728124029610
  ·rw [if_pos c3] at H
   have c3b0 := eq_true c3
   have c3b1 : decide ((a0_0 : Int).toNat ≤ 11728124029610) = true := decide_eq_true c3
   clear c3
   obtain ⟨y102, hy102⟩ : ∃ y_ : List (List Int), y_ = (List.replicate (a0_0 : Int).toNat []) := ⟨_, rfl⟩
   replace H : (adj_lists.l0 k y102 l0_2 (l0_2.length : Int) 0) = some r := by first | (rw [hy102]; with_reducible exact H) | (have H2_ := (Option.bind_some _ _).symm.trans H; rw [hy102]; with_reducible exact H2_) | (have H2_ := (Option.bind_some _ _).symm.trans H; with_reducible exact H2_) | with_reducible exact H | (rw [hy102]; exact H) | exact H
   have Ny102 := Aside0.mk hy102
   clear hy102
   have H' := Aside0.mk H
   clear H
   go_enter Try.func56, Try.ntmps56
   go_wp2_with (first | ((with_reducible refine gate_dst (N := 2) rfl ?_); refine box_event ?hg (N := 2) ?hd (cs := #[.int .i64 a0_0, .bool a0_1, .slice A0_2 l0_2.length c0_2]) (t := 28) ?hr ?_; (case hd => rfl); (case hg => rfl); (case hr => first | (go_simp; done) | (go_simp; rfl)); intro gb101 hg w4 hbox hb; have n0_ := Aside0.mk (below_step (zB HB.out) hb); have n1_ := Aside0.mk (hbox); have n2_ := Aside0.mk ((by rw [hg]; exact (below_size (zB HB.out)) : w.heap.size ≤ gb101)); have n3_ := Aside0.mk ((by rw [hg]; exact (below_size (zB HB.out)) : w.heap.size ≤ gb101)); clear HB; have HB := n0_; have BK101 := n1_; have GW101 := n2_; have GE101 := n3_; clear n0_ n1_ n2_ n3_; clear hb hbox hg; have hcz5_0 : w4.cell? ⟨gb101, 0, none⟩ = some (.int .i64 a0_0) := (blk_cell BK101.out 0).trans rfl; have hcz5_1 : w4.cell? ⟨gb101, 1, none⟩ = some (.bool a0_1) := (blk_cell BK101.out 1).trans rfl; have hcz5_2 : w4.cell? ⟨gb101, 2, none⟩ = some (.slice A0_2 l0_2.length c0_2) := (blk_cell BK101.out 2).trans rfl; have hfz5_0 := blk_frozen BK101.out 0; have hfz5_1 := blk_frozen BK101.out 1; have hfz5_2 := blk_frozen BK101.out 2) | ((with_reducible refine gate_dst (N := 11) rfl ?_); refine Kd.S_make (Kd.slice 3 (Kd.int .i64)) _ 51 rfl (N := 11) rfl 90 _ _ rfl a0_0 rfl rfl Try.underlying90 (.slice none 0 0) 24 info51 rfl (by decide) (by omega) [] (ok := fun _ => True) (okp := fun _ => True) ⟨_, rfl, Kd.R_nil _ _ _ _ _⟩ (fun _ hk => hk) trivial (of_decide_eq_true (by assumption)) (Nat.le_trans (Nat.mul_le_mul_right _ (of_decide_eq_true (by assumption) : a0_0.toNat ≤ 11728124029610)) (by omega)) (Below.refl _ _) (Nat.le_refl _) ?_; intro v103 w6 ho7 hb hg_ hnew_; clear hg_ hnew_; (first | rw [← Ny102.out] at ho7 | (simp only [Int.reduceToNat] at ho7; rw [← Ny102.out] at ho7)); have n0_ := Aside0.mk (Kd.S_lower ho7 (below_size (zC HB.out GE101.out))); have n1_ := Aside0.mk (blk_below (g := gb101) (o := .cells #[.int .i64 a0_0, .bool a0_1, .slice A0_2 l0_2.length c0_2] 28 (0, 0)) (zK BK101.out) hb); have n2_ := Aside0.mk (below_step (zC HB.out GE101.out) hb); clear BK101; clear HB; have HO104 := n0_; have BK101 := n1_; have HB := n2_; clear n0_ n1_ n2_; clear hb ho7; have hcz8_0 : w6.cell? ⟨gb101, 0, none⟩ = some (.int .i64 a0_0) := (blk_cell BK101.out 0).trans rfl; have hcz8_1 : w6.cell? ⟨gb101, 1, none⟩ = some (.bool a0_1) := (blk_cell BK101.out 1).trans rfl; have hcz8_2 : w6.cell? ⟨gb101, 2, none⟩ = some (.slice A0_2 l0_2.length c0_2) := (blk_cell BK101.out 2).trans rfl; have hfz8_0 := blk_frozen BK101.out 0; have hfz8_1 := blk_frozen BK101.out 1; have hfz8_2 := blk_frozen BK101.out 2))
   go_loopg [15] k (fun kq v15 w' => ∃ (x5_1 : List (List Int)) (x15_1 : Int), v15 = .int .i64 x15_1 ∧ Aside0 (adj_lists.l0 kq x5_1 l0_2 (l0_2.length : Int) x15_1 = some r) ∧ Aside0 (kq ≤ k) ∧ Aside0 (Kd.S (Kd.slice 3 (Kd.int .i64)) 51 w' w.heap.size (fun _ => True) v103 x5_1) ∧ Aside0 (w'.heap[gb101]? = some (.cells #[.int .i64 a0_0, .bool a0_1, (.slice A0_2 l0_2.length c0_2)] 28 (0, 0))) ∧ Aside0 (Below w.heap.size w w'))
   case atStart => exact ⟨(y102), (0), (by first | rfl | (simp; done) | (simp [*]; done)), H', ⟨Nat.le_refl _⟩, ⟨by (with_reducible repeat (first | apply Kd.S_alloc | apply Kd.S_drewN | apply Kd.S_drew)); exact HO104.out⟩, ⟨by (with_reducible repeat (first | refine blk_drewN ?_ _ | refine blk_drew ?_ | refine blk_alloc ?_ _)); exact BK101.out⟩, ⟨by repeat (first | (with_reducible first | exact HB.out | apply below_alloc | apply pw_below_drewN | apply below_drew1 | refine below_set ?_ GE101.out) | exact HB.out)⟩⟩
   case round =>
    clear H'
    try clear c2
    try clear c2b0
    try clear c2b1
    try clear p2
    try clear c3
    try clear c3b0
    try clear c3b1
    try clear c5
    try clear hcz5_0
    try clear hcz5_1
    try clear hcz5_2
    try clear hcz8_0
    try clear hcz8_1
    try clear hcz8_2
    try clear hfz5_0
    try clear hfz5_1
    try clear hfz5_2
    try clear hfz8_0
    try clear hfz8_1
    try clear hfz8_2
    obtain ⟨x5_1, x15_1, rfl, HA, HK1, HO_5, BK101, HB⟩ := hrel
    cases gk with
    |zero => exact absurd HA.out (by simp [adj_lists.l0])
    |succ k1 =>
     have H := HA.out
     clear HA
     simp only [adj_lists.l0] at H
     by_cases c9 : x15_1 < (l0_2.length : Int)
     ·rw [if_pos c9] at H
      have c9b0 : decide (x15_1 < (l0_2.length : Int)) = true := decide_eq_true c9
      clear c9
      by_cases c10 : 0 ≤ x15_1
      ·rw [if_pos c10] at H
       have c10b0 : decide (0 ≤ x15_1) = true := decide_eq_true c10
       clear c10
       by_cases c11 : x15_1 < (l0_2.length : Int)
       ·rw [if_pos c11] at H
        have c11b0 : decide (x15_1 < (l0_2.length : Int)) = true := decide_eq_true c11
        clear c11
        replace H := Option.bind_eq_some_iff.mp H
        obtain ⟨t107, A120, H⟩ := H
        replace H : (if 0 ≤ t107 then (if t107 < (x5_1.length : Int) then (if (rd_L2 x5_1 t107).length < 17592186044416 then (adj_lists.l0 k1 (x5_1.set (t107 : Int).toNat ((rd_L2 x5_1 t107) ++ [x15_1])) l0_2 (l0_2.length : Int) (wrap64 (x15_1 + 1))) else (none)) else (none)) else (none)) = some r := H
        have A12 := Aside0.mk A120
        clear A120
        by_cases c13 : 0 ≤ t107
        ·rw [if_pos c13] at H
         have c13b0 : decide (0 ≤ t107) = true := decide_eq_true c13
         clear c13
         by_cases c14 : t107 < (x5_1.length : Int)
         ·rw [if_pos c14] at H
          have c14b0 : decide (t107 < (x5_1.length : Int)) = true := decide_eq_true c14
          clear c14
          by_cases c15 : (rd_L2 x5_1 t107).length < 17592186044416
          ·rw [if_pos c15] at H
           have LMc15 := Aside0.mk c15
           clear c15
           obtain ⟨y109, hy109⟩ : ∃ y_ : List Int, y_ = ((rd_L2 x5_1 t107) ++ [x15_1]) := ⟨_, rfl⟩
           replace H : (adj_lists.l0 k1 (x5_1.set (t107 : Int).toNat y109) l0_2 (l0_2.length : Int) (wrap64 (x15_1 + 1))) = some r := by first | (rw [hy109]; with_reducible exact H) | (have H2_ := (Option.bind_some _ _).symm.trans H; rw [hy109]; with_reducible exact H2_) | (have H2_ := (Option.bind_some _ _).symm.trans H; with_reducible exact H2_) | with_reducible exact H | (rw [hy109]; exact H) | exact H
           have Ny109 := Aside0.mk hy109
           clear hy109
           obtain ⟨y112, hy112⟩ : ∃ y_ : List (List Int), y_ = (x5_1.set (t107 : Int).toNat y109) := ⟨_, rfl⟩
           replace H : (adj_lists.l0 k1 y112 l0_2 (l0_2.length : Int) (wrap64 (x15_1 + 1))) = some r := by first | (rw [hy112]; with_reducible exact H) | (have H2_ := (Option.bind_some _ _).symm.trans H; rw [hy112]; with_reducible exact H2_) | (have H2_ := (Option.bind_some _ _).symm.trans H; with_reducible exact H2_) | with_reducible exact H | (rw [hy112]; exact H) | exact H
           have Ny112 := Aside0.mk hy112
           clear hy112
           have H' := Aside0.mk H
           clear H
           have p105 : 0 ≤ (x15_1 : Int) := of_decide_eq_true (by assumption)
           have q105 : x15_1 < (l0_2.length : Int) := of_decide_eq_true (by assumption)
           obtain ⟨ad105, e105, hx105_0, hx105_1, hx105_2, hx105_3⟩ := at_T48 HR0_2.out x15_1 p105 q105
           cases e105
           replace hx105_0 := (HB.out.cell (World.block_lt_of_cell? w _ hx105_0)).trans hx105_0
           replace hx105_1 := (HB.out.cell (World.block_lt_of_cell? w _ hx105_1)).trans hx105_1
           replace hx105_2 := (HB.out.cell (World.block_lt_of_cell? w _ hx105_2)).trans hx105_2
           replace hx105_3 := (HB.out.cell (World.block_lt_of_cell? w _ hx105_3)).trans hx105_3
           replace p105 := eq_true p105
           replace q105 := eq_true q105
           go_wp2_with (first | ((with_reducible refine gate_dst (N := 7) rfl ?_); refine box_event ?hg (N := 7) ?hd (cs := #[.int .i64 0, .int .i64 0, .int .i64 0, .int .i64 0]) (t := 48) ?hr ?_; (case hd => rfl); (case hg => rfl); (case hr => first | (go_simp; done) | (go_simp; rfl)); intro gb106 hg w17 hbox hb; have n0_ := Aside0.mk (Kd.S_below (by (with_reducible repeat (first | apply Kd.S_alloc | apply Kd.S_drewN | apply Kd.S_drew)); exact HO_5.out) hb); have n1_ := Aside0.mk (blk_below (g := gb101) (o := .cells #[.int .i64 a0_0, .bool a0_1, .slice (some ad105) l0_2.length c0_2] 28 (0, 0)) (zK BK101.out) hb); have n2_ := Aside0.mk (below_step (zC HB.out GE101.out) hb); have n3_ := Aside0.mk (hbox); have n4_ := Aside0.mk ((by rw [hg]; exact (below_size (zC HB.out GE101.out)) : w.heap.size ≤ gb106)); have n5_ := Aside0.mk ((by rw [hg]; exact (below_size (zC HB.out GE101.out)) : w.heap.size ≤ gb106)); have n6_ := Aside0.mk ((by rw [hg]; exact Nat.ne_of_lt (blk_lt (g := gb101) (o := .cells #[.int .i64 a0_0, .bool a0_1, .slice (some ad105) l0_2.length c0_2] 28 (0, 0)) (zK BK101.out)) : gb101 ≠ gb106)); have n7_ := Aside0.mk ((by rw [hg]; exact Nat.ne_of_gt (blk_lt (g := gb101) (o := .cells #[.int .i64 a0_0, .bool a0_1, .slice (some ad105) l0_2.length c0_2] 28 (0, 0)) (zK BK101.out)) : gb106 ≠ gb101)); clear HO_5; clear BK101; clear HB; have HO_5 := n0_; have BK101 := n1_; have HB := n2_; have BK106 := n3_; have GW106 := n4_; have GE106 := n5_; have NB101_106 := n6_; have NB106_101 := n7_; clear n0_ n1_ n2_ n3_ n4_ n5_ n6_ n7_; clear hb hbox hg; have hnb18 := NB106_101.out; have hnc18 := NB101_106.out; have hcz19_0 : w17.cell? ⟨gb106, 0, none⟩ = some (.int .i64 0) := (blk_cell BK106.out 0).trans rfl; have hcz19_1 : w17.cell? ⟨gb106, 1, none⟩ = some (.int .i64 0) := (blk_cell BK106.out 1).trans rfl; have hcz19_2 : w17.cell? ⟨gb106, 2, none⟩ = some (.int .i64 0) := (blk_cell BK106.out 2).trans rfl; have hcz19_3 : w17.cell? ⟨gb106, 3, none⟩ = some (.int .i64 0) := (blk_cell BK106.out 3).trans rfl; have hfz19_0 := blk_frozen BK106.out 0; have hfz19_1 := blk_frozen BK106.out 1; have hfz19_2 := blk_frozen BK106.out 2; have hfz19_3 := blk_frozen BK106.out 3) | ((with_reducible refine gateV (x := 20) rfl ?_); refine goesV (some 22) rfl rfl Try.func58 (by kernel_rfl) rfl #[.agg #[.int .i64 ((rd_T48 l0_2 x15_1).f0), .int .i64 ((rd_T48 l0_2 x15_1).f1), .int .i64 ((rd_T48 l0_2 x15_1).f2), .int .i64 ((rd_T48 l0_2 x15_1).f3)]] #[] #[] rfl (by rfl) (by (try simp only [List.map_toArray, List.map_cons, List.map_nil, Array.empty_append, Array.append_empty]); first | done | rfl | (simp only [List.length_drop, List.length_take]; rfl)) ?_; (with_reducible refine (adj_to.calls ((rd_T48 l0_2 x15_1).f0) ((rd_T48 l0_2 x15_1).f1) ((rd_T48 l0_2 x15_1).f2) ((rd_T48 l0_2 x15_1).f3) t107 _ A12.out).mono ?_); rintro e w20 ⟨rfl, hb⟩; refine ⟨_, rfl, ?_⟩; have n0_ := Aside0.mk (Kd.S_below (by (with_reducible repeat (first | apply Kd.S_alloc | apply Kd.S_drewN | apply Kd.S_drew)); exact (Kd.S_mono (Kd.S_far (p := ⟨gb106, 3, none⟩) (Kd.S_far (p := ⟨gb106, 2, none⟩) (Kd.S_far (p := ⟨gb106, 1, none⟩) (Kd.S_far (p := ⟨gb106, 0, none⟩) (Kd.S_types HO_5.out BK106.out (by decide)) (fun _ hk => hk.2) (.int .i64 ((rd_T48 l0_2 x15_1).f0))) (fun _ hk => hk.2) (.int .i64 ((rd_T48 l0_2 x15_1).f1))) (fun _ hk => hk.2) (.int .i64 ((rd_T48 l0_2 x15_1).f2))) (fun _ hk => hk.2) (.int .i64 ((rd_T48 l0_2 x15_1).f3))) (fun _ h_ => h_.1))) hb); have n1_ := Aside0.mk (blk_below (g := gb101) (o := .cells #[.int .i64 a0_0, .bool a0_1, .slice (some ad105) l0_2.length c0_2] 28 (0, 0)) (by (with_reducible repeat (first | refine blk_drewN ?_ _ | refine blk_drew ?_ | refine blk_alloc ?_ _)); refine blk_far ?_ NB101_106.out _; (with_reducible repeat (first | refine blk_drewN ?_ _ | refine blk_drew ?_ | refine blk_alloc ?_ _)); refine blk_far ?_ NB101_106.out _; (with_reducible repeat (first | refine blk_drewN ?_ _ | refine blk_drew ?_ | refine blk_alloc ?_ _)); refine blk_far ?_ NB101_106.out _; (with_reducible repeat (first | refine blk_drewN ?_ _ | refine blk_drew ?_ | refine blk_alloc ?_ _)); refine blk_far ?_ NB101_106.out _; (with_reducible repeat (first | refine blk_drewN ?_ _ | refine blk_drew ?_ | refine blk_alloc ?_ _)); exact BK101.out) hb); have n2_ := Aside0.mk (blk_below (g := gb106) (o := .cells #[.int .i64 ((rd_T48 l0_2 x15_1).f0), .int .i64 ((rd_T48 l0_2 x15_1).f1), .int .i64 ((rd_T48 l0_2 x15_1).f2), .int .i64 ((rd_T48 l0_2 x15_1).f3)] 48 (0, 0)) (by (with_reducible repeat (first | refine blk_drewN ?_ _ | refine blk_drew ?_ | refine blk_alloc ?_ _)); refine blk_put (cs := #[.int .i64 ((rd_T48 l0_2 x15_1).f0), .int .i64 ((rd_T48 l0_2 x15_1).f1), .int .i64 ((rd_T48 l0_2 x15_1).f2), .int .i64 0]) ?_ 3 _ rfl; (with_reducible repeat (first | refine blk_drewN ?_ _ | refine blk_drew ?_ | refine blk_alloc ?_ _)); refine blk_put (cs := #[.int .i64 ((rd_T48 l0_2 x15_1).f0), .int .i64 ((rd_T48 l0_2 x15_1).f1), .int .i64 0, .int .i64 0]) ?_ 2 _ rfl; (with_reducible repeat (first | refine blk_drewN ?_ _ | refine blk_drew ?_ | refine blk_alloc ?_ _)); refine blk_put (cs := #[.int .i64 ((rd_T48 l0_2 x15_1).f0), .int .i64 0, .int .i64 0, .int .i64 0]) ?_ 1 _ rfl; (with_reducible repeat (first | refine blk_drewN ?_ _ | refine blk_drew ?_ | refine blk_alloc ?_ _)); refine blk_put (cs := #[.int .i64 0, .int .i64 0, .int .i64 0, .int .i64 0]) ?_ 0 _ rfl; (with_reducible repeat (first | refine blk_drewN ?_ _ | refine blk_drew ?_ | refine blk_alloc ?_ _)); exact BK106.out) hb); have n3_ := Aside0.mk (below_step (by repeat (first | (with_reducible first | exact HB.out | apply below_alloc | apply pw_below_drewN | apply below_drew1 | refine below_set ?_ GE101.out | refine below_set ?_ GE106.out) | exact HB.out)) hb); clear HO_5; clear BK101; clear BK106; clear HB; have HO_5 := n0_; have BK101 := n1_; have BK106 := n2_; have HB := n3_; clear n0_ n1_ n2_ n3_; (try clear hb); (try clear hb2); (try clear hk); (try clear hi); obtain ⟨Ao21, co21, eo21⟩ := Kd.S_slice HO_5.out; subst eo21; have p108 : 0 ≤ (t107 : Int) := of_decide_eq_true (by assumption); have q108 : t107 < (x5_1.length : Int) := of_decide_eq_true (by assumption); obtain ⟨ad108, A108_0, c108_0, e108, hx108_0, hl108_0, hi108_0⟩ := at_L2 (Kd.S_reads' HO_5.out).2.2 t107 p108 q108; cases e108; obtain ⟨ce108, hce108, hMe108, hcc108⟩ := Kd.S_get HO_5.out [] t107 p108 (by first | exact q108 | exact of_decide_eq_true (by assumption) | (have e_ := (Kd.S_reads' HO_5.out).1; omega)); obtain ⟨ve108_0, rfl, ge108_0⟩ := hMe108; have hv108_0 := hcc108 0 _ rfl; rw [Nat.add_zero, show ((Kd.slice 3 (Kd.int .i64))).sz = 1 from rfl, Nat.mul_one] at hv108_0; replace hv108_0 := Option.some.inj (hv108_0.symm.trans hx108_0); rw [hv108_0] at ge108_0; have HL108_0 := Aside0.mk (show Kd.R (Kd.int .i64) 3 _ _ _ _ (rd_L2 x5_1 t107) from ge108_0); clear hv108_0 ge108_0; have HX108_0 := Aside0.mk hx108_0; clear hcc108 hce108; have HR108_0 := Aside0.mk hi108_0; have HC108_0 := Aside0.mk hl108_0; clear hi108_0 hl108_0; replace p108 := eq_true p108; replace q108 := eq_true q108; obtain ⟨go22, co22, eo22, gb22, gl22, cl22, HG22⟩ := Kd.S_form HO_5.out (by have h_ : (t107 : Int) < ((x5_1.length : Int) : Int) := of_decide_eq_true (by assumption); have h2_ : 0 ≤ (t107 : Int) := (of_decide_eq_true (by assumption)); omega); (first | cases eo22 | (injection eo22 with ea_ en_ ec_; (first | subst ea_ | (injection ea_ with ea_; subst ea_)); subst ec_; clear en_)); have GB22 := Aside0.mk gb22; have GG22 := Aside0.mk HG22; clear gb22 gl22 HG22; (first | simp only [add_plain] at hx108_0 | skip); obtain ⟨oki22, ce22, hcl22, hM22, hcc22, _, _, hH22⟩ := Kd.S_elem HO_5.out [] (t107 : Int) (of_decide_eq_true (by assumption)) (by have h_ : (t107 : Int) < ((x5_1.length : Int) : Int) := of_decide_eq_true (by assumption); first | exact h_ | (have e_ := (Kd.S_reads' HO_5.out).1; omega) | simpa using h_); obtain ⟨ve22_0, rfl, ge22_0⟩ := hM22; have hv22 := hcc22 0 _ rfl; have hX22 := HX108_0.out; (try simp only [add_plain] at hX22); (try simp only [Nat.add_zero] at hv22); (try rw [show ((Kd.slice 3 (Kd.int .i64))).sz = 1 from rfl, Nat.mul_one] at hv22); replace hv22 := Option.some.inj (hv22.symm.trans hX22); subst hv22; clear hX22 hcc22 hcl22; have UU22 := Aside0.mk (show Kd.R (Kd.int .i64) 3 _ w.heap.size oki22 (.slice A108_0 (rd_L2 x5_1 t107).length c108_0) (rd_L2 x5_1 t107) from ge22_0); have HH22 := Aside0.mk hH22; have HN22 := Aside0.mk (Kd.S_reads' HO_5.out).1; clear hH22 ge22_0) | ((with_reducible refine gate_builtin (b := .append) (xs := #[.tmp 28, .tmp 30]) rfl ?_); at_builtin; refine Kd.R_append (Kd.int .i64) (w0 := w) w.heap.size rfl (.tmp 28) (.tmp 30) 51 3 (.int .i64 0) 8 rfl Try.underlying51 info3 rfl (by decide) (by omega) (.slice A108_0 (rd_L2 x5_1 t107).length c108_0) (rd_L2 x5_1 t107) x15_1 [.int .i64 x15_1] (fun k_ => oki22 k_ ∨ ((fun _ => True)) k_ ∧ w20.heap.size ≤ k_) (fun _ => False) rfl rfl ?aP (fun _ hk => hk.elim) ?aF ?aO ?aB ?aS ?aL ?_; (case aP => exact rfl); (case aB => exact (by repeat (first | (with_reducible first | exact HB.out | apply below_alloc | apply pw_below_drewN | apply below_drew1 | refine below_set ?_ GE101.out | refine below_set ?_ GE106.out) | exact HB.out))); (case aF => exact (fun k_ hk => .inr ⟨trivial, hk⟩)); (case aO => exact (by (with_reducible repeat (first | apply Kd.R_alloc | apply Kd.R_drewN | apply Kd.R_drew)); exact Kd.R_mono UU22.out (fun _ hk => .inl hk))); (case aS => exact (below_size (by repeat (first | (with_reducible first | exact HB.out | apply below_alloc | apply pw_below_drewN | apply below_drew1 | refine below_set ?_ GE101.out | refine below_set ?_ GE106.out) | exact HB.out)))); (case aL => have := LMc15.out; omega); intro v110 w23 ho hb hg hat; rw [← Ny109.out] at ho; have n0_ := Aside0.mk (blk_grown (g := gb101) (o := .cells #[.int .i64 a0_0, .bool a0_1, .slice (some ad105) l0_2.length c0_2] 28 (0, 0)) (zK BK101.out) hg (Kd.R_ne HL108_0.out BK101.out (by decide))); have n1_ := Aside0.mk (blk_grown (g := gb106) (o := .cells #[.int .i64 ((rd_T48 l0_2 x15_1).f0), .int .i64 ((rd_T48 l0_2 x15_1).f1), .int .i64 ((rd_T48 l0_2 x15_1).f2), .int .i64 ((rd_T48 l0_2 x15_1).f3)] 48 (0, 0)) (zK BK106.out) hg (Kd.R_ne HL108_0.out BK106.out (by decide))); have n2_ := Aside0.mk (hb); have n3_ := Aside0.mk (Kd.H_grown (Kd.H_widen (by repeat (first | exact HH22.out | refine Kd.H_alloc ?_ _ | refine Kd.H_drewN ?_ _ | refine Kd.H_drew ?_))) hg (fun k_ e_ => .inl (UU22.out.1 k_ e_))); have n4_ := Aside0.mk (ho); clear BK101; clear BK106; clear HB; clear HH22; clear HO_5; clear UU22; clear HL108_0; have BK101 := n0_; have BK106 := n1_; have HB := n2_; have HH22 := n3_; have HO111 := n4_; clear n0_ n1_ n2_ n3_ n4_; clear ho hb hg hat; have p16 : 0 ≤ (t107 : Int) := of_decide_eq_true (by assumption); have q16 : (t107 : Int) < ((x5_1.length : Int) : Int) := of_decide_eq_true (by assumption); replace p16 := eq_true p16; replace q16 := eq_true q16; obtain ⟨Ao26, co26, eo26⟩ := Kd.R_slice HO111.out; subst eo26; obtain ⟨_, _, hraw24, _, _, hcc24, _⟩ := Kd.H_raw HH22.out (of_decide_eq_true (by assumption)) (by have h_ : (t107 : Int) < ((x5_1.length : Int) : Int) := of_decide_eq_true (by assumption); first | exact h_ | (have e_ := (HN22.out); omega) | simpa using h_); obtain ⟨_, hfr24⟩ := Kd.H_at HH22.out (of_decide_eq_true (by assumption)) (by have h_ : (t107 : Int) < ((x5_1.length : Int) : Int) := of_decide_eq_true (by assumption); first | exact h_ | (have e_ := (HN22.out); omega) | simpa using h_); have hx24_0 := hcc24 0 _ rfl; have hf24_0 := hfr24 0; (try simp only [Nat.add_zero] at hx24_0 hf24_0); (try rw [show ((Kd.slice 3 (Kd.int .i64))).sz = 1 from rfl, Nat.mul_one] at hx24_0); (try rw [show ((Kd.slice 3 (Kd.int .i64))).sz = 1 from rfl, Nat.mul_one] at hf24_0); have HP24 := Kd.S_seg0 HH22.out (of_decide_eq_true (by assumption)) (by have h_ : (t107 : Int) < ((x5_1.length : Int) : Int) := of_decide_eq_true (by assumption); first | exact h_ | (have e_ := (HN22.out); omega) | simpa using h_) (seg := [.slice Ao26 y109.length co26]) (j := 0) (show 1 ≤ 1 from by decide) (x' := y109) (Kd.M_row HO111.out) (fun _ hk => hk); (try simp only [show ((Kd.slice 3 (Kd.int .i64))).sz = 1 from rfl, Nat.mul_one, Nat.add_zero] at HP24); clear hcc24 hfr24) | ((with_reducible refine gate_store (t := 51) (p := 32) rfl ?_); refine store_event (t := 51) (p := 32) (v := ?vo_w25) (w1 := (w23.setCell ⟨go22, (t107 : Int).toNat, none⟩ (.slice Ao26 y109.length co26))) ?hg ?ho ?hn ?hr ?_; (case ho => rfl); (case hg => rfl); (case hn => rfl); (case hr => first | (go_simp; done) | (go_simp; rfl)); intro w25 hw; have hg : w23.grownBy w25 (some go22) := (by rw [hw]; exact HP24.2); have hp_ : Kd.S (Kd.slice 3 (Kd.int .i64)) 51 w25 w.heap.size (fun _ => True) (.slice (some ⟨go22, 0, none⟩) x5_1.length co21) y112 := (by rw [hw, Ny112.out]; exact HP24.1); clear HP24; have n0_ := Aside0.mk (blk_grown (g := gb101) (o := .cells #[.int .i64 a0_0, .bool a0_1, .slice (some ad105) l0_2.length c0_2] 28 (0, 0)) (zK BK101.out) hg (Kd.R_ne hraw24 BK101.out (by decide))); have n1_ := Aside0.mk (blk_grown (g := gb106) (o := .cells #[.int .i64 ((rd_T48 l0_2 x15_1).f0), .int .i64 ((rd_T48 l0_2 x15_1).f1), .int .i64 ((rd_T48 l0_2 x15_1).f2), .int .i64 ((rd_T48 l0_2 x15_1).f3)] 48 (0, 0)) (zK BK106.out) hg (Kd.R_ne hraw24 BK106.out (by decide))); have n2_ := Aside0.mk ((by rw [hw]; exact below_set HB.out GB22.out : Below w.heap.size w w25)); have n3_ := Aside0.mk (hp_); clear BK101; clear BK106; clear HB; clear HO111; clear HH22; have BK101 := n0_; have BK106 := n1_; have HB := n2_; have HO_5 := n3_; clear n0_ n1_ n2_ n3_; clear hg hw hp_ hraw24))
           go_roundg k1
           case measure => have := HK1.out; omega
           case rel => exact ⟨(y112), (wrap64 (x15_1 + 1)), (by first | rfl | (simp; done) | (simp [*]; done)), H', ⟨by have := HK1.out; omega⟩, ⟨by (with_reducible repeat (first | apply Kd.S_alloc | apply Kd.S_drewN | apply Kd.S_drew)); exact HO_5.out⟩, ⟨by (with_reducible repeat (first | refine blk_drewN ?_ _ | refine blk_drew ?_ | refine blk_alloc ?_ _)); exact BK101.out⟩, ⟨by repeat (first | (with_reducible first | exact HB.out | apply below_alloc | apply pw_below_drewN | apply below_drew1 | refine below_set ?_ GE101.out | refine below_set ?_ GE106.out) | exact HB.out)⟩⟩
          ·rw [if_neg c15] at H
           exact absurd H (by simp)
         ·rw [if_neg c14] at H
          exact absurd H (by simp)
        ·rw [if_neg c13] at H
         exact absurd H (by simp)
       ·rw [if_neg c11] at H
        exact absurd H (by simp)
      ·rw [if_neg c10] at H
       exact absurd H (by simp)
     ·rw [if_neg c9] at H
      have c9b0 : decide (x15_1 < (l0_2.length : Int)) = false := decide_eq_false c9
      clear c9
      obtain rfl := Option.some.inj H
      go_wp2
      go_ret
      exact ⟨_, by first | rfl | (simp [errW_none, errW_some] <;> rfl) | (simp [*, errW_none, errW_some] <;> rfl), by (with_reducible repeat (first | apply Kd.S_alloc | apply Kd.S_drewN | apply Kd.S_drew)); exact HO_5.out, by repeat (first | (with_reducible first | exact HB.out | apply below_alloc | apply pw_below_drewN | apply below_drew1 | refine below_set ?_ GE101.out) | exact HB.out)⟩
  ·rw [if_neg c3] at H
   exact absurd H (by simp)
 ·rw [if_neg c2] at H
  exact absurd H (by simp)
end Go.Proofs.Ytdfagllncopmjaa.PrintLT
end
section
namespace Go.Proofs.Ytdfagllncopmjaa.H
open Go Go.RowKit Go.Proofs.Ytdfagllncopmjaa.PrintC Go.Proofs.YtdfagllncopmjaaW.PrintWords
set_option maxRecDepth 100000 in
theorem leaving_walk (k : Nat) (n : Int) (b : Bool) (A : Option Addr) (c : Nat) (l : List S48) (r : List (List Int)) (w : World) (hr : Kd.C k48 w A l.length l) (hc : l.length ≤ c) (h : PrintLF.adj_lists.f k n b l = some r) :
  Calls Try.prog 46 #[.agg #[.int .i64 n, .bool b, .slice A l.length c]] w fun e w' => ∃ v : Value, e = .returned v ∧ Kd.S (Kd.slice 3 (Kd.int .i64)) 51 w' w.heap.size (fun _ => True) v r ∧ Below w.heap.size w w' := by
 have HR := Lib.hid hr
 have HC := Lib.hid hc
 have HF := Lib.hid h
 clear hr hc h
 have hu := Try.underlying28
 go_enter Try.func46, Try.ntmps46
 go_wp2_with (go_at_call 56; refine (PrintLF.adj_lists.calls k n b A c l r _ ?s1 HC.out HF.out).mono ?_; (case s1 => exact Kd.C_alloc HR.out _); rintro e w1 ⟨v, rfl, hS, hb⟩)
 go_ret
 exact ⟨v, rfl, Kd.S_lower hS (by simp), (below_alloc (Below.refl _ _) _).trans (hb.mono (by simp))⟩
set_option maxRecDepth 100000 in
theorem coming_walk (k : Nat) (n : Int) (b : Bool) (A : Option Addr) (c : Nat) (l : List S48) (r : List (List Int)) (w : World) (hr : Kd.C k48 w A l.length l) (hc : l.length ≤ c) (h : PrintLT.adj_lists.f k n b l = some r) :
  Calls Try.prog 47 #[.agg #[.int .i64 n, .bool b, .slice A l.length c]] w fun e w' => ∃ v : Value, e = .returned v ∧ Kd.S (Kd.slice 3 (Kd.int .i64)) 51 w' w.heap.size (fun _ => True) v r ∧ Below w.heap.size w w' := by
 have HR := Lib.hid hr
 have HC := Lib.hid hc
 have HF := Lib.hid h
 clear hr hc h
 have hu := Try.underlying28
 go_enter Try.func47, Try.ntmps47
 go_wp2_with (go_at_call 56; refine (PrintLT.adj_lists.calls k n b A c l r _ ?s1 HC.out HF.out).mono ?_; (case s1 => exact Kd.C_alloc HR.out _); rintro e w1 ⟨v, rfl, hS, hb⟩)
 go_ret
 exact ⟨v, rfl, Kd.S_lower hS (by simp), (below_alloc (Below.refl _ _) _).trans (hb.mono (by simp))⟩
end Go.Proofs.Ytdfagllncopmjaa.H
end
section
namespace Go.Proofs.Ytdfagllncopmjaa.H
open Go Go.RowKit Go.Proofs.Ytdfagllncopmjaa.PrintC Go.Proofs.YtdfagllncopmjaaW.PrintWords Go.Proofs.YtdfagllncopmjaaW.PrintLast Go.Proofs.YtdfagllncopmjaaW.PrintMore
abbrev kStep := k105
abbrev kSteps := Kd.slice 105 kStep
abbrev kInts := Kd.slice 3 (Kd.int .i64)
structure AtI (w0 : World) (n g : Nat) (vo vi : Value) (ro ri : List (List Int)) (gx gr : Nat) (xs rs : Array Value) (rows : List (List S105)) (W : World) : Prop where
 tab : Kd.S kSteps 103 W w0.heap.size (fun _ => True) (.slice (some ⟨g, 0, none⟩) n n) rows
 out : Kd.S kInts 51 W w0.heap.size (fun _ => True) vo ro
 inn : Kd.S kInts 51 W w0.heap.size (fun _ => True) vi ri
 bx : W.heap[gx]? = some (.cells xs 87 (0, 0))
 br : W.heap[gr]? = some (.cells rs 87 (0, 0))
 low : Below w0.heap.size w0 W
 gxl : w0.heap.size ≤ gx
 grl : w0.heap.size ≤ gr
 ne : gx ≠ gr
theorem AtI.below {w0 : World} {n g : Nat} {vo vi : Value} {ro ri : List (List Int)} {gx gr : Nat} {xs rs : Array Value} {rows : List (List S105)} {W W1 : World} (h : AtI w0 n g vo vi ro ri gx gr xs rs rows W) (hb : Below W.heap.size W W1) : AtI w0 n g vo vi ro ri gx gr xs rs rows W1 :=
 ⟨Kd.S_below h.tab hb, Kd.S_below h.out hb, Kd.S_below h.inn hb, blk_below h.bx hb, blk_below h.br hb, below_step h.low hb, h.gxl, h.grl, h.ne⟩
theorem AtI.drew {w0 : World} {n g : Nat} {vo vi : Value} {ro ri : List (List Int)} {gx gr : Nat} {xs rs : Array Value} {rows : List (List S105)} {W : World} (h : AtI w0 n g vo vi ro ri gx gr xs rs rows W) : AtI w0 n g vo vi ro ri gx gr xs rs rows W.drew := h.below (below_drew (Below.refl _ _))
theorem AtI.len {w0 : World} {n g : Nat} {vo vi : Value} {ro ri : List (List Int)} {gx gr : Nat} {xs rs : Array Value} {rows : List (List S105)} {W : World} (h : AtI w0 n g vo vi ro ri gx gr xs rs rows W) : n = rows.length := (Kd.S_reads' h.tab).1
structure RowOpen (w0 : World) (n g i : Nat) (rows : List (List S105)) (W : World) (A : Option Addr) (c : Nat) (oki : Nat → Prop) : Prop where
 at_ : W.cell? ⟨g, i, none⟩ = some (.slice A (rows.getD i []).length c)
 free : W.frozen? ⟨g, i, none⟩ = false
 row : Kd.R kStep 105 W w0.heap.size oki (.slice A (rows.getD i []).length c) (rows.getD i [])
 rest : Kd.H kSteps 103 W w0.heap.size (fun _ => True) (.slice (some ⟨g, 0, none⟩) n n) rows i oki [.slice A (rows.getD i []).length c]
theorem AtI.open_ {w0 : World} {n g : Nat} {vo vi : Value} {ro ri : List (List Int)} {gx gr : Nat} {xs rs : Array Value} {rows : List (List S105)} {W : World} (h : AtI w0 n g vo vi ro ri gx gr xs rs rows W) (i : Nat) (hi : i < n) :
  ∃ A c oki, RowOpen w0 n g i rows W A c oki := by
 obtain ⟨oki, ce, hl, hM, hcc, hfr, hok, hH⟩ := Kd.S_elem h.tab [] (i : Int) (by omega) (by omega)
 obtain ⟨v, rfl, hR⟩ := hM
 have hv := hcc 0 _ rfl
 have hf := hfr 0
 simp only [Nat.add_zero, Int.toNat_natCast] at hv hf hR hH
 rw [show kSteps.sz = 1 from rfl, Nat.mul_one] at hv hf
 obtain ⟨A, c, rfl⟩ := Kd.R_slice hR
 exact ⟨A, c, oki, hv, hf, hR, hH⟩
theorem AtI.close {w0 : World} {n g : Nat} {vo vi : Value} {ro ri : List (List Int)} {gx gr : Nat} {xs rs : Array Value} {rows : List (List S105)} {W W1 : World} {i : Nat} {A : Option Addr} {c : Nat} {oki : Nat → Prop} {v1 : Value} {x' : List S105}
  (h : AtI w0 n g vo vi ro ri gx gr xs rs rows W) (hi : i < n) (ho : RowOpen w0 n g i rows W A c oki) (hg : W.grownBy W1 (Value.slice A (rows.getD i []).length c).ownBlock) (hb : Below w0.heap.size w0 W1)
  (hR : Kd.R kStep 105 W1 w0.heap.size (fun k => oki k ∨ True ∧ W.heap.size ≤ k) v1 x') : AtI w0 n g vo vi ro ri gx gr xs rs (rows.set i x') (W1.setCell ⟨g, i, none⟩ v1) := by
 have hH := Kd.H_grown (Kd.H_widen ho.rest) hg (fun k e => .inl (ho.row.1 k e))
 have h0 : (0 : Int) ≤ (i : Int) := by omega
 have h1 : (i : Int) < (n : Int) := by omega
 obtain ⟨_, _, hraw, _, _, hcc, _⟩ := Kd.H_raw hH h0 h1
 have hS := Kd.S_seg0 hH h0 h1 (seg := [v1]) (j := 0) (show 1 ≤ 1 from by decide) (x' := x') (Kd.M_row hR) (fun _ hk => hk)
 have e1 : W1.setCells g ((i : Int).toNat * kSteps.sz + 0) [v1] = W1.setCell ⟨g, i, none⟩ v1 := by
  rw [show kSteps.sz = 1 from rfl, Nat.mul_one, Nat.add_zero, Int.toNat_natCast]
  rfl
 rw [e1, Int.toNat_natCast] at hS
 have b1 : W1.heap[gx]? = _ := blk_grown h.bx hg (Kd.R_ne ho.row h.bx (by decide))
 have b2 : W1.heap[gr]? = _ := blk_grown h.br hg (Kd.R_ne ho.row h.br (by decide))
 have o1 := Kd.S_over' h.out (Kd.R_typed ho.row) (by decide) hg
 have o2 := Kd.S_over' h.inn (Kd.R_typed ho.row) (by decide) hg
 have hraw' : ∀ k, (Value.slice (some ⟨g, 0, none⟩) n n).ownBlock = some k → ∃ cells, W1.heap[k]? = some (.cells cells 103 (0, 0)) := Kd.R_typed hraw
 have hgl : w0.heap.size ≤ g := Kd.S_base h.tab g (by simp [Value.ownBlock])
 exact ⟨hS.1, Kd.S_over' o1 hraw' (by decide) hS.2, Kd.S_over' o2 hraw' (by decide) hS.2, blk_grown b1 hS.2 (Kd.R_ne hraw b1 (by decide)), blk_grown b2 hS.2 (Kd.R_ne hraw b2 (by decide)), below_set hb hgl, h.gxl, h.grl, h.ne⟩
theorem RowOpen.moved {w0 : World} {n g i : Nat} {rows : List (List S105)} {W W1 : World} {A : Option Addr} {c : Nat} {oki : Nat → Prop} (h : RowOpen w0 n g i rows W A c oki) (hb : Below W.heap.size W W1) : RowOpen w0 n g i rows W1 A c oki :=
 ⟨pw_cell_below hb h.at_, by
  have hl := World.block_lt_of_cell? W _ h.at_
  have := h.free
  simp only [World.frozen?] at this ⊢
  rw [hb.block g hl]
  exact this, Kd.R_below h.row hb, Kd.H_below h.rest hb⟩
theorem RowOpen.spot {w0 : World} {n g i : Nat} {rows : List (List S105)} {W W1 w1 : World} {A : Option Addr} {c : Nat} {oki : Nat → Prop} (h : RowOpen w0 n g i rows W A c oki) (hi : i < n) (hb : Below W.heap.size W W1) (hg : W1.grownBy w1 (Value.slice A (rows.getD i []).length c).ownBlock) :
  w1.cell? ⟨g, i, none⟩ = some (.slice A (rows.getD i []).length c) ∧ w1.frozen? ⟨g, i, none⟩ = false := by
 have h2 := h.moved hb
 have hH := Kd.H_grown (Kd.H_widen h2.rest) hg (fun k e => .inl (h2.row.1 k e))
 obtain ⟨_, _, hraw, _, _, hcc, _⟩ := Kd.H_raw hH (by omega : (0 : Int) ≤ (i : Int)) (by omega)
 obtain ⟨cs, hcs⟩ := Kd.R_typed hraw g (by simp [Value.ownBlock])
 refine ⟨?_, blk_frozen hcs i⟩
 have := hcc 0 _ rfl
 rw [show kSteps.sz = 1 from rfl, Nat.mul_one, Nat.add_zero, Int.toNat_natCast] at this
 exact this
theorem AtI.append {w0 : World} {n g : Nat} {vo vi : Value} {ro ri : List (List Int)} {gx gr : Nat} {xs rs : Array Value} {rows : List (List S105)} {W W1 w1 : World} {i : Nat} {A : Option Addr} {c : Nat} {oki : Nat → Prop} {v1 : Value} {x' : List S105}
  (h : AtI w0 n g vo vi ro ri gx gr xs rs rows W) (hi : i < n) (ho : RowOpen w0 n g i rows W A c oki) (h1 : Below W.heap.size W W1) (hs : W1.heap.size = W.heap.size) (hg : W1.grownBy w1 (Value.slice A (rows.getD i []).length c).ownBlock) (hb : Below w0.heap.size w0 w1)
  (hR : Kd.R kStep 105 w1 w0.heap.size (fun k => oki k ∨ True ∧ W.heap.size ≤ k) v1 x') : AtI w0 n g vo vi ro ri gx gr xs rs (rows.set i x') (w1.setCell ⟨g, i, none⟩ v1) :=
 (h.below h1).close hi (ho.moved h1) hg hb (Kd.R_mono hR (fun k hk => by rw [hs]; exact hk))
theorem tab_new {W : World} {g n base : Nat} (hb : W.heap[g]? = some (.cells (madeCells #[.slice none 0 0] n) 103 (0, 0))) (hg : base ≤ g) (hn : n ≤ maxLen) :
  Kd.S kSteps 103 W base (fun _ => True) (.slice (some ⟨g, 0, none⟩) n n) (List.replicate n []) := by
 refine Kd.S_bare ⟨fun _ _ => trivial, (madeCells #[.slice none 0 0] n).toList, ?_, ?_⟩
 ·rw [List.length_replicate]
  refine ⟨?_, .inr ⟨g, n, _, rfl, hg, hb, Nat.le_refl _, hn, ?_, ?_⟩⟩
  ·rw [Array.length_toList, size_madeCells]
   exact (Nat.mul_one _).symm
  ·rw [size_madeCells]
   exact (Nat.mul_one _).symm
  ·exact List.take_of_length_le (by rw [Array.length_toList, size_madeCells]; exact Nat.le_of_eq (Nat.mul_one _).symm)
 ·have := Kd.reps_made (R := fun (x : List S105) cs => kSteps.M W base (fun _ => False) x cs) (z := .slice none 0 0) (size := 1) (z0 := []) rfl (by decide) ⟨_, rfl, Kd.R_nil _ _ _ _ _⟩ n
  rw [Nat.mul_one] at this
  exact this
def AtPre (w : World) (n : Nat) (b : Bool) (A : Option Addr) (l c : Nat) (Af : Option Addr) (lf cf g gx : Nat) (W : World) : Prop :=
 W.heap[w.heap.size]? = some (.cells #[.int .i64 n, .bool b, .slice A l c] 28 (0, 0)) ∧ AtI w n g (.slice none 0 0) (.slice none 0 0) [] [] gx (w.heap.size + 1) #[.int .i64 n, .bool b, .slice A l c, .slice Af lf cf, .slice (some ⟨g, 0, none⟩) n n] #[.int .i64 0, .bool false, .slice none 0 0, .slice none 0 0, .slice none 0 0] (List.replicate n []) W
theorem heap_of_alloc (W : World) (o : Obj) : (W.alloc o).heap = W.heap.push o := rfl
theorem heap_of_drew (W : World) : W.drew.heap = W.heap := rfl
theorem drew_of_alloc (W : World) (o : Obj) : (W.alloc o).drew = W.drew.alloc o := rfl
theorem push4 {w : World} (o1 o2 o3 o4 : Obj) : ((((w.alloc o1).alloc o2).alloc o3).alloc o4).heap[w.heap.size]? = some o1 ∧ ((((w.alloc o1).alloc o2).alloc o3).alloc o4).heap[w.heap.size + 1]? = some o2 ∧ ((((w.alloc o1).alloc o2).alloc o3).alloc o4).heap[w.heap.size + 1 + 1]? = some o3 ∧ ((((w.alloc o1).alloc o2).alloc o3).alloc o4).heap[w.heap.size + 1 + 1 + 1]? = some o4 := by
 have s : ∀ (W : World) (o : Obj), (W.alloc o).heap.size = W.heap.size + 1 := fun W o => by show (W.heap.push o).size = _; exact Array.size_push _
 refine ⟨blk_alloc (blk_alloc (blk_alloc (heap_alloc_new _ _) _) _) _, ?_, ?_, ?_⟩
 ·rw [← s w o1]
  exact blk_alloc (blk_alloc (heap_alloc_new _ _) _) _
 ·rw [← s w o1, ← s _ o2]
  exact blk_alloc (heap_alloc_new _ _) _
 ·rw [← s w o1, ← s _ o2, ← s _ o3]
  exact heap_alloc_new _ _
theorem at_pre {w W : World} {n : Nat} {b : Bool} {A : Option Addr} {l c : Nat} {Af : Option Addr} {lf cf : Nat} (hn : n ≤ 1000000) (hB : Below w.heap.size w W)
  (hW : W.heap = ((((w.alloc (.cells #[.int .i64 n, .bool b, .slice A l c] 28)).alloc (.cells #[.int .i64 0, .bool false, .slice none 0 0, .slice none 0 0, .slice none 0 0] 87)).alloc (.cells #[.int .i64 n, .bool b, .slice A l c, .slice Af lf cf, .slice (some ⟨w.heap.size + 1 + 1 + 1, 0, none⟩) n n] 87)).alloc (.cells (madeCells #[.slice none 0 0] n) 103)).heap) :
  AtPre w n b A l c Af lf cf (w.heap.size + 1 + 1 + 1) (w.heap.size + 1 + 1) W := by
 obtain ⟨p1, p2, p3, p4⟩ := push4 (w := w) (.cells #[.int .i64 n, .bool b, .slice A l c] 28) (.cells #[.int .i64 0, .bool false, .slice none 0 0, .slice none 0 0, .slice none 0 0] 87) (.cells #[.int .i64 n, .bool b, .slice A l c, .slice Af lf cf, .slice (some ⟨w.heap.size + 1 + 1 + 1, 0, none⟩) n n] 87) (.cells (madeCells #[.slice none 0 0] n) 103)
 rw [← hW] at p1 p2 p3 p4
 exact ⟨p1, tab_new p4 (by omega) (by simp only [maxLen]; omega), Kd.S_nil _ _ _ _ _, Kd.S_nil _ _ _ _ _, p3, p2, hB, by omega, by omega, by omega⟩
theorem at_pre' {w W : World} {n : Nat} {b : Bool} {A : Option Addr} {l c : Nat} {Af : Option Addr} {lf cf : Nat} (hn : n ≤ 1000000) (hB : Below w.heap.size w W)
  (hW : W.heap = ((((w.alloc (.cells #[.int .i64 n, .bool b, .slice A l c] 28)).alloc (.cells #[.int .i64 0, .bool false, .slice none 0 0, .slice none 0 0, .slice none 0 0] 87)).alloc (.cells (madeCells #[.slice none 0 0] n) 103)).alloc (.cells #[.int .i64 n, .bool b, .slice A l c, .slice Af lf cf, .slice (some ⟨w.heap.size + 1 + 1, 0, none⟩) n n] 87)).heap) :
  AtPre w n b A l c Af lf cf (w.heap.size + 1 + 1) (w.heap.size + 1 + 1 + 1) W := by
 obtain ⟨p1, p2, p3, p4⟩ := push4 (w := w) (.cells #[.int .i64 n, .bool b, .slice A l c] 28) (.cells #[.int .i64 0, .bool false, .slice none 0 0, .slice none 0 0, .slice none 0 0] 87) (.cells (madeCells #[.slice none 0 0] n) 103) (.cells #[.int .i64 n, .bool b, .slice A l c, .slice Af lf cf, .slice (some ⟨w.heap.size + 1 + 1, 0, none⟩) n n] 87)
 rw [← hW] at p1 p2 p3 p4
 exact ⟨p1, tab_new p3 (by omega) (by simp only [maxLen]; omega), Kd.S_nil _ _ _ _ _, Kd.S_nil _ _ _ _ _, p4, p2, hB, by omega, by omega, by omega⟩
def fwd (l : List Int) : List S105 := l.map fun i => ⟨i, false⟩
def bwd (l : List Int) : List S105 := l.map fun i => ⟨i, true⟩
def Stage (ro ri : List (List Int)) (n v : Nat) (rows : List (List S105)) : Prop :=
 rows.length = n ∧ ∀ u, u < n → (u < v → (rows.getD u []).Perm (fwd (ro.getD u []) ++ bwd (ri.getD u []))) ∧ (v ≤ u → rows.getD u [] = [])
theorem stage_start (ro ri : List (List Int)) (n : Nat) : Stage ro ri n 0 (List.replicate n []) := by
 refine ⟨List.length_replicate, fun u hu => ⟨fun h => absurd h (Nat.not_lt_zero _), fun _ => ?_⟩⟩
 rw [List.getD_eq_getElem?_getD, List.getElem?_replicate]
 simp [hu]
theorem stage_next {ro ri : List (List Int)} {n v : Nat} {rows : List (List S105)} (h : Stage ro ri n v rows) (hv : v < n) (r : List S105) (hr : r.Perm (fwd (ro.getD v []) ++ bwd (ri.getD v []))) : Stage ro ri n (v + 1) (rows.set v r) := by
 obtain ⟨h1, h2⟩ := h
 refine ⟨by rw [List.length_set, h1], fun u hu => ?_⟩
 by_cases e : v = u
 ·subst e
  have : (rows.set v r).getD v [] = r := by rw [List.getD_eq_getElem?_getD, List.getElem?_set_self (by omega)]; rfl
  rw [this]
  exact ⟨fun _ => hr, fun h => by omega⟩
 ·have : (rows.set v r).getD u [] = rows.getD u [] := by rw [List.getD_eq_getElem?_getD, List.getElem?_set_ne e, ← List.getD_eq_getElem?_getD]
  rw [this]
  exact ⟨fun h => (h2 u hu).1 (by omega), fun h => (h2 u hu).2 (by omega)⟩
theorem list_at {W : World} {base n co : Nat} {Ao : Option Addr} {l : List (List Int)} (h : Kd.S kInts 51 W base (fun _ => True) (.slice Ao n co) l) (i : Nat) (hi : i < l.length) :
  ∃ go A1 c1, Ao = some ⟨go, 0, none⟩ ∧ W.cell? ⟨go, i, none⟩ = some (.slice A1 (l.getD i []).length c1) ∧ Kd.R (Kd.int .i64) 3 W base (fun _ => True) (.slice A1 (l.getD i []).length c1) (l.getD i []) := by
 obtain ⟨go, cap, e, _, _, _⟩ := Kd.S_form h (by omega)
 injection e with e1 e2 e3
 subst e1
 obtain ⟨oki, ce, hl, hM, hcc, hfr, hok, hH⟩ := Kd.S_elem h [] (i : Int) (by omega) (by omega)
 obtain ⟨v, rfl, hR⟩ := hM
 have hv := hcc 0 _ rfl
 simp only [Nat.add_zero, Int.toNat_natCast] at hv hR
 rw [show kInts.sz = 1 from rfl, Nat.mul_one] at hv
 obtain ⟨A, c, rfl⟩ := Kd.R_slice hR
 exact ⟨go, A, c, rfl, hv, Kd.R_mono hR (fun _ _ => trivial)⟩
theorem row_close {w0 : World} {n g i : Nat} {rows : List (List S105)} {W W1 : World} {A : Option Addr} {c : Nat} {oki : Nat → Prop} {v1 vr : Value} {rl : List Int} (hi : i < n) (ho : RowOpen w0 n g i rows W A c oki) (hg : W.grownBy W1 (Value.slice A (rows.getD i []).length c).ownBlock)
  (hr : Kd.R (Kd.int .i64) 3 W w0.heap.size (fun _ => True) vr rl) : Kd.R (Kd.int .i64) 3 (W1.setCell ⟨g, i, none⟩ v1) w0.heap.size (fun _ => True) vr rl := by
 have h1 := Kd.R_over' hr (Kd.R_typed ho.row) (by decide) hg
 have hH := Kd.H_grown (Kd.H_widen ho.rest) hg (fun k e => .inl (ho.row.1 k e))
 obtain ⟨_, _, hraw, _, _, hcc, _⟩ := Kd.H_raw hH (by omega : (0 : Int) ≤ (i : Int)) (by omega)
 obtain ⟨cs, hcs⟩ := Kd.R_typed hraw g (by simp [Value.ownBlock])
 exact Kd.R_mono (Kd.R_far (p := ⟨g, i, none⟩) (Kd.R_types h1 hcs (by decide)) (fun _ hk => hk.2) v1) (fun _ _ => trivial)
theorem row_append {w0 : World} {n g i : Nat} {rows : List (List S105)} {W W1 w1 : World} {A : Option Addr} {c : Nat} {oki : Nat → Prop} {v1 vr : Value} {rl : List Int} (hi : i < n) (ho : RowOpen w0 n g i rows W A c oki) (h1 : Below W.heap.size W W1) (hg : W1.grownBy w1 (Value.slice A (rows.getD i []).length c).ownBlock)
  (hr : Kd.R (Kd.int .i64) 3 W w0.heap.size (fun _ => True) vr rl) : Kd.R (Kd.int .i64) 3 (w1.setCell ⟨g, i, none⟩ v1) w0.heap.size (fun _ => True) vr rl :=
 row_close hi (ho.moved h1) hg (Kd.R_below hr h1)
theorem take_push {l : List Int} {j : Nat} (h : j < l.length) : l.take (j + 1) = l.take j ++ [l.getD j 0] := by
 rw [List.take_add_one, List.getElem?_eq_getElem h, List.getD_eq_getElem?_getD, List.getElem?_eq_getElem h]
 rfl
theorem fwd_push {l : List Int} {j : Nat} (h : j < l.length) : fwd (l.take (j + 1)) = fwd (l.take j) ++ [⟨l.getD j 0, false⟩] := by
 rw [take_push h, fwd, List.map_append]
 rfl
theorem bwd_push {l : List Int} {j : Nat} (h : j < l.length) : bwd (l.take (j + 1)) = bwd (l.take j) ++ [⟨l.getD j 0, true⟩] := by
 rw [take_push h, bwd, List.map_append]
 rfl
theorem getD_set {α : Type} {rows : List (List α)} {v : Nat} (h : v < rows.length) (x : List α) : (rows.set v x).getD v [] = x := by
 rw [List.getD_eq_getElem?_getD, List.getElem?_set_self h]
 rfl
theorem fwd_len (l : List Int) : (fwd l).length = l.length := List.length_map ..
theorem bwd_len (l : List Int) : (bwd l).length = l.length := List.length_map ..
theorem AtI.sorted {w0 : World} {n g : Nat} {vo vi : Value} {ro ri : List (List Int)} {gx gr : Nat} {xs rs : Array Value} {rows : List (List S105)} {W W1 : World} {i : Nat} {A : Option Addr} {c : Nat} {oki : Nat → Prop} {r : List S105}
  (h : AtI w0 n g vo vi ro ri gx gr xs rs rows W) (_ : i < n) (ho : RowOpen w0 n g i rows W A c oki) (hb : Below w0.heap.size w0 W1) (hk : Kept W W1 (fun k => some k = (Value.slice A (rows.getD i []).length c).ownBlock))
  (hR : Kd.R kStep 105 W1 w0.heap.size (fun k => some k = (Value.slice A (rows.getD i []).length c).ownBlock ∨ W.heap.size ≤ k) (.slice A (rows.getD i []).length c) r) : AtI w0 n g vo vi ro ri gx gr xs rs (rows.set i r) W1 := by
 have hg : W.grownBy W1 (Value.slice A (rows.getD i []).length c).ownBlock := ⟨hb.os.trans h.low.os.symm, hb.tape.trans h.low.tape.symm, hb.output.trans h.low.output.symm, hk.1, fun k hl hn => hk.2 k hl (fun e => hn e)⟩
 have hH := Kd.H_grown (Kd.H_widen ho.rest) hg (fun k e => .inl (ho.row.1 k e))
 have hS := Kd.H_back hH (Kd.M_row (Kd.R_mono hR (ok' := fun k => oki k ∨ True ∧ W.heap.size ≤ k) (fun k hk => hk.elim (fun e => .inl (ho.row.1 k e.symm)) (fun e => .inr ⟨trivial, e⟩)))) (fun _ hk => hk)
 rw [Int.toNat_natCast] at hS
 exact ⟨hS, Kd.S_over' h.out (Kd.R_typed ho.row) (by decide) hg, Kd.S_over' h.inn (Kd.R_typed ho.row) (by decide) hg, blk_grown h.bx hg (Kd.R_ne ho.row h.bx (by decide)), blk_grown h.br hg (Kd.R_ne ho.row h.br (by decide)), hb, h.gxl, h.grl, h.ne⟩
end Go.Proofs.Ytdfagllncopmjaa.H
end
section
namespace Go.Proofs.Ytdfagllncopmjaa.H
open Go Go.RowKit Go.Proofs.YtdfagllncopmjaaW.PrintWords Go.Proofs.YtdfagllncopmjaaW.PrintLast Go.Proofs.YtdfagllncopmjaaW.PrintMore
section
variable {P : Program} {md : Region.Mode} {ops : Array Oper} {Q : Exit → Act → World → Prop} {S : World → Prop} {ds : List Nat}
theorem sP (i : Nat) {t : Tmp} {oi : Oper} {v : Value} {fuel : Nat} {l : Array Bool} {a a' : Act} {w : World} (h : wpAnyLast P md ops Q S ds fuel (l.setIfInBounds i true) a' w) (hi : ops[i]? = some oi := by exact rfl) (hN : oi.dst = some t := by exact rfl) (hc : anyB md ops l (l.setIfInBounds i true) i = true := by kernel_rfl)
  (hQ : ∀ c a w, Q (.panic c) (a.put oi.dst v) w → Q (.panic c) a w := by exact fun _ _ _ h => h) (hy : Yields P ops oi v a := by first | (refine Or.inl ⟨by rfl, ?_⟩; intro w'; go_simp; with_reducible rfl) | exact Or.inr ⟨by rfl, rfl⟩)
  (ha : a.put (some t) v = a' := by (simp only [Act.put, List.setIfInBounds_toArray, List.set_cons_zero, List.set_cons_succ]; rfl)) : wpAnyLast P md ops Q S ds (fuel + 1) l a w := pure_ _ hi hN hc hQ hy ha h
theorem sT (i : Nat) {t : Tmp} {oi : Oper} {v : Value} {fuel : Nat} {l : Array Bool} {a a' : Act} {w : World} (hS : S w) (h : wpAnyLast P md ops Q S ds fuel (l.setIfInBounds i true) a' w) (hi : ops[i]? = some oi := by exact rfl) (hN : oi.dst = some t := by exact rfl) (hc : takeB md ops ds l (l.setIfInBounds i true) i = true := by kernel_rfl)
  (hQ : ∀ c a w, Q (.panic c) (a.put oi.dst v) w → Q (.panic c) a w := by exact fun _ _ _ h => h) (hy : YieldsIf P ops S oi v a := by (refine Or.inl ⟨by rfl, ?_⟩; intro w' hs'; (repeat (rcases hs' with ⟨_, hs'⟩)); go_simp; with_reducible rfl))
  (ha : a.put (some t) v = a' := by (simp only [Act.put, List.setIfInBounds_toArray, List.set_cons_zero, List.set_cons_succ]; rfl)) : wpAnyLast P md ops Q S ds (fuel + 1) l a w := take_ _ hi hN hc hQ hy hS ha h
theorem rP (n : Nat) {t : Tmp} {oi : Oper} {v : Value} {fuel : Nat} {l : Array Bool} {a a' : Act} {w : World} (h : wpAnyLast P md ops Q S ds fuel (l.setIfInBounds (n - (fuel + 1)) true) a' w) (hi : ops[n - (fuel + 1)]? = some oi := by exact rfl) (hN : oi.dst = some t := by exact rfl) (hc : anyB md ops l (l.setIfInBounds (n - (fuel + 1)) true) (n - (fuel + 1)) = true := by kernel_rfl)
  (hQ : ∀ c a w, Q (.panic c) (a.put oi.dst v) w → Q (.panic c) a w := by exact fun _ _ _ h => h) (hy : Yields P ops oi v a := by first | (refine Or.inl ⟨by rfl, ?_⟩; intro w'; go_simp; with_reducible rfl) | exact Or.inr ⟨by rfl, rfl⟩)
  (ha : a.put (some t) v = a' := by (simp only [Act.put, List.setIfInBounds_toArray, List.set_cons_zero, List.set_cons_succ]; rfl)) : wpAnyLast P md ops Q S ds (fuel + 1) l a w := pure_ _ hi hN hc hQ hy ha h
theorem rT (n : Nat) {t : Tmp} {oi : Oper} {v : Value} {fuel : Nat} {l : Array Bool} {a a' : Act} {w : World} (hS : S w) (h : wpAnyLast P md ops Q S ds fuel (l.setIfInBounds (n - (fuel + 1)) true) a' w) (hi : ops[n - (fuel + 1)]? = some oi := by exact rfl) (hN : oi.dst = some t := by exact rfl) (hc : takeB md ops ds l (l.setIfInBounds (n - (fuel + 1)) true) (n - (fuel + 1)) = true := by kernel_rfl)
  (hQ : ∀ c a w, Q (.panic c) (a.put oi.dst v) w → Q (.panic c) a w := by exact fun _ _ _ h => h) (hy : YieldsIf P ops S oi v a := by (refine Or.inl ⟨by rfl, ?_⟩; intro w' hs'; (repeat (rcases hs' with ⟨_, hs'⟩)); go_simp; with_reducible rfl))
  (ha : a.put (some t) v = a' := by (simp only [Act.put, List.setIfInBounds_toArray, List.set_cons_zero, List.set_cons_succ]; rfl)) : wpAnyLast P md ops Q S ds (fuel + 1) l a w := take_ _ hi hN hc hQ hy hS ha h
theorem sN {fuel : Nat} {l : Array Bool} {a a' : Act} {w : World} (h : wpAnyLast P md ops Q S ds fuel l a' w) (ha : a = a' := by (show Act.put _ _ _ = _; simp only [Act.put, List.setIfInBounds_toArray, List.set_cons_zero, List.set_cons_succ]; rfl)) : wpAnyLast P md ops Q S ds fuel l a w := norm_ ha h
theorem sC (i : Nat) {t : Tmp} {oi : Oper} {fuel : Nat} {l : Array Bool} {a : Act} {w : World} {f : FuncId} {fn : Func} {as_ : Array Operand} {ts : Array TypeId} (hf : P.funcs[f]? = some fn) (args : Array Value) {R : Ending → World → Prop} (hc : Calls P f args w R)
  (h : ∀ e w', R e w' → ∃ v, e = .returned v ∧ S w' ∧ (S w' → wpAnyLast P md ops Q S ds fuel (l.setIfInBounds i true) (a.put (some t) v) w'))
  (hi : ops[i]? = some oi := by exact rfl) (hN : oi.dst = some t := by exact rfl) (hr : readyB md ops l (l.setIfInBounds i true) i = true := by kernel_rfl) (hd : i ∉ ds := by decide) (hname : (fn.name == "runtime.NumGoroutine") = false := by exact rfl) (hb : fn.body.isSome = true := by exact rfl)
  (hw : Region.wanted oi (yielded ops a.tmps) = true := by rfl) (hop : oi.op = .call { callee := .value (.func f), args := as_, argTypes := ts } := by exact rfl) (hargs : as_.map a.eval = args := by ((try simp only [List.map_toArray, List.map_cons, List.map_nil]); rfl)) : wpAnyLast P md ops Q S ds (fuel + 1) l a w :=
 one_ _ hi hN hr hd fun K hK => goes_ hf hname hb args hw hN hop hargs (hc.mono fun e w' hR => by
  obtain ⟨v, e1, s1, h1⟩ := h e w' hR
  exact ⟨v, e1, hK.out _ _ s1 h1⟩)
theorem sCL (i : Nat) {t : Tmp} {oi : Oper} {fuel : Nat} {l : Array Bool} {a : Act} {w : World} {f : FuncId} {fn : Func} {as_ : Array Operand} {ts : Array TypeId} (hf : P.funcs[f]? = some fn) (args : Array Value) {R : Ending → World → Prop} (hc : Calls P f args w R)
  (h : ∀ e w', R e w' → ∃ v, e = .returned v ∧ wpAnyLast P md ops Q S ds fuel (l.setIfInBounds i true) (a.put (some t) v) w')
  (hi : ops[i]? = some oi := by exact rfl) (hN : oi.dst = some t := by exact rfl) (hr : readyB md ops l (l.setIfInBounds i true) i = true := by kernel_rfl) (hd : i ∈ ds := by decide) (hname : (fn.name == "runtime.NumGoroutine") = false := by exact rfl) (hb : fn.body.isSome = true := by exact rfl)
  (hw : Region.wanted oi (yielded ops a.tmps) = true := by rfl) (hop : oi.op = .call { callee := .value (.func f), args := as_, argTypes := ts } := by exact rfl) (hargs : as_.map a.eval = args := by ((try simp only [List.map_toArray, List.map_cons, List.map_nil]); rfl)) : wpAnyLast P md ops Q S ds (fuel + 1) l a w :=
 last_ _ hi hN hr hd fun K hK => goes_ hf hname hb args hw hN hop hargs (hc.mono fun e w' hR => by
  obtain ⟨v, e1, h1⟩ := h e w' hR
  exact ⟨v, e1, hK.out _ _ h1⟩)
theorem sB (i : Nat) {t : Tmp} {oi : Oper} {v : Value} {fuel : Nat} {l : Array Bool} {a a' : Act} {w w1 : World} (hS : S w) (h : S w1 → wpAnyLast P md ops Q S ds fuel (l.setIfInBounds i true) a' w1)
  (hi : ops[i]? = some oi := by exact rfl) (hN : oi.dst = some t := by exact rfl) (hr : readyB md ops l (l.setIfInBounds i true) i = true := by kernel_rfl) (hd : i ∉ ds := by decide) (hw : Region.wanted oi (yielded ops a.tmps) = true := by rfl)
  (hrun : (execOp a.eval oi).run P w = .ok (.value v) w1 := by (go_simp; constructor; rfl; rfl)) (ha : a.put (some t) v = a' := by (simp only [Act.put, List.setIfInBounds_toArray, List.set_cons_zero, List.set_cons_succ]; rfl))
  (hS1 : S w → S w1 := by (intro hs'; (repeat (rcases hs' with ⟨_, hs'⟩)); (repeat' (refine And.intro ?_ ?_)); all_goals exact pw_cell_below (below_alloc (Below.refl _ _) _) (by assumption))) : wpAnyLast P md ops Q S ds (fuel + 1) l a w := by
 subst ha
 exact one_ _ hi hN hr hd fun K hK => value_ hw hN hrun (hK.out _ _ (hS1 hS) h)
structure AppK (P : Program) {α : Type} (d : Kd α) (T t : TypeId) (cs : α → List Value) : Prop where
 und : P.underlying T = some (.slice t)
 info : ∃ (z : Value) (bytes : Nat), (P.info? t).map (fun i => (i.zero, i.size, i.bytes)) = some (some z, d.sz, bytes) ∧ z.cells.size = d.sz ∧ 0 < bytes ∧ bytes ≤ 64
 pos : 0 < d.sz
 made : ∀ (w : World) (base : Nat) (ok : Nat → Prop) (x : α), d.M w base ok x (cs x)
theorem sA (i : Nat) {tn : Tmp} {oi : Oper} {fuel : Nat} {l : Array Bool} {a : Act} {w0 W : World} {base : Nat} {α : Type} {d : Kd α} {T t : TypeId} {cs : α → List Value} (hk : AppK P d T t cs) {s x : Operand} {Ao : Option Addr} {co : Nat} (xs : List α) (p : α)
  (HO : d.R t W base (fun _ => True) (.slice Ao xs.length co) xs) (HB : Below base w0 W) (hbase : base ≤ W.heap.size) (hl : xs.length ≤ 1000000)
  (h : ∀ A1 c1 w1, d.R t w1 base (fun _ => True) (.slice A1 (xs.length + 1) c1) (xs ++ [p]) → Below base w0 w1 → W.grownBy w1 (Value.slice Ao xs.length co).ownBlock → wpAnyLast P md ops Q S ds fuel (l.setIfInBounds i true) (a.put (some tn) (.slice A1 (xs.length + 1) c1)) w1)
  (hi : ops[i]? = some oi := by exact rfl) (hN : oi.dst = some tn := by exact rfl) (hr : readyB md ops l (l.setIfInBounds i true) i = true := by kernel_rfl) (hd : i ∈ ds := by decide) (hw : Region.wanted oi (yielded ops a.tmps) = true := by rfl)
  (ho : oi.op = .call { callee := .builtin .append, args := #[s, x], argTypes := #[T, T] } := by exact rfl) (hs : a.eval s = .slice Ao xs.length co := by exact rfl) (hx : a.eval x = .slice (some ⟨W.heap.size, 0, none⟩) 1 1 := by exact rfl) :
  wpAnyLast P md ops Q S ds (fuel + 1) l a (W.alloc (.cells (cs p).toArray t)) := by
 obtain ⟨z, bytes, h1, h2, h3, h4⟩ := hk.info
 refine last_ _ hi hN hr hd fun K hK => ?_
 rw [← hN]
 refine Kd.R_append_step d (w0 := w0) base hw s x T t z bytes ho hk.und h1 h2 hk.pos h3 _ xs p (cs p) (fun _ => True) (fun _ => False) hs hx (hk.made _ _ _ p) (fun _ hk => hk.elim) (fun _ _ => trivial) HO HB hbase (Nat.le_trans (Nat.mul_le_mul (Nat.succ_le_succ hl) h4) (by decide)) ?_
 intro v1 w1 o1 b1 g1 _
 obtain ⟨A1, c1, e1⟩ := Kd.R_slice o1
 rw [List.length_append] at e1
 subst e1
 exact hK.out _ _ (by rw [hN]; exact h A1 c1 w1 o1 b1 g1)
end
section
variable {P : Program} {md : Region.Mode} {ops : Array Oper} {Q : Exit → Act → World → Prop} {S : World → Prop} {ds : List Nat}
theorem stepE (n : Nat) {N : Option Tmp} {oi : Oper} {fuel : Nat} {l : Array Bool} {a : Act} {w : World} (hi : ops[n - (fuel + 1)]? = some oi) (hN : oi.dst = N) (hc : readyB md ops l (l.setIfInBounds (n - (fuel + 1)) true) (n - (fuel + 1)) = true) (hd : n - (fuel + 1) ∉ ds)
  (h : ∀ K : Act → World → Prop, Shut (∀ a' w', S w' → (S w' → wpAnyLast P md ops Q S ds fuel (l.setIfInBounds (n - (fuel + 1)) true) a' w') → K a' w') → if Region.wanted oi (yielded ops a.tmps) = true then Oper.wp P oi a w K Q else K (a.put N undef) w) :
  wpAnyLast P md ops Q S ds (fuel + 1) l a w := one_ _ hi hN hc hd h
theorem stepL (n : Nat) {N : Option Tmp} {oi : Oper} {fuel : Nat} {l : Array Bool} {a : Act} {w : World} (hi : ops[n - (fuel + 1)]? = some oi) (hN : oi.dst = N) (hc : readyB md ops l (l.setIfInBounds (n - (fuel + 1)) true) (n - (fuel + 1)) = true) (hd : n - (fuel + 1) ∈ ds)
  (h : ∀ K : Act → World → Prop, Shut (∀ a' w', wpAnyLast P md ops Q S ds fuel (l.setIfInBounds (n - (fuel + 1)) true) a' w' → K a' w') → if Region.wanted oi (yielded ops a.tmps) = true then Oper.wp P oi a w K Q else K (a.put N undef) w) :
  wpAnyLast P md ops Q S ds (fuel + 1) l a w := last_ _ hi hN hc hd h
theorem stepS {id : Nat} (n : Nat) {a : Act} {w : World} (hm : P.follows .mixedOrders = true) (hn : ops.size = n) (hS : S w.drew)
  (h : S w.drew → wpAnyLast P .any ops Q S ds n (Array.replicate n false) a w.drew) : (Code.region id ops true).wp P Q a w := start_ _ hm hn rfl hS h
end
end Go.Proofs.Ytdfagllncopmjaa.H
end
section
namespace Go.Proofs.Ytdfagllncopmjaa.H
open Go Go.RowKit Go.Proofs.Ytdfagllncopmjaa.PrintC Go.Proofs.YtdfagllncopmjaaW.PrintWords Go.Proofs.YtdfagllncopmjaaW.PrintLast Go.Proofs.YtdfagllncopmjaaW.PrintMore
set_option linter.unusedVariables false
set_option linter.unusedSimpArgs false
abbrev SoStp := S105
theorem w_in (x : Int) (h : -4611686018427387904 ≤ x ∧ x ≤ 4611686018427387904) : wrap64 x = x := by
 unfold wrap64
 omega
def SI (w0 w : World) (P : Nat → Prop) (v : Value) (l : List SoStp) (W : World) : Prop := ∃ r : List SoStp, r.Perm l ∧ Kd.R k105 105 W w0.heap.size P v r ∧ Below w0.heap.size w0 W ∧ Kept w W P
section
variable {w0 w W W' : World} {P : Nat → Prop} {v : Value} {l : List SoStp} {g n c : Nat}
theorem SI.start (hB : Below w0.heap.size w0 w) (hR : Kd.R k105 105 w w0.heap.size P v l) : SI w0 w P v l w := ⟨l, List.Perm.refl l, hR, hB, Kept.refl _ _⟩
theorem SI.drew (h : SI w0 w P v l W) : SI w0 w P v l W.drew := by
 obtain ⟨r, h1, h2, h3, h4⟩ := h
 exact ⟨r, h1, Kd.R_drew h2, below_drew1 h3, h4.drew⟩
theorem SI.below (h : SI w0 w P v l W) (hb : Below W.heap.size W W') : SI w0 w P v l W' := by
 obtain ⟨r, h1, h2, h3, h4⟩ := h
 exact ⟨r, h1, Kd.R_below h2 hb, below_step h3 hb, h4.below hb⟩
theorem SI.then_ (h : SI w0 w P v l W) (k : ∀ r : List SoStp, r.Perm l → Kd.R k105 105 W w0.heap.size P v r → Below w0.heap.size w0 W → SI w0 W P v r W') : SI w0 w P v l W' := by
 obtain ⟨r, h1, h2, h3, h4⟩ := h
 obtain ⟨r', k1, k2, k3, k4⟩ := k r h1 h2 h3
 exact ⟨r', k1.trans h1, k2, k3, h4.then_ k4 (fun _ hk => .inl hk)⟩
theorem SI.form (h : SI w0 w P v l W) (hp : 0 < l.length) : ∃ g cap, v = .slice (some ⟨g, 0, none⟩) l.length cap := by
 obtain ⟨r, h1, h2, h3, h4⟩ := h
 obtain ⟨g, cap, e, _⟩ := Kd.R_form h2 (by rw [h1.length_eq]; exact hp)
 exact ⟨g, cap, by rw [e, h1.length_eq]⟩
theorem SI.slice (h : SI w0 w P v l W) : ∃ A c, v = .slice A l.length c := by
 obtain ⟨r, h1, h2, h3, h4⟩ := h
 obtain ⟨A, c, e⟩ := Kd.R_slice h2
 exact ⟨A, c, by rw [e, h1.length_eq]⟩
theorem SI.elem (h : SI w0 w P (.slice (some ⟨g, 0, none⟩) n c) l W) (i : Int) (h0 : 0 ≤ i) (h1 : i < n) : ∃ (x : Int) (y : Bool), W.cell? ⟨g, i.toNat * 2, none⟩ = some (.int .i64 x) ∧ W.cell? ⟨g, i.toNat * 2 + 1, none⟩ = some (.bool y) := by
 obtain ⟨r, _, h2, _, _⟩ := h
 obtain ⟨ce, _, hM, hcc, _⟩ := Kd.R_elem h2 z105 i h0 h1
 obtain rfl := k105_openM hM
 exact ⟨_, _, hcc 0 _ rfl, hcc 1 _ rfl⟩
theorem SI.swap (h : SI w0 w P (.slice (some ⟨g, 0, none⟩) n c) l W) (i j : Int) (i0 : 0 ≤ i) (i1 : i < n) (j0 : 0 ≤ j) (j1 : j < n) : ∃ (x : Int) (y : Bool) (x' : Int) (y' : Bool),
  (W.cell? ⟨g, i.toNat * 2, none⟩ = some (.int .i64 x) ∧ W.cell? ⟨g, i.toNat * 2 + 1, none⟩ = some (.bool y) ∧ W.cell? ⟨g, j.toNat * 2, none⟩ = some (.int .i64 x') ∧ W.cell? ⟨g, j.toNat * 2 + 1, none⟩ = some (.bool y')) ∧
  (W.frozen? ⟨g, i.toNat * 2, none⟩ = false ∧ W.frozen? ⟨g, i.toNat * 2 + 1, none⟩ = false) ∧
  ∃ W1, W1 = (W.setCell ⟨g, i.toNat * 2, none⟩ (.int .i64 x')).setCell ⟨g, i.toNat * 2 + 1, none⟩ (.bool y') ∧
  (∃ a b, W1.cell? ⟨g, j.toNat * 2, none⟩ = some a ∧ W1.cell? ⟨g, j.toNat * 2 + 1, none⟩ = some b) ∧ (W1.frozen? ⟨g, j.toNat * 2, none⟩ = false ∧ W1.frozen? ⟨g, j.toNat * 2 + 1, none⟩ = false) ∧
  SI w0 w P (.slice (some ⟨g, 0, none⟩) n c) l ((W1.setCell ⟨g, j.toNat * 2, none⟩ (.int .i64 x)).setCell ⟨g, j.toNat * 2 + 1, none⟩ (.bool y)) := by
 obtain ⟨r, h1, h2, h3, h4⟩ := h
 have hn : n = r.length := (Kd.R_reads' h2).1
 obtain ⟨ce, hcl, hM, hcc, hfr⟩ := Kd.R_elem h2 z105 i i0 i1
 obtain rfl := k105_openM hM
 obtain ⟨ce, hcl', hM', hcc', hfr'⟩ := Kd.R_elem h2 z105 j j0 j1
 obtain rfl := k105_openM hM'
 have hp := h2.1 g rfl
 have hg := Kd.R_base h2 g rfl
 have s1 := (Kd.R_seg h2 i i0 i1 (seg := [.int .i64 (r.getD j.toNat z105).f0, .bool (r.getD j.toNat z105).f1]) (j := 0) hcl hcc (show 2 ≤ 2 from by decide) (x' := r.getD j.toNat z105) (k105_mkM _ _ _ _) (fun _ hk => hk)).1
 obtain ⟨ce, hcl2, hM2, hcc2, hfr2⟩ := Kd.R_elem s1 z105 j j0 j1
 obtain rfl := k105_openM hM2
 have s2 := (Kd.R_seg s1 j j0 j1 (seg := [.int .i64 (r.getD i.toNat z105).f0, .bool (r.getD i.toNat z105).f1]) (j := 0) hcl2 hcc2 (show 2 ≤ 2 from by decide) (x' := r.getD i.toNat z105) (k105_mkM _ _ _ _) (fun _ hk => hk)).1
 simp only [World.setCells, show k105.sz = 2 from rfl, Nat.add_zero] at hcc hcc' hfr hfr' hcc2 hfr2 s1 s2
 refine ⟨_, _, _, _, ⟨hcc 0 _ rfl, hcc 1 _ rfl, hcc' 0 _ rfl, hcc' 1 _ rfl⟩, ⟨hfr 0, hfr 1⟩, _, rfl, ⟨_, _, hcc2 0 _ rfl, hcc2 1 _ rfl⟩, ⟨hfr2 0, hfr2 1⟩, _, ?_, s2, ?_, ?_⟩
 ·refine List.Perm.trans ?_ h1
  have hi : i.toNat < r.length := by omega
  have hj : j.toNat < r.length := by omega
  simp only [List.getD_eq_getElem?_getD, List.getElem?_eq_getElem hi, List.getElem?_eq_getElem hj, Option.getD_some]
  exact List.set_set_perm hi hj
 ·exact below_set (below_set (below_set (below_set h3 hg) hg) hg) hg
 ·exact (((h4.setCell (.inl hp) _).setCell (.inl hp) _).setCell (.inl hp) _).setCell (.inl hp) _
end
def Sorts (w0 w : World) (P : Nat → Prop) (v : Value) (l : List SoStp) (e : Ending) (w' : World) : Prop := e = .returned (.tuple #[]) ∧ SI w0 w P v l w'
set_option maxHeartbeats 4000000 in
set_option maxRecDepth 100000 in
theorem cmp_walk (x x' : Int) (y y' : Bool) (w : World) : Calls Try.prog 49 #[.agg #[.int .i64 x, .bool y], .agg #[.int .i64 x', .bool y']] w fun e w' => ∃ z : Int, e = .returned (.int .i64 z) ∧ Below w.heap.size w w' := by
 have hu := Try.underlying105
 go_enter Try.func49, Try.ntmps49
 go_wp2
 go_ret
 exact ⟨_, rfl, below_alloc (below_alloc (Below.refl _ _) _) _⟩
set_option maxHeartbeats 4000000 in
set_option maxRecDepth 100000 in
theorem swap_walk (w0 w : World) (P : Nat → Prop) (v : Value) (l : List SoStp) (X : World) (hS : SI w0 w P v l X) (a b n : Int) (F : Value) (ha : 0 ≤ a) (hb : 0 ≤ b) (h1 : n ≤ 0 ∨ a + n ≤ l.length) (h2 : n ≤ 0 ∨ b + n ≤ l.length) (hl : (l.length : Int) ≤ 1099511627776) :
  Calls Try.prog 97 #[v, .int .i64 a, .int .i64 b, .int .i64 n, F] X (Sorts w0 w P v l) := by
 have hu := Try.underlying105
 have HS := zh hS
 clear hS
 go_enter Try.func97, Try.ntmps97
 go_wp2
 go_loopg [10] n.toNat (fun k iv W => ∃ i : Int, iv = .int .i64 i ∧ 0 ≤ i ∧ k = (n - i).toNat ∧ Hid (SI w0 w P v l W))
 case atStart => exact ⟨0, rfl, Int.le_refl _, by omega, HS⟩
 case round =>
  obtain ⟨i, rfl, hi, rfl, HL⟩ := hrel
  clear HS
  by_cases c1 : i < n
  ·obtain ⟨g, c, rfl⟩ := HL.out.form (by omega)
   obtain ⟨p, hp⟩ : ∃ p, p = a + i := ⟨_, rfl⟩
   obtain ⟨q, hq⟩ : ∃ q, q = b + i := ⟨_, rfl⟩
   have ep : IntKind.i64.wrap (a + i) = p := by rw [IntWalk.i64_in _ (by omega), hp]
   have eq : IntKind.i64.wrap (b + i) = q := by rw [IntWalk.i64_in _ (by omega), hq]
   have p0 : 0 ≤ p := by omega
   have p1 : p < (l.length : Int) := by omega
   have q0 : 0 ≤ q := by omega
   have q1 : q < (l.length : Int) := by omega
   have HM := zh (And.intro h1 (And.intro h2 hl))
   clear h1 h2 hl hp hq
   go_wp2
   obtain ⟨x, y, x', y', ⟨a0, a1, b0, b1⟩, ⟨f0, f1⟩, W1, hW1, ⟨u, u', d0, d1⟩, ⟨f2, f3⟩, HN⟩ := HL.out.drew.swap p q p0 p1 q0 q1
   have HN := zh HN
   have HW1 := zh hW1
   clear hW1
   refine stepS (S := fun w' => w'.cell? ⟨g, p.toNat * 2, none⟩ = some (.int .i64 x) ∧ w'.cell? ⟨g, p.toNat * 2 + 1, none⟩ = some (.bool y) ∧ w'.cell? ⟨g, q.toNat * 2, none⟩ = some (.int .i64 x') ∧ w'.cell? ⟨g, q.toNat * 2 + 1, none⟩ = some (.bool y')) (ds := [21, 23]) 24 (by kernel_rfl) rfl ⟨a0, a1, b0, b1⟩ (fun hHeld => ?_)
   generalize wr.drew = wd at a0 a1 b0 b1 f0 f1 HW1 hHeld ⊢
   repeat (first | refine rP 24 ?_ | refine rT 24 hHeld ?_)
   refine stepL 24 (N := none) rfl rfl (by kernel_rfl) (by decide) (fun K hK => ?_)
   refine skip_ (w1 := ?_) (by rfl) rfl ?_ ?_
   rotate_left
   ·go_simp
    rfl
   refine hK.out _ _ ?_
   clear hK K hHeld a0 a1 b0 b1 f0 f1
   rw [← HW1.out]
   refine rP 24 ?_
   refine stepL 24 (N := none) rfl rfl (by kernel_rfl) (by decide) (fun K hK => ?_)
   refine skip_ (w1 := ?_) (by rfl) rfl ?_ ?_
   rotate_left
   ·go_simp
    rfl
   refine hK.out _ _ ?_
   clear hK K d0 d1 f2 f3
   have HN9 := zh HN.out
   generalize ((W1.setCell ⟨g, q.toNat * 2, none⟩ (.int .i64 x)).setCell ⟨g, q.toNat * 2 + 1, none⟩ (.bool y)) = W9 at HN9 ⊢
   refine done_ (by kernel_rfl) ?_
   go_wp2
   obtain ⟨m1, m2, m3⟩ := HM.out
   go_roundg (n - (i + 1)).toNat
   case measure => omega
   case rel => exact ⟨i + 1, by rw [w_in _ (by omega)], by omega, rfl, HN9⟩
  ·go_wp2
   refine bodyPost_ret (results_none rfl _ _ _) rfl ?_
   exact ⟨rfl, HL.out⟩
set_option maxHeartbeats 4000000 in
set_option maxRecDepth 100000 in
theorem rotate_walk (w0 w : World) (P : Nat → Prop) (v : Value) (l : List SoStp) (X : World) (hS : SI w0 w P v l X) (a m b : Int) (F : Value) (ha : 0 ≤ a) (h1 : a < m) (h2 : m < b) (h3 : b ≤ l.length) (hl : (l.length : Int) ≤ 1099511627776) :
  Calls Try.prog 93 #[v, .int .i64 a, .int .i64 m, .int .i64 b, F] X (Sorts w0 w P v l) := by
 have HS := zh hS
 clear hS
 have e1 : IntKind.i64.wrap (m - a) = m - a := IntWalk.i64_in _ (by omega)
 have e2 : IntKind.i64.wrap (b - m) = b - m := IntWalk.i64_in _ (by omega)
 go_enter Try.func93, Try.ntmps93
 go_wp2
 go_loopg [10, 11] (b - a).toNat (fun k iv jv W => ∃ i j : Int, iv = .int .i64 i ∧ jv = .int .i64 j ∧ 0 < i ∧ 0 < j ∧ i ≤ m ∧ m + j ≤ l.length ∧ k = (i + j).toNat ∧ Hid (SI w0 w P v l W))
 case atStart => exact ⟨m - a, b - m, rfl, rfl, by omega, by omega, by omega, by omega, by omega, HS⟩
 case round =>
  obtain ⟨i, j, rfl, rfl, hi, hj, him, hjl, rfl, HL⟩ := hrel
  clear HS e1 e2
  have e3 : IntKind.i64.wrap (m - i) = m - i := IntWalk.i64_in _ (by omega)
  by_cases c1 : i = j
  ·subst c1
   have t1 : (i == i) = true := beq_self_eq_true _
   have t2 : (i != i) = false := by simp
   go_wp2_with ((go_at_call 97; refine (swap_walk w0 w P v l _ HL.out _ _ _ _ (by omega) (by omega) (by omega) (by omega) hl).mono ?_; rintro e w2 ⟨rfl, hN⟩; have HN := zh hN; clear hN))
   refine bodyPost_ret (results_none rfl _ _ _) rfl ?_
   exact ⟨rfl, HN.out⟩
  ·have t1 : (i == j) = false := by simpa using c1
   have t2 : (i != j) = true := by simpa using c1
   by_cases c2 : j < i
   ·have e4 : IntKind.i64.wrap (i - j) = i - j := IntWalk.i64_in _ (by omega)
    go_wp2_with ((go_at_call 97; refine (swap_walk w0 w P v l _ HL.out _ _ _ _ (by omega) (by omega) (by omega) (by omega) hl).mono ?_; rintro e w2 ⟨rfl, hN⟩; have HN := zh hN; clear hN))
    go_roundg (i - j + j).toNat
    case measure => omega
    case rel => exact ⟨i - j, j, rfl, rfl, by omega, hj, by omega, hjl, rfl, HN⟩
   ·have e4 : IntKind.i64.wrap (j - i) = j - i := IntWalk.i64_in _ (by omega)
    have e5 : IntKind.i64.wrap (m + j) = m + j := IntWalk.i64_in _ (by omega)
    have e6 : IntKind.i64.wrap (m + j - i) = m + j - i := IntWalk.i64_in _ (by omega)
    go_wp2_with ((go_at_call 97; refine (swap_walk w0 w P v l _ HL.out _ _ _ _ (by omega) (by omega) (by omega) (by omega) hl).mono ?_; rintro e w2 ⟨rfl, hN⟩; have HN := zh hN; clear hN))
    go_roundg (i + (j - i)).toNat
    case measure => omega
    case rel => exact ⟨i, j - i, rfl, rfl, hi, by omega, him, by omega, rfl, HN⟩
set_option maxHeartbeats 4000000 in
set_option maxRecDepth 100000 in
theorem insert_walk (w0 w : World) (P : Nat → Prop) (v : Value) (l : List SoStp) (X : World) (hS : SI w0 w P v l X) (a b : Int) (ha : 0 ≤ a) (h1 : b ≤ l.length) (hl : (l.length : Int) ≤ 1099511627776) (h2 : a ≤ b) :
  Calls Try.prog 81 #[v, .int .i64 a, .int .i64 b, .func (.func 49) #[] #[]] X (Sorts w0 w P v l) := by
 have hu := Try.underlying105
 have HS := zh hS
 clear hS
 have e1 : IntKind.i64.wrap (a + 1) = a + 1 := IntWalk.i64_in _ (by omega)
 go_enter Try.func81, Try.ntmps81
 go_wp2
 go_loopg [8] (b - (a + 1)).toNat (fun k iv W => ∃ i : Int, iv = .int .i64 i ∧ a < i ∧ k = (b - i).toNat ∧ Hid (SI w0 w P v l W))
 case atStart => exact ⟨a + 1, rfl, by omega, rfl, HS⟩
 case round =>
  obtain ⟨i, rfl, hi, rfl, HL⟩ := hrel
  clear HS e1
  by_cases c1 : i < b
  ·obtain ⟨g, c, rfl⟩ := HL.out.form (by omega)
   have ei : IntKind.i64.wrap (i + 1) = i + 1 := IntWalk.i64_in _ (by omega)
   go_wp2
   go_loopg [9] (i - a).toNat (fun k jv W => ∃ j : Int, jv = .int .i64 j ∧ a ≤ j ∧ j ≤ i ∧ k = (j - a).toNat ∧ Hid (SI w0 w P (.slice (some ⟨g, 0, none⟩) l.length c) l W))
   case atStart => exact ⟨i, rfl, by omega, by omega, rfl, HL⟩
   case round =>
    obtain ⟨p, rfl, hj0, hj1, rfl, HL⟩ := hrel
    have p0 : 0 ≤ p := by omega
    have p1 : p < (l.length : Int) := by omega
    by_cases c2 : a < p
    ·obtain ⟨q, hq⟩ : ∃ q, q = p - 1 := ⟨_, rfl⟩
     have eq : IntKind.i64.wrap (p - 1) = q := by rw [IntWalk.i64_in _ (by omega), hq]
     have q0 : 0 ≤ q := by omega
     have q1 : q < (l.length : Int) := by omega
     have HQ := zh hq
     clear hq
     go_wp2
     obtain ⟨x, y, a0, a1⟩ := HL.out.drew.elem p p0 p1
     obtain ⟨x', y', b0, b1⟩ := HL.out.drew.elem q q0 q1
     have HD := zh HL.out.drew
     clear HL
     refine stepS (S := fun w' => w'.cell? ⟨g, p.toNat * 2, none⟩ = some (.int .i64 x) ∧ w'.cell? ⟨g, p.toNat * 2 + 1, none⟩ = some (.bool y) ∧ w'.cell? ⟨g, q.toNat * 2, none⟩ = some (.int .i64 x') ∧ w'.cell? ⟨g, q.toNat * 2 + 1, none⟩ = some (.bool y')) (ds := [14]) 17 (by kernel_rfl) rfl ⟨a0, a1, b0, b1⟩ (fun hHeld => ?_)
     generalize wr.drew = wd at a0 a1 b0 b1 HD hHeld ⊢
     repeat (first | refine rP 17 ?_ | refine rT 17 hHeld ?_)
     refine stepL 17 (N := some 32) rfl rfl (by kernel_rfl) (by decide) (fun K hK => ?_)
     refine goesVD Try.func49 (by kernel_rfl) rfl #[.agg #[.int .i64 x, .bool y], .agg #[.int .i64 x', .bool y']] #[] #[] (by rfl) rfl rfl (by rfl) (by (try simp only [List.map_toArray, List.map_cons, List.map_nil, Array.empty_append, Array.append_empty]); rfl) ?_
     refine (cmp_walk _ _ _ _ _).mono ?_
     rintro e w2 ⟨z, rfl, hb⟩
     refine ⟨_, rfl, ?_⟩
     have HL := zh (HD.out.below hb)
     refine hK.out _ _ ?_
     clear hK K hHeld a0 a1 b0 b1 hb HD wd
     refine sN ?_
     repeat refine rP 17 ?_
     refine done_ (by kernel_rfl) ?_
     by_cases hz : z < 0
     ·go_wp2
      obtain ⟨x, y, x', y', ⟨a0, a1, b0, b1⟩, ⟨f0, f1⟩, W1, hW1, ⟨u, u', d0, d1⟩, ⟨f2, f3⟩, HN⟩ := HL.out.drew.swap p q p0 p1 q0 q1
      have HN := zh HN
      have HW1 := zh hW1
      clear hW1 HL
      refine stepS (S := fun w' => w'.cell? ⟨g, p.toNat * 2, none⟩ = some (.int .i64 x) ∧ w'.cell? ⟨g, p.toNat * 2 + 1, none⟩ = some (.bool y) ∧ w'.cell? ⟨g, q.toNat * 2, none⟩ = some (.int .i64 x') ∧ w'.cell? ⟨g, q.toNat * 2 + 1, none⟩ = some (.bool y')) (ds := [15, 17]) 18 (by kernel_rfl) rfl ⟨a0, a1, b0, b1⟩ (fun hHeld => ?_)
      generalize w2.drew = wd at a0 a1 b0 b1 f0 f1 HW1 hHeld ⊢
      repeat (first | refine rP 18 ?_ | refine rT 18 hHeld ?_)
      refine stepL 18 (N := none) rfl rfl (by kernel_rfl) (by decide) (fun K hK => ?_)
      refine skip_ (w1 := ?_) (by rfl) rfl ?_ ?_
      rotate_left
      ·go_simp
       rfl
      refine hK.out _ _ ?_
      clear hK K hHeld a0 a1 b0 b1 f0 f1
      rw [← HW1.out]
      refine rP 18 ?_
      refine stepL 18 (N := none) rfl rfl (by kernel_rfl) (by decide) (fun K hK => ?_)
      refine skip_ (w1 := ?_) (by rfl) rfl ?_ ?_
      rotate_left
      ·go_simp
       rfl
      refine hK.out _ _ ?_
      clear hK K d0 d1 f2 f3
      have HN9 := zh HN.out
      generalize ((W1.setCell ⟨g, q.toNat * 2, none⟩ (.int .i64 x)).setCell ⟨g, q.toNat * 2 + 1, none⟩ (.bool y)) = W9 at HN9 ⊢
      clear HN HW1
      refine done_ (by kernel_rfl) ?_
      go_wp2
      have hq := HQ.out
      go_roundg (q - a).toNat
      case measure => omega
      case rel => exact ⟨q, rfl, by omega, by omega, rfl, HN9⟩
     ·go_wp2
      go_roundg (b - (i + 1)).toNat
      case measure => omega
      case rel => exact ⟨i + 1, rfl, by omega, rfl, HL⟩
    ·have c3 : decide (a < p) = false := decide_eq_false c2
     clear c2
     go_wp2
     refine stepS (S := fun _ => True) (ds := [14]) 17 (by kernel_rfl) rfl trivial (fun hHeld => ?_)
     have HL := zh HL.out.drew
     repeat refine rP 17 ?_
     refine done_ (by kernel_rfl) ?_
     go_wp2
     go_roundg (b - (i + 1)).toNat
     case measure => omega
     case rel => exact ⟨i + 1, rfl, by omega, rfl, HL⟩
  ·go_wp2
   refine bodyPost_ret (results_none rfl _ _ _) rfl ?_
   exact ⟨rfl, HL.out⟩
theorem u64_st (x : Int) (h : 0 ≤ x ∧ x ≤ 4611686018427387904) : IntKind.u64.wrap x = x := by
 unfold IntKind.wrap
 simp [IntKind.signed, IntKind.bits]
 omega
theorem half_in (x y : Int) (h : 0 ≤ x + y ∧ x + y ≤ 4611686018427387904) : wrap64 ((IntKind.u64.wrap (wrap64 (x + y))) / 2) = (x + y) / 2 := by
 rw [w_in (x + y) (by omega), u64_st _ (by omega), w_in _ (by omega)]
theorem half_i (x y : Int) (h : 0 ≤ x + y ∧ x + y ≤ 4611686018427387904) : IntKind.i64.wrap ((IntKind.u64.wrap (IntKind.i64.wrap (x + y))) / 2) = (x + y) / 2 := by
 rw [IntWalk.i64_in (x + y) (by omega), u64_st _ (by omega), IntWalk.i64_in _ (by omega)]
set_option maxHeartbeats 8000000 in
set_option maxRecDepth 100000 in
theorem sym_walk (w0 w : World) (P : Nat → Prop) (g c : Nat) (l : List SoStp) (hl : (l.length : Int) ≤ 1099511627776) : ∀ (d : Nat) (a m b : Int) (X : World) (hS : SI w0 w P (.slice (some ⟨g, 0, none⟩) l.length c) l X) (ha : 0 ≤ a) (am : a < m) (mb : m < b) (bl : b ≤ l.length) (hd : (b - a).toNat ≤ d),
  Calls Try.prog 82 #[.slice (some ⟨g, 0, none⟩) l.length c, .int .i64 a, .int .i64 m, .int .i64 b, .func (.func 49) #[] #[]] X (Sorts w0 w P (.slice (some ⟨g, 0, none⟩) l.length c) l) := by
 intro d
 induction d with
 |zero => intro a m b X hS ha am mb bl hd; omega
 |succ d ih =>
  intro a m b X hS ha am mb bl hd
  have hu := Try.underlying105
  have HL := zh hS
  clear hS
  have e1 : IntKind.i64.wrap (m - a) = m - a := IntWalk.i64_in _ (by omega)
  have e2 : IntKind.i64.wrap (b - m) = b - m := IntWalk.i64_in _ (by omega)
  have a0 := ha
  have a1 : a < (l.length : Int) := by omega
  have m0 : 0 ≤ m := by omega
  have m1 : m < (l.length : Int) := by omega
  go_enter Try.func82, Try.ntmps82
  by_cases g1 : m - a = 1
  ·have t1 : (m - a == 1) = true := by simpa using g1
   go_wp2
   go_loopg [10, 11] (b - m).toNat (fun k iv jv W => ∃ i j : Int, iv = .int .i64 i ∧ jv = .int .i64 j ∧ m ≤ i ∧ i ≤ j ∧ j ≤ b ∧ k = (j - i).toNat ∧ Hid (SI w0 w P (.slice (some ⟨g, 0, none⟩) l.length c) l W))
   case atStart => exact ⟨m, b, rfl, rfl, by omega, by omega, by omega, rfl, HL⟩
   case round =>
    obtain ⟨i, j, rfl, rfl, hi, hij, hj, rfl, HL⟩ := hrel
    by_cases c1 : i < j
    ·have HD := zh hd
     clear hd
     obtain ⟨h, hh⟩ : ∃ h, (i + j) / 2 = h := ⟨_, rfl⟩
     have eh : IntKind.i64.wrap (IntKind.u64.wrap (IntKind.i64.wrap (i + j)) / 2) = h := by rw [← hh]; exact half_i i j (by omega)
     have eh' : wrap64 (IntKind.u64.wrap (wrap64 (i + j)) / 2) = h := by rw [← hh]; exact half_in i j (by omega)
     have hl0 : i ≤ h := by omega
     have hl1 : h < j := by omega
     have eh1 : IntKind.i64.wrap (h + 1) = h + 1 := IntWalk.i64_in _ (by omega)
     have h0 : 0 ≤ h := by omega
     have h1 : h < (l.length : Int) := by omega
     go_wp2
     obtain ⟨x, y, va0, va1⟩ := HL.out.drew.elem h h0 h1
     obtain ⟨x', y', vb0, vb1⟩ := HL.out.drew.elem a a0 a1
     have HD := zh HL.out.drew
     clear HL
     refine stepS (S := fun w' => w'.cell? ⟨g, h.toNat * 2, none⟩ = some (.int .i64 x) ∧ w'.cell? ⟨g, h.toNat * 2 + 1, none⟩ = some (.bool y) ∧ w'.cell? ⟨g, a.toNat * 2, none⟩ = some (.int .i64 x') ∧ w'.cell? ⟨g, a.toNat * 2 + 1, none⟩ = some (.bool y')) (ds := [9]) 11 (by kernel_rfl) rfl ⟨va0, va1, vb0, vb1⟩ (fun hHeld => ?_)
     generalize wr.drew = wd at va0 va1 vb0 vb1 HD hHeld ⊢
     repeat (first | refine rP 11 ?_ | refine rT 11 hHeld ?_)
     refine stepL 11 (N := some 49) rfl rfl (by kernel_rfl) (by decide) (fun K hK => ?_)
     refine goesVD Try.func49 (by kernel_rfl) rfl #[.agg #[.int .i64 x, .bool y], .agg #[.int .i64 x', .bool y']] #[] #[] (by rfl) rfl rfl (by rfl) (by (try simp only [List.map_toArray, List.map_cons, List.map_nil, Array.empty_append, Array.append_empty]); rfl) ?_
     refine (cmp_walk _ _ _ _ _).mono ?_
     rintro e w2 ⟨z, rfl, hb⟩
     refine ⟨_, rfl, ?_⟩
     have HL := zh (HD.out.below hb)
     refine hK.out _ _ ?_
     clear hK K hHeld va0 va1 vb0 vb1 hb HD wd
     refine sN ?_
     obtain ⟨t, ht⟩ : ∃ t, decide (z < 0) = t := ⟨_, rfl⟩
     repeat refine rP 11 ?_
     clear ht
     refine done_ (by kernel_rfl) ?_
     cases t
     ·go_wp2
      have hd := HD.out
      go_roundg (h - i).toNat
      case measure => omega
      case rel => exact ⟨i, h, rfl, rfl, hi, by omega, by omega, rfl, HL⟩
     ·go_wp2
      have hd := HD.out
      go_roundg (j - (h + 1)).toNat
      case measure => omega
      case rel => exact ⟨h + 1, j, rfl, rfl, by omega, by omega, hj, rfl, HL⟩
    ·have ei : IntKind.i64.wrap (i - 1) = i - 1 := IntWalk.i64_in _ (by omega)
     go_wp2
     go_loopg [13] (i - 1 - a).toNat (fun k kv W => ∃ p : Int, kv = .int .i64 p ∧ a ≤ p ∧ k = (i - 1 - p).toNat ∧ Hid (SI w0 w P (.slice (some ⟨g, 0, none⟩) l.length c) l W))
     case atStart => exact ⟨a, rfl, Int.le_refl _, rfl, HL⟩
     case round =>
      obtain ⟨p, rfl, hp, rfl, HL⟩ := hrel
      by_cases c2 : p < i - 1
      ·obtain ⟨q, hq⟩ : ∃ q, q = p + 1 := ⟨_, rfl⟩
       have eq : IntKind.i64.wrap (p + 1) = q := by rw [IntWalk.i64_in _ (by omega), hq]
       have p0 : 0 ≤ p := by omega
       have p1 : p < (l.length : Int) := by omega
       have q0 : 0 ≤ q := by omega
       have q1 : q < (l.length : Int) := by omega
       have HQ := zh hq
       clear hq
       go_wp2
       obtain ⟨x, y, x', y', ⟨va0, va1, vb0, vb1⟩, ⟨f0, f1⟩, W1, hW1, ⟨u, u', vd0, vd1⟩, ⟨f2, f3⟩, HN⟩ := HL.out.drew.swap p q p0 p1 q0 q1
       have HN := zh HN
       have HW1 := zh hW1
       clear hW1 HL
       refine stepS (S := fun w' => w'.cell? ⟨g, p.toNat * 2, none⟩ = some (.int .i64 x) ∧ w'.cell? ⟨g, p.toNat * 2 + 1, none⟩ = some (.bool y) ∧ w'.cell? ⟨g, q.toNat * 2, none⟩ = some (.int .i64 x') ∧ w'.cell? ⟨g, q.toNat * 2 + 1, none⟩ = some (.bool y')) (ds := [15, 17]) 18 (by kernel_rfl) rfl ⟨va0, va1, vb0, vb1⟩ (fun hHeld => ?_)
       generalize wr.drew = wd at va0 va1 vb0 vb1 f0 f1 HW1 hHeld ⊢
       repeat (first | refine rP 18 ?_ | refine rT 18 hHeld ?_)
       refine stepL 18 (N := none) rfl rfl (by kernel_rfl) (by decide) (fun K hK => ?_)
       refine skip_ (w1 := ?_) (by rfl) rfl ?_ ?_
       rotate_left
       ·go_simp
        rfl
       refine hK.out _ _ ?_
       clear hK K hHeld va0 va1 vb0 vb1 f0 f1
       rw [← HW1.out]
       refine rP 18 ?_
       refine stepL 18 (N := none) rfl rfl (by kernel_rfl) (by decide) (fun K hK => ?_)
       refine skip_ (w1 := ?_) (by rfl) rfl ?_ ?_
       rotate_left
       ·go_simp
        rfl
       refine hK.out _ _ ?_
       clear hK K vd0 vd1 f2 f3
       have HN9 := zh HN.out
       generalize ((W1.setCell ⟨g, q.toNat * 2, none⟩ (.int .i64 x)).setCell ⟨g, q.toNat * 2 + 1, none⟩ (.bool y)) = W9 at HN9 ⊢
       clear HN HW1
       refine done_ (by kernel_rfl) ?_
       go_wp2
       have hq := HQ.out
       go_roundg (i - 1 - q).toNat
       case measure => omega
       case rel => exact ⟨q, rfl, by omega, rfl, HN9⟩
      ·go_wp2
       refine bodyPost_ret (results_none rfl _ _ _) rfl ?_
       exact ⟨rfl, HL.out⟩
  ·have t1 : (m - a == 1) = false := by simpa using g1
   by_cases g2 : b - m = 1
   ·have t2 : (b - m == 1) = true := by simpa using g2
    go_wp2
    go_loopg [14, 15] (m - a).toNat (fun k iv jv W => ∃ i j : Int, iv = .int .i64 i ∧ jv = .int .i64 j ∧ a ≤ i ∧ i ≤ j ∧ j ≤ m ∧ k = (j - i).toNat ∧ Hid (SI w0 w P (.slice (some ⟨g, 0, none⟩) l.length c) l W))
    case atStart => exact ⟨a, m, rfl, rfl, by omega, by omega, by omega, rfl, HL⟩
    case round =>
     obtain ⟨i, j, rfl, rfl, hi, hij, hj, rfl, HL⟩ := hrel
     by_cases c1 : i < j
     ·have HD := zh hd
      clear hd
      obtain ⟨h, hh⟩ : ∃ h, (i + j) / 2 = h := ⟨_, rfl⟩
      have eh : IntKind.i64.wrap (IntKind.u64.wrap (IntKind.i64.wrap (i + j)) / 2) = h := by rw [← hh]; exact half_i i j (by omega)
      have eh' : wrap64 (IntKind.u64.wrap (wrap64 (i + j)) / 2) = h := by rw [← hh]; exact half_in i j (by omega)
      have hl0 : i ≤ h := by omega
      have hl1 : h < j := by omega
      have eh1 : IntKind.i64.wrap (h + 1) = h + 1 := IntWalk.i64_in _ (by omega)
      have h0 : 0 ≤ h := by omega
      have h1 : h < (l.length : Int) := by omega
      go_wp2
      obtain ⟨x, y, va0, va1⟩ := HL.out.drew.elem m m0 m1
      obtain ⟨x', y', vb0, vb1⟩ := HL.out.drew.elem h h0 h1
      have HD := zh HL.out.drew
      clear HL
      refine stepS (S := fun w' => w'.cell? ⟨g, m.toNat * 2, none⟩ = some (.int .i64 x) ∧ w'.cell? ⟨g, m.toNat * 2 + 1, none⟩ = some (.bool y) ∧ w'.cell? ⟨g, h.toNat * 2, none⟩ = some (.int .i64 x') ∧ w'.cell? ⟨g, h.toNat * 2 + 1, none⟩ = some (.bool y')) (ds := [9]) 12 (by kernel_rfl) rfl ⟨va0, va1, vb0, vb1⟩ (fun hHeld => ?_)
      generalize wr.drew = wd at va0 va1 vb0 vb1 HD hHeld ⊢
      repeat (first | refine rP 12 ?_ | refine rT 12 hHeld ?_)
      refine stepL 12 (N := some 101) rfl rfl (by kernel_rfl) (by decide) (fun K hK => ?_)
      refine goesVD Try.func49 (by kernel_rfl) rfl #[.agg #[.int .i64 x, .bool y], .agg #[.int .i64 x', .bool y']] #[] #[] (by rfl) rfl rfl (by rfl) (by (try simp only [List.map_toArray, List.map_cons, List.map_nil, Array.empty_append, Array.append_empty]); rfl) ?_
      refine (cmp_walk _ _ _ _ _).mono ?_
      rintro e w2 ⟨z, rfl, hb⟩
      refine ⟨_, rfl, ?_⟩
      have HL := zh (HD.out.below hb)
      refine hK.out _ _ ?_
      clear hK K hHeld va0 va1 vb0 vb1 hb HD wd
      refine sN ?_
      obtain ⟨t, ht⟩ : ∃ t, decide (z < 0) = t := ⟨_, rfl⟩
      repeat refine rP 12 ?_
      clear ht
      refine done_ (by kernel_rfl) ?_
      cases t
      ·go_wp2
       have hd := HD.out
       go_roundg (j - (h + 1)).toNat
       case measure => omega
       case rel => exact ⟨h + 1, j, rfl, rfl, by omega, by omega, hj, rfl, HL⟩
      ·go_wp2
       have hd := HD.out
       go_roundg (h - i).toNat
       case measure => omega
       case rel => exact ⟨i, h, rfl, rfl, hi, by omega, by omega, rfl, HL⟩
     ·go_wp2
      go_loopg [17] (m - i).toNat (fun k kv W => ∃ p : Int, kv = .int .i64 p ∧ p ≤ m ∧ k = (p - i).toNat ∧ Hid (SI w0 w P (.slice (some ⟨g, 0, none⟩) l.length c) l W))
      case atStart => exact ⟨m, rfl, Int.le_refl _, rfl, HL⟩
      case round =>
       obtain ⟨p, rfl, hp, rfl, HL⟩ := hrel
       by_cases c2 : i < p
       ·obtain ⟨q, hq⟩ : ∃ q, q = p - 1 := ⟨_, rfl⟩
        have eq : IntKind.i64.wrap (p - 1) = q := by rw [IntWalk.i64_in _ (by omega), hq]
        have p0 : 0 ≤ p := by omega
        have p1 : p < (l.length : Int) := by omega
        have q0 : 0 ≤ q := by omega
        have q1 : q < (l.length : Int) := by omega
        have HQ := zh hq
        clear hq
        go_wp2
        obtain ⟨x, y, x', y', ⟨va0, va1, vb0, vb1⟩, ⟨f0, f1⟩, W1, hW1, ⟨u, u', vd0, vd1⟩, ⟨f2, f3⟩, HN⟩ := HL.out.drew.swap p q p0 p1 q0 q1
        have HN := zh HN
        have HW1 := zh hW1
        clear hW1 HL
        refine stepS (S := fun w' => w'.cell? ⟨g, p.toNat * 2, none⟩ = some (.int .i64 x) ∧ w'.cell? ⟨g, p.toNat * 2 + 1, none⟩ = some (.bool y) ∧ w'.cell? ⟨g, q.toNat * 2, none⟩ = some (.int .i64 x') ∧ w'.cell? ⟨g, q.toNat * 2 + 1, none⟩ = some (.bool y')) (ds := [15, 17]) 18 (by kernel_rfl) rfl ⟨va0, va1, vb0, vb1⟩ (fun hHeld => ?_)
        generalize wr.drew = wd at va0 va1 vb0 vb1 f0 f1 HW1 hHeld ⊢
        repeat (first | refine rP 18 ?_ | refine rT 18 hHeld ?_)
        refine stepL 18 (N := none) rfl rfl (by kernel_rfl) (by decide) (fun K hK => ?_)
        refine skip_ (w1 := ?_) (by rfl) rfl ?_ ?_
        rotate_left
        ·go_simp
         rfl
        refine hK.out _ _ ?_
        clear hK K hHeld va0 va1 vb0 vb1 f0 f1
        rw [← HW1.out]
        refine rP 18 ?_
        refine stepL 18 (N := none) rfl rfl (by kernel_rfl) (by decide) (fun K hK => ?_)
        refine skip_ (w1 := ?_) (by rfl) rfl ?_ ?_
        rotate_left
        ·go_simp
         rfl
        refine hK.out _ _ ?_
        clear hK K vd0 vd1 f2 f3
        have HN9 := zh HN.out
        generalize ((W1.setCell ⟨g, q.toNat * 2, none⟩ (.int .i64 x)).setCell ⟨g, q.toNat * 2 + 1, none⟩ (.bool y)) = W9 at HN9 ⊢
        clear HN HW1
        refine done_ (by kernel_rfl) ?_
        go_wp2
        have hq := HQ.out
        go_roundg (q - i).toNat
        case measure => omega
        case rel => exact ⟨q, rfl, by omega, rfl, HN9⟩
       ·go_wp2
        refine bodyPost_ret (results_none rfl _ _ _) rfl ?_
        exact ⟨rfl, HL.out⟩
   ·have t2 : (b - m == 1) = false := by simpa using g2
    obtain ⟨mid, hmid⟩ : ∃ mid, (a + b) / 2 = mid := ⟨_, rfl⟩
    have em : IntKind.i64.wrap (IntKind.u64.wrap (IntKind.i64.wrap (a + b)) / 2) = mid := by rw [← hmid]; exact half_i a b (by omega)
    have em' : wrap64 (IntKind.u64.wrap (wrap64 (a + b)) / 2) = mid := by rw [← hmid]; exact half_in a b (by omega)
    obtain ⟨n, hn⟩ : ∃ n, n = mid + m := ⟨_, rfl⟩
    have en : IntKind.i64.wrap (mid + m) = n := by rw [IntWalk.i64_in _ (by omega), hn]
    obtain ⟨p, hp⟩ : ∃ p, p = n - 1 := ⟨_, rfl⟩
    have ep : IntKind.i64.wrap (n - 1) = p := by rw [IntWalk.i64_in _ (by omega), hp]
    obtain ⟨lo, hi, hq⟩ : ∃ lo hi : Int, (mid < m ∧ lo = n - b ∧ hi = mid) ∨ (¬ mid < m ∧ lo = a ∧ hi = m) := by
     by_cases g3 : mid < m
     ·exact ⟨_, _, .inl ⟨g3, rfl, rfl⟩⟩
     ·exact ⟨_, _, .inr ⟨g3, rfl, rfl⟩⟩
    have e5 : IntKind.i64.wrap (n - b) = n - b := IntWalk.i64_in _ (by omega)
    have HE := zh (And.intro hmid (And.intro hn (And.intro hp hq)))
    have hlo : 0 ≤ lo ∧ lo ≤ hi ∧ hi ≤ b ∧ 0 ≤ n ∧ n ≤ 4000000000000 := by omega
    clear hn hp
    have hb9 : n - b ≤ 4000000000000 ∧ -4000000000000 ≤ n - b := by omega
    rcases hq with ⟨g3, _⟩ | ⟨g3, _⟩ <;> (
     go_wp2
     go_loopg [20, 21] (hi - lo).toNat (fun k iv jv W => ∃ i j : Int, iv = .int .i64 i ∧ jv = .int .i64 j ∧ lo ≤ i ∧ i ≤ j ∧ j ≤ hi ∧ k = (j - i).toNat ∧ Hid (SI w0 w P (.slice (some ⟨g, 0, none⟩) l.length c) l W))
     case atStart => exact ⟨_, _, rfl, rfl, by have := HE.out; omega, by have := HE.out; omega, by have := HE.out; omega, by have := HE.out; omega, HL⟩
     case round =>
      obtain ⟨i, j, rfl, rfl, hi1, hij, hj, rfl, HL⟩ := hrel
      by_cases c1 : i < j
      ·have HD := zh hd
       clear hd
       obtain ⟨h, hh⟩ : ∃ h, (i + j) / 2 = h := ⟨_, rfl⟩
       have eh : IntKind.i64.wrap (IntKind.u64.wrap (IntKind.i64.wrap (i + j)) / 2) = h := by rw [← hh]; exact half_i i j (by omega)
       have eh' : wrap64 (IntKind.u64.wrap (wrap64 (i + j)) / 2) = h := by rw [← hh]; exact half_in i j (by omega)
       have hl0 : i ≤ h := by omega
       have hl1 : h < j := by omega
       have eh1 : IntKind.i64.wrap (h + 1) = h + 1 := IntWalk.i64_in _ (by omega)
       have h0 : 0 ≤ h := by omega
       have h1 : h < (l.length : Int) := by have := HE.out; omega
       obtain ⟨q, hq⟩ : ∃ q, q = p - h := ⟨_, rfl⟩
       have eq : IntKind.i64.wrap (p - h) = q := by rw [IntWalk.i64_in _ (by have := HE.out; omega), hq]
       have q0 : 0 ≤ q := by have := HE.out; omega
       have q1 : q < (l.length : Int) := by have := HE.out; omega
       clear hq
       go_wp2
       obtain ⟨x, y, va0, va1⟩ := HL.out.drew.elem q q0 q1
       obtain ⟨x', y', vb0, vb1⟩ := HL.out.drew.elem h h0 h1
       have HD := zh HL.out.drew
       clear HL
       refine stepS (S := fun w' => w'.cell? ⟨g, q.toNat * 2, none⟩ = some (.int .i64 x) ∧ w'.cell? ⟨g, q.toNat * 2 + 1, none⟩ = some (.bool y) ∧ w'.cell? ⟨g, h.toNat * 2, none⟩ = some (.int .i64 x') ∧ w'.cell? ⟨g, h.toNat * 2 + 1, none⟩ = some (.bool y')) (ds := [11]) 14 (by kernel_rfl) rfl ⟨va0, va1, vb0, vb1⟩ (fun hHeld => ?_)
       generalize wr.drew = wd at va0 va1 vb0 vb1 HD hHeld ⊢
       repeat (first | refine rP 14 ?_ | refine rT 14 hHeld ?_)
       refine stepL 14 (N := some 169) rfl rfl (by kernel_rfl) (by decide) (fun K hK => ?_)
       refine goesVD Try.func49 (by kernel_rfl) rfl #[.agg #[.int .i64 x, .bool y], .agg #[.int .i64 x', .bool y']] #[] #[] (by rfl) rfl rfl (by rfl) (by (try simp only [List.map_toArray, List.map_cons, List.map_nil, Array.empty_append, Array.append_empty]); rfl) ?_
       refine (cmp_walk _ _ _ _ _).mono ?_
       rintro e w2 ⟨z, rfl, hb⟩
       refine ⟨_, rfl, ?_⟩
       have HL := zh (HD.out.below hb)
       refine hK.out _ _ ?_
       clear hK K hHeld va0 va1 vb0 vb1 hb HD wd
       refine sN ?_
       obtain ⟨t, ht⟩ : ∃ t, decide (z < 0) = t := ⟨_, rfl⟩
       repeat refine rP 14 ?_
       clear ht
       refine done_ (by kernel_rfl) ?_
       cases t
       ·go_wp2
        have hd := HD.out
        go_roundg (j - (h + 1)).toNat
        case measure => omega
        case rel => exact ⟨h + 1, j, rfl, rfl, by omega, by omega, hj, rfl, HL⟩
       ·go_wp2
        have hd := HD.out
        go_roundg (h - i).toNat
        case measure => omega
        case rel => exact ⟨i, h, rfl, rfl, hi1, by omega, by omega, rfl, HL⟩
      ·have h9 : 0 ≤ i ∧ i ≤ b ∧ n - i ≤ b ∧ a < mid ∧ mid < b := by have := HE.out; omega
       obtain ⟨en, hen⟩ : ∃ en, en = n - i := ⟨_, rfl⟩
       have een : IntKind.i64.wrap (n - i) = en := by rw [IntWalk.i64_in _ (by omega), hen]
       have h8 : 0 ≤ en ∧ en ≤ b := by have := HE.out; omega
       clear hen
       have r1 : (i < m ∧ m < en) ∨ ¬ i < m ∨ (i < m ∧ ¬ m < en) := by omega
       have r2 : (a < i ∧ i < mid) ∨ ¬ a < i ∨ (a < i ∧ ¬ i < mid) := by omega
       have r3 : (mid < en ∧ en < b) ∨ ¬ mid < en ∨ (mid < en ∧ ¬ en < b) := by omega
       rcases r1 with ⟨u1, u2⟩ | u1 | ⟨u1, u2⟩ <;> rcases r2 with ⟨u3, u4⟩ | u3 | ⟨u3, u4⟩ <;> rcases r3 with ⟨u5, u6⟩ | u5 | ⟨u5, u6⟩ <;> (
        go_wp2_with (first
         |(go_at_call 93; refine (rotate_walk w0 w P _ l _ HL.out _ _ _ _ (by omega) (by omega) (by omega) (by omega) hl).mono ?_; rintro e w2 ⟨rfl, hN⟩; have HN := zh hN; clear hN; clear HL; have HL := HN; clear HN)
         |(go_at_call 82; refine (ih _ _ _ _ HL.out (by omega) (by omega) (by omega) (by omega) (by omega)).mono ?_; rintro e w3 ⟨rfl, hN⟩; have HN := zh hN; clear hN; clear HL; have HL := HN; clear HN))
        all_goals refine bodyPost_ret (results_none rfl _ _ _) rfl ?_
        all_goals exact ⟨rfl, HL.out⟩))
set_option maxHeartbeats 4000000 in
set_option maxRecDepth 100000 in
theorem stable_walk (w0 w : World) (P : Nat → Prop) (v : Value) (l : List SoStp) (X : World) (hS : SI w0 w P v l X) (hl : (l.length : Int) ≤ 1099511627776) (n : Int) (hn : n = l.length) :
  Calls Try.prog 59 #[v, .int .i64 n, .func (.func 49) #[] #[]] X (Sorts w0 w P v l) := by
 have HL := zh hS
 clear hS
 have n0 : 0 ≤ n := by omega
 have HN := zh hn
 rw [← hn] at hl
 clear hn
 go_enter Try.func59, Try.ntmps59
 go_wp2
 go_loopg [7, 8] n.toNat (fun k iv jv W => ∃ a : Int, iv = .int .i64 a ∧ jv = .int .i64 (a + 20) ∧ 0 ≤ a ∧ a ≤ n ∧ k = (n - a).toNat ∧ Hid (SI w0 w P v l W))
 case atStart => exact ⟨0, rfl, rfl, by omega, by omega, by omega, HL⟩
 case round =>
  obtain ⟨a, rfl, rfl, ha, han, rfl, HL⟩ := hrel
  by_cases c1 : a + 20 ≤ n
  ·have e1 : IntKind.i64.wrap (a + 20 + 20) = a + 20 + 20 := IntWalk.i64_in _ (by omega)
   go_wp2_with ((go_at_call 81; refine (insert_walk w0 w P v l _ HL.out _ _ (by omega) (by have := HN.out; omega) (by have := HN.out; omega) (by omega)).mono ?_; rintro e w2 ⟨rfl, hN⟩; have HM := zh hN; clear hN; clear HL; have HL := HM; clear HM))
   go_roundg (n - (a + 20)).toNat
   case measure => omega
   case rel => exact ⟨a + 20, rfl, rfl, by omega, by omega, rfl, HL⟩
  ·go_wp2_with ((go_at_call 81; refine (insert_walk w0 w P v l _ HL.out _ _ (by omega) (by have := HN.out; omega) (by have := HN.out; omega) (by omega)).mono ?_; rintro e w2 ⟨rfl, hN⟩; have HM := zh hN; clear hN; clear HL; have HL := HM; clear HM))
   go_loopg [6] (n - 20).toNat (fun k iv W => ∃ s : Int, iv = .int .i64 s ∧ 0 < s ∧ k = (n - s).toNat ∧ Hid (SI w0 w P v l W))
   case atStart => exact ⟨20, rfl, by omega, rfl, HL⟩
   case round =>
    obtain ⟨s, rfl, hs, rfl, HL⟩ := hrel
    by_cases c2 : s < n
    ·obtain ⟨g, c, rfl⟩ := HL.out.form (by have := HN.out; omega)
     obtain ⟨b, hb⟩ : ∃ b, b = 2 * s := ⟨_, rfl⟩
     have eb : IntKind.i64.wrap (2 * s) = b := by rw [IntWalk.i64_in _ (by omega), hb]
     have eb' : IntKind.i64.wrap (s * 2) = b := by rw [IntWalk.i64_in _ (by omega), hb]; omega
     have eb2 : 2 * s = b := hb.symm
     have eb3 : s * 2 = b := by omega
     have b0 : 0 < b ∧ s < b ∧ b ≤ 4000000000000 := by omega
     have HB := zh hb
     clear hb
     go_wp2
     go_loopg [7, 8] n.toNat (fun k iv jv W => ∃ a : Int, iv = .int .i64 a ∧ jv = .int .i64 (a + b) ∧ 0 ≤ a ∧ a ≤ n ∧ k = (n - a).toNat ∧ Hid (SI w0 w P (.slice (some ⟨g, 0, none⟩) l.length c) l W))
     case atStart => exact ⟨0, rfl, by rw [Int.zero_add], by omega, by omega, by omega, HL⟩
     case round =>
      obtain ⟨a, rfl, rfl, ha, han, rfl, HL⟩ := hrel
      have e1 : IntKind.i64.wrap (a + s) = a + s := IntWalk.i64_in _ (by omega)
      by_cases c3 : a + b ≤ n
      ·have e2 : IntKind.i64.wrap (a + b + b) = a + b + b := IntWalk.i64_in _ (by omega)
       go_wp2_with ((go_at_call 82; refine (sym_walk w0 w P g c l (by have := HN.out; omega) _ _ _ _ _ HL.out (by omega) (by omega) (by omega) (by have := HN.out; omega) (Nat.le_refl _)).mono ?_; rintro e w2 ⟨rfl, hN⟩; have HM := zh hN; clear hN; clear HL; have HL := HM; clear HM))
       go_roundg (n - (a + b)).toNat
       case measure => omega
       case rel => exact ⟨a + b, rfl, rfl, by omega, by omega, rfl, HL⟩
      ·by_cases c4 : a + s < n
       ·go_wp2_with ((go_at_call 82; refine (sym_walk w0 w P g c l (by have := HN.out; omega) _ _ _ _ _ HL.out (by omega) (by omega) (by omega) (by have := HN.out; omega) (Nat.le_refl _)).mono ?_; rintro e w2 ⟨rfl, hN⟩; have HM := zh hN; clear hN; clear HL; have HL := HM; clear HM))
        go_roundg (n - b).toNat
        case measure => omega
        case rel => exact ⟨b, rfl, by omega, rfl, HL⟩
       ·go_wp2
        go_roundg (n - b).toNat
        case measure => omega
        case rel => exact ⟨b, rfl, by omega, rfl, HL⟩
    ·go_wp2
     refine bodyPost_ret (results_none rfl _ _ _) rfl ?_
     exact ⟨rfl, HL.out⟩
set_option maxHeartbeats 4000000 in
set_option maxRecDepth 100000 in
theorem sort_walk (w0 w : World) (P : Nat → Prop) (l : List SoStp) (hl : (l.length : Int) ≤ 1099511627776) (A : Option Addr) (c : Nat) (hS : SI w0 w P (.slice A l.length c) l w) :
  Calls Try.prog 48 #[.slice A l.length c, .func (.func 49) #[] #[]] w (Sorts w0 w P (.slice A l.length c) l) := by
 have HL := zh hS
 clear hS
 go_enter Try.func48, Try.ntmps48
 go_wp2_with ((go_at_call 59; refine (stable_walk w0 w P _ l _ HL.out hl _ rfl).mono ?_; rintro e w2 ⟨rfl, hN⟩; have HM := zh hN; clear hN))
 refine bodyPost_ret (results_none rfl _ _ _) rfl ?_
 exact ⟨rfl, HM.out⟩
theorem at_sort {w0 : World} {n g : Nat} {vo vi : Value} {ro ri : List (List Int)} {gx gr : Nat} {xs rs : Array Value} {rows : List (List S105)} {W : World} {i : Nat} {A : Option Addr} {c : Nat} {oki : Nat → Prop} {row : List SoStp}
  (h : AtI w0 n g vo vi ro ri gx gr xs rs rows W) (hi : i < n) (ho : RowOpen w0 n g i rows W A c oki) (hr : row = rows.getD i []) (hl : (row.length : Int) ≤ 1099511627776) :
  Calls Try.prog 48 #[.slice A row.length c, .func (.func 49) #[] #[]] W fun e W1 => e = .returned (.tuple #[]) ∧ ∃ r, r.Perm row ∧ AtI w0 n g vo vi ro ri gx gr xs rs (rows.set i r) W1 := by
 subst hr
 refine (sort_walk w0 W (fun k => some k = (Value.slice A (rows.getD i []).length c).ownBlock) (rows.getD i []) hl A c (SI.start h.low (Kd.R_tight rfl ho.row))).mono ?_
 rintro e w2 ⟨rfl, rr, hP, hR, hB, hKp⟩
 exact ⟨rfl, rr, hP, h.sorted hi ho hB hKp (Kd.R_mono hR (fun k h => .inl h))⟩
end Go.Proofs.Ytdfagllncopmjaa.H
end
section
namespace Go.Proofs.Ytdfagllncopmjaa.H
open Go Go.RowKit Go.Proofs.Ytdfagllncopmjaa.PrintC Go.Proofs.YtdfagllncopmjaaW.PrintWords
def Stay (w w' : World) : Prop := w'.os = w.os ∧ w'.tape = w.tape ∧ w'.output = w.output
theorem Stay.then_ {a b c : World} (h : Stay a b) (k : Stay b c) : Stay a c := ⟨k.1.trans h.1, k.2.1.trans h.2.1, k.2.2.trans h.2.2⟩
theorem Stay.of_below {B : Nat} {a b : World} (h : Below B a b) : Stay a b := ⟨h.os, h.tape, h.output⟩
def content (ring : List Int) (fr n : Nat) : List Int := (List.range n).map fun i => rd ring (((fr + i) % ring.length : Nat) : Int)
def RingAt (W : World) (ok : Nat → Prop) (v : Value) (ring : List Int) : Prop :=
 (ring = [] ∧ v = .slice none 0 0) ∨ ∃ b, v = .slice (some ⟨b, 0, none⟩) ring.length ring.length ∧ 0 < ring.length ∧ IntBlk W b ring ∧ ok b
def QSt (W : World) (ok : Nat → Prop) (g : Nat) (q : List Int) (most : Nat) : Prop :=
 ∃ (ring : List Int) (fr : Nat) (v : Value), W.heap[g]? = some (.cells #[v, .int .i64 fr, .int .i64 q.length, .int .i64 most] 151 (0, 0)) ∧ ok g ∧ RingAt W ok v ring ∧
  q = content ring fr q.length ∧ (fr < ring.length ∨ ring = [] ∧ fr = 0) ∧ q.length ≤ ring.length ∧ ring.length ≤ 1000000
theorem RingAt.kept {W W2 : World} {ok S : Nat → Prop} {v : Value} {ring : List Int} (h : RingAt W ok v ring) (hk : Kept W W2 S) (hne : ∀ k, ok k → ¬ S k) : RingAt W2 ok v ring := by
 rcases h with h | ⟨b, h1, h0, h2, h3⟩
 ·exact .inl h
 ·exact .inr ⟨b, h1, h0, h2.kept hk (hne b h3), h3⟩
theorem QSt.kept {W W2 : World} {ok S : Nat → Prop} {g : Nat} {q : List Int} {most : Nat} (h : QSt W ok g q most) (hk : Kept W W2 S) (hne : ∀ k, ok k → ¬ S k) : QSt W2 ok g q most := by
 obtain ⟨ring, fr, v, h1, h2, h3, h4⟩ := h
 exact ⟨ring, fr, v, blk_kept h1 hk (hne g h2), h2, h3.kept hk hne, h4⟩
theorem newqueue_walk (most : Nat) (hm : most ≤ 65536) (w : World) :
  Calls Try.prog 61 #[.int .i64 most] w fun e w' => ∃ g, e = .returned (.tuple #[.pointer (some ⟨g, 0, none⟩), .int .i64 0]) ∧ w.heap.size ≤ g ∧ g < w'.heap.size ∧ (∀ ok : Nat → Prop, ok g → QSt w' ok g [] most) ∧ Below w.heap.size w w' := by
 have hroom : ∀ W : World, Calls Try.prog 84 #[.int .i64 most] W fun e w' => e = .returned (.bool true) ∧ Drawn0 W w' := fun W => pile_room.calls (most : Int) true W (by unfold pile_room.f; rw [if_pos (by omega)]; simp; omega)
 replace hroom := Lib.hid hroom
 go_enter Try.func61, Try.ntmps61
 go_wp2_with (go_at_call 84; refine (hroom.out _).mono ?_; rintro e w1 ⟨rfl, ⟨nd, rfl⟩⟩)
 go_ret2
 refine ⟨_, rfl, by simp, by simp, fun ok hok => ⟨[], 0, .slice none 0 0, heap_alloc_new _ _, hok, .inl ⟨rfl, rfl⟩, rfl, .inr ⟨rfl, rfl⟩, by simp, by simp⟩, ?_⟩
 exact below_alloc (pw_below_drewN (Below.refl _ _) _) _
theorem content_succ (ring : List Int) (fr n : Nat) (h : fr < ring.length) : content ring fr (n + 1) = rd ring (fr : Int) :: content ring ((fr + 1) % ring.length) n := by
 unfold content
 rw [List.range_succ_eq_map, List.map_cons, List.map_map]
 congr 1
 ·rw [Nat.add_zero, Nat.mod_eq_of_lt h]
 ·refine List.map_congr_left (fun i _ => ?_)
  show rd ring (((fr + (i + 1)) % ring.length : Nat) : Int) = _
  rw [Nat.mod_add_mod]
  congr 3
  omega
theorem content_put (ring : List Int) (fr n : Nat) (x : Int) (h : n < ring.length) : content (ring.set ((fr + n) % ring.length) x) fr (n + 1) = content ring fr n ++ [x] := by
 unfold content
 rw [List.range_succ, List.map_append]
 have hpos : 0 < ring.length := by omega
 congr 1
 ·refine List.map_congr_left (fun i hi => ?_)
  have hi' : i < n := List.mem_range.1 hi
  have hne : (fr + n) % ring.length ≠ (fr + i) % ring.length := by
   intro e
   have e1 := Nat.div_add_mod (fr + n) ring.length
   have e2 := Nat.div_add_mod (fr + i) ring.length
   rw [e] at e1
   have h3 : ring.length * ((fr + n) / ring.length) = ring.length * ((fr + i) / ring.length) + (n - i) := by omega
   have h4 : (fr + i) / ring.length ≤ (fr + n) / ring.length := Nat.div_le_div_right (by omega)
   rcases Nat.lt_or_ge ((fr + i) / ring.length) ((fr + n) / ring.length) with h5 | h5
   ·have h6 : ring.length * ((fr + i) / ring.length + 1) ≤ ring.length * ((fr + n) / ring.length) := Nat.mul_le_mul_left _ h5
    rw [Nat.mul_succ] at h6
    omega
   ·have h6 : (fr + i) / ring.length = (fr + n) / ring.length := Nat.le_antisymm h4 h5
    rw [h6] at h3
    omega
  rw [List.length_set]
  unfold rd
  simp only [Int.toNat_natCast]
  rw [List.getD_eq_getElem?_getD, List.getD_eq_getElem?_getD, List.getElem?_set_ne hne]
 ·rw [List.map_cons, List.map_nil, List.length_set]
  congr 1
  have hlt : (fr + n) % ring.length < ring.length := Nat.mod_lt _ hpos
  unfold rd
  rw [Int.toNat_natCast, List.getD_eq_getElem?_getD, List.getElem?_set_self hlt]
  rfl
theorem content_grow (q : List Int) (m : Nat) : content (q ++ List.replicate m 0) 0 q.length = q := by
 unfold content
 apply List.ext_getElem
 ·simp
 ·intro i h1 h2
  have hi : i < q.length := h2
  simp only [List.getElem_map, List.getElem_range, Nat.zero_add]
  have hlt : i % (q ++ List.replicate m 0).length = i := Nat.mod_eq_of_lt (by simp; omega)
  rw [hlt]
  unfold rd
  rw [Int.toNat_natCast, List.getD_eq_getElem?_getD, List.getElem?_append_left hi, List.getElem?_eq_getElem hi]
  rfl
theorem content_len (ring : List Int) (fr n : Nat) : (content ring fr n).length = n := by simp [content]
theorem blk_apart {W : World} {g b : Nat} {cs cs2 : Array Value} {t t2 : Nat} (h1 : W.heap[b]? = some (.cells cs t (0, 0))) (h2 : W.heap[g]? = some (.cells cs2 t2 (0, 0))) (hne : t ≠ t2) : b ≠ g := by
 rintro rfl
 rw [h1] at h2
 injection h2 with h2
 injection h2 with _ h3
 exact hne h3
theorem QSt.drew {W : World} {ok : Nat → Prop} {g : Nat} {q : List Int} {most : Nat} (h : QSt W ok g q most) : QSt W.drew ok g q most := h
theorem queue_taken {w W2 : World} {ok : Nat → Prop} {g b fr m n most : Nat} {ring r : List Int} (hg2 : W2.heap[g]? = some (.cells #[.slice (some ⟨b, 0, none⟩) m m, .int .i64 (((fr + 1) % m : Nat) : Int), .int .i64 (n : Int), .int .i64 most] 151 (0, 0))) (hk : Kept w W2 (fun k => k = g))
  (hb : IntBlk w b ring) (hbg : b ≠ g) (hokg : ok g) (hokb : ok b) (h0 : 0 < m) (hbig : m ≤ 1000000) (hm : ring.length = m) (hle : n + 1 ≤ m)
  (hr : r = content ring ((fr + 1) % ring.length) n) (hn : n = r.length) : QSt W2 ok g r most ∧ Kept w W2 ok := by
 subst hn
 subst hm
 have hok : ∀ k, k = g → ok k := fun k e => by rw [e]; exact hokg
 exact ⟨⟨ring, (fr + 1) % ring.length, _, hg2, hokg, .inr ⟨b, rfl, h0, hb.kept hk hbg, hokb⟩, hr, .inl (Nat.mod_lt _ h0), by omega, hbig⟩, hk.mono hok⟩
theorem queue_set2 {w : World} {g fr m n most : Nat} {v : Value} {n1 : Int} (hg : w.heap[g]? = some (.cells #[v, .int .i64 fr, .int .i64 n1, .int .i64 most] 151 (0, 0))) :
  ((w.setCell ⟨g, 1, none⟩ (.int .i64 (((fr : Int) + 1) % (m : Int)))).setCell ⟨g, 2, none⟩ (.int .i64 (n : Int))).heap[g]? = some (.cells #[v, .int .i64 (((fr + 1) % m : Nat) : Int), .int .i64 (n : Int), .int .i64 most] 151 (0, 0)) ∧
  Kept w ((w.setCell ⟨g, 1, none⟩ (.int .i64 (((fr : Int) + 1) % (m : Int)))).setCell ⟨g, 2, none⟩ (.int .i64 (n : Int))) (fun k => k = g) := by
 have hg2 := blk_set (blk_set hg 1 (.int .i64 (((fr : Int) + 1) % (m : Int)))) 2 (.int .i64 (n : Int))
 have e : (((fr : Int) + 1) % (m : Int)) = (((fr + 1) % m : Nat) : Int) := (Int.natCast_emod (fr + 1) m).symm
 have k1 : Kept w (w.setCell ⟨g, 1, none⟩ (.int .i64 (((fr : Int) + 1) % (m : Int)))) (fun k => k = g) := Kept.setCell (S := fun k => k = g) (p := ⟨g, 1, none⟩) (Kept.refl w _) (Or.inl rfl) _
 have k2 := Kept.setCell (S := fun k => k = g) (p := ⟨g, 2, none⟩) k1 (Or.inl rfl) (.int .i64 (n : Int))
 refine ⟨?_, k2⟩
 rw [← e]
 exact hg2
set_option maxHeartbeats 1000000 in
set_option maxRecDepth 100000 in
theorem take_walk (ok : Nat → Prop) (g : Nat) (x : Int) (r : List Int) (most : Nat) (w : World) (h : QSt w ok g (x :: r) most) :
  Calls Try.prog 64 #[.pointer (some ⟨g, 0, none⟩)] w fun e w' => e = .returned (.tuple #[.int .i64 x, .int .i64 0]) ∧ QSt w' ok g r most ∧ Kept w w' ok ∧ Stay w w' := by
 obtain ⟨ring, fr, v, hg, hokg, hR, hq, hfr, hle, hbig⟩ := h
 rcases hR with ⟨rfl, _⟩ | ⟨b, rfl, h0, hb, hokb⟩
 ·simp at hle
 replace hfr : fr < ring.length := hfr.resolve_right (by rintro ⟨rfl, _⟩; simp at h0)
 rw [List.length_cons, content_succ ring fr r.length hfr] at hq
 obtain ⟨hx, hr⟩ := List.cons.inj hq
 obtain ⟨n, hn⟩ : ∃ n, n = r.length := ⟨_, rfl⟩
 rw [List.length_cons, ← hn] at hg hle
 rw [← hn] at hr
 have HN := Lib.hid hn
 have HX := Lib.hid hx
 have HR := Lib.hid hr
 clear hn hx hr hq
 obtain ⟨m, hm⟩ : ∃ m, ring.length = m := ⟨_, rfl⟩
 rw [hm] at hg hfr hle hbig h0
 have xb := hb.cell fr (by rw [hm]; exact hfr)
 have HM := Lib.hid hm
 clear hm
 have c0 := (blk_cell hg 0).trans rfl
 have c1 := (blk_cell hg 1).trans rfl
 have c2 := (blk_cell hg 2).trans rfl
 have f1 := blk_frozen hg 1
 have f2 := blk_frozen hg 2
 have i0 : (0 : Int) ≤ (fr : Int) := by omega
 have i1 : (fr : Int) < (m : Int) := by omega
 have z1 : (((n + 1 : Nat) : Int) == 0) = false := beq_eq_false_iff_ne.mpr (by omega)
 have s1 : IntKind.i64.wrap ((fr : Int) + 1) = (fr : Int) + 1 := IntWalk.i64_in _ (by omega)
 have s2 : ((fr : Int) + 1).tmod (m : Int) = (((fr + 1) % m : Nat) : Int) := by
  rw [Int.tmod_eq_emod_of_nonneg (by omega)]
  exact (Int.natCast_emod (fr + 1) m).symm
 have s3 : ¬ m = 0 := by omega
 have HG := Lib.hid hg
 have HB := Lib.hid hb
 clear hg hb
 go_enter Try.func64, Try.ntmps64
 go_wp2
 go_region_held3 (fun w' => w'.cell? ⟨g, 0, none⟩ = some (.slice (some ⟨b, 0, none⟩) m m) ∧ w'.cell? ⟨g, 1, none⟩ = some (.int .i64 fr) ∧ w'.cell? ⟨b, fr, none⟩ = some (.int .i64 (rd ring fr))) (go_keep) (fail)
 go_wp2
 go_region_law (fail)
 all_goals
  go_wp2
  go_ret2
  obtain ⟨s1, s2⟩ := queue_set2 (m := m) (n := n) HG.out
  obtain ⟨t1, t2⟩ := queue_taken s1 s2 HB.out (blk_apart HB.out HG.out (by decide)) hokg hokb h0 hbig HM.out hle HR.out HN.out
  exact ⟨by rw [HX.out]; rfl, t1.drew.drew, t2.drew.drew, rfl, rfl, rfl⟩
theorem made_ints (n : Nat) : madeCells #[.int .i64 0] n = ints (List.replicate n 0) := by
 apply Array.ext'
 rw [toList_madeCells_one]
 simp [ints]
theorem made_blk (W : World) (n : Nat) : IntBlk (W.alloc (.cells (madeCells #[.int .i64 0] n) 3)) W.heap.size (List.replicate n 0) := by
 unfold IntBlk
 rw [made_ints]
 exact heap_alloc_new _ _
theorem grow_fill (q : List Int) (k n : Nat) (h : k < q.length) (hn : q.length ≤ n) (x : Int) (hx : x = q[k]) : (q.take k ++ List.replicate (n - k) 0).set k x = q.take (k + 1) ++ List.replicate (n - (k + 1)) 0 := by
 have hl : (q.take k).length = k := by rw [List.length_take]; omega
 rw [List.set_append_right _ _ (by omega), hl, Nat.sub_self, List.take_succ_eq_append_getElem h, hx]
 have : n - k = (n - (k + 1)) + 1 := by omega
 rw [this, List.replicate_succ, List.set_cons_zero, List.append_assoc]
 rfl
def GrowI (w : World) (q : List Int) (N : Nat) (k : Nat) (W : World) : Prop := IntBlk W w.heap.size (q.take k ++ List.replicate (N - k) 0) ∧ Below w.heap.size w W
theorem growI_step {w W W2 : World} {q : List Int} {N k : Nat} (h : GrowI w q N k W) (hk : k < q.length) (hN : q.length ≤ N) {x : Int} (hx : x = q[k]) (hb : Below W.heap.size W W2) :
  GrowI w q N (k + 1) (W2.setCell ⟨w.heap.size, k, none⟩ (.int .i64 x)) := by
 obtain ⟨h1, h2⟩ := h
 have h3 : IntBlk W2 w.heap.size (q.take k ++ List.replicate (N - k) 0) := (hb.block _ (blk_lt h1)).trans h1
 refine ⟨?_, below_set (below_step h2 hb) (Nat.le_refl _)⟩
 have := h3.set k x
 rw [grow_fill q k N hk hN x hx] at this
 exact this
theorem queue_grown {w wr : World} {g fr m most : Nat} {q : List Int} {A : Option Addr} (hg : w.heap[g]? = some (.cells #[.slice A m m, .int .i64 fr, .int .i64 m, .int .i64 most] 151 (0, 0))) (h : GrowI w q (2 * m + 4) m wr) (hq : q.length = m) :
  ((wr.setCell ⟨g, 0, none⟩ (.slice (some ⟨w.heap.size, 0, none⟩) (2 * m + 4) (2 * m + 4))).setCell ⟨g, 1, none⟩ (.int .i64 0)).heap[g]? = some (.cells #[.slice (some ⟨w.heap.size, 0, none⟩) (2 * m + 4) (2 * m + 4), .int .i64 0, .int .i64 m, .int .i64 most] 151 (0, 0)) ∧
  IntBlk ((wr.setCell ⟨g, 0, none⟩ (.slice (some ⟨w.heap.size, 0, none⟩) (2 * m + 4) (2 * m + 4))).setCell ⟨g, 1, none⟩ (.int .i64 0)) w.heap.size (q ++ List.replicate (m + 4) 0) ∧
  Kept w ((wr.setCell ⟨g, 0, none⟩ (.slice (some ⟨w.heap.size, 0, none⟩) (2 * m + 4) (2 * m + 4))).setCell ⟨g, 1, none⟩ (.int .i64 0)) (fun k => k = g) := by
 obtain ⟨h1, h2⟩ := h
 have hlt := blk_lt hg
 have hg1 := (h2.block g hlt).trans hg
 have k0 : Kept wr (wr.setCell ⟨g, 0, none⟩ (.slice (some ⟨w.heap.size, 0, none⟩) (2 * m + 4) (2 * m + 4))) (fun k => k = g) := Kept.setCell (S := fun k => k = g) (p := ⟨g, 0, none⟩) (Kept.refl wr _) (Or.inl rfl) _
 have k1 := Kept.setCell (S := fun k => k = g) (p := ⟨g, 1, none⟩) k0 (Or.inl rfl) (.int .i64 0)
 have e : q.take m ++ List.replicate (2 * m + 4 - m) 0 = q ++ List.replicate (m + 4) 0 := by
  rw [List.take_of_length_le (by omega), show 2 * m + 4 - m = m + 4 by omega]
 rw [e] at h1
 exact ⟨blk_set (blk_set hg1 0 _) 1 _, h1.kept k1 (by omega), (Kept.of_below h2 (fun k => k = g)).then_ k1 (fun k hk => .inl hk)⟩
set_option maxHeartbeats 2000000 in
set_option maxRecDepth 100000 in
theorem grow_walk (g fr m most : Nat) (q ring : List Int) (v : Value) (w : World) (hg : w.heap[g]? = some (.cells #[v, .int .i64 fr, .int .i64 m, .int .i64 most] 151 (0, 0)))
  (hR : RingAt w (fun _ => True) v ring) (hq : q = content ring fr m) (hfr : fr < ring.length ∨ ring = [] ∧ fr = 0) (hm : ring.length = m) (hbig : m ≤ 200000) :
  Calls Try.prog 85 #[.pointer (some ⟨g, 0, none⟩)] w fun e w' => e = .returned (.tuple #[]) ∧
   w'.heap[g]? = some (.cells #[.slice (some ⟨w.heap.size, 0, none⟩) (2 * m + 4) (2 * m + 4), .int .i64 0, .int .i64 m, .int .i64 most] 151 (0, 0)) ∧
   IntBlk w' w.heap.size (q ++ List.replicate (m + 4) 0) ∧ Kept w w' (fun k => k = g) ∧ Stay w w' := by
 have hql : q.length = m := by rw [hq, content_len]
 have hmk : ∀ W : World, (Instr.makeSlice 51 (.int .i64 0) (.int .i64 (2 * (m : Int) + 4))).run Try.prog W = .ok (.slice (some ⟨W.heap.size, 0, none⟩) 0 (2 * m + 4)) (W.alloc (.cells (madeCells #[.int .i64 0] (2 * m + 4)) 3)) := fun W => by
  have := run_make_room (P := Try.prog) 51 3 (.int .i64 0) 8 Try.underlying51 infoInt rfl .i64 .i64 (2 * m + 4) (by omega) (by omega) W
  exact this
 obtain ⟨A, hA⟩ : ∃ A : Option Addr, v = .slice A m m := by
  rcases hR with ⟨h1, h2⟩ | ⟨b, h1, _⟩
  ·subst h1
   exact ⟨none, by rw [h2, ← hm]; rfl⟩
  ·exact ⟨_, by rw [h1, hm]⟩
 subst hA
 obtain ⟨c0, c1, c2, _⟩ := cells4 hg
 have d2 := cell_alloc c2
 have HG := Lib.hid hg
 have HQ := Lib.hid hq
 have HR := Lib.hid hR
 have HF := Lib.hid hfr
 have HM := Lib.hid hm
 have HL := Lib.hid hql
 clear hg hq hR hfr hm hql
 go_enter Try.func85, Try.ntmps85
 go_wp2
 obtain ⟨wo, hwo⟩ : ∃ wo : World, wo = w.alloc (.cells (madeCells #[.int .i64 0] (2 * m + 4)) 3) := ⟨_, rfl⟩
 rw [← hwo]
 have HI : Hid (GrowI w q (2 * m + 4) 0 wo) := Lib.hid ⟨by rw [hwo, List.take_zero, List.nil_append]; exact made_blk w _, by rw [hwo]; exact below_alloc (Below.refl _ _) _⟩
 clear hwo d2
 go_loopw [2, 3, 16] (fun rv _ cv W => ∃ k : Nat, k ≤ m ∧ cv = .int .i64 k ∧ rv = .slice (some ⟨w.heap.size, 0, none⟩) k (2 * m + 4) ∧ Hid (GrowI w q (2 * m + 4) k W)) (fun _ _ cv _ => m - (intOf cv).toNat)
 case atStart => exact ⟨0, Nat.zero_le _, rfl, rfl, HI⟩
 case round =>
  obtain ⟨k, hk, rfl, rfl, HK⟩ := hrel
  clear HI
  obtain ⟨hB1, hB2⟩ := HK.out
  have r0 := pw_cell_below hB2 c0
  have r1 := pw_cell_below hB2 c1
  have HB2 := Lib.hid hB2
  clear hB2
  by_cases hlt : k < m
  ·have hR := HR.out
   rcases hR with ⟨e1, _⟩ | ⟨b, e1, h0, hb, _⟩
   ·exfalso
    have := HM.out
    rw [e1] at this
    simp at this
    omega
   have hml := HM.out
   rw [hml] at e1
   have eA : A = some ⟨b, 0, none⟩ := by injection e1
   subst eA
   have hx : (fr + k) % m < ring.length := by rw [hml]; exact Nat.mod_lt _ (by omega)
   have rx := pw_cell_below HB2.out (hb.cell _ hx)
   have hqk : rd ring (((fr + k) % m : Nat) : Int) = q[k]'(by rw [HL.out]; exact hlt) := by
    have hq := HQ.out
    have h3 : k < (content ring fr m).length := by rw [content_len]; exact hlt
    have h4 : (content ring fr m)[k] = rd ring (((fr + k) % m : Nat) : Int) := by simp [content, hml]
    rw [← h4]
    congr 1
    exact hq.symm
   have HX := Lib.hid hqk
   have hfrm := HF.out
   replace hfrm : fr ≤ 200000 := by rcases hfrm with h | ⟨_, h⟩ <;> omega
   have i0 : (0 : Int) ≤ (((fr + k) % m : Nat) : Int) := by omega
   have i1 : (((fr + k) % m : Nat) : Int) < (m : Int) := by rw [hml] at hx; omega
   obtain ⟨y, hy⟩ : ∃ y, y = (fr + k) % m := ⟨_, rfl⟩
   rw [← hy] at rx i0 i1 HX
   have s1 : IntKind.i64.wrap ((fr : Int) + (k : Int)) = (fr : Int) + (k : Int) := IntWalk.i64_in _ (by omega)
   have s2 : ((fr : Int) + (k : Int)).tmod (m : Int) = (y : Int) := by
    rw [Int.tmod_eq_emod_of_nonneg (by omega), hy]
    exact (Int.natCast_emod (fr + k) m).symm
   have s3 : ¬ m = 0 := by omega
   have b1 : w.heap.size < wr.heap.size := blk_lt hB1
   have hsp : ∀ o : Obj, ((wr.alloc o).cell? ⟨w.heap.size, k, none⟩).isSome = true ∧ (wr.alloc o).frozen? ⟨w.heap.size, k, none⟩ = false := fun o => by
    have h1 := hB1.cell k (by rw [List.length_append, List.length_take, List.length_replicate, HL.out]; omega)
    have h2 := hB1.free k
    rw [cell_alloc h1 o, frozen_alloc h1 h2 o]
    exact ⟨rfl, rfl⟩
   have HSP := Lib.hid hsp
   obtain ⟨i9, hi9, hz9, hs9, hb9⟩ := info_parts infoInt
   clear hy hqk hx hb hml e1 h0 hsp hB1
   go_wp2
   go_region_law ((refine step_append_room (by rfl) _ _ 51 (by rfl) 3 i9 1 Try.underlying51 hi9 hs9 w.heap.size 0 k (2 * m + 4) (by rfl) ⟨wr.heap.size, 0, none⟩ 1 1 [.int .i64 (rd ring (y : Int))] (by rfl) (by rfl) (World.news_of_block (heap_alloc_new wr _)) (by simp [Value.oneCell']) (by omega) (fun j hj => by
    have hj0 : j = 0 := by simpa using hj
    subst hj0
    simpa using HSP.out _) ?_))
   all_goals
    go_wp2
    go_roundw
    case rel =>
     refine ⟨k + 1, by omega, by go_num, by go_num, Lib.hid ?_⟩
     show GrowI w q (2 * m + 4) (k + 1) (World.setCell _ ⟨w.heap.size, k, none⟩ (.int .i64 (rd ring (y : Int))))
     exact growI_step HK.out (by rw [HL.out]; exact hlt) (by rw [HL.out]; omega) HX.out (by repeat (first | exact Below.refl _ _ | apply below_drew | apply below_alloc))
    case measure => simp [intOf]; omega
  ·have hkm : k = m := by omega
   subst hkm
   have g0 : w.frozen? ⟨g, 0, none⟩ = false := blk_frozen HG.out 0
   have g1 : w.frozen? ⟨g, 1, none⟩ = false := blk_frozen HG.out 1
   have fr0 : wr.frozen? ⟨g, 0, none⟩ = false := by rw [HB2.out.frozen (World.block_lt_of_cell? w _ c0)]; exact g0
   have fr1 : wr.frozen? ⟨g, 1, none⟩ = false := by rw [HB2.out.frozen (World.block_lt_of_cell? w _ c1)]; exact g1
   clear g0 g1 hB1
   go_wp2
   go_end0
   obtain ⟨u1, u2, u3⟩ := queue_grown HG.out HK.out HL.out
   exact ⟨rfl, u1, u2, u3, HK.out.2.os, HK.out.2.tape, HK.out.2.output⟩
theorem and_low (n : Nat) (h : n < 4294967296) : bits .and .u64 (n : Int) 4294967295 = (n : Int) := by
 have e : n &&& 4294967295 = n % 4294967296 := by
  rw [show (4294967295 : Nat) = 2 ^ 32 - 1 by decide, Nat.and_two_pow_sub_one_eq_mod]
 rw [show (4294967295 : Int) = ((4294967295 : Nat) : Int) from rfl, bits_and_u64_nat _ _ (by omega) (by omega), e, Nat.mod_eq_of_lt h]
theorem u64_in (n : Int) (h0 : 0 ≤ n) (h : n < 18446744073709551616) : IntKind.u64.wrap n = n := by
 unfold IntKind.wrap
 simp [IntKind.signed, IntKind.bits]
 omega
theorem mul_one (n : Nat) (h : n < 4294967296) : bits_Mul.f 1 (n : Int) = some (0, (n : Int)) := by
 unfold bits_Mul.f bits_Mul64.f
 have h1 : bits .and .u64 1 4294967295 = 1 := by decide
 have h0 : bits .and .u64 0 4294967295 = 0 := by decide
 have h2 : (1 : Int) / 4294967296 = 0 := by decide
 have h3 : (n : Int) / 4294967296 = 0 := by omega
 rw [h1, and_low n h, h2, h3]
 simp only [Int.zero_mul, Int.mul_zero, Int.one_mul, Int.add_zero, u64_in 0 (by decide) (by decide), u64_in (n : Int) (by omega) (by omega), h3, h0, Option.bind_some, Int.zero_ediv]
theorem splice_ints (l r : List Int) (i : Nat) : splice (ints l).toList i (r.map (Value.int .i64)) = (ints (l.take i ++ r ++ l.drop (i + r.length))).toList := by
 unfold splice ints
 simp [List.map_take, List.map_drop]
theorem rep_step (n k : Nat) (d : Nat) (_hd : k + d ≤ n) : (List.replicate k (-1 : Int) ++ List.replicate (n - k) 0).take k ++ List.replicate d (-1) ++ (List.replicate k (-1 : Int) ++ List.replicate (n - k) 0).drop (k + (List.replicate d (-1 : Int)).length) = List.replicate (k + d) (-1) ++ List.replicate (n - (k + d)) 0 := by
 rw [List.take_append_of_le_length (by simp), List.take_of_length_le (by simp), List.replicate_append_replicate, List.length_replicate, List.drop_append, List.length_replicate, List.drop_eq_nil_of_le (by simp), List.nil_append, List.drop_replicate]
 congr 2
 omega
def RepI (w : World) (n k : Nat) (W : World) : Prop := IntBlk W w.heap.size (List.replicate k (-1) ++ List.replicate (n - k) 0) ∧ Below w.heap.size w W
set_option maxHeartbeats 2000000 in
set_option maxRecDepth 100000 in
theorem repeat_walk (n : Nat) (h1 : 1 ≤ n) (h2 : n ≤ 1000000) (ax : Addr) (w : World) (hx : w.cell? ax = some (.int .i64 (-1))) :
  Calls Try.prog 60 #[.slice (some ax) 1 1, .int .i64 n] w fun e w' => e = .returned (.slice (some ⟨w.heap.size, 0, none⟩) n n) ∧ IntBlk w' w.heap.size (List.replicate n (-1)) ∧ Below w.heap.size w w' := by
 have hmul : ∀ W : World, Calls Try.prog 83 #[.int .u64 1, .int .u64 n] W fun e w' => e = .returned (.tuple #[.int .u64 0, .int .u64 n]) ∧ Drawn0 W w' := fun W => bits_Mul.calls 1 n 0 n W (mul_one n (by omega))
 have HMUL := Lib.hid hmul
 have hmk : ∀ W : World, (Instr.makeSlice 51 (.int .i64 (n : Int)) (.int .i64 (n : Int))).run Try.prog W = .ok (.slice (some ⟨W.heap.size, 0, none⟩) n n) (W.alloc (.cells (madeCells #[.int .i64 0] n) 3)) := fun W => by
  obtain ⟨i0, hi, hz0, hz1, hz2⟩ := info_parts infoInt
  have := run_make (P := Try.prog) W 51 3 i0 (.int .i64 0) Try.underlying51 hi hz0 .i64 .i64 (n : Int) (n : Int) (by omega) (by omega) (by rw [hz2]; omega) (by omega)
  rw [hz1, Int.toNat_natCast, Nat.mul_one] at this
  exact this
 have hsz1 : (Try.prog.info? 3).map (·.size) = some 1 := by kernel_rfl
 have HSZ := Lib.hid hsz1
 clear hsz1
 have z1 : ¬ (n : Int) < 0 := by omega
 have z2 : decide ((9223372036854775807 : Int) < (n : Int)) = false := decide_eq_false (by omega)
 have n0 : (0 : Int) ≤ (n : Int) := by omega
 have n1 : (n : Int) ≤ 1000000 := by omega
 have HX := Lib.hid hx
 clear hmul
 go_enter Try.func60, Try.ntmps60
 go_wp2_with (first
  |(go_at_call 83; refine (HMUL.out _).mono ?_; rintro e w1 ⟨rfl, ⟨nd, rfl⟩⟩)
  |(with_reducible refine wpList_copy_splice rfl (.tmp 31) (.tmp 32) 51 51 rfl 3 Try.underlying51 ?k1 (some ⟨w.heap.size, 0, none⟩) (some ax) n n 1 1 ?k2 ?k3 w.heap.size 0 (ints (List.replicate n 0)).toList 3 ?k4 ([(-1 : Int)].map (Value.int .i64)) ?k5 ?k6 ?k7 ?k8 w.heap.size w ?k9 ?k10 ?_))
 case k1 => kernel_rfl
 case k2 => rfl
 case k3 => rfl
 case k4 => exact made_blk w n
 case k5 => simp only [List.length_map, List.length_cons, List.length_nil]; exact (Nat.min_eq_left h1).symm
 case k6 =>
  have key : ∀ (j : Nat) (v : Value), [Value.int .i64 (-1)][j]? = some v → ((w.drewN nd).alloc (.cells (madeCells #[.int .i64 0] n) 3)).cell? (ax.add j) = some v := fun j v hv => by
   match j, hv with
   |0, hv =>
    have : Value.int .i64 (-1) = v := by simpa using hv
    rw [← this, Addr.add_zero']
    exact cell_alloc HX.out _
   |j + 1, hv => simp at hv
  first | exact key | exact fun _ => key | exact fun _ => ⟨rfl, ax, rfl, key⟩
 case k7 => simp [ints]; omega
 case k8 => simp [Value.oneCell']
 case k9 => exact below_alloc (pw_below_drewN (Below.refl _ _) _) _
 case k10 => exact Nat.le_refl _
 intro wr hcop hbel
 have HI : Hid (RepI w n 1 wr) := Lib.hid (by
  have h3 : wr.heap[w.heap.size]? = some (.cells (splice (ints (List.replicate n 0)).toList 0 ([(-1 : Int)].map (Value.int .i64))).toArray 3 (0, 0)) := hcop.out
  rw [splice_ints] at h3
  have h4 := rep_step n 0 1 (by omega)
  rw [List.replicate_zero, List.nil_append, Nat.sub_zero, List.replicate_one] at h4
  rw [h4] at h3
  exact ⟨by simpa [IntBlk] using h3, hbel⟩)
 clear hcop hbel
 go_wp2
 go_loopw [8] (fun nv W => ∃ k : Nat, 1 ≤ k ∧ k ≤ n ∧ nv = .int .i64 k ∧ Hid (RepI w n k W)) (fun nv _ => n - (intOf nv).toNat)
 case atStart => exact ⟨1, Nat.le_refl _, h1, rfl, HI⟩
 case round =>
  obtain ⟨k, hk1, hk, rfl, HK⟩ := hrel
  clear HI
  by_cases hlt : k < n
  ·have i0 : (0 : Int) ≤ (k : Int) := by omega
   have i1 : (k : Int) ≤ (n : Int) := by omega
   have hne : ¬ n = k := by omega
   obtain ⟨d, hd⟩ : ∃ d, d = Nat.min k (n - k) := ⟨_, rfl⟩
   have hd1 : d ≤ k := by rw [hd]; exact Nat.min_le_left _ _
   have hd2 : d ≤ n - k := by rw [hd]; exact Nat.min_le_right _ _
   have hd3 : 0 < d := by rw [hd]; exact Nat.lt_min.2 ⟨by omega, by omega⟩
   have HD := Lib.hid hd
   clear hd
   have s1 : IntKind.i64.wrap ((k : Int) + (d : Int)) = (k : Int) + (d : Int) := IntWalk.i64_in _ (by omega)
   have l1 : (List.replicate d (-1 : Int)).length = d := List.length_replicate
   have hsrc : ∀ j v, ((List.replicate d (-1 : Int)).map (Value.int .i64))[j]? = some v → wr.cell? ⟨w.heap.size, 0 + j, none⟩ = some v := fun j v hv => by
    have hj : j < d := by have := (List.getElem?_eq_some_iff.1 hv).1; simpa using this
    have h1 := HK.out.1.cell j (by rw [List.length_append, List.length_replicate]; omega)
    rw [Nat.zero_add, h1, ← hv]
    have : rd (List.replicate k (-1) ++ List.replicate (n - k) 0) (j : Int) = -1 := by
     unfold rd
     rw [Int.toNat_natCast, List.getD_eq_getElem?_getD, List.getElem?_append_left (by simp; omega)]
     simp [show j < k by omega]
    rw [this]
    simp [hj]
   have HS := Lib.hid hsrc
   clear hsrc
   have e1 : wr.drew.heap[w.heap.size]? = some (.cells (ints (List.replicate k (-1) ++ List.replicate (n - k) 0)).toList.toArray 3 (0, 0)) := by
    rw [Array.toArray_toList]
    exact HK.out.1
   have e2 : ((List.replicate d (-1 : Int)).map (Value.int .i64)).length = Nat.min k (n - k) := by rw [List.length_map, List.length_replicate]; exact HD.out
   have e3 : ∀ j v, ((List.replicate d (-1 : Int)).map (Value.int .i64))[j]? = some v → wr.drew.cell? ((⟨w.heap.size, 0, none⟩ : Addr).add j) = some v := fun j v hv => by
    have := HS.out j v hv
    rw [Addr.add_lit]
    exact this
   have e4 : k + ((List.replicate d (-1 : Int)).map (Value.int .i64)).length ≤ (ints (List.replicate k (-1) ++ List.replicate (n - k) 0)).toList.length := by simp [ints]; omega
   have e5 : ∀ v ∈ (List.replicate d (-1 : Int)).map (Value.int .i64), v.oneCell' = true := by simp [Value.oneCell']
   have e6 : Below w.heap.size w wr.drew := below_drew HK.out.2
   have E1 := Lib.hid e1
   have E2 := Lib.hid e2
   have E3 := Lib.hid e3
   have E4 := Lib.hid e4
   have E5 := Lib.hid e5
   have E6 := Lib.hid e6
   clear e1 e2 e3 e4 e5 e6
   go_wp2
   go_region_law ((refine step_copy_splice (by rfl) (.tmp 41) (.tmp 44) 51 51 (by rfl) 3 Try.underlying51 HSZ.out (some ⟨w.heap.size, k, none⟩) (some ⟨w.heap.size, 0, none⟩) (n - k) (n - k) k n (by simp [Act.eval, Act.put]) (by simp [Act.eval, Act.put]) w.heap.size k _ 3 E1.out _ E2.out (fun _ => ⟨rfl, _, rfl, E3.out⟩) E4.out E5.out w.heap.size w E6.out (Nat.le_refl _) ?_; intro w2 hcop hbel))
   go_simp
   go_wp2
   go_roundw
   case rel =>
    refine ⟨k + d, by omega, by omega, by go_num, Lib.hid ?_⟩
    have h3 := hcop.out
    rw [splice_ints, rep_step n k d (by omega)] at h3
    exact ⟨by simpa [IntBlk] using h3, hbel⟩
   case measure => simp [intOf]; omega
  ·have hkn : k = n := by omega
   subst hkn
   go_wp2
   go_ret
   have h3 := HK.out.1
   rw [Nat.sub_self, List.replicate_zero, List.append_nil] at h3
   exact ⟨rfl, h3, HK.out.2⟩
end Go.Proofs.Ytdfagllncopmjaa.H
end
