/- Texts of this proof, joined; what the statement doesn't need is left out. -/
import Derived.Test.YtcgdloldkcmhnaaU4
section
namespace Go.Proofs.Ytcgdloldkcmhnaa.PrintE
open Go.Proofs.Ytcgdloldkcmhnaa.PrintC Go.RowKit Go.Proofs.Ytcgdloldkcmhnaa.H Go.Proofs.YtcgdloldkcmhnaaW.PrintWords Go.Proofs.YtcgdloldkcmhnaaW.PrintLast Go.Proofs.YtcgdloldkcmhnaaW.PrintMore
attribute [local go_sem] max2_int min2_int max_two min_two max_three min_three max_four min_four
set_option linter.unusedVariables false
set_option linter.unusedSimpArgs false
def ebbtidelaw12_Read.l0 : Nat → Int → Int → Int → Bool → List (S77) → Int → Int → Int → Int → Bool → List (S79) → Option (Int × Bool × (List (S79)) × Int × Int × Int)
  | 0, _, _, _, _, _, _, _, _, _, _, _ => none
  | k + 1, x1, x9, x259000, x259001, x259002, x259003, x259004, x259005, x261000, x261001, x261002 => if x9 < (x259002.length : Int) then (if x9 < x1 then (if 0 ≤ x9 then (if x261000 = 0 then (none) else (if x261002.length < 4398046511104 then (ebbtidelaw12_Read.l0 k x1 (wrap64 (x9 + 1)) x259000 x259001 x259002 x259003 x259004 x259005 x261000 x261001 (x261002 ++ [(⟨Int.tmod (wrap64 ((rd_T77 x259002 x9).f0)) x261000, Int.tmod (wrap64 ((rd_T77 x259002 x9).f1)) x261000, Int.tmod (wrap64 ((rd_T77 x259002 x9).f2)) 6, Int.tmod (wrap64 ((rd_T77 x259002 x9).f3)) 4⟩ : S79)])) else (none))) else (none)) else (if x261000 = 0 then (none) else (if (wrap64 (x261000 - 1)) = 0 then (none) else (some (x261000, x261001, x261002, Int.tmod (wrap64 (x259003)) x261000, Int.tmod (wrap64 ((wrap64 ((Int.tmod (wrap64 (x259003)) x261000) + 1)) + (Int.tmod (wrap64 (x259004)) (wrap64 (x261000 - 1))))) x261000, Int.tmod (wrap64 (x259005)) 8))))) else (if x261000 = 0 then (none) else (if (wrap64 (x261000 - 1)) = 0 then (none) else (some (x261000, x261001, x261002, Int.tmod (wrap64 (x259003)) x261000, Int.tmod (wrap64 ((wrap64 ((Int.tmod (wrap64 (x259003)) x261000) + 1)) + (Int.tmod (wrap64 (x259004)) (wrap64 (x261000 - 1))))) x261000, Int.tmod (wrap64 (x259005)) 8))))
def ebbtidelaw12_Read.f (k : Nat) (a0_0 : Int) (a0_1 : Bool) (l0_2 : List (S77)) (a0_3 : Int) (a0_4 : Int) (a0_5 : Int) (a1 : Int) : Option (Int × Bool × (List (S79)) × Int × Int × Int) := ebbtidelaw12_Read.l0 k a1 0 a0_0 a0_1 l0_2 a0_3 a0_4 a0_5 (wrap64 (2 + (Int.tmod (wrap64 (a0_0)) 4))) a0_1 ([] : List (S79))
theorem ebbtidelaw12_Read.mono_l : ∀ k, (∀ y0 y1 y2 y3 y4 y5 y6 y7 y8 y9 y10, LeO (ebbtidelaw12_Read.l0 k y0 y1 y2 y3 y4 y5 y6 y7 y8 y9 y10) (ebbtidelaw12_Read.l0 (k + 1) y0 y1 y2 y3 y4 y5 y6 y7 y8 y9 y10))
  | 0 => fun _ _ _ _ _ _ _ _ _ _ _ r h => by simp [ebbtidelaw12_Read.l0] at h
  | k + 1 => by
    have ih0 := ebbtidelaw12_Read.mono_l k
    · intro y0 y1 y2 y3 y4 y5 y6 y7 y8 y9 y10
      unfold ebbtidelaw12_Read.l0
      repeat' first
      | (with_reducible exact ih0 _ _ _ _ _ _ _ _ _ _ _)
      | (with_reducible exact LeO.refl _)
      | (with_reducible exact LeO.none _)
      | (with_reducible refine LeO.ite ?_ ?_)
      | (with_reducible refine LeO.bind ?_ (fun _ => ?_))
      | exact ih0 _ _ _ _ _ _ _ _ _ _ _
      | exact LeO.none _
      | refine LeO.ite ?_ ?_
      | refine LeO.bind ?_ (fun _ => ?_)
theorem ebbtidelaw12_Read.mono : ∀ a0 a1 a2 a3 a4 a5 a6 k, LeO (ebbtidelaw12_Read.f k a0 a1 a2 a3 a4 a5 a6) (ebbtidelaw12_Read.f (k + 1) a0 a1 a2 a3 a4 a5 a6) := by
  intro a0 a1 a2 a3 a4 a5 a6 k
  have ih0 := ebbtidelaw12_Read.mono_l k
  unfold ebbtidelaw12_Read.f
  repeat' first
      | (with_reducible exact ih0 _ _ _ _ _ _ _ _ _ _ _)
      | (with_reducible exact LeO.refl _)
      | (with_reducible exact LeO.none _)
      | (with_reducible refine LeO.ite ?_ ?_)
      | (with_reducible refine LeO.bind ?_ (fun _ => ?_))
      | exact ih0 _ _ _ _ _ _ _ _ _ _ _
      | exact LeO.none _
      | refine LeO.ite ?_ ?_
      | refine LeO.bind ?_ (fun _ => ?_)
def ebbtidelaw12_Read.T6 : Bool × List (List Nat × List Nat) := (true, [([], []), ([0], [0]), ([], []), ([2], [2]), ([3], [3]), ([], []), ([5], [5]), ([4, 6], [4, 6]), ([], []), ([8], [8]), ([9], [9]), ([], []), ([11], [11]), ([10, 12], [10, 12]), ([], []), ([14], [14]), ([15], [15]), ([16], [16]), ([], []), ([18], [18]), ([19], [19]), ([20], [20]), ([7, 13, 17, 21], [7, 13, 17, 21]), ([22], [22]), ([1, 23], [1, 23]), ([0, 1, 2, 3, 4, 5, 6, 7, 8, 9, 10, 11, 12, 13, 14, 15, 16, 17, 18, 19, 20, 21, 22, 23, 24], []), ([25, 24, 24, 0, 1, 2, 3, 4, 5, 6, 7, 8, 9, 10, 11, 12, 13, 14, 15, 16, 17, 18, 19, 20, 21, 22, 23, 24], [24, 25])])
def ebbtidelaw12_Read.B6 : List Nat := [0, 1, 0, 4, 12, 0, 32, 124, 0, 256, 768, 0, 2048, 7936, 0, 16384, 49152, 114688, 0, 262144, 786432, 1835008, 4194300, 8388604, 16777215, 33554431, 67108863]
theorem ebbtidelaw12_Read.tab6 : rtab .any (opsOf Try.f16 6) = ebbtidelaw12_Read.T6 := by kernel_rfl
theorem ebbtidelaw12_Read.bits6 : waitsOk ebbtidelaw12_Read.T6.2 ebbtidelaw12_Read.B6 = true := by kernel_rfl
def ebbtidelaw12_Read.T8 : Bool × List (List Nat × List Nat) := (true, [([], []), ([0], [0]), ([], []), ([2], [2]), ([3], [3]), ([], []), ([5], [5]), ([6], [6]), ([4, 7], [4, 7]), ([1, 8], [1, 8]), ([], []), ([10], [10]), ([9, 11], [9, 11]), ([12, 0, 1, 2, 3, 4, 5, 6, 7, 8, 9, 10, 11, 12], [12])])
def ebbtidelaw12_Read.B8 : List Nat := [0, 1, 0, 4, 12, 0, 32, 96, 252, 511, 0, 1024, 4095, 8191]
theorem ebbtidelaw12_Read.tab8 : rtab .any (opsOf Try.f16 8) = ebbtidelaw12_Read.T8 := by kernel_rfl
theorem ebbtidelaw12_Read.bits8 : waitsOk ebbtidelaw12_Read.T8.2 ebbtidelaw12_Read.B8 = true := by kernel_rfl
def ebbtidelaw12_Read.T9 : Bool × List (List Nat × List Nat) := (true, [([], []), ([], []), ([], []), ([], []), ([3], [3]), ([4], [4]), ([5], [5]), ([0, 0], [0]), ([1, 7, 0, 1, 7], [1]), ([2, 8, 0, 1, 2, 7, 8], [2]), ([6, 9, 0, 1, 2, 3, 4, 5, 6, 7, 8, 9], [6])])
def ebbtidelaw12_Read.B9 : List Nat := [0, 0, 0, 0, 8, 24, 56, 1, 131, 391, 1023]
theorem ebbtidelaw12_Read.tab9 : rtab .any (opsOf Try.f16 9) = ebbtidelaw12_Read.T9 := by kernel_rfl
theorem ebbtidelaw12_Read.bits9 : waitsOk ebbtidelaw12_Read.T9.2 ebbtidelaw12_Read.B9 = true := by kernel_rfl
set_option maxHeartbeats 8000000 in
set_option maxRecDepth 100000 in
theorem ebbtidelaw12_Read.calls (k : Nat) (a0_0 : Int) (a0_1 : Bool) (A0_2 : Option Addr) (c0_2 : Nat) (l0_2 : List (S77)) (a0_3 : Int) (a0_4 : Int) (a0_5 : Int) (a1 : Int) (r1 : Int) (r2 : Bool) (r3 : List (S79)) (r4 : Int) (r5 : Int) (r6 : Int) (w : World) (hr0_2 : Kd.C k77 w A0_2 l0_2.length l0_2) (hc0_2 : l0_2.length ≤ c0_2) (h : ebbtidelaw12_Read.f k a0_0 a0_1 l0_2 a0_3 a0_4 a0_5 a1 = some (r1, r2, r3, r4, r5, r6)) :
    Calls Try.prog 16 #[.agg #[.int .u8 a0_0, .bool a0_1, .slice A0_2 l0_2.length c0_2, .int .u8 a0_3, .int .u8 a0_4, .int .u8 a0_5], .int .i64 a1] w fun e w' => ∃ v2_ : Value, e = .returned (.tuple #[.agg #[.int .i64 r1, .bool r2, v2_], .int .i64 r4, .int .i64 r5, .int .i64 r6]) ∧ Kd.R k79 79 w' w.heap.size (fun _ => True) v2_ r3 ∧ Below w.heap.size w w' := by
  have hu24 := Try.underlying24
  have hu32 := Try.underlying32
  have hu77 := Try.underlying77
  have hu79 := Try.underlying79
  have HR0_2 := Aside0.mk hr0_2
  have HC0_2 := Aside0.mk hc0_2
  clear hr0_2 hc0_2
  have HB := Aside0.mk (Below.refl w.heap.size w)
  have H : (ebbtidelaw12_Read.l0 k a1 0 a0_0 a0_1 l0_2 a0_3 a0_4 a0_5 (wrap64 (2 + (Int.tmod (wrap64 (a0_0)) 4))) a0_1 ([] : List (S79))) = some (r1, r2, r3, r4, r5, r6) := h
  clear h
  have H' := Aside0.mk H
  clear H
  go_enter Try.func16, Try.ntmps16
  go_wp2_with (first | ((with_reducible refine gate_dst (N := 2) rfl ?_); refine box_event ?hg (N := 2) ?hd (cs := #[.int .u8 a0_0, .bool a0_1, .slice A0_2 l0_2.length c0_2, .int .u8 a0_3, .int .u8 a0_4, .int .u8 a0_5]) (t := 24) ?hr ?_; (case hd => rfl); (case hg => rfl); (case hr => first | (go_simp; done) | (go_simp; rfl)); intro gb258 hg w3 hbox hb; have n0_ := Aside0.mk (below_step (by repeat (first | (with_reducible first | exact HB.out | apply below_alloc | apply pw_below_drewN | apply below_drew1) | exact HB.out)) hb); have n1_ := Aside0.mk (hbox); have n2_ := Aside0.mk ((by rw [hg]; exact (below_size (by repeat (first | (with_reducible first | exact HB.out | apply below_alloc | apply pw_below_drewN | apply below_drew1) | exact HB.out))) : w.heap.size ≤ gb258)); have n3_ := Aside0.mk ((by rw [hg]; exact (below_size (by repeat (first | (with_reducible first | exact HB.out | apply below_alloc | apply pw_below_drewN | apply below_drew1) | exact HB.out))) : w.heap.size ≤ gb258)); clear HB; have HB := n0_; have BK258 := n1_; have GW258 := n2_; have GE258 := n3_; clear n0_ n1_ n2_ n3_; clear hb hbox hg) | ((with_reducible refine gate_dst (N := 4) rfl ?_); refine box_event ?hg (N := 4) ?hd (cs := #[.int .i64 0, .bool false, .slice none 0 0]) (t := 32) ?hr ?_; (case hd => rfl); (case hg => rfl); (case hr => first | (go_simp; done) | (go_simp; rfl)); intro gb259 hg w4 hbox hb; have n0_ := Aside0.mk (blk_below (g := gb258) (o := .cells #[.int .u8 a0_0, .bool a0_1, .slice A0_2 l0_2.length c0_2, .int .u8 a0_3, .int .u8 a0_4, .int .u8 a0_5] 24 (0, 0)) (by (with_reducible repeat (first | refine blk_drewN ?_ _ | refine blk_drew ?_ | refine blk_alloc ?_ _)); exact BK258.out) hb); have n1_ := Aside0.mk (below_step (by repeat (first | (with_reducible first | exact HB.out | apply below_alloc | apply pw_below_drewN | apply below_drew1 | refine below_set ?_ GE258.out) | exact HB.out)) hb); have n2_ := Aside0.mk (hbox); have n3_ := Aside0.mk ((by rw [hg]; exact (below_size (by repeat (first | (with_reducible first | exact HB.out | apply below_alloc | apply pw_below_drewN | apply below_drew1 | refine below_set ?_ GE258.out) | exact HB.out))) : w.heap.size ≤ gb259)); have n4_ := Aside0.mk ((by rw [hg]; exact (below_size (by repeat (first | (with_reducible first | exact HB.out | apply below_alloc | apply pw_below_drewN | apply below_drew1 | refine below_set ?_ GE258.out) | exact HB.out))) : w.heap.size ≤ gb259)); have n5_ := Aside0.mk ((by rw [hg]; exact Nat.ne_of_lt (blk_lt (g := gb258) (o := .cells #[.int .u8 a0_0, .bool a0_1, .slice A0_2 l0_2.length c0_2, .int .u8 a0_3, .int .u8 a0_4, .int .u8 a0_5] 24 (0, 0)) (by (with_reducible repeat (first | refine blk_drewN ?_ _ | refine blk_drew ?_ | refine blk_alloc ?_ _)); exact BK258.out)) : gb258 ≠ gb259)); have n6_ := Aside0.mk ((by rw [hg]; exact Nat.ne_of_gt (blk_lt (g := gb258) (o := .cells #[.int .u8 a0_0, .bool a0_1, .slice A0_2 l0_2.length c0_2, .int .u8 a0_3, .int .u8 a0_4, .int .u8 a0_5] 24 (0, 0)) (by (with_reducible repeat (first | refine blk_drewN ?_ _ | refine blk_drew ?_ | refine blk_alloc ?_ _)); exact BK258.out)) : gb259 ≠ gb258)); clear BK258; clear HB; have BK258 := n0_; have HB := n1_; have BK259 := n2_; have GW259 := n3_; have GE259 := n4_; have NB258_259 := n5_; have NB259_258 := n6_; clear n0_ n1_ n2_ n3_ n4_ n5_ n6_; clear hb hbox hg; have hnb5 := NB258_259.out; have hnc5 := NB259_258.out; have hcz6_0 : w4.cell? ⟨gb258, 0, none⟩ = some (.int .u8 a0_0) := (blk_cell BK258.out 0).trans rfl; have hcz6_1 : w4.cell? ⟨gb258, 1, none⟩ = some (.bool a0_1) := (blk_cell BK258.out 1).trans rfl; have hcz6_2 : w4.cell? ⟨gb258, 2, none⟩ = some (.slice A0_2 l0_2.length c0_2) := (blk_cell BK258.out 2).trans rfl; have hcz6_3 : w4.cell? ⟨gb258, 3, none⟩ = some (.int .u8 a0_3) := (blk_cell BK258.out 3).trans rfl; have hcz6_4 : w4.cell? ⟨gb258, 4, none⟩ = some (.int .u8 a0_4) := (blk_cell BK258.out 4).trans rfl; have hcz6_5 : w4.cell? ⟨gb258, 5, none⟩ = some (.int .u8 a0_5) := (blk_cell BK258.out 5).trans rfl; have hfz6_0 := blk_frozen BK258.out 0; have hfz6_1 := blk_frozen BK258.out 1; have hfz6_2 := blk_frozen BK258.out 2; have hfz6_3 := blk_frozen BK258.out 3; have hfz6_4 := blk_frozen BK258.out 4; have hfz6_5 := blk_frozen BK258.out 5) | ((with_reducible refine gate_dst (N := 8) rfl ?_); refine box_event ?hg (N := 8) ?hd (cs := #[.int .i64 0, .bool false, .slice none 0 0]) (t := 32) ?hr ?_; (case hd => rfl); (case hg => rfl); (case hr => first | (go_simp; done) | (go_simp; rfl)); intro gb260 hg w7 hbox hb; have n0_ := Aside0.mk (blk_below (g := gb258) (o := .cells #[.int .u8 a0_0, .bool a0_1, .slice A0_2 l0_2.length c0_2, .int .u8 a0_3, .int .u8 a0_4, .int .u8 a0_5] 24 (0, 0)) (by (with_reducible repeat (first | refine blk_drewN ?_ _ | refine blk_drew ?_ | refine blk_alloc ?_ _)); exact BK258.out) hb); have n1_ := Aside0.mk (blk_below (g := gb259) (o := .cells #[.int .i64 0, .bool false, .slice none 0 0] 32 (0, 0)) (by (with_reducible repeat (first | refine blk_drewN ?_ _ | refine blk_drew ?_ | refine blk_alloc ?_ _)); exact BK259.out) hb); have n2_ := Aside0.mk (below_step (by repeat (first | (with_reducible first | exact HB.out | apply below_alloc | apply pw_below_drewN | apply below_drew1 | refine below_set ?_ GE258.out | refine below_set ?_ GE259.out) | exact HB.out)) hb); have n3_ := Aside0.mk (hbox); have n4_ := Aside0.mk ((by rw [hg]; exact (below_size (by repeat (first | (with_reducible first | exact HB.out | apply below_alloc | apply pw_below_drewN | apply below_drew1 | refine below_set ?_ GE258.out | refine below_set ?_ GE259.out) | exact HB.out))) : w.heap.size ≤ gb260)); have n5_ := Aside0.mk ((by rw [hg]; exact (below_size (by repeat (first | (with_reducible first | exact HB.out | apply below_alloc | apply pw_below_drewN | apply below_drew1 | refine below_set ?_ GE258.out | refine below_set ?_ GE259.out) | exact HB.out))) : w.heap.size ≤ gb260)); have n6_ := Aside0.mk ((by rw [hg]; exact Nat.ne_of_lt (blk_lt (g := gb258) (o := .cells #[.int .u8 a0_0, .bool a0_1, .slice A0_2 l0_2.length c0_2, .int .u8 a0_3, .int .u8 a0_4, .int .u8 a0_5] 24 (0, 0)) (by (with_reducible repeat (first | refine blk_drewN ?_ _ | refine blk_drew ?_ | refine blk_alloc ?_ _)); exact BK258.out)) : gb258 ≠ gb260)); have n7_ := Aside0.mk ((by rw [hg]; exact Nat.ne_of_gt (blk_lt (g := gb258) (o := .cells #[.int .u8 a0_0, .bool a0_1, .slice A0_2 l0_2.length c0_2, .int .u8 a0_3, .int .u8 a0_4, .int .u8 a0_5] 24 (0, 0)) (by (with_reducible repeat (first | refine blk_drewN ?_ _ | refine blk_drew ?_ | refine blk_alloc ?_ _)); exact BK258.out)) : gb260 ≠ gb258)); have n8_ := Aside0.mk ((by rw [hg]; exact Nat.ne_of_lt (blk_lt (g := gb259) (o := .cells #[.int .i64 0, .bool false, .slice none 0 0] 32 (0, 0)) (by (with_reducible repeat (first | refine blk_drewN ?_ _ | refine blk_drew ?_ | refine blk_alloc ?_ _)); exact BK259.out)) : gb259 ≠ gb260)); have n9_ := Aside0.mk ((by rw [hg]; exact Nat.ne_of_gt (blk_lt (g := gb259) (o := .cells #[.int .i64 0, .bool false, .slice none 0 0] 32 (0, 0)) (by (with_reducible repeat (first | refine blk_drewN ?_ _ | refine blk_drew ?_ | refine blk_alloc ?_ _)); exact BK259.out)) : gb260 ≠ gb259)); clear BK258; clear BK259; clear HB; have BK258 := n0_; have BK259 := n1_; have HB := n2_; have BK260 := n3_; have GW260 := n4_; have GE260 := n5_; have NB258_260 := n6_; have NB260_258 := n7_; have NB259_260 := n8_; have NB260_259 := n9_; clear n0_ n1_ n2_ n3_ n4_ n5_ n6_ n7_ n8_ n9_; clear hb hbox hg; have hnb8 := NB260_258.out; have hnc8 := NB258_260.out; have hnb9 := NB260_259.out; have hnc9 := NB259_260.out; have hcz10_0 : w7.cell? ⟨gb260, 0, none⟩ = some (.int .i64 0) := (blk_cell BK260.out 0).trans rfl; have hcz10_1 : w7.cell? ⟨gb260, 1, none⟩ = some (.bool false) := (blk_cell BK260.out 1).trans rfl; have hcz10_2 : w7.cell? ⟨gb260, 2, none⟩ = some (.slice none 0 0) := (blk_cell BK260.out 2).trans rfl; have hfz10_0 := blk_frozen BK260.out 0; have hfz10_1 := blk_frozen BK260.out 1; have hfz10_2 := blk_frozen BK260.out 2))
  go_loopg [9] k (fun kq v9 w' => ∃ (x9_1 : Int) (x261002_1 : List (S79)) (u261002 : Value), v9 = .int .i64 x9_1 ∧ Aside0 (ebbtidelaw12_Read.l0 kq a1 x9_1 a0_0 a0_1 l0_2 a0_3 a0_4 a0_5 (wrap64 (2 + (Int.tmod (wrap64 (a0_0)) 4))) a0_1 x261002_1 = some (r1, r2, r3, r4, r5, r6)) ∧ Aside0 (kq ≤ k) ∧ Aside0 (Kd.R k79 79 w' w.heap.size (fun _ => True) u261002 x261002_1) ∧ Aside0 (w'.heap[gb258]? = some (.cells #[.int .u8 a0_0, .bool a0_1, (.slice A0_2 l0_2.length c0_2), .int .u8 a0_3, .int .u8 a0_4, .int .u8 a0_5] 24 (0, 0))) ∧ Aside0 (w'.heap[gb259]? = some (.cells #[.int .i64 0, .bool false, (.slice none 0 0)] 32 (0, 0))) ∧ Aside0 (w'.heap[gb260]? = some (.cells #[.int .i64 (wrap64 (2 + (Int.tmod (wrap64 (a0_0)) 4))), .bool a0_1, u261002] 32 (0, 0))) ∧ Aside0 (Below w.heap.size w w'))
  case atStart => exact ⟨(0), (([] : List (S79))), (.slice none 0 0), (by first | rfl | (simp; done) | (simp [*]; done)), H', ⟨Nat.le_refl _⟩, ⟨by first | exact Kd.R_nil _ _ _ _ _ | exact Kd.N_nil _ _ _ _ _ | exact Kd.V_nil _ _ _ _ _ | exact Kd.Q_nil _ _ _ _ _ | exact Kd.S_nil _ _ _ _ _⟩, ⟨by (with_reducible repeat (first | refine blk_drewN ?_ _ | refine blk_drew ?_ | refine blk_alloc ?_ _)); refine blk_far ?_ NB258_260.out _; (with_reducible repeat (first | refine blk_drewN ?_ _ | refine blk_drew ?_ | refine blk_alloc ?_ _)); refine blk_far ?_ NB258_260.out _; (with_reducible repeat (first | refine blk_drewN ?_ _ | refine blk_drew ?_ | refine blk_alloc ?_ _)); refine blk_far ?_ NB258_260.out _; (with_reducible repeat (first | refine blk_drewN ?_ _ | refine blk_drew ?_ | refine blk_alloc ?_ _)); exact BK258.out⟩, ⟨by (with_reducible repeat (first | refine blk_drewN ?_ _ | refine blk_drew ?_ | refine blk_alloc ?_ _)); refine blk_far ?_ NB259_260.out _; (with_reducible repeat (first | refine blk_drewN ?_ _ | refine blk_drew ?_ | refine blk_alloc ?_ _)); refine blk_far ?_ NB259_260.out _; (with_reducible repeat (first | refine blk_drewN ?_ _ | refine blk_drew ?_ | refine blk_alloc ?_ _)); refine blk_far ?_ NB259_260.out _; (with_reducible repeat (first | refine blk_drewN ?_ _ | refine blk_drew ?_ | refine blk_alloc ?_ _)); exact BK259.out⟩, ⟨by (with_reducible repeat (first | refine blk_drewN ?_ _ | refine blk_drew ?_ | refine blk_alloc ?_ _)); refine blk_put (cs := #[.int .i64 (wrap64 (2 + (Int.tmod (wrap64 (a0_0)) 4))), .bool a0_1, .slice none 0 0]) ?_ 2 _ rfl; (with_reducible repeat (first | refine blk_drewN ?_ _ | refine blk_drew ?_ | refine blk_alloc ?_ _)); refine blk_put (cs := #[.int .i64 (wrap64 (2 + (Int.tmod (wrap64 (a0_0)) 4))), .bool false, .slice none 0 0]) ?_ 1 _ rfl; (with_reducible repeat (first | refine blk_drewN ?_ _ | refine blk_drew ?_ | refine blk_alloc ?_ _)); refine blk_put (cs := #[.int .i64 0, .bool false, .slice none 0 0]) ?_ 0 _ rfl; (with_reducible repeat (first | refine blk_drewN ?_ _ | refine blk_drew ?_ | refine blk_alloc ?_ _)); exact BK260.out⟩, ⟨by repeat (first | (with_reducible first | exact HB.out | apply below_alloc | apply pw_below_drewN | apply below_drew1 | refine below_set ?_ GE258.out | refine below_set ?_ GE259.out | refine below_set ?_ GE260.out) | exact HB.out)⟩⟩
  case round =>
    clear H'
    try clear c1
    try clear p2
    try clear c5
    try clear p6
    try clear c8
    try clear c9
    try clear hcz10_0
    try clear hcz10_1
    try clear hcz10_2
    try clear hcz6_0
    try clear hcz6_1
    try clear hcz6_2
    try clear hcz6_3
    try clear hcz6_4
    try clear hcz6_5
    try clear hfz10_0
    try clear hfz10_1
    try clear hfz10_2
    try clear hfz6_0
    try clear hfz6_1
    try clear hfz6_2
    try clear hfz6_3
    try clear hfz6_4
    try clear hfz6_5
    obtain ⟨x9_1, x261002_1, u261002, rfl, HA, HK1, HO_261002, BK258, BK259, BK260, HB⟩ := hrel
    cases gk with
    | zero => exact absurd HA.out (by simp [ebbtidelaw12_Read.l0])
    | succ k1 =>
      have H := HA.out
      clear HA
      simp only [ebbtidelaw12_Read.l0] at H
      by_cases c11 : x9_1 < (l0_2.length : Int)
      · rw [if_pos c11] at H
        have c11b0 : decide (x9_1 < (l0_2.length : Int)) = true := decide_eq_true c11
        clear c11
        by_cases c12 : x9_1 < a1
        · rw [if_pos c12] at H
          have c12b0 : decide (x9_1 < a1) = true := decide_eq_true c12
          clear c12
          by_cases c13 : 0 ≤ x9_1
          · rw [if_pos c13] at H
            have c13b0 : decide (0 ≤ x9_1) = true := decide_eq_true c13
            clear c13
            by_cases c14 : (wrap64 (2 + (Int.tmod (wrap64 (a0_0)) 4))) = 0
            · rw [if_pos c14] at H
              exact absurd H (by simp)
            · rw [if_neg c14] at H
              have c14b0 : ((wrap64 (2 + (Int.tmod (wrap64 (a0_0)) 4))) == 0) = false := beq_eq_false_iff_ne.mpr c14
              have c14b1 : ((wrap64 (2 + (Int.tmod (wrap64 (a0_0)) 4))) != 0) = true := bne_iff_ne.mpr c14
              by_cases c15 : x261002_1.length < 4398046511104
              · rw [if_pos c15] at H
                have LMc15 := Aside0.mk c15
                clear c15
                obtain ⟨y263, hy263⟩ : ∃ y_ : List (S79), y_ = (x261002_1 ++ [(⟨Int.tmod (wrap64 ((rd_T77 l0_2 x9_1).f0)) (wrap64 (2 + (Int.tmod (wrap64 (a0_0)) 4))), Int.tmod (wrap64 ((rd_T77 l0_2 x9_1).f1)) (wrap64 (2 + (Int.tmod (wrap64 (a0_0)) 4))), Int.tmod (wrap64 ((rd_T77 l0_2 x9_1).f2)) 6, Int.tmod (wrap64 ((rd_T77 l0_2 x9_1).f3)) 4⟩ : S79)]) := ⟨_, rfl⟩
                replace H : (ebbtidelaw12_Read.l0 k1 a1 (wrap64 (x9_1 + 1)) a0_0 a0_1 l0_2 a0_3 a0_4 a0_5 (wrap64 (2 + (Int.tmod (wrap64 (a0_0)) 4))) a0_1 y263) = some (r1, r2, r3, r4, r5, r6) := by first | (rw [hy263]; with_reducible exact H) | (have H2_ := (Option.bind_some _ _).symm.trans H; rw [hy263]; with_reducible exact H2_) | (have H2_ := (Option.bind_some _ _).symm.trans H; with_reducible exact H2_) | with_reducible exact H | (rw [hy263]; exact H) | exact H
                have Ny263 := Aside0.mk hy263
                clear hy263
                have H' := Aside0.mk H
                clear H
                have hnb16 := NB258_259.out
                have hnc16 := NB259_258.out
                have hnb17 := NB258_260.out
                have hnc17 := NB260_258.out
                have hcz18_0 : wr.cell? ⟨gb258, 0, none⟩ = some (.int .u8 a0_0) := (blk_cell BK258.out 0).trans rfl
                have hcz18_1 : wr.cell? ⟨gb258, 1, none⟩ = some (.bool a0_1) := (blk_cell BK258.out 1).trans rfl
                have hcz18_2 : wr.cell? ⟨gb258, 2, none⟩ = some (.slice A0_2 l0_2.length c0_2) := (blk_cell BK258.out 2).trans rfl
                have hcz18_3 : wr.cell? ⟨gb258, 3, none⟩ = some (.int .u8 a0_3) := (blk_cell BK258.out 3).trans rfl
                have hcz18_4 : wr.cell? ⟨gb258, 4, none⟩ = some (.int .u8 a0_4) := (blk_cell BK258.out 4).trans rfl
                have hcz18_5 : wr.cell? ⟨gb258, 5, none⟩ = some (.int .u8 a0_5) := (blk_cell BK258.out 5).trans rfl
                have hfz18_0 := blk_frozen BK258.out 0
                have hfz18_1 := blk_frozen BK258.out 1
                have hfz18_2 := blk_frozen BK258.out 2
                have hfz18_3 := blk_frozen BK258.out 3
                have hfz18_4 := blk_frozen BK258.out 4
                have hfz18_5 := blk_frozen BK258.out 5
                have p261 : 0 ≤ (x9_1 : Int) := of_decide_eq_true (by first | (with_reducible assumption) | assumption)
                have q261 : x9_1 < (l0_2.length : Int) := of_decide_eq_true (by first | (with_reducible assumption) | assumption)
                obtain ⟨ad261, e261, hx261_0, hx261_1, hx261_2, hx261_3⟩ := at_T77 HR0_2.out x9_1 p261 q261
                cases e261
                replace hx261_0 := (HB.out.cell (World.block_lt_of_cell? w _ hx261_0)).trans hx261_0
                replace hx261_1 := (HB.out.cell (World.block_lt_of_cell? w _ hx261_1)).trans hx261_1
                replace hx261_2 := (HB.out.cell (World.block_lt_of_cell? w _ hx261_2)).trans hx261_2
                replace hx261_3 := (HB.out.cell (World.block_lt_of_cell? w _ hx261_3)).trans hx261_3
                replace p261 := eq_true p261
                replace q261 := eq_true q261
                try go_wp2_with (first | ((with_reducible refine gate_dst (N := 10) rfl ?_); refine box_event ?hg (N := 10) ?hd (cs := #[.int .u8 0, .int .u8 0, .int .u8 0, .int .u8 0]) (t := 77) ?hr ?_; (case hd => rfl); (case hg => rfl); (case hr => first | (go_simp; done) | (go_simp; rfl)); intro gb262 hg w19 hbox hb; have n0_ := Aside0.mk (Kd.R_below (by (with_reducible repeat (first | apply Kd.R_alloc | apply Kd.R_drewN | apply Kd.R_drew)); exact HO_261002.out) hb); have n1_ := Aside0.mk (blk_below (g := gb258) (o := .cells #[.int .u8 a0_0, .bool a0_1, .slice (some ad261) l0_2.length c0_2, .int .u8 a0_3, .int .u8 a0_4, .int .u8 a0_5] 24 (0, 0)) (by (with_reducible repeat (first | refine blk_drewN ?_ _ | refine blk_drew ?_ | refine blk_alloc ?_ _)); exact BK258.out) hb); have n2_ := Aside0.mk (blk_below (g := gb259) (o := .cells #[.int .i64 0, .bool false, .slice none 0 0] 32 (0, 0)) (by (with_reducible repeat (first | refine blk_drewN ?_ _ | refine blk_drew ?_ | refine blk_alloc ?_ _)); exact BK259.out) hb); have n3_ := Aside0.mk (blk_below (g := gb260) (o := .cells #[.int .i64 (wrap64 (2 + (Int.tmod (wrap64 (a0_0)) 4))), .bool a0_1, u261002] 32 (0, 0)) (by (with_reducible repeat (first | refine blk_drewN ?_ _ | refine blk_drew ?_ | refine blk_alloc ?_ _)); exact BK260.out) hb); have n4_ := Aside0.mk (below_step (by repeat (first | (with_reducible first | exact HB.out | apply below_alloc | apply pw_below_drewN | apply below_drew1 | refine below_set ?_ GE258.out | refine below_set ?_ GE259.out | refine below_set ?_ GE260.out) | exact HB.out)) hb); have n5_ := Aside0.mk (hbox); have n6_ := Aside0.mk ((by rw [hg]; exact (below_size (by repeat (first | (with_reducible first | exact HB.out | apply below_alloc | apply pw_below_drewN | apply below_drew1 | refine below_set ?_ GE258.out | refine below_set ?_ GE259.out | refine below_set ?_ GE260.out) | exact HB.out))) : w.heap.size ≤ gb262)); have n7_ := Aside0.mk ((by rw [hg]; exact (below_size (by repeat (first | (with_reducible first | exact HB.out | apply below_alloc | apply pw_below_drewN | apply below_drew1 | refine below_set ?_ GE258.out | refine below_set ?_ GE259.out | refine below_set ?_ GE260.out) | exact HB.out))) : w.heap.size ≤ gb262)); have n8_ := Aside0.mk ((by rw [hg]; exact Nat.ne_of_lt (blk_lt (g := gb258) (o := .cells #[.int .u8 a0_0, .bool a0_1, .slice (some ad261) l0_2.length c0_2, .int .u8 a0_3, .int .u8 a0_4, .int .u8 a0_5] 24 (0, 0)) (by (with_reducible repeat (first | refine blk_drewN ?_ _ | refine blk_drew ?_ | refine blk_alloc ?_ _)); exact BK258.out)) : gb258 ≠ gb262)); have n9_ := Aside0.mk ((by rw [hg]; exact Nat.ne_of_gt (blk_lt (g := gb258) (o := .cells #[.int .u8 a0_0, .bool a0_1, .slice (some ad261) l0_2.length c0_2, .int .u8 a0_3, .int .u8 a0_4, .int .u8 a0_5] 24 (0, 0)) (by (with_reducible repeat (first | refine blk_drewN ?_ _ | refine blk_drew ?_ | refine blk_alloc ?_ _)); exact BK258.out)) : gb262 ≠ gb258)); have n10_ := Aside0.mk ((by rw [hg]; exact Nat.ne_of_lt (blk_lt (g := gb259) (o := .cells #[.int .i64 0, .bool false, .slice none 0 0] 32 (0, 0)) (by (with_reducible repeat (first | refine blk_drewN ?_ _ | refine blk_drew ?_ | refine blk_alloc ?_ _)); exact BK259.out)) : gb259 ≠ gb262)); have n11_ := Aside0.mk ((by rw [hg]; exact Nat.ne_of_gt (blk_lt (g := gb259) (o := .cells #[.int .i64 0, .bool false, .slice none 0 0] 32 (0, 0)) (by (with_reducible repeat (first | refine blk_drewN ?_ _ | refine blk_drew ?_ | refine blk_alloc ?_ _)); exact BK259.out)) : gb262 ≠ gb259)); have n12_ := Aside0.mk ((by rw [hg]; exact Nat.ne_of_lt (blk_lt (g := gb260) (o := .cells #[.int .i64 (wrap64 (2 + (Int.tmod (wrap64 (a0_0)) 4))), .bool a0_1, u261002] 32 (0, 0)) (by (with_reducible repeat (first | refine blk_drewN ?_ _ | refine blk_drew ?_ | refine blk_alloc ?_ _)); exact BK260.out)) : gb260 ≠ gb262)); have n13_ := Aside0.mk ((by rw [hg]; exact Nat.ne_of_gt (blk_lt (g := gb260) (o := .cells #[.int .i64 (wrap64 (2 + (Int.tmod (wrap64 (a0_0)) 4))), .bool a0_1, u261002] 32 (0, 0)) (by (with_reducible repeat (first | refine blk_drewN ?_ _ | refine blk_drew ?_ | refine blk_alloc ?_ _)); exact BK260.out)) : gb262 ≠ gb260)); clear HO_261002; clear BK258; clear BK259; clear BK260; clear HB; have HO_261002 := n0_; have BK258 := n1_; have BK259 := n2_; have BK260 := n3_; have HB := n4_; have BK262 := n5_; have GW262 := n6_; have GE262 := n7_; have NB258_262 := n8_; have NB262_258 := n9_; have NB259_262 := n10_; have NB262_259 := n11_; have NB260_262 := n12_; have NB262_260 := n13_; clear n0_ n1_ n2_ n3_ n4_ n5_ n6_ n7_ n8_ n9_ n10_ n11_ n12_ n13_; clear hb hbox hg; have hnb20 := NB262_258.out; have hnc20 := NB258_262.out; have hnb21 := NB262_259.out; have hnc21 := NB259_262.out; have hnb22 := NB262_260.out; have hnc22 := NB260_262.out; have hcz23_0 : w19.cell? ⟨gb262, 0, none⟩ = some (.int .u8 0) := (blk_cell BK262.out 0).trans rfl; have hcz23_1 : w19.cell? ⟨gb262, 1, none⟩ = some (.int .u8 0) := (blk_cell BK262.out 1).trans rfl; have hcz23_2 : w19.cell? ⟨gb262, 2, none⟩ = some (.int .u8 0) := (blk_cell BK262.out 2).trans rfl; have hcz23_3 : w19.cell? ⟨gb262, 3, none⟩ = some (.int .u8 0) := (blk_cell BK262.out 3).trans rfl; have hfz23_0 := blk_frozen BK262.out 0; have hfz23_1 := blk_frozen BK262.out 1; have hfz23_2 := blk_frozen BK262.out 2; have hfz23_3 := blk_frozen BK262.out 3))
                have n0_ : Aside0 (Kd.R k79 79 ((((w19.setCell ⟨gb262, 0, none⟩ (.int .u8 ((rd_T77 l0_2 x9_1).f0))).setCell ⟨gb262, 1, none⟩ (.int .u8 ((rd_T77 l0_2 x9_1).f1))).setCell ⟨gb262, 2, none⟩ (.int .u8 ((rd_T77 l0_2 x9_1).f2))).setCell ⟨gb262, 3, none⟩ (.int .u8 ((rd_T77 l0_2 x9_1).f3))) w.heap.size (fun _ => True) u261002 x261002_1) := ⟨by (with_reducible repeat (first | apply Kd.R_alloc | apply Kd.R_drewN | apply Kd.R_drew)); exact Kd.R_mono (Kd.R_far (p := ⟨gb262, 3, none⟩) (Kd.R_far (p := ⟨gb262, 2, none⟩) (Kd.R_far (p := ⟨gb262, 1, none⟩) (Kd.R_far (p := ⟨gb262, 0, none⟩) (Kd.R_types HO_261002.out BK262.out (by decide)) (fun _ hk => hk.2) (.int .u8 ((rd_T77 l0_2 x9_1).f0))) (fun _ hk => hk.2) (.int .u8 ((rd_T77 l0_2 x9_1).f1))) (fun _ hk => hk.2) (.int .u8 ((rd_T77 l0_2 x9_1).f2))) (fun _ hk => hk.2) (.int .u8 ((rd_T77 l0_2 x9_1).f3))) (fun _ hk => trivial)⟩
                have n1_ : Aside0 (((((w19.setCell ⟨gb262, 0, none⟩ (.int .u8 ((rd_T77 l0_2 x9_1).f0))).setCell ⟨gb262, 1, none⟩ (.int .u8 ((rd_T77 l0_2 x9_1).f1))).setCell ⟨gb262, 2, none⟩ (.int .u8 ((rd_T77 l0_2 x9_1).f2))).setCell ⟨gb262, 3, none⟩ (.int .u8 ((rd_T77 l0_2 x9_1).f3))).heap[gb258]? = some (.cells #[.int .u8 a0_0, .bool a0_1, .slice (some ad261) l0_2.length c0_2, .int .u8 a0_3, .int .u8 a0_4, .int .u8 a0_5] 24 (0, 0))) := ⟨by (with_reducible repeat (first | refine blk_drewN ?_ _ | refine blk_drew ?_ | refine blk_alloc ?_ _)); refine blk_far ?_ NB258_262.out _; (with_reducible repeat (first | refine blk_drewN ?_ _ | refine blk_drew ?_ | refine blk_alloc ?_ _)); refine blk_far ?_ NB258_262.out _; (with_reducible repeat (first | refine blk_drewN ?_ _ | refine blk_drew ?_ | refine blk_alloc ?_ _)); refine blk_far ?_ NB258_262.out _; (with_reducible repeat (first | refine blk_drewN ?_ _ | refine blk_drew ?_ | refine blk_alloc ?_ _)); refine blk_far ?_ NB258_262.out _; (with_reducible repeat (first | refine blk_drewN ?_ _ | refine blk_drew ?_ | refine blk_alloc ?_ _)); exact BK258.out⟩
                have n2_ : Aside0 (((((w19.setCell ⟨gb262, 0, none⟩ (.int .u8 ((rd_T77 l0_2 x9_1).f0))).setCell ⟨gb262, 1, none⟩ (.int .u8 ((rd_T77 l0_2 x9_1).f1))).setCell ⟨gb262, 2, none⟩ (.int .u8 ((rd_T77 l0_2 x9_1).f2))).setCell ⟨gb262, 3, none⟩ (.int .u8 ((rd_T77 l0_2 x9_1).f3))).heap[gb259]? = some (.cells #[.int .i64 0, .bool false, .slice none 0 0] 32 (0, 0))) := ⟨by (with_reducible repeat (first | refine blk_drewN ?_ _ | refine blk_drew ?_ | refine blk_alloc ?_ _)); refine blk_far ?_ NB259_262.out _; (with_reducible repeat (first | refine blk_drewN ?_ _ | refine blk_drew ?_ | refine blk_alloc ?_ _)); refine blk_far ?_ NB259_262.out _; (with_reducible repeat (first | refine blk_drewN ?_ _ | refine blk_drew ?_ | refine blk_alloc ?_ _)); refine blk_far ?_ NB259_262.out _; (with_reducible repeat (first | refine blk_drewN ?_ _ | refine blk_drew ?_ | refine blk_alloc ?_ _)); refine blk_far ?_ NB259_262.out _; (with_reducible repeat (first | refine blk_drewN ?_ _ | refine blk_drew ?_ | refine blk_alloc ?_ _)); exact BK259.out⟩
                have n3_ : Aside0 (((((w19.setCell ⟨gb262, 0, none⟩ (.int .u8 ((rd_T77 l0_2 x9_1).f0))).setCell ⟨gb262, 1, none⟩ (.int .u8 ((rd_T77 l0_2 x9_1).f1))).setCell ⟨gb262, 2, none⟩ (.int .u8 ((rd_T77 l0_2 x9_1).f2))).setCell ⟨gb262, 3, none⟩ (.int .u8 ((rd_T77 l0_2 x9_1).f3))).heap[gb260]? = some (.cells #[.int .i64 (wrap64 (2 + (Int.tmod (wrap64 (a0_0)) 4))), .bool a0_1, u261002] 32 (0, 0))) := ⟨by (with_reducible repeat (first | refine blk_drewN ?_ _ | refine blk_drew ?_ | refine blk_alloc ?_ _)); refine blk_far ?_ NB260_262.out _; (with_reducible repeat (first | refine blk_drewN ?_ _ | refine blk_drew ?_ | refine blk_alloc ?_ _)); refine blk_far ?_ NB260_262.out _; (with_reducible repeat (first | refine blk_drewN ?_ _ | refine blk_drew ?_ | refine blk_alloc ?_ _)); refine blk_far ?_ NB260_262.out _; (with_reducible repeat (first | refine blk_drewN ?_ _ | refine blk_drew ?_ | refine blk_alloc ?_ _)); refine blk_far ?_ NB260_262.out _; (with_reducible repeat (first | refine blk_drewN ?_ _ | refine blk_drew ?_ | refine blk_alloc ?_ _)); exact BK260.out⟩
                have n4_ : Aside0 (((((w19.setCell ⟨gb262, 0, none⟩ (.int .u8 ((rd_T77 l0_2 x9_1).f0))).setCell ⟨gb262, 1, none⟩ (.int .u8 ((rd_T77 l0_2 x9_1).f1))).setCell ⟨gb262, 2, none⟩ (.int .u8 ((rd_T77 l0_2 x9_1).f2))).setCell ⟨gb262, 3, none⟩ (.int .u8 ((rd_T77 l0_2 x9_1).f3))).heap[gb262]? = some (.cells #[.int .u8 ((rd_T77 l0_2 x9_1).f0), .int .u8 ((rd_T77 l0_2 x9_1).f1), .int .u8 ((rd_T77 l0_2 x9_1).f2), .int .u8 ((rd_T77 l0_2 x9_1).f3)] 77 (0, 0))) := ⟨by (with_reducible repeat (first | refine blk_drewN ?_ _ | refine blk_drew ?_ | refine blk_alloc ?_ _)); refine blk_put (cs := #[.int .u8 ((rd_T77 l0_2 x9_1).f0), .int .u8 ((rd_T77 l0_2 x9_1).f1), .int .u8 ((rd_T77 l0_2 x9_1).f2), .int .u8 0]) ?_ 3 _ rfl; (with_reducible repeat (first | refine blk_drewN ?_ _ | refine blk_drew ?_ | refine blk_alloc ?_ _)); refine blk_put (cs := #[.int .u8 ((rd_T77 l0_2 x9_1).f0), .int .u8 ((rd_T77 l0_2 x9_1).f1), .int .u8 0, .int .u8 0]) ?_ 2 _ rfl; (with_reducible repeat (first | refine blk_drewN ?_ _ | refine blk_drew ?_ | refine blk_alloc ?_ _)); refine blk_put (cs := #[.int .u8 ((rd_T77 l0_2 x9_1).f0), .int .u8 0, .int .u8 0, .int .u8 0]) ?_ 1 _ rfl; (with_reducible repeat (first | refine blk_drewN ?_ _ | refine blk_drew ?_ | refine blk_alloc ?_ _)); refine blk_put (cs := #[.int .u8 0, .int .u8 0, .int .u8 0, .int .u8 0]) ?_ 0 _ rfl; (with_reducible repeat (first | refine blk_drewN ?_ _ | refine blk_drew ?_ | refine blk_alloc ?_ _)); exact BK262.out⟩
                have n5_ : Aside0 (Below w.heap.size w ((((w19.setCell ⟨gb262, 0, none⟩ (.int .u8 ((rd_T77 l0_2 x9_1).f0))).setCell ⟨gb262, 1, none⟩ (.int .u8 ((rd_T77 l0_2 x9_1).f1))).setCell ⟨gb262, 2, none⟩ (.int .u8 ((rd_T77 l0_2 x9_1).f2))).setCell ⟨gb262, 3, none⟩ (.int .u8 ((rd_T77 l0_2 x9_1).f3)))) := ⟨by repeat (first | (with_reducible first | exact HB.out | apply below_alloc | apply pw_below_drewN | apply below_drew1 | refine below_set ?_ GE258.out | refine below_set ?_ GE259.out | refine below_set ?_ GE260.out | refine below_set ?_ GE262.out) | exact HB.out)⟩
                (try clear HO_261002)
                (try clear BK258)
                (try clear BK259)
                (try clear BK260)
                (try clear BK262)
                (try clear HB)
                generalize ((((w19.setCell ⟨gb262, 0, none⟩ (.int .u8 ((rd_T77 l0_2 x9_1).f0))).setCell ⟨gb262, 1, none⟩ (.int .u8 ((rd_T77 l0_2 x9_1).f1))).setCell ⟨gb262, 2, none⟩ (.int .u8 ((rd_T77 l0_2 x9_1).f2))).setCell ⟨gb262, 3, none⟩ (.int .u8 ((rd_T77 l0_2 x9_1).f3))) = w24 at n0_ n1_ n2_ n3_ n4_ n5_ ⊢
                have HO_261002 := n0_
                have BK258 := n1_
                have BK259 := n2_
                have BK260 := n3_
                have BK262 := n4_
                have HB := n5_
                clear n0_ n1_ n2_ n3_ n4_ n5_
                have n0_ := Aside0.mk (Kd.R_drew HO_261002.out)
                have n1_ := Aside0.mk (blk_drew BK258.out)
                have n2_ := Aside0.mk (blk_drew BK259.out)
                have n3_ := Aside0.mk (blk_drew BK260.out)
                have n4_ := Aside0.mk (blk_drew BK262.out)
                have n5_ := Aside0.mk (below_drew1 HB.out)
                clear HO_261002
                clear BK258
                clear BK259
                clear BK260
                clear BK262
                clear HB
                have HO_261002 := n0_
                have BK258 := n1_
                have BK259 := n2_
                have BK260 := n3_
                have BK262 := n4_
                have HB := n5_
                clear n0_ n1_ n2_ n3_ n4_ n5_
                refine start_ (n := 27) (S := fun w' => w'.cell? ⟨gb260, 0, none⟩ = some (.int .i64 (wrap64 (2 + (Int.tmod (wrap64 (a0_0)) 4)))) ∧ w'.cell? ⟨gb260, 1, none⟩ = some (.bool a0_1) ∧ w'.cell? ⟨gb260, 2, none⟩ = some (u261002) ∧ w'.cell? ⟨gb262, 0, none⟩ = some (.int .u8 ((rd_T77 l0_2 x9_1).f0)) ∧ w'.cell? ⟨gb262, 1, none⟩ = some (.int .u8 ((rd_T77 l0_2 x9_1).f1)) ∧ w'.cell? ⟨gb262, 2, none⟩ = some (.int .u8 ((rd_T77 l0_2 x9_1).f2)) ∧ w'.cell? ⟨gb262, 3, none⟩ = some (.int .u8 ((rd_T77 l0_2 x9_1).f3))) (ds := [26]) #[false, false, false, false, false, false, false, false, false, false, false, false, false, false, false, false, false, false, false, false, false, false, false, false, false, false, false] (by kernel_rfl) rfl rfl ⟨(blk_cell BK260.out 0).trans rfl, (blk_cell BK260.out 1).trans rfl, (blk_cell BK260.out 2).trans rfl, (blk_cell BK262.out 0).trans rfl, (blk_cell BK262.out 1).trans rfl, (blk_cell BK262.out 2).trans rfl, (blk_cell BK262.out 3).trans rfl⟩ (fun hHeld => ?_); refine with_tabW ebbtidelaw12_Read.tab6 ebbtidelaw12_Read.bits6 (fun HT_ HW_ => ?_)
                generalize w24.drew = w25 at HO_261002 BK258 BK259 BK260 BK262 HB hHeld ⊢
                refine pure_ (i := 0) (N := some 38) (v := ?_) (a' := ?_) #[true, false, false, false, false, false, false, false, false, false, false, false, false, false, false, false, false, false, false, false, false, false, false, false, false, false, false] rfl rfl (any_of HT_.out (by kernel_rfl)) (fun _ _ _ h => h) (Or.inl ⟨by rfl, ?_⟩) ?_ ?_
                rotate_left
                · intro w'
                  go_simp
                  with_reducible rfl
                rotate_left
                · simp only [Act.put, List.setIfInBounds_toArray, List.set_cons_zero, List.set_cons_succ, i64_w, i32_w]
                  rfl
                refine pure_ (i := 2) (N := some 40) (v := ?_) (a' := ?_) #[true, false, true, false, false, false, false, false, false, false, false, false, false, false, false, false, false, false, false, false, false, false, false, false, false, false, false] rfl rfl (any_of HT_.out (by kernel_rfl)) (fun _ _ _ h => h) (Or.inl ⟨by rfl, ?_⟩) ?_ ?_
                rotate_left
                · intro w'
                  go_simp
                  with_reducible rfl
                rotate_left
                · simp only [Act.put, List.setIfInBounds_toArray, List.set_cons_zero, List.set_cons_succ, i64_w, i32_w]
                  rfl
                refine pure_ (i := 5) (N := some 43) (v := ?_) (a' := ?_) #[true, false, true, false, false, true, false, false, false, false, false, false, false, false, false, false, false, false, false, false, false, false, false, false, false, false, false] rfl rfl (any_of HT_.out (by kernel_rfl)) (fun _ _ _ h => h) (Or.inl ⟨by rfl, ?_⟩) ?_ ?_
                rotate_left
                · intro w'
                  go_simp
                  with_reducible rfl
                rotate_left
                · simp only [Act.put, List.setIfInBounds_toArray, List.set_cons_zero, List.set_cons_succ, i64_w, i32_w]
                  rfl
                refine pure_ (i := 8) (N := some 46) (v := ?_) (a' := ?_) #[true, false, true, false, false, true, false, false, true, false, false, false, false, false, false, false, false, false, false, false, false, false, false, false, false, false, false] rfl rfl (any_of HT_.out (by kernel_rfl)) (fun _ _ _ h => h) (Or.inl ⟨by rfl, ?_⟩) ?_ ?_
                rotate_left
                · intro w'
                  go_simp
                  with_reducible rfl
                rotate_left
                · simp only [Act.put, List.setIfInBounds_toArray, List.set_cons_zero, List.set_cons_succ, i64_w, i32_w]
                  rfl
                refine pure_ (i := 11) (N := some 49) (v := ?_) (a' := ?_) #[true, false, true, false, false, true, false, false, true, false, false, true, false, false, false, false, false, false, false, false, false, false, false, false, false, false, false] rfl rfl (any_of HT_.out (by kernel_rfl)) (fun _ _ _ h => h) (Or.inl ⟨by rfl, ?_⟩) ?_ ?_
                rotate_left
                · intro w'
                  go_simp
                  with_reducible rfl
                rotate_left
                · simp only [Act.put, List.setIfInBounds_toArray, List.set_cons_zero, List.set_cons_succ, i64_w, i32_w]
                  rfl
                refine pure_ (i := 14) (N := some 52) (v := ?_) (a' := ?_) #[true, false, true, false, false, true, false, false, true, false, false, true, false, false, true, false, false, false, false, false, false, false, false, false, false, false, false] rfl rfl (any_of HT_.out (by kernel_rfl)) (fun _ _ _ h => h) (Or.inl ⟨by rfl, ?_⟩) ?_ ?_
                rotate_left
                · intro w'
                  go_simp
                  with_reducible rfl
                rotate_left
                · simp only [Act.put, List.setIfInBounds_toArray, List.set_cons_zero, List.set_cons_succ, i64_w, i32_w]
                  rfl
                refine pure_ (i := 18) (N := some 56) (v := ?_) (a' := ?_) #[true, false, true, false, false, true, false, false, true, false, false, true, false, false, true, false, false, false, true, false, false, false, false, false, false, false, false] rfl rfl (any_of HT_.out (by kernel_rfl)) (fun _ _ _ h => h) (Or.inl ⟨by rfl, ?_⟩) ?_ ?_
                rotate_left
                · intro w'
                  go_simp
                  with_reducible rfl
                rotate_left
                · simp only [Act.put, List.setIfInBounds_toArray, List.set_cons_zero, List.set_cons_succ, i64_w, i32_w]
                  rfl
                refine take_ (i := 1) (N := some 39) (v := ?_) (a' := ?_) #[true, true, true, false, false, true, false, false, true, false, false, true, false, false, true, false, false, false, true, false, false, false, false, false, false, false, false] rfl rfl (take_ofW HT_.out HW_.out (by kernel_rfl)) (fun _ _ _ h => h) (Or.inl ⟨by rfl, ?_⟩) hHeld ?_ ?_
                rotate_left
                · rintro w' ⟨s0, s1, s2, s3, s4, s5, s6⟩
                  go_simp
                  with_reducible rfl
                rotate_left
                · simp only [Act.put, List.setIfInBounds_toArray, List.set_cons_zero, List.set_cons_succ, i64_w, i32_w]
                  rfl
                refine take_ (i := 3) (N := some 41) (v := ?_) (a' := ?_) #[true, true, true, true, false, true, false, false, true, false, false, true, false, false, true, false, false, false, true, false, false, false, false, false, false, false, false] rfl rfl (take_ofW HT_.out HW_.out (by kernel_rfl)) (fun _ _ _ h => h) (Or.inl ⟨by rfl, ?_⟩) hHeld ?_ ?_
                rotate_left
                · rintro w' ⟨s0, s1, s2, s3, s4, s5, s6⟩
                  go_simp
                  with_reducible rfl
                rotate_left
                · simp only [Act.put, List.setIfInBounds_toArray, List.set_cons_zero, List.set_cons_succ, i64_w, i32_w]
                  rfl
                refine pure_ (i := 4) (N := some 42) (v := ?_) (a' := ?_) #[true, true, true, true, true, true, false, false, true, false, false, true, false, false, true, false, false, false, true, false, false, false, false, false, false, false, false] rfl rfl (any_of HT_.out (by kernel_rfl)) (fun _ _ _ h => h) (Or.inl ⟨by rfl, ?_⟩) ?_ ?_
                rotate_left
                · intro w'
                  go_simp
                  with_reducible rfl
                rotate_left
                · simp only [Act.put, List.setIfInBounds_toArray, List.set_cons_zero, List.set_cons_succ, i64_w, i32_w]
                  rfl
                refine take_ (i := 6) (N := some 44) (v := ?_) (a' := ?_) #[true, true, true, true, true, true, true, false, true, false, false, true, false, false, true, false, false, false, true, false, false, false, false, false, false, false, false] rfl rfl (take_ofW HT_.out HW_.out (by kernel_rfl)) (fun _ _ _ h => h) (Or.inl ⟨by rfl, ?_⟩) hHeld ?_ ?_
                rotate_left
                · rintro w' ⟨s0, s1, s2, s3, s4, s5, s6⟩
                  go_simp
                  with_reducible rfl
                rotate_left
                · simp only [Act.put, List.setIfInBounds_toArray, List.set_cons_zero, List.set_cons_succ, i64_w, i32_w]
                  rfl
                refine pure_ (i := 7) (N := some 45) (v := ?_) (a' := ?_) #[true, true, true, true, true, true, true, true, true, false, false, true, false, false, true, false, false, false, true, false, false, false, false, false, false, false, false] rfl rfl (any_of HT_.out (by kernel_rfl)) (fun _ _ _ h => h) (Or.inl ⟨by rfl, ?_⟩) ?_ ?_
                rotate_left
                · intro w'
                  go_simp
                  with_reducible rfl
                rotate_left
                · simp only [Act.put, List.setIfInBounds_toArray, List.set_cons_zero, List.set_cons_succ, i64_w, i32_w]
                  rfl
                refine take_ (i := 9) (N := some 47) (v := ?_) (a' := ?_) #[true, true, true, true, true, true, true, true, true, true, false, true, false, false, true, false, false, false, true, false, false, false, false, false, false, false, false] rfl rfl (take_ofW HT_.out HW_.out (by kernel_rfl)) (fun _ _ _ h => h) (Or.inl ⟨by rfl, ?_⟩) hHeld ?_ ?_
                rotate_left
                · rintro w' ⟨s0, s1, s2, s3, s4, s5, s6⟩
                  go_simp
                  with_reducible rfl
                rotate_left
                · simp only [Act.put, List.setIfInBounds_toArray, List.set_cons_zero, List.set_cons_succ, i64_w, i32_w]
                  rfl
                refine pure_ (i := 10) (N := some 48) (v := ?_) (a' := ?_) #[true, true, true, true, true, true, true, true, true, true, true, true, false, false, true, false, false, false, true, false, false, false, false, false, false, false, false] rfl rfl (any_of HT_.out (by kernel_rfl)) (fun _ _ _ h => h) (Or.inl ⟨by rfl, ?_⟩) ?_ ?_
                rotate_left
                · intro w'
                  go_simp
                  with_reducible rfl
                rotate_left
                · simp only [Act.put, List.setIfInBounds_toArray, List.set_cons_zero, List.set_cons_succ, i64_w, i32_w]
                  rfl
                refine take_ (i := 12) (N := some 50) (v := ?_) (a' := ?_) #[true, true, true, true, true, true, true, true, true, true, true, true, true, false, true, false, false, false, true, false, false, false, false, false, false, false, false] rfl rfl (take_ofW HT_.out HW_.out (by kernel_rfl)) (fun _ _ _ h => h) (Or.inl ⟨by rfl, ?_⟩) hHeld ?_ ?_
                rotate_left
                · rintro w' ⟨s0, s1, s2, s3, s4, s5, s6⟩
                  go_simp
                  with_reducible rfl
                rotate_left
                · simp only [Act.put, List.setIfInBounds_toArray, List.set_cons_zero, List.set_cons_succ, i64_w, i32_w]
                  rfl
                refine pure_ (i := 13) (N := some 51) (v := ?_) (a' := ?_) #[true, true, true, true, true, true, true, true, true, true, true, true, true, true, true, false, false, false, true, false, false, false, false, false, false, false, false] rfl rfl (any_of HT_.out (by kernel_rfl)) (fun _ _ _ h => h) (Or.inl ⟨by rfl, ?_⟩) ?_ ?_
                rotate_left
                · intro w'
                  go_simp
                  with_reducible rfl
                rotate_left
                · simp only [Act.put, List.setIfInBounds_toArray, List.set_cons_zero, List.set_cons_succ, i64_w, i32_w]
                  rfl
                refine take_ (i := 15) (N := some 53) (v := ?_) (a' := ?_) #[true, true, true, true, true, true, true, true, true, true, true, true, true, true, true, true, false, false, true, false, false, false, false, false, false, false, false] rfl rfl (take_ofW HT_.out HW_.out (by kernel_rfl)) (fun _ _ _ h => h) (Or.inl ⟨by rfl, ?_⟩) hHeld ?_ ?_
                rotate_left
                · rintro w' ⟨s0, s1, s2, s3, s4, s5, s6⟩
                  go_simp
                  with_reducible rfl
                rotate_left
                · simp only [Act.put, List.setIfInBounds_toArray, List.set_cons_zero, List.set_cons_succ, i64_w, i32_w]
                  rfl
                refine pure_ (i := 16) (N := some 54) (v := ?_) (a' := ?_) #[true, true, true, true, true, true, true, true, true, true, true, true, true, true, true, true, true, false, true, false, false, false, false, false, false, false, false] rfl rfl (any_of HT_.out (by kernel_rfl)) (fun _ _ _ h => h) (Or.inl ⟨by rfl, ?_⟩) ?_ ?_
                rotate_left
                · intro w'
                  go_simp
                  with_reducible rfl
                rotate_left
                · simp only [Act.put, List.setIfInBounds_toArray, List.set_cons_zero, List.set_cons_succ, i64_w, i32_w]
                  rfl
                refine pure_ (i := 17) (N := some 55) (v := ?_) (a' := ?_) #[true, true, true, true, true, true, true, true, true, true, true, true, true, true, true, true, true, true, true, false, false, false, false, false, false, false, false] rfl rfl (any_of HT_.out (by kernel_rfl)) (fun _ _ _ h => h) (Or.inl ⟨by rfl, ?_⟩) ?_ ?_
                rotate_left
                · intro w'
                  go_simp
                  with_reducible rfl
                rotate_left
                · simp only [Act.put, List.setIfInBounds_toArray, List.set_cons_zero, List.set_cons_succ, i64_w, i32_w]
                  rfl
                refine take_ (i := 19) (N := some 57) (v := ?_) (a' := ?_) #[true, true, true, true, true, true, true, true, true, true, true, true, true, true, true, true, true, true, true, true, false, false, false, false, false, false, false] rfl rfl (take_ofW HT_.out HW_.out (by kernel_rfl)) (fun _ _ _ h => h) (Or.inl ⟨by rfl, ?_⟩) hHeld ?_ ?_
                rotate_left
                · rintro w' ⟨s0, s1, s2, s3, s4, s5, s6⟩
                  go_simp
                  with_reducible rfl
                rotate_left
                · simp only [Act.put, List.setIfInBounds_toArray, List.set_cons_zero, List.set_cons_succ, i64_w, i32_w]
                  rfl
                refine pure_ (i := 20) (N := some 58) (v := ?_) (a' := ?_) #[true, true, true, true, true, true, true, true, true, true, true, true, true, true, true, true, true, true, true, true, true, false, false, false, false, false, false] rfl rfl (any_of HT_.out (by kernel_rfl)) (fun _ _ _ h => h) (Or.inl ⟨by rfl, ?_⟩) ?_ ?_
                rotate_left
                · intro w'
                  go_simp
                  with_reducible rfl
                rotate_left
                · simp only [Act.put, List.setIfInBounds_toArray, List.set_cons_zero, List.set_cons_succ, i64_w, i32_w]
                  rfl
                refine pure_ (i := 21) (N := some 59) (v := ?_) (a' := ?_) #[true, true, true, true, true, true, true, true, true, true, true, true, true, true, true, true, true, true, true, true, true, true, false, false, false, false, false] rfl rfl (any_of HT_.out (by kernel_rfl)) (fun _ _ _ h => h) (Or.inl ⟨by rfl, ?_⟩) ?_ ?_
                rotate_left
                · intro w'
                  go_simp
                  with_reducible rfl
                rotate_left
                · simp only [Act.put, List.setIfInBounds_toArray, List.set_cons_zero, List.set_cons_succ, i64_w, i32_w]
                  rfl
                refine pure_ (i := 22) (N := some 60) (v := ?_) (a' := ?_) #[true, true, true, true, true, true, true, true, true, true, true, true, true, true, true, true, true, true, true, true, true, true, true, false, false, false, false] rfl rfl (any_of HT_.out (by kernel_rfl)) (fun _ _ _ h => h) (Or.inl ⟨by rfl, ?_⟩) ?_ ?_
                rotate_left
                · intro w'
                  go_simp
                  with_reducible rfl
                rotate_left
                · simp only [Act.put, List.setIfInBounds_toArray, List.set_cons_zero, List.set_cons_succ, i64_w, i32_w]
                  rfl
                refine one_ (i := 23) (N := some 61) #[true, true, true, true, true, true, true, true, true, true, true, true, true, true, true, true, true, true, true, true, true, true, true, true, false, false, false] rfl rfl (one_of HT_.out (by kernel_rfl)) (by decide) (fun K hK => ?_)
                refine value_ (w1 := ?_) (v := ?_) (by rfl) rfl ?_ ?_
                rotate_left 2
                · go_simp
                  constructor
                  · rfl
                  · rfl
                refine hK.out _ _ ⟨(blk_cell (blk_alloc BK260.out _) 0).trans rfl, (blk_cell (blk_alloc BK260.out _) 1).trans rfl, (blk_cell (blk_alloc BK260.out _) 2).trans rfl, (blk_cell (blk_alloc BK262.out _) 0).trans rfl, (blk_cell (blk_alloc BK262.out _) 1).trans rfl, (blk_cell (blk_alloc BK262.out _) 2).trans rfl, (blk_cell (blk_alloc BK262.out _) 3).trans rfl⟩ (fun hHeld => ?_)
                clear hK K
                refine norm_ (a' := ?_) ?_ ?_
                rotate_left
                · show Act.put _ (some 61) _ = _
                  simp only [Act.put, List.setIfInBounds_toArray, List.set_cons_zero, List.set_cons_succ, i64_w, i32_w]
                  rfl
                refine one_ (i := 24) (N := some 62) #[true, true, true, true, true, true, true, true, true, true, true, true, true, true, true, true, true, true, true, true, true, true, true, true, true, false, false] rfl rfl (one_of HT_.out (by kernel_rfl)) (by decide) (fun K hK => ?_)
                refine Kd.R_append_step k79 (w0 := w) w.heap.size (by rfl) (.tmp 39) (.tmp 61) 30 79 (.agg #[(.int .i64 0), (.int .i64 0), (.int .i64 0), (.int .i64 0)]) 32 rfl Try.underlying30 info79 rfl (by decide) (by omega) u261002 x261002_1 (⟨Int.tmod (wrap64 ((rd_T77 l0_2 x9_1).f0)) (wrap64 (2 + (Int.tmod (wrap64 (a0_0)) 4))), Int.tmod (wrap64 ((rd_T77 l0_2 x9_1).f1)) (wrap64 (2 + (Int.tmod (wrap64 (a0_0)) 4))), Int.tmod (wrap64 ((rd_T77 l0_2 x9_1).f2)) 6, Int.tmod (wrap64 ((rd_T77 l0_2 x9_1).f3)) 4⟩ : S79) [.int .i64 (Int.tmod (wrap64 ((rd_T77 l0_2 x9_1).f0)) (wrap64 (2 + (Int.tmod (wrap64 (a0_0)) 4)))), .int .i64 (Int.tmod (wrap64 ((rd_T77 l0_2 x9_1).f1)) (wrap64 (2 + (Int.tmod (wrap64 (a0_0)) 4)))), .int .i64 (Int.tmod (wrap64 ((rd_T77 l0_2 x9_1).f2)) 6), .int .i64 (Int.tmod (wrap64 ((rd_T77 l0_2 x9_1).f3)) 4)] (fun _ => True) (fun _ => False) rfl rfl ?aP (fun _ hk => hk.elim) ?aF ?aO ?aB ?aS ?aL ?_
                (case aP => exact k79_mkM _ _ _ (⟨Int.tmod (wrap64 ((rd_T77 l0_2 x9_1).f0)) (wrap64 (2 + (Int.tmod (wrap64 (a0_0)) 4))), Int.tmod (wrap64 ((rd_T77 l0_2 x9_1).f1)) (wrap64 (2 + (Int.tmod (wrap64 (a0_0)) 4))), Int.tmod (wrap64 ((rd_T77 l0_2 x9_1).f2)) 6, Int.tmod (wrap64 ((rd_T77 l0_2 x9_1).f3)) 4⟩ : S79))
                (case aB => exact (by repeat (first | (with_reducible first | exact HB.out | apply below_alloc | apply pw_below_drewN | apply below_drew1 | refine below_set ?_ GE258.out | refine below_set ?_ GE259.out | refine below_set ?_ GE260.out | refine below_set ?_ GE262.out) | exact HB.out)))
                (case aF => exact (fun _ _ => trivial))
                (case aO => exact (by (with_reducible repeat (first | apply Kd.R_alloc | apply Kd.R_drewN | apply Kd.R_drew)); exact HO_261002.out))
                (case aS => exact (below_size (by repeat (first | (with_reducible first | exact HB.out | apply below_alloc | apply pw_below_drewN | apply below_drew1 | refine below_set ?_ GE258.out | refine below_set ?_ GE259.out | refine below_set ?_ GE260.out | refine below_set ?_ GE262.out) | exact HB.out))))
                (case aL => have := LMc15.out; omega)
                intro v264 w26 ho hb hg hat
                rw [← Ny263.out] at ho
                have n0_ := Aside0.mk (blk_grown (g := gb258) (o := .cells #[.int .u8 a0_0, .bool a0_1, .slice (some ad261) l0_2.length c0_2, .int .u8 a0_3, .int .u8 a0_4, .int .u8 a0_5] 24 (0, 0)) (by (with_reducible repeat (first | refine blk_drewN ?_ _ | refine blk_drew ?_ | refine blk_alloc ?_ _)); exact BK258.out) hg (Kd.R_ne HO_261002.out BK258.out (by decide)))
                have n1_ := Aside0.mk (blk_grown (g := gb259) (o := .cells #[.int .i64 0, .bool false, .slice none 0 0] 32 (0, 0)) (by (with_reducible repeat (first | refine blk_drewN ?_ _ | refine blk_drew ?_ | refine blk_alloc ?_ _)); exact BK259.out) hg (Kd.R_ne HO_261002.out BK259.out (by decide)))
                have n2_ := Aside0.mk (blk_grown (g := gb260) (o := .cells #[.int .i64 (wrap64 (2 + (Int.tmod (wrap64 (a0_0)) 4))), .bool a0_1, u261002] 32 (0, 0)) (by (with_reducible repeat (first | refine blk_drewN ?_ _ | refine blk_drew ?_ | refine blk_alloc ?_ _)); exact BK260.out) hg (Kd.R_ne HO_261002.out BK260.out (by decide)))
                have n3_ := Aside0.mk (blk_grown (g := gb262) (o := .cells #[.int .u8 ((rd_T77 l0_2 x9_1).f0), .int .u8 ((rd_T77 l0_2 x9_1).f1), .int .u8 ((rd_T77 l0_2 x9_1).f2), .int .u8 ((rd_T77 l0_2 x9_1).f3)] 77 (0, 0)) (by (with_reducible repeat (first | refine blk_drewN ?_ _ | refine blk_drew ?_ | refine blk_alloc ?_ _)); exact BK262.out) hg (Kd.R_ne HO_261002.out BK262.out (by decide)))
                have n4_ := Aside0.mk (hb)
                have n5_ := Aside0.mk (ho)
                clear BK258
                clear BK259
                clear BK260
                clear BK262
                clear HB
                clear HO_261002
                have BK258 := n0_
                have BK259 := n1_
                have BK260 := n2_
                have BK262 := n3_
                have HB := n4_
                have HO265 := n5_
                clear n0_ n1_ n2_ n3_ n4_ n5_
                clear ho hb hg hat
                obtain ⟨Ao27, co27, eo27⟩ := Kd.R_slice HO265.out
                (first | subst eo27 | (injection eo27 with f1_ f2_ f3_; have f4_ := f1_.symm; have f5_ := f3_.symm; clear f1_ f2_ f3_; subst f4_; subst f5_))
                refine hK.out _ _ ⟨(blk_cell BK260.out 0).trans rfl, (blk_cell BK260.out 1).trans rfl, (blk_cell BK260.out 2).trans rfl, (blk_cell BK262.out 0).trans rfl, (blk_cell BK262.out 1).trans rfl, (blk_cell BK262.out 2).trans rfl, (blk_cell BK262.out 3).trans rfl⟩ (fun hHeld => ?_)
                clear hK K
                refine norm_ (a' := ?_) ?_ ?_
                rotate_left
                · show Act.put _ (some 62) _ = _
                  simp only [Act.put, List.setIfInBounds_toArray, List.set_cons_zero, List.set_cons_succ, i64_w, i32_w]
                  rfl
                refine pure_ (i := 25) (N := some 63) (v := ?_) (a' := ?_) #[true, true, true, true, true, true, true, true, true, true, true, true, true, true, true, true, true, true, true, true, true, true, true, true, true, true, false] rfl rfl (any_of HT_.out (by kernel_rfl)) (fun _ _ _ h => h) (Or.inl ⟨by rfl, ?_⟩) ?_ ?_
                rotate_left
                · intro w'
                  go_simp
                  with_reducible rfl
                rotate_left
                · simp only [Act.put, List.setIfInBounds_toArray, List.set_cons_zero, List.set_cons_succ, i64_w, i32_w]
                  rfl
                refine last_ (i := 26) (N := none) #[true, true, true, true, true, true, true, true, true, true, true, true, true, true, true, true, true, true, true, true, true, true, true, true, true, true, true] rfl rfl (one_of HT_.out (by kernel_rfl)) (by decide) (fun K hK => ?_)
                have hs28 : w26.cell? ⟨gb260, 2, none⟩ = some (u261002) := (blk_cell BK260.out 2).trans rfl
                have hfs28 := blk_frozen BK260.out 2
                have hns28_0 := NB258_260.out
                have hns28_1 := NB259_260.out
                have hns28_3 := NB262_260.out
                have hms28_0 := NB260_258.out
                have hms28_1 := NB260_259.out
                have hms28_3 := NB260_262.out
                refine skip_ (w1 := ?_) (by rfl) rfl ?_ ?_
                rotate_left
                · go_simp
                  rfl
                refine hK.out _ _ ?_
                clear hK K
                refine done_ (done_of HT_.out (by kernel_rfl)) ?_
                try go_wp2
                go_roundg k1
                case measure => have := HK1.out; omega
                case rel => exact ⟨(wrap64 (x9_1 + 1)), (y263), (.slice Ao27 y263.length co27), (by first | rfl | (simp; done) | (simp [*]; done)), H', ⟨by have := HK1.out; omega⟩, ⟨by (with_reducible repeat (first | apply Kd.R_alloc | apply Kd.R_drewN | apply Kd.R_drew)); exact Kd.R_mono (Kd.R_far (p := ⟨gb260, 2, none⟩) (Kd.R_types HO265.out BK260.out (by decide)) (fun _ hk => hk.2) (.slice Ao27 y263.length co27)) (fun _ hk => trivial)⟩, ⟨by (with_reducible repeat (first | refine blk_drewN ?_ _ | refine blk_drew ?_ | refine blk_alloc ?_ _)); refine blk_far ?_ NB258_260.out _; (with_reducible repeat (first | refine blk_drewN ?_ _ | refine blk_drew ?_ | refine blk_alloc ?_ _)); exact BK258.out⟩, ⟨by (with_reducible repeat (first | refine blk_drewN ?_ _ | refine blk_drew ?_ | refine blk_alloc ?_ _)); refine blk_far ?_ NB259_260.out _; (with_reducible repeat (first | refine blk_drewN ?_ _ | refine blk_drew ?_ | refine blk_alloc ?_ _)); exact BK259.out⟩, ⟨by (with_reducible repeat (first | refine blk_drewN ?_ _ | refine blk_drew ?_ | refine blk_alloc ?_ _)); refine blk_put (cs := #[.int .i64 (wrap64 (2 + (Int.tmod (wrap64 (a0_0)) 4))), .bool a0_1, u261002]) ?_ 2 _ rfl; (with_reducible repeat (first | refine blk_drewN ?_ _ | refine blk_drew ?_ | refine blk_alloc ?_ _)); exact BK260.out⟩, ⟨by repeat (first | (with_reducible first | exact HB.out | apply below_alloc | apply pw_below_drewN | apply below_drew1 | refine below_set ?_ GE258.out | refine below_set ?_ GE259.out | refine below_set ?_ GE260.out | refine below_set ?_ GE262.out) | exact HB.out)⟩⟩
              · rw [if_neg c15] at H
                exact absurd H (by simp)
          · rw [if_neg c13] at H
            exact absurd H (by simp)
        · rw [if_neg c12] at H
          have c12b0 : decide (x9_1 < a1) = false := decide_eq_false c12
          clear c12
          by_cases c29 : (wrap64 (2 + (Int.tmod (wrap64 (a0_0)) 4))) = 0
          · rw [if_pos c29] at H
            exact absurd H (by simp)
          · rw [if_neg c29] at H
            have c29b0 : ((wrap64 (2 + (Int.tmod (wrap64 (a0_0)) 4))) == 0) = false := beq_eq_false_iff_ne.mpr c29
            have c29b1 : ((wrap64 (2 + (Int.tmod (wrap64 (a0_0)) 4))) != 0) = true := bne_iff_ne.mpr c29
            by_cases c30 : (wrap64 ((wrap64 (2 + (Int.tmod (wrap64 (a0_0)) 4))) - 1)) = 0
            · rw [if_pos c30] at H
              exact absurd H (by simp)
            · rw [if_neg c30] at H
              have c30b0 : ((wrap64 ((wrap64 (2 + (Int.tmod (wrap64 (a0_0)) 4))) - 1)) == 0) = false := beq_eq_false_iff_ne.mpr c30
              have c30b1 : ((wrap64 ((wrap64 (2 + (Int.tmod (wrap64 (a0_0)) 4))) - 1)) != 0) = true := bne_iff_ne.mpr c30
              simp only [Option.some.injEq, Prod.mk.injEq] at H
              obtain ⟨rfl, rfl, rfl, rfl, rfl, rfl⟩ := H
              have hnb31 := NB258_259.out
              have hnc31 := NB259_258.out
              have hnb32 := NB258_260.out
              have hnc32 := NB260_258.out
              have hcz33_0 : wr.cell? ⟨gb258, 0, none⟩ = some (.int .u8 a0_0) := (blk_cell BK258.out 0).trans rfl
              have hcz33_1 : wr.cell? ⟨gb258, 1, none⟩ = some (.bool a0_1) := (blk_cell BK258.out 1).trans rfl
              have hcz33_2 : wr.cell? ⟨gb258, 2, none⟩ = some (.slice A0_2 l0_2.length c0_2) := (blk_cell BK258.out 2).trans rfl
              have hcz33_3 : wr.cell? ⟨gb258, 3, none⟩ = some (.int .u8 a0_3) := (blk_cell BK258.out 3).trans rfl
              have hcz33_4 : wr.cell? ⟨gb258, 4, none⟩ = some (.int .u8 a0_4) := (blk_cell BK258.out 4).trans rfl
              have hcz33_5 : wr.cell? ⟨gb258, 5, none⟩ = some (.int .u8 a0_5) := (blk_cell BK258.out 5).trans rfl
              have hfz33_0 := blk_frozen BK258.out 0
              have hfz33_1 := blk_frozen BK258.out 1
              have hfz33_2 := blk_frozen BK258.out 2
              have hfz33_3 := blk_frozen BK258.out 3
              have hfz33_4 := blk_frozen BK258.out 4
              have hfz33_5 := blk_frozen BK258.out 5
              have hnb34 := NB260_259.out
              have hnc34 := NB259_260.out
              have hcz35_0 : wr.cell? ⟨gb260, 0, none⟩ = some (.int .i64 (wrap64 (2 + (Int.tmod (wrap64 (a0_0)) 4)))) := (blk_cell BK260.out 0).trans rfl
              have hcz35_1 : wr.cell? ⟨gb260, 1, none⟩ = some (.bool a0_1) := (blk_cell BK260.out 1).trans rfl
              have hcz35_2 : wr.cell? ⟨gb260, 2, none⟩ = some (u261002) := (blk_cell BK260.out 2).trans rfl
              have hfz35_0 := blk_frozen BK260.out 0
              have hfz35_1 := blk_frozen BK260.out 1
              have hfz35_2 := blk_frozen BK260.out 2
              try go_wp2
              have n0_ := Aside0.mk (Kd.R_drew HO_261002.out)
              have n1_ := Aside0.mk (blk_drew BK258.out)
              have n2_ := Aside0.mk (blk_drew BK259.out)
              have n3_ := Aside0.mk (blk_drew BK260.out)
              have n4_ := Aside0.mk (below_drew1 HB.out)
              clear HO_261002
              clear BK258
              clear BK259
              clear BK260
              clear HB
              have HO_261002 := n0_
              have BK258 := n1_
              have BK259 := n2_
              have BK260 := n3_
              have HB := n4_
              clear n0_ n1_ n2_ n3_ n4_
              refine start_ (n := 14) (S := fun w' => w'.cell? ⟨gb258, 0, none⟩ = some (.int .u8 a0_0) ∧ w'.cell? ⟨gb258, 1, none⟩ = some (.bool a0_1) ∧ w'.cell? ⟨gb258, 2, none⟩ = some (.slice A0_2 l0_2.length c0_2) ∧ w'.cell? ⟨gb258, 3, none⟩ = some (.int .u8 a0_3) ∧ w'.cell? ⟨gb258, 4, none⟩ = some (.int .u8 a0_4) ∧ w'.cell? ⟨gb258, 5, none⟩ = some (.int .u8 a0_5) ∧ w'.cell? ⟨gb260, 0, none⟩ = some (.int .i64 (wrap64 (2 + (Int.tmod (wrap64 (a0_0)) 4)))) ∧ w'.cell? ⟨gb260, 1, none⟩ = some (.bool a0_1) ∧ w'.cell? ⟨gb260, 2, none⟩ = some (u261002)) (ds := []) #[false, false, false, false, false, false, false, false, false, false, false, false, false, false] (by kernel_rfl) rfl rfl ⟨(blk_cell BK258.out 0).trans rfl, (blk_cell BK258.out 1).trans rfl, (blk_cell BK258.out 2).trans rfl, (blk_cell BK258.out 3).trans rfl, (blk_cell BK258.out 4).trans rfl, (blk_cell BK258.out 5).trans rfl, (blk_cell BK260.out 0).trans rfl, (blk_cell BK260.out 1).trans rfl, (blk_cell BK260.out 2).trans rfl⟩ (fun hHeld => ?_); refine with_tabW ebbtidelaw12_Read.tab8 ebbtidelaw12_Read.bits8 (fun HT_ HW_ => ?_)
              generalize wr.drew = w36 at HO_261002 BK258 BK259 BK260 HB hHeld ⊢
              refine pure_ (i := 0) (N := some 70) (v := ?_) (a' := ?_) #[true, false, false, false, false, false, false, false, false, false, false, false, false, false] rfl rfl (any_of HT_.out (by kernel_rfl)) (fun _ _ _ h => h) (Or.inl ⟨by rfl, ?_⟩) ?_ ?_
              rotate_left
              · intro w'
                go_simp
                with_reducible rfl
              rotate_left
              · simp only [Act.put, List.setIfInBounds_toArray, List.set_cons_zero, List.set_cons_succ, i64_w, i32_w]
                rfl
              refine pure_ (i := 1) (N := some 71) (v := ?_) (a' := ?_) #[true, true, false, false, false, false, false, false, false, false, false, false, false, false] rfl rfl (any_of HT_.out (by kernel_rfl)) (fun _ _ _ h => h) (Or.inl ⟨by rfl, ?_⟩) ?_ ?_
              rotate_left
              · intro w'
                go_simp
                with_reducible rfl
              rotate_left
              · simp only [Act.put, List.setIfInBounds_toArray, List.set_cons_zero, List.set_cons_succ, i64_w, i32_w]
                rfl
              refine pure_ (i := 2) (N := some 72) (v := ?_) (a' := ?_) #[true, true, true, false, false, false, false, false, false, false, false, false, false, false] rfl rfl (any_of HT_.out (by kernel_rfl)) (fun _ _ _ h => h) (Or.inl ⟨by rfl, ?_⟩) ?_ ?_
              rotate_left
              · intro w'
                go_simp
                with_reducible rfl
              rotate_left
              · simp only [Act.put, List.setIfInBounds_toArray, List.set_cons_zero, List.set_cons_succ, i64_w, i32_w]
                rfl
              refine pure_ (i := 5) (N := some 75) (v := ?_) (a' := ?_) #[true, true, true, false, false, true, false, false, false, false, false, false, false, false] rfl rfl (any_of HT_.out (by kernel_rfl)) (fun _ _ _ h => h) (Or.inl ⟨by rfl, ?_⟩) ?_ ?_
              rotate_left
              · intro w'
                go_simp
                with_reducible rfl
              rotate_left
              · simp only [Act.put, List.setIfInBounds_toArray, List.set_cons_zero, List.set_cons_succ, i64_w, i32_w]
                rfl
              refine pure_ (i := 10) (N := some 80) (v := ?_) (a' := ?_) #[true, true, true, false, false, true, false, false, false, false, true, false, false, false] rfl rfl (any_of HT_.out (by kernel_rfl)) (fun _ _ _ h => h) (Or.inl ⟨by rfl, ?_⟩) ?_ ?_
              rotate_left
              · intro w'
                go_simp
                with_reducible rfl
              rotate_left
              · simp only [Act.put, List.setIfInBounds_toArray, List.set_cons_zero, List.set_cons_succ, i64_w, i32_w]
                rfl
              refine take_ (i := 3) (N := some 73) (v := ?_) (a' := ?_) #[true, true, true, true, false, true, false, false, false, false, true, false, false, false] rfl rfl (take_ofW HT_.out HW_.out (by kernel_rfl)) (fun _ _ _ h => h) (Or.inl ⟨by rfl, ?_⟩) hHeld ?_ ?_
              rotate_left
              · rintro w' ⟨s0, s1, s2, s3, s4, s5, s6, s7, s8⟩
                go_simp
                with_reducible rfl
              rotate_left
              · simp only [Act.put, List.setIfInBounds_toArray, List.set_cons_zero, List.set_cons_succ, i64_w, i32_w]
                rfl
              refine pure_ (i := 4) (N := some 74) (v := ?_) (a' := ?_) #[true, true, true, true, true, true, false, false, false, false, true, false, false, false] rfl rfl (any_of HT_.out (by kernel_rfl)) (fun _ _ _ h => h) (Or.inl ⟨by rfl, ?_⟩) ?_ ?_
              rotate_left
              · intro w'
                go_simp
                with_reducible rfl
              rotate_left
              · simp only [Act.put, List.setIfInBounds_toArray, List.set_cons_zero, List.set_cons_succ, i64_w, i32_w]
                rfl
              refine take_ (i := 6) (N := some 76) (v := ?_) (a' := ?_) #[true, true, true, true, true, true, true, false, false, false, true, false, false, false] rfl rfl (take_ofW HT_.out HW_.out (by kernel_rfl)) (fun _ _ _ h => h) (Or.inl ⟨by rfl, ?_⟩) hHeld ?_ ?_
              rotate_left
              · rintro w' ⟨s0, s1, s2, s3, s4, s5, s6, s7, s8⟩
                go_simp
                with_reducible rfl
              rotate_left
              · simp only [Act.put, List.setIfInBounds_toArray, List.set_cons_zero, List.set_cons_succ, i64_w, i32_w]
                rfl
              refine pure_ (i := 7) (N := some 77) (v := ?_) (a' := ?_) #[true, true, true, true, true, true, true, true, false, false, true, false, false, false] rfl rfl (any_of HT_.out (by kernel_rfl)) (fun _ _ _ h => h) (Or.inl ⟨by rfl, ?_⟩) ?_ ?_
              rotate_left
              · intro w'
                go_simp
                with_reducible rfl
              rotate_left
              · simp only [Act.put, List.setIfInBounds_toArray, List.set_cons_zero, List.set_cons_succ, i64_w, i32_w]
                rfl
              refine pure_ (i := 8) (N := some 78) (v := ?_) (a' := ?_) #[true, true, true, true, true, true, true, true, true, false, true, false, false, false] rfl rfl (any_of HT_.out (by kernel_rfl)) (fun _ _ _ h => h) (Or.inl ⟨by rfl, ?_⟩) ?_ ?_
              rotate_left
              · intro w'
                go_simp
                with_reducible rfl
              rotate_left
              · simp only [Act.put, List.setIfInBounds_toArray, List.set_cons_zero, List.set_cons_succ, i64_w, i32_w]
                rfl
              refine pure_ (i := 9) (N := some 79) (v := ?_) (a' := ?_) #[true, true, true, true, true, true, true, true, true, true, true, false, false, false] rfl rfl (any_of HT_.out (by kernel_rfl)) (fun _ _ _ h => h) (Or.inl ⟨by rfl, ?_⟩) ?_ ?_
              rotate_left
              · intro w'
                go_simp
                with_reducible rfl
              rotate_left
              · simp only [Act.put, List.setIfInBounds_toArray, List.set_cons_zero, List.set_cons_succ, i64_w, i32_w]
                rfl
              refine take_ (i := 11) (N := some 81) (v := ?_) (a' := ?_) #[true, true, true, true, true, true, true, true, true, true, true, true, false, false] rfl rfl (take_ofW HT_.out HW_.out (by kernel_rfl)) (fun _ _ _ h => h) (Or.inl ⟨by rfl, ?_⟩) hHeld ?_ ?_
              rotate_left
              · rintro w' ⟨s0, s1, s2, s3, s4, s5, s6, s7, s8⟩
                go_simp
                with_reducible rfl
              rotate_left
              · simp only [Act.put, List.setIfInBounds_toArray, List.set_cons_zero, List.set_cons_succ, i64_w, i32_w]
                rfl
              refine pure_ (i := 12) (N := some 82) (v := ?_) (a' := ?_) #[true, true, true, true, true, true, true, true, true, true, true, true, true, false] rfl rfl (any_of HT_.out (by kernel_rfl)) (fun _ _ _ h => h) (Or.inl ⟨by rfl, ?_⟩) ?_ ?_
              rotate_left
              · intro w'
                go_simp
                with_reducible rfl
              rotate_left
              · simp only [Act.put, List.setIfInBounds_toArray, List.set_cons_zero, List.set_cons_succ, i64_w, i32_w]
                rfl
              refine pure_ (i := 13) (N := some 12) (v := ?_) (a' := ?_) #[true, true, true, true, true, true, true, true, true, true, true, true, true, true] rfl rfl (any_of HT_.out (by kernel_rfl)) (fun _ _ _ h => h) (Or.inl ⟨by rfl, ?_⟩) ?_ ?_
              rotate_left
              · intro w'
                go_simp
                with_reducible rfl
              rotate_left
              · simp only [Act.put, List.setIfInBounds_toArray, List.set_cons_zero, List.set_cons_succ, i64_w, i32_w]
                rfl
              refine done_ (done_of HT_.out (by kernel_rfl)) ?_
              try go_wp2
              have n0_ := Aside0.mk (Kd.R_drew HO_261002.out)
              have n1_ := Aside0.mk (blk_drew BK258.out)
              have n2_ := Aside0.mk (blk_drew BK259.out)
              have n3_ := Aside0.mk (blk_drew BK260.out)
              have n4_ := Aside0.mk (below_drew1 HB.out)
              clear HO_261002
              clear BK258
              clear BK259
              clear BK260
              clear HB
              have HO_261002 := n0_
              have BK258 := n1_
              have BK259 := n2_
              have BK260 := n3_
              have HB := n4_
              clear n0_ n1_ n2_ n3_ n4_
              obtain ⟨Ao40, co40, eo40⟩ := Kd.R_slice HO_261002.out
              (first | subst eo40 | (injection eo40 with f1_ f2_ f3_; have f4_ := f1_.symm; have f5_ := f3_.symm; clear f1_ f2_ f3_; subst f4_; subst f5_))
              refine start_ (n := 11) (S := fun w' => w'.cell? ⟨gb260, 0, none⟩ = some (.int .i64 (wrap64 (2 + (Int.tmod (wrap64 (a0_0)) 4)))) ∧ w'.cell? ⟨gb260, 1, none⟩ = some (.bool a0_1) ∧ w'.cell? ⟨gb260, 2, none⟩ = some (.slice Ao40 x261002_1.length co40) ∧ w'.cell? ⟨gb258, 0, none⟩ = some (.int .u8 a0_0) ∧ w'.cell? ⟨gb258, 1, none⟩ = some (.bool a0_1) ∧ w'.cell? ⟨gb258, 2, none⟩ = some (.slice A0_2 l0_2.length c0_2) ∧ w'.cell? ⟨gb258, 3, none⟩ = some (.int .u8 a0_3) ∧ w'.cell? ⟨gb258, 4, none⟩ = some (.int .u8 a0_4) ∧ w'.cell? ⟨gb258, 5, none⟩ = some (.int .u8 a0_5)) (ds := []) #[false, false, false, false, false, false, false, false, false, false, false] (by kernel_rfl) rfl rfl ⟨(blk_cell BK260.out 0).trans rfl, (blk_cell BK260.out 1).trans rfl, (blk_cell BK260.out 2).trans rfl, (blk_cell BK258.out 0).trans rfl, (blk_cell BK258.out 1).trans rfl, (blk_cell BK258.out 2).trans rfl, (blk_cell BK258.out 3).trans rfl, (blk_cell BK258.out 4).trans rfl, (blk_cell BK258.out 5).trans rfl⟩ (fun hHeld => ?_); refine with_tabW ebbtidelaw12_Read.tab9 ebbtidelaw12_Read.bits9 (fun HT_ HW_ => ?_)
              generalize w36.drew = w37 at HO_261002 BK258 BK259 BK260 HB hHeld ⊢
              refine pure_ (i := 1) (N := some 84) (v := ?_) (a' := ?_) #[false, true, false, false, false, false, false, false, false, false, false] rfl rfl (any_of HT_.out (by kernel_rfl)) (fun _ _ _ h => h) (Or.inl ⟨by rfl, ?_⟩) ?_ ?_
              rotate_left
              · intro w'
                go_simp
                with_reducible rfl
              rotate_left
              · simp only [Act.put, List.setIfInBounds_toArray, List.set_cons_zero, List.set_cons_succ, i64_w, i32_w]
                rfl
              refine pure_ (i := 2) (N := some 85) (v := ?_) (a' := ?_) #[false, true, true, false, false, false, false, false, false, false, false] rfl rfl (any_of HT_.out (by kernel_rfl)) (fun _ _ _ h => h) (Or.inl ⟨by rfl, ?_⟩) ?_ ?_
              rotate_left
              · intro w'
                go_simp
                with_reducible rfl
              rotate_left
              · simp only [Act.put, List.setIfInBounds_toArray, List.set_cons_zero, List.set_cons_succ, i64_w, i32_w]
                rfl
              refine pure_ (i := 3) (N := some 86) (v := ?_) (a' := ?_) #[false, true, true, true, false, false, false, false, false, false, false] rfl rfl (any_of HT_.out (by kernel_rfl)) (fun _ _ _ h => h) (Or.inl ⟨by rfl, ?_⟩) ?_ ?_
              rotate_left
              · intro w'
                go_simp
                with_reducible rfl
              rotate_left
              · simp only [Act.put, List.setIfInBounds_toArray, List.set_cons_zero, List.set_cons_succ, i64_w, i32_w]
                rfl
              refine take_ (i := 0) (N := some 83) (v := ?_) (a' := ?_) #[true, true, true, true, false, false, false, false, false, false, false] rfl rfl (take_ofW HT_.out HW_.out (by kernel_rfl)) (fun _ _ _ h => h) (Or.inl ⟨by rfl, ?_⟩) hHeld ?_ ?_
              rotate_left
              · rintro w' ⟨s0, s1, s2, s3, s4, s5, s6, s7, s8⟩
                go_simp
                with_reducible rfl
              rotate_left
              · simp only [Act.put, List.setIfInBounds_toArray, List.set_cons_zero, List.set_cons_succ, i64_w, i32_w]
                rfl
              refine take_ (i := 4) (N := some 87) (v := ?_) (a' := ?_) #[true, true, true, true, true, false, false, false, false, false, false] rfl rfl (take_ofW HT_.out HW_.out (by kernel_rfl)) (fun _ _ _ h => h) (Or.inl ⟨by rfl, ?_⟩) hHeld ?_ ?_
              rotate_left
              · rintro w' ⟨s0, s1, s2, s3, s4, s5, s6, s7, s8⟩
                go_simp
                with_reducible rfl
              rotate_left
              · simp only [Act.put, List.setIfInBounds_toArray, List.set_cons_zero, List.set_cons_succ, i64_w, i32_w]
                rfl
              refine pure_ (i := 5) (N := some 88) (v := ?_) (a' := ?_) #[true, true, true, true, true, true, false, false, false, false, false] rfl rfl (any_of HT_.out (by kernel_rfl)) (fun _ _ _ h => h) (Or.inl ⟨by rfl, ?_⟩) ?_ ?_
              rotate_left
              · intro w'
                go_simp
                with_reducible rfl
              rotate_left
              · simp only [Act.put, List.setIfInBounds_toArray, List.set_cons_zero, List.set_cons_succ, i64_w, i32_w]
                rfl
              refine pure_ (i := 6) (N := some 89) (v := ?_) (a' := ?_) #[true, true, true, true, true, true, true, false, false, false, false] rfl rfl (any_of HT_.out (by kernel_rfl)) (fun _ _ _ h => h) (Or.inl ⟨by rfl, ?_⟩) ?_ ?_
              rotate_left
              · intro w'
                go_simp
                with_reducible rfl
              rotate_left
              · simp only [Act.put, List.setIfInBounds_toArray, List.set_cons_zero, List.set_cons_succ, i64_w, i32_w]
                rfl
              refine one_ (i := 7) (N := none) #[true, true, true, true, true, true, true, true, false, false, false] rfl rfl (one_of HT_.out (by kernel_rfl)) (by decide) (fun K hK => ?_)
              have hs38 : w37.cell? ⟨gb259, 0, none⟩ = some (.int .i64 0) := (blk_cell BK259.out 0).trans rfl
              have hfs38 := blk_frozen BK259.out 0
              have hns38_0 := NB258_259.out
              have hns38_2 := NB260_259.out
              have hms38_0 := NB259_258.out
              have hms38_2 := NB259_260.out
              have hs39 : w37.cell? ⟨gb259, 1, none⟩ = some (.bool false) := (blk_cell BK259.out 1).trans rfl
              have hfs39 := blk_frozen BK259.out 1
              have hns39_0 := NB258_259.out
              have hns39_2 := NB260_259.out
              have hms39_0 := NB259_258.out
              have hms39_2 := NB259_260.out
              have hs41 : w37.cell? ⟨gb259, 2, none⟩ = some (.slice none 0 0) := (blk_cell BK259.out 2).trans rfl
              have hfs41 := blk_frozen BK259.out 2
              have hns41_0 := NB258_259.out
              have hns41_2 := NB260_259.out
              have hms41_0 := NB259_258.out
              have hms41_2 := NB259_260.out
              refine skip_ (w1 := ?_) (by rfl) rfl ?_ ?_
              rotate_left
              · go_simp
                rfl
              refine hK.out _ _ ⟨((cell_far (p := ⟨gb259, _, none⟩) NB260_259.out _).trans (((cell_far (p := ⟨gb259, _, none⟩) NB260_259.out _).trans (((cell_far (p := ⟨gb259, _, none⟩) NB260_259.out _).trans (hHeld.1)))))), ((cell_far (p := ⟨gb259, _, none⟩) NB260_259.out _).trans (((cell_far (p := ⟨gb259, _, none⟩) NB260_259.out _).trans (((cell_far (p := ⟨gb259, _, none⟩) NB260_259.out _).trans (hHeld.2.1)))))), ((cell_far (p := ⟨gb259, _, none⟩) NB260_259.out _).trans (((cell_far (p := ⟨gb259, _, none⟩) NB260_259.out _).trans (((cell_far (p := ⟨gb259, _, none⟩) NB260_259.out _).trans (hHeld.2.2.1)))))), ((cell_far (p := ⟨gb259, _, none⟩) NB258_259.out _).trans (((cell_far (p := ⟨gb259, _, none⟩) NB258_259.out _).trans (((cell_far (p := ⟨gb259, _, none⟩) NB258_259.out _).trans (hHeld.2.2.2.1)))))), ((cell_far (p := ⟨gb259, _, none⟩) NB258_259.out _).trans (((cell_far (p := ⟨gb259, _, none⟩) NB258_259.out _).trans (((cell_far (p := ⟨gb259, _, none⟩) NB258_259.out _).trans (hHeld.2.2.2.2.1)))))), ((cell_far (p := ⟨gb259, _, none⟩) NB258_259.out _).trans (((cell_far (p := ⟨gb259, _, none⟩) NB258_259.out _).trans (((cell_far (p := ⟨gb259, _, none⟩) NB258_259.out _).trans (hHeld.2.2.2.2.2.1)))))), ((cell_far (p := ⟨gb259, _, none⟩) NB258_259.out _).trans (((cell_far (p := ⟨gb259, _, none⟩) NB258_259.out _).trans (((cell_far (p := ⟨gb259, _, none⟩) NB258_259.out _).trans (hHeld.2.2.2.2.2.2.1)))))), ((cell_far (p := ⟨gb259, _, none⟩) NB258_259.out _).trans (((cell_far (p := ⟨gb259, _, none⟩) NB258_259.out _).trans (((cell_far (p := ⟨gb259, _, none⟩) NB258_259.out _).trans (hHeld.2.2.2.2.2.2.2.1)))))), ((cell_far (p := ⟨gb259, _, none⟩) NB258_259.out _).trans (((cell_far (p := ⟨gb259, _, none⟩) NB258_259.out _).trans (((cell_far (p := ⟨gb259, _, none⟩) NB258_259.out _).trans (hHeld.2.2.2.2.2.2.2.2))))))⟩ (fun hHeld => ?_)
              clear hK K
              refine pure_ (i := 8) (N := some 5) (v := ?_) (a' := ?_) #[true, true, true, true, true, true, true, true, true, false, false] rfl rfl (any_of HT_.out (by kernel_rfl)) (fun _ _ _ h => h) (Or.inl ⟨by rfl, ?_⟩) ?_ ?_
              rotate_left
              · intro w'
                go_simp
                with_reducible rfl
              rotate_left
              · simp only [Act.put, List.setIfInBounds_toArray, List.set_cons_zero, List.set_cons_succ, i64_w, i32_w]
                rfl
              refine pure_ (i := 9) (N := some 6) (v := ?_) (a' := ?_) #[true, true, true, true, true, true, true, true, true, true, false] rfl rfl (any_of HT_.out (by kernel_rfl)) (fun _ _ _ h => h) (Or.inl ⟨by rfl, ?_⟩) ?_ ?_
              rotate_left
              · intro w'
                go_simp
                with_reducible rfl
              rotate_left
              · simp only [Act.put, List.setIfInBounds_toArray, List.set_cons_zero, List.set_cons_succ, i64_w, i32_w]
                rfl
              refine pure_ (i := 10) (N := some 7) (v := ?_) (a' := ?_) #[true, true, true, true, true, true, true, true, true, true, true] rfl rfl (any_of HT_.out (by kernel_rfl)) (fun _ _ _ h => h) (Or.inl ⟨by rfl, ?_⟩) ?_ ?_
              rotate_left
              · intro w'
                go_simp
                with_reducible rfl
              rotate_left
              · simp only [Act.put, List.setIfInBounds_toArray, List.set_cons_zero, List.set_cons_succ, i64_w, i32_w]
                rfl
              refine done_ (done_of HT_.out (by kernel_rfl)) ?_
              try go_wp2
              refine bodyPost_ret (results_list (rs := [.cell 4 32, .tmp 5, .tmp 6, .tmp 7]) rfl (by simp) (.cell gb259 32 #[.int .i64 (wrap64 (2 + (Int.tmod (wrap64 (a0_0)) 4))), .bool a0_1, .slice Ao40 x261002_1.length co40] (0, 0) _ rfl (by (with_reducible repeat (first | refine blk_drewN ?_ _ | refine blk_drew ?_ | refine blk_alloc ?_ _)); refine blk_put (cs := #[.int .i64 (wrap64 (2 + (Int.tmod (wrap64 (a0_0)) 4))), .bool a0_1, .slice none 0 0]) ?_ 2 _ rfl; (with_reducible repeat (first | refine blk_drewN ?_ _ | refine blk_drew ?_ | refine blk_alloc ?_ _)); refine blk_put (cs := #[.int .i64 (wrap64 (2 + (Int.tmod (wrap64 (a0_0)) 4))), .bool false, .slice none 0 0]) ?_ 1 _ rfl; (with_reducible repeat (first | refine blk_drewN ?_ _ | refine blk_drew ?_ | refine blk_alloc ?_ _)); refine blk_put (cs := #[.int .i64 0, .bool false, .slice none 0 0]) ?_ 0 _ rfl; (with_reducible repeat (first | refine blk_drewN ?_ _ | refine blk_drew ?_ | refine blk_alloc ?_ _)); exact BK259.out) Try.underlying32 rfl (by kernel_rfl) (.tmp (.tmp (.tmp .nil))))) rfl ?_
              exact ⟨_, by first | rfl | (simp [errW_none, errW_some] <;> rfl) | (simp [*, errW_none, errW_some] <;> rfl), by (with_reducible repeat (first | apply Kd.R_alloc | apply Kd.R_drewN | apply Kd.R_drew)); exact Kd.R_mono (Kd.R_far (p := ⟨gb259, 2, none⟩) (Kd.R_far (p := ⟨gb259, 1, none⟩) (Kd.R_far (p := ⟨gb259, 0, none⟩) (Kd.R_types HO_261002.out BK259.out (by decide)) (fun _ hk => hk.2) (.int .i64 (wrap64 (2 + (Int.tmod (wrap64 (a0_0)) 4))))) (fun _ hk => hk.2) (.bool a0_1)) (fun _ hk => hk.2) (.slice Ao40 x261002_1.length co40)) (fun _ hk => trivial), by repeat (first | (with_reducible first | exact HB.out | apply below_alloc | apply pw_below_drewN | apply below_drew1 | refine below_set ?_ GE258.out | refine below_set ?_ GE259.out | refine below_set ?_ GE260.out) | exact HB.out)⟩
      · rw [if_neg c11] at H
        have c11b0 : decide (x9_1 < (l0_2.length : Int)) = false := decide_eq_false c11
        clear c11
        by_cases c42 : (wrap64 (2 + (Int.tmod (wrap64 (a0_0)) 4))) = 0
        · rw [if_pos c42] at H
          exact absurd H (by simp)
        · rw [if_neg c42] at H
          have c42b0 : ((wrap64 (2 + (Int.tmod (wrap64 (a0_0)) 4))) == 0) = false := beq_eq_false_iff_ne.mpr c42
          have c42b1 : ((wrap64 (2 + (Int.tmod (wrap64 (a0_0)) 4))) != 0) = true := bne_iff_ne.mpr c42
          by_cases c43 : (wrap64 ((wrap64 (2 + (Int.tmod (wrap64 (a0_0)) 4))) - 1)) = 0
          · rw [if_pos c43] at H
            exact absurd H (by simp)
          · rw [if_neg c43] at H
            have c43b0 : ((wrap64 ((wrap64 (2 + (Int.tmod (wrap64 (a0_0)) 4))) - 1)) == 0) = false := beq_eq_false_iff_ne.mpr c43
            have c43b1 : ((wrap64 ((wrap64 (2 + (Int.tmod (wrap64 (a0_0)) 4))) - 1)) != 0) = true := bne_iff_ne.mpr c43
            simp only [Option.some.injEq, Prod.mk.injEq] at H
            obtain ⟨rfl, rfl, rfl, rfl, rfl, rfl⟩ := H
            have hnb44 := NB258_259.out
            have hnc44 := NB259_258.out
            have hnb45 := NB258_260.out
            have hnc45 := NB260_258.out
            have hcz46_0 : wr.cell? ⟨gb258, 0, none⟩ = some (.int .u8 a0_0) := (blk_cell BK258.out 0).trans rfl
            have hcz46_1 : wr.cell? ⟨gb258, 1, none⟩ = some (.bool a0_1) := (blk_cell BK258.out 1).trans rfl
            have hcz46_2 : wr.cell? ⟨gb258, 2, none⟩ = some (.slice A0_2 l0_2.length c0_2) := (blk_cell BK258.out 2).trans rfl
            have hcz46_3 : wr.cell? ⟨gb258, 3, none⟩ = some (.int .u8 a0_3) := (blk_cell BK258.out 3).trans rfl
            have hcz46_4 : wr.cell? ⟨gb258, 4, none⟩ = some (.int .u8 a0_4) := (blk_cell BK258.out 4).trans rfl
            have hcz46_5 : wr.cell? ⟨gb258, 5, none⟩ = some (.int .u8 a0_5) := (blk_cell BK258.out 5).trans rfl
            have hfz46_0 := blk_frozen BK258.out 0
            have hfz46_1 := blk_frozen BK258.out 1
            have hfz46_2 := blk_frozen BK258.out 2
            have hfz46_3 := blk_frozen BK258.out 3
            have hfz46_4 := blk_frozen BK258.out 4
            have hfz46_5 := blk_frozen BK258.out 5
            have hnb47 := NB260_259.out
            have hnc47 := NB259_260.out
            have hcz48_0 : wr.cell? ⟨gb260, 0, none⟩ = some (.int .i64 (wrap64 (2 + (Int.tmod (wrap64 (a0_0)) 4)))) := (blk_cell BK260.out 0).trans rfl
            have hcz48_1 : wr.cell? ⟨gb260, 1, none⟩ = some (.bool a0_1) := (blk_cell BK260.out 1).trans rfl
            have hcz48_2 : wr.cell? ⟨gb260, 2, none⟩ = some (u261002) := (blk_cell BK260.out 2).trans rfl
            have hfz48_0 := blk_frozen BK260.out 0
            have hfz48_1 := blk_frozen BK260.out 1
            have hfz48_2 := blk_frozen BK260.out 2
            try go_wp2
            have n0_ := Aside0.mk (Kd.R_drew HO_261002.out)
            have n1_ := Aside0.mk (blk_drew BK258.out)
            have n2_ := Aside0.mk (blk_drew BK259.out)
            have n3_ := Aside0.mk (blk_drew BK260.out)
            have n4_ := Aside0.mk (below_drew1 HB.out)
            clear HO_261002
            clear BK258
            clear BK259
            clear BK260
            clear HB
            have HO_261002 := n0_
            have BK258 := n1_
            have BK259 := n2_
            have BK260 := n3_
            have HB := n4_
            clear n0_ n1_ n2_ n3_ n4_
            refine start_ (n := 14) (S := fun w' => w'.cell? ⟨gb258, 0, none⟩ = some (.int .u8 a0_0) ∧ w'.cell? ⟨gb258, 1, none⟩ = some (.bool a0_1) ∧ w'.cell? ⟨gb258, 2, none⟩ = some (.slice A0_2 l0_2.length c0_2) ∧ w'.cell? ⟨gb258, 3, none⟩ = some (.int .u8 a0_3) ∧ w'.cell? ⟨gb258, 4, none⟩ = some (.int .u8 a0_4) ∧ w'.cell? ⟨gb258, 5, none⟩ = some (.int .u8 a0_5) ∧ w'.cell? ⟨gb260, 0, none⟩ = some (.int .i64 (wrap64 (2 + (Int.tmod (wrap64 (a0_0)) 4)))) ∧ w'.cell? ⟨gb260, 1, none⟩ = some (.bool a0_1) ∧ w'.cell? ⟨gb260, 2, none⟩ = some (u261002)) (ds := []) #[false, false, false, false, false, false, false, false, false, false, false, false, false, false] (by kernel_rfl) rfl rfl ⟨(blk_cell BK258.out 0).trans rfl, (blk_cell BK258.out 1).trans rfl, (blk_cell BK258.out 2).trans rfl, (blk_cell BK258.out 3).trans rfl, (blk_cell BK258.out 4).trans rfl, (blk_cell BK258.out 5).trans rfl, (blk_cell BK260.out 0).trans rfl, (blk_cell BK260.out 1).trans rfl, (blk_cell BK260.out 2).trans rfl⟩ (fun hHeld => ?_); refine with_tabW ebbtidelaw12_Read.tab8 ebbtidelaw12_Read.bits8 (fun HT_ HW_ => ?_)
            generalize wr.drew = w49 at HO_261002 BK258 BK259 BK260 HB hHeld ⊢
            refine pure_ (i := 0) (N := some 70) (v := ?_) (a' := ?_) #[true, false, false, false, false, false, false, false, false, false, false, false, false, false] rfl rfl (any_of HT_.out (by kernel_rfl)) (fun _ _ _ h => h) (Or.inl ⟨by rfl, ?_⟩) ?_ ?_
            rotate_left
            · intro w'
              go_simp
              with_reducible rfl
            rotate_left
            · simp only [Act.put, List.setIfInBounds_toArray, List.set_cons_zero, List.set_cons_succ, i64_w, i32_w]
              rfl
            refine pure_ (i := 1) (N := some 71) (v := ?_) (a' := ?_) #[true, true, false, false, false, false, false, false, false, false, false, false, false, false] rfl rfl (any_of HT_.out (by kernel_rfl)) (fun _ _ _ h => h) (Or.inl ⟨by rfl, ?_⟩) ?_ ?_
            rotate_left
            · intro w'
              go_simp
              with_reducible rfl
            rotate_left
            · simp only [Act.put, List.setIfInBounds_toArray, List.set_cons_zero, List.set_cons_succ, i64_w, i32_w]
              rfl
            refine pure_ (i := 2) (N := some 72) (v := ?_) (a' := ?_) #[true, true, true, false, false, false, false, false, false, false, false, false, false, false] rfl rfl (any_of HT_.out (by kernel_rfl)) (fun _ _ _ h => h) (Or.inl ⟨by rfl, ?_⟩) ?_ ?_
            rotate_left
            · intro w'
              go_simp
              with_reducible rfl
            rotate_left
            · simp only [Act.put, List.setIfInBounds_toArray, List.set_cons_zero, List.set_cons_succ, i64_w, i32_w]
              rfl
            refine pure_ (i := 5) (N := some 75) (v := ?_) (a' := ?_) #[true, true, true, false, false, true, false, false, false, false, false, false, false, false] rfl rfl (any_of HT_.out (by kernel_rfl)) (fun _ _ _ h => h) (Or.inl ⟨by rfl, ?_⟩) ?_ ?_
            rotate_left
            · intro w'
              go_simp
              with_reducible rfl
            rotate_left
            · simp only [Act.put, List.setIfInBounds_toArray, List.set_cons_zero, List.set_cons_succ, i64_w, i32_w]
              rfl
            refine pure_ (i := 10) (N := some 80) (v := ?_) (a' := ?_) #[true, true, true, false, false, true, false, false, false, false, true, false, false, false] rfl rfl (any_of HT_.out (by kernel_rfl)) (fun _ _ _ h => h) (Or.inl ⟨by rfl, ?_⟩) ?_ ?_
            rotate_left
            · intro w'
              go_simp
              with_reducible rfl
            rotate_left
            · simp only [Act.put, List.setIfInBounds_toArray, List.set_cons_zero, List.set_cons_succ, i64_w, i32_w]
              rfl
            refine take_ (i := 3) (N := some 73) (v := ?_) (a' := ?_) #[true, true, true, true, false, true, false, false, false, false, true, false, false, false] rfl rfl (take_ofW HT_.out HW_.out (by kernel_rfl)) (fun _ _ _ h => h) (Or.inl ⟨by rfl, ?_⟩) hHeld ?_ ?_
            rotate_left
            · rintro w' ⟨s0, s1, s2, s3, s4, s5, s6, s7, s8⟩
              go_simp
              with_reducible rfl
            rotate_left
            · simp only [Act.put, List.setIfInBounds_toArray, List.set_cons_zero, List.set_cons_succ, i64_w, i32_w]
              rfl
            refine pure_ (i := 4) (N := some 74) (v := ?_) (a' := ?_) #[true, true, true, true, true, true, false, false, false, false, true, false, false, false] rfl rfl (any_of HT_.out (by kernel_rfl)) (fun _ _ _ h => h) (Or.inl ⟨by rfl, ?_⟩) ?_ ?_
            rotate_left
            · intro w'
              go_simp
              with_reducible rfl
            rotate_left
            · simp only [Act.put, List.setIfInBounds_toArray, List.set_cons_zero, List.set_cons_succ, i64_w, i32_w]
              rfl
            refine take_ (i := 6) (N := some 76) (v := ?_) (a' := ?_) #[true, true, true, true, true, true, true, false, false, false, true, false, false, false] rfl rfl (take_ofW HT_.out HW_.out (by kernel_rfl)) (fun _ _ _ h => h) (Or.inl ⟨by rfl, ?_⟩) hHeld ?_ ?_
            rotate_left
            · rintro w' ⟨s0, s1, s2, s3, s4, s5, s6, s7, s8⟩
              go_simp
              with_reducible rfl
            rotate_left
            · simp only [Act.put, List.setIfInBounds_toArray, List.set_cons_zero, List.set_cons_succ, i64_w, i32_w]
              rfl
            refine pure_ (i := 7) (N := some 77) (v := ?_) (a' := ?_) #[true, true, true, true, true, true, true, true, false, false, true, false, false, false] rfl rfl (any_of HT_.out (by kernel_rfl)) (fun _ _ _ h => h) (Or.inl ⟨by rfl, ?_⟩) ?_ ?_
            rotate_left
            · intro w'
              go_simp
              with_reducible rfl
            rotate_left
            · simp only [Act.put, List.setIfInBounds_toArray, List.set_cons_zero, List.set_cons_succ, i64_w, i32_w]
              rfl
            refine pure_ (i := 8) (N := some 78) (v := ?_) (a' := ?_) #[true, true, true, true, true, true, true, true, true, false, true, false, false, false] rfl rfl (any_of HT_.out (by kernel_rfl)) (fun _ _ _ h => h) (Or.inl ⟨by rfl, ?_⟩) ?_ ?_
            rotate_left
            · intro w'
              go_simp
              with_reducible rfl
            rotate_left
            · simp only [Act.put, List.setIfInBounds_toArray, List.set_cons_zero, List.set_cons_succ, i64_w, i32_w]
              rfl
            refine pure_ (i := 9) (N := some 79) (v := ?_) (a' := ?_) #[true, true, true, true, true, true, true, true, true, true, true, false, false, false] rfl rfl (any_of HT_.out (by kernel_rfl)) (fun _ _ _ h => h) (Or.inl ⟨by rfl, ?_⟩) ?_ ?_
            rotate_left
            · intro w'
              go_simp
              with_reducible rfl
            rotate_left
            · simp only [Act.put, List.setIfInBounds_toArray, List.set_cons_zero, List.set_cons_succ, i64_w, i32_w]
              rfl
            refine take_ (i := 11) (N := some 81) (v := ?_) (a' := ?_) #[true, true, true, true, true, true, true, true, true, true, true, true, false, false] rfl rfl (take_ofW HT_.out HW_.out (by kernel_rfl)) (fun _ _ _ h => h) (Or.inl ⟨by rfl, ?_⟩) hHeld ?_ ?_
            rotate_left
            · rintro w' ⟨s0, s1, s2, s3, s4, s5, s6, s7, s8⟩
              go_simp
              with_reducible rfl
            rotate_left
            · simp only [Act.put, List.setIfInBounds_toArray, List.set_cons_zero, List.set_cons_succ, i64_w, i32_w]
              rfl
            refine pure_ (i := 12) (N := some 82) (v := ?_) (a' := ?_) #[true, true, true, true, true, true, true, true, true, true, true, true, true, false] rfl rfl (any_of HT_.out (by kernel_rfl)) (fun _ _ _ h => h) (Or.inl ⟨by rfl, ?_⟩) ?_ ?_
            rotate_left
            · intro w'
              go_simp
              with_reducible rfl
            rotate_left
            · simp only [Act.put, List.setIfInBounds_toArray, List.set_cons_zero, List.set_cons_succ, i64_w, i32_w]
              rfl
            refine pure_ (i := 13) (N := some 12) (v := ?_) (a' := ?_) #[true, true, true, true, true, true, true, true, true, true, true, true, true, true] rfl rfl (any_of HT_.out (by kernel_rfl)) (fun _ _ _ h => h) (Or.inl ⟨by rfl, ?_⟩) ?_ ?_
            rotate_left
            · intro w'
              go_simp
              with_reducible rfl
            rotate_left
            · simp only [Act.put, List.setIfInBounds_toArray, List.set_cons_zero, List.set_cons_succ, i64_w, i32_w]
              rfl
            refine done_ (done_of HT_.out (by kernel_rfl)) ?_
            try go_wp2
            have n0_ := Aside0.mk (Kd.R_drew HO_261002.out)
            have n1_ := Aside0.mk (blk_drew BK258.out)
            have n2_ := Aside0.mk (blk_drew BK259.out)
            have n3_ := Aside0.mk (blk_drew BK260.out)
            have n4_ := Aside0.mk (below_drew1 HB.out)
            clear HO_261002
            clear BK258
            clear BK259
            clear BK260
            clear HB
            have HO_261002 := n0_
            have BK258 := n1_
            have BK259 := n2_
            have BK260 := n3_
            have HB := n4_
            clear n0_ n1_ n2_ n3_ n4_
            obtain ⟨Ao53, co53, eo53⟩ := Kd.R_slice HO_261002.out
            (first | subst eo53 | (injection eo53 with f1_ f2_ f3_; have f4_ := f1_.symm; have f5_ := f3_.symm; clear f1_ f2_ f3_; subst f4_; subst f5_))
            refine start_ (n := 11) (S := fun w' => w'.cell? ⟨gb260, 0, none⟩ = some (.int .i64 (wrap64 (2 + (Int.tmod (wrap64 (a0_0)) 4)))) ∧ w'.cell? ⟨gb260, 1, none⟩ = some (.bool a0_1) ∧ w'.cell? ⟨gb260, 2, none⟩ = some (.slice Ao53 x261002_1.length co53) ∧ w'.cell? ⟨gb258, 0, none⟩ = some (.int .u8 a0_0) ∧ w'.cell? ⟨gb258, 1, none⟩ = some (.bool a0_1) ∧ w'.cell? ⟨gb258, 2, none⟩ = some (.slice A0_2 l0_2.length c0_2) ∧ w'.cell? ⟨gb258, 3, none⟩ = some (.int .u8 a0_3) ∧ w'.cell? ⟨gb258, 4, none⟩ = some (.int .u8 a0_4) ∧ w'.cell? ⟨gb258, 5, none⟩ = some (.int .u8 a0_5)) (ds := []) #[false, false, false, false, false, false, false, false, false, false, false] (by kernel_rfl) rfl rfl ⟨(blk_cell BK260.out 0).trans rfl, (blk_cell BK260.out 1).trans rfl, (blk_cell BK260.out 2).trans rfl, (blk_cell BK258.out 0).trans rfl, (blk_cell BK258.out 1).trans rfl, (blk_cell BK258.out 2).trans rfl, (blk_cell BK258.out 3).trans rfl, (blk_cell BK258.out 4).trans rfl, (blk_cell BK258.out 5).trans rfl⟩ (fun hHeld => ?_); refine with_tabW ebbtidelaw12_Read.tab9 ebbtidelaw12_Read.bits9 (fun HT_ HW_ => ?_)
            generalize w49.drew = w50 at HO_261002 BK258 BK259 BK260 HB hHeld ⊢
            refine pure_ (i := 1) (N := some 84) (v := ?_) (a' := ?_) #[false, true, false, false, false, false, false, false, false, false, false] rfl rfl (any_of HT_.out (by kernel_rfl)) (fun _ _ _ h => h) (Or.inl ⟨by rfl, ?_⟩) ?_ ?_
            rotate_left
            · intro w'
              go_simp
              with_reducible rfl
            rotate_left
            · simp only [Act.put, List.setIfInBounds_toArray, List.set_cons_zero, List.set_cons_succ, i64_w, i32_w]
              rfl
            refine pure_ (i := 2) (N := some 85) (v := ?_) (a' := ?_) #[false, true, true, false, false, false, false, false, false, false, false] rfl rfl (any_of HT_.out (by kernel_rfl)) (fun _ _ _ h => h) (Or.inl ⟨by rfl, ?_⟩) ?_ ?_
            rotate_left
            · intro w'
              go_simp
              with_reducible rfl
            rotate_left
            · simp only [Act.put, List.setIfInBounds_toArray, List.set_cons_zero, List.set_cons_succ, i64_w, i32_w]
              rfl
            refine pure_ (i := 3) (N := some 86) (v := ?_) (a' := ?_) #[false, true, true, true, false, false, false, false, false, false, false] rfl rfl (any_of HT_.out (by kernel_rfl)) (fun _ _ _ h => h) (Or.inl ⟨by rfl, ?_⟩) ?_ ?_
            rotate_left
            · intro w'
              go_simp
              with_reducible rfl
            rotate_left
            · simp only [Act.put, List.setIfInBounds_toArray, List.set_cons_zero, List.set_cons_succ, i64_w, i32_w]
              rfl
            refine take_ (i := 0) (N := some 83) (v := ?_) (a' := ?_) #[true, true, true, true, false, false, false, false, false, false, false] rfl rfl (take_ofW HT_.out HW_.out (by kernel_rfl)) (fun _ _ _ h => h) (Or.inl ⟨by rfl, ?_⟩) hHeld ?_ ?_
            rotate_left
            · rintro w' ⟨s0, s1, s2, s3, s4, s5, s6, s7, s8⟩
              go_simp
              with_reducible rfl
            rotate_left
            · simp only [Act.put, List.setIfInBounds_toArray, List.set_cons_zero, List.set_cons_succ, i64_w, i32_w]
              rfl
            refine take_ (i := 4) (N := some 87) (v := ?_) (a' := ?_) #[true, true, true, true, true, false, false, false, false, false, false] rfl rfl (take_ofW HT_.out HW_.out (by kernel_rfl)) (fun _ _ _ h => h) (Or.inl ⟨by rfl, ?_⟩) hHeld ?_ ?_
            rotate_left
            · rintro w' ⟨s0, s1, s2, s3, s4, s5, s6, s7, s8⟩
              go_simp
              with_reducible rfl
            rotate_left
            · simp only [Act.put, List.setIfInBounds_toArray, List.set_cons_zero, List.set_cons_succ, i64_w, i32_w]
              rfl
            refine pure_ (i := 5) (N := some 88) (v := ?_) (a' := ?_) #[true, true, true, true, true, true, false, false, false, false, false] rfl rfl (any_of HT_.out (by kernel_rfl)) (fun _ _ _ h => h) (Or.inl ⟨by rfl, ?_⟩) ?_ ?_
            rotate_left
            · intro w'
              go_simp
              with_reducible rfl
            rotate_left
            · simp only [Act.put, List.setIfInBounds_toArray, List.set_cons_zero, List.set_cons_succ, i64_w, i32_w]
              rfl
            refine pure_ (i := 6) (N := some 89) (v := ?_) (a' := ?_) #[true, true, true, true, true, true, true, false, false, false, false] rfl rfl (any_of HT_.out (by kernel_rfl)) (fun _ _ _ h => h) (Or.inl ⟨by rfl, ?_⟩) ?_ ?_
            rotate_left
            · intro w'
              go_simp
              with_reducible rfl
            rotate_left
            · simp only [Act.put, List.setIfInBounds_toArray, List.set_cons_zero, List.set_cons_succ, i64_w, i32_w]
              rfl
            refine one_ (i := 7) (N := none) #[true, true, true, true, true, true, true, true, false, false, false] rfl rfl (one_of HT_.out (by kernel_rfl)) (by decide) (fun K hK => ?_)
            have hs51 : w50.cell? ⟨gb259, 0, none⟩ = some (.int .i64 0) := (blk_cell BK259.out 0).trans rfl
            have hfs51 := blk_frozen BK259.out 0
            have hns51_0 := NB258_259.out
            have hns51_2 := NB260_259.out
            have hms51_0 := NB259_258.out
            have hms51_2 := NB259_260.out
            have hs52 : w50.cell? ⟨gb259, 1, none⟩ = some (.bool false) := (blk_cell BK259.out 1).trans rfl
            have hfs52 := blk_frozen BK259.out 1
            have hns52_0 := NB258_259.out
            have hns52_2 := NB260_259.out
            have hms52_0 := NB259_258.out
            have hms52_2 := NB259_260.out
            have hs54 : w50.cell? ⟨gb259, 2, none⟩ = some (.slice none 0 0) := (blk_cell BK259.out 2).trans rfl
            have hfs54 := blk_frozen BK259.out 2
            have hns54_0 := NB258_259.out
            have hns54_2 := NB260_259.out
            have hms54_0 := NB259_258.out
            have hms54_2 := NB259_260.out
            refine skip_ (w1 := ?_) (by rfl) rfl ?_ ?_
            rotate_left
            · go_simp
              rfl
            refine hK.out _ _ ⟨((cell_far (p := ⟨gb259, _, none⟩) NB260_259.out _).trans (((cell_far (p := ⟨gb259, _, none⟩) NB260_259.out _).trans (((cell_far (p := ⟨gb259, _, none⟩) NB260_259.out _).trans (hHeld.1)))))), ((cell_far (p := ⟨gb259, _, none⟩) NB260_259.out _).trans (((cell_far (p := ⟨gb259, _, none⟩) NB260_259.out _).trans (((cell_far (p := ⟨gb259, _, none⟩) NB260_259.out _).trans (hHeld.2.1)))))), ((cell_far (p := ⟨gb259, _, none⟩) NB260_259.out _).trans (((cell_far (p := ⟨gb259, _, none⟩) NB260_259.out _).trans (((cell_far (p := ⟨gb259, _, none⟩) NB260_259.out _).trans (hHeld.2.2.1)))))), ((cell_far (p := ⟨gb259, _, none⟩) NB258_259.out _).trans (((cell_far (p := ⟨gb259, _, none⟩) NB258_259.out _).trans (((cell_far (p := ⟨gb259, _, none⟩) NB258_259.out _).trans (hHeld.2.2.2.1)))))), ((cell_far (p := ⟨gb259, _, none⟩) NB258_259.out _).trans (((cell_far (p := ⟨gb259, _, none⟩) NB258_259.out _).trans (((cell_far (p := ⟨gb259, _, none⟩) NB258_259.out _).trans (hHeld.2.2.2.2.1)))))), ((cell_far (p := ⟨gb259, _, none⟩) NB258_259.out _).trans (((cell_far (p := ⟨gb259, _, none⟩) NB258_259.out _).trans (((cell_far (p := ⟨gb259, _, none⟩) NB258_259.out _).trans (hHeld.2.2.2.2.2.1)))))), ((cell_far (p := ⟨gb259, _, none⟩) NB258_259.out _).trans (((cell_far (p := ⟨gb259, _, none⟩) NB258_259.out _).trans (((cell_far (p := ⟨gb259, _, none⟩) NB258_259.out _).trans (hHeld.2.2.2.2.2.2.1)))))), ((cell_far (p := ⟨gb259, _, none⟩) NB258_259.out _).trans (((cell_far (p := ⟨gb259, _, none⟩) NB258_259.out _).trans (((cell_far (p := ⟨gb259, _, none⟩) NB258_259.out _).trans (hHeld.2.2.2.2.2.2.2.1)))))), ((cell_far (p := ⟨gb259, _, none⟩) NB258_259.out _).trans (((cell_far (p := ⟨gb259, _, none⟩) NB258_259.out _).trans (((cell_far (p := ⟨gb259, _, none⟩) NB258_259.out _).trans (hHeld.2.2.2.2.2.2.2.2))))))⟩ (fun hHeld => ?_)
            clear hK K
            refine pure_ (i := 8) (N := some 5) (v := ?_) (a' := ?_) #[true, true, true, true, true, true, true, true, true, false, false] rfl rfl (any_of HT_.out (by kernel_rfl)) (fun _ _ _ h => h) (Or.inl ⟨by rfl, ?_⟩) ?_ ?_
            rotate_left
            · intro w'
              go_simp
              with_reducible rfl
            rotate_left
            · simp only [Act.put, List.setIfInBounds_toArray, List.set_cons_zero, List.set_cons_succ, i64_w, i32_w]
              rfl
            refine pure_ (i := 9) (N := some 6) (v := ?_) (a' := ?_) #[true, true, true, true, true, true, true, true, true, true, false] rfl rfl (any_of HT_.out (by kernel_rfl)) (fun _ _ _ h => h) (Or.inl ⟨by rfl, ?_⟩) ?_ ?_
            rotate_left
            · intro w'
              go_simp
              with_reducible rfl
            rotate_left
            · simp only [Act.put, List.setIfInBounds_toArray, List.set_cons_zero, List.set_cons_succ, i64_w, i32_w]
              rfl
            refine pure_ (i := 10) (N := some 7) (v := ?_) (a' := ?_) #[true, true, true, true, true, true, true, true, true, true, true] rfl rfl (any_of HT_.out (by kernel_rfl)) (fun _ _ _ h => h) (Or.inl ⟨by rfl, ?_⟩) ?_ ?_
            rotate_left
            · intro w'
              go_simp
              with_reducible rfl
            rotate_left
            · simp only [Act.put, List.setIfInBounds_toArray, List.set_cons_zero, List.set_cons_succ, i64_w, i32_w]
              rfl
            refine done_ (done_of HT_.out (by kernel_rfl)) ?_
            try go_wp2
            refine bodyPost_ret (results_list (rs := [.cell 4 32, .tmp 5, .tmp 6, .tmp 7]) rfl (by simp) (.cell gb259 32 #[.int .i64 (wrap64 (2 + (Int.tmod (wrap64 (a0_0)) 4))), .bool a0_1, .slice Ao53 x261002_1.length co53] (0, 0) _ rfl (by (with_reducible repeat (first | refine blk_drewN ?_ _ | refine blk_drew ?_ | refine blk_alloc ?_ _)); refine blk_put (cs := #[.int .i64 (wrap64 (2 + (Int.tmod (wrap64 (a0_0)) 4))), .bool a0_1, .slice none 0 0]) ?_ 2 _ rfl; (with_reducible repeat (first | refine blk_drewN ?_ _ | refine blk_drew ?_ | refine blk_alloc ?_ _)); refine blk_put (cs := #[.int .i64 (wrap64 (2 + (Int.tmod (wrap64 (a0_0)) 4))), .bool false, .slice none 0 0]) ?_ 1 _ rfl; (with_reducible repeat (first | refine blk_drewN ?_ _ | refine blk_drew ?_ | refine blk_alloc ?_ _)); refine blk_put (cs := #[.int .i64 0, .bool false, .slice none 0 0]) ?_ 0 _ rfl; (with_reducible repeat (first | refine blk_drewN ?_ _ | refine blk_drew ?_ | refine blk_alloc ?_ _)); exact BK259.out) Try.underlying32 rfl (by kernel_rfl) (.tmp (.tmp (.tmp .nil))))) rfl ?_
            exact ⟨_, by first | rfl | (simp [errW_none, errW_some] <;> rfl) | (simp [*, errW_none, errW_some] <;> rfl), by (with_reducible repeat (first | apply Kd.R_alloc | apply Kd.R_drewN | apply Kd.R_drew)); exact Kd.R_mono (Kd.R_far (p := ⟨gb259, 2, none⟩) (Kd.R_far (p := ⟨gb259, 1, none⟩) (Kd.R_far (p := ⟨gb259, 0, none⟩) (Kd.R_types HO_261002.out BK259.out (by decide)) (fun _ hk => hk.2) (.int .i64 (wrap64 (2 + (Int.tmod (wrap64 (a0_0)) 4))))) (fun _ hk => hk.2) (.bool a0_1)) (fun _ hk => hk.2) (.slice Ao53 x261002_1.length co53)) (fun _ hk => trivial), by repeat (first | (with_reducible first | exact HB.out | apply below_alloc | apply pw_below_drewN | apply below_drew1 | refine below_set ?_ GE258.out | refine below_set ?_ GE259.out | refine below_set ?_ GE260.out) | exact HB.out)⟩
end Go.Proofs.Ytcgdloldkcmhnaa.PrintE
end
section
namespace Go.Proofs.Ytcgdloldkcmhnaa.PrintE
open Go.Proofs.Ytcgdloldkcmhnaa.PrintC Go.RowKit Go.Proofs.Ytcgdloldkcmhnaa.H Go.Proofs.YtcgdloldkcmhnaaW.PrintWords Go.Proofs.YtcgdloldkcmhnaaW.PrintLast Go.Proofs.YtcgdloldkcmhnaaW.PrintMore
attribute [local go_sem] max2_int min2_int max_two min_two max_three min_three max_four min_four
set_option linter.unusedVariables false
set_option linter.unusedSimpArgs false
mutual
def ebbtidelaw21_Read.l0 : Nat → Int → Int → Int → List (S44) → List (S44) → Int → Int → Bool → List (S77) → Int → Int → Int → List Int → List Int → List (S101) → List Int → Int → Bool → List (S79) → Option (Int × Bool × (List (S79)) × (List (S44)) × (List (S44)) × Int)
  | 0, _, _, _, _, _, _, _, _, _, _, _, _, _, _, _, _, _, _, _ => none
  | k + 1, x9, x10, x11, x12, x13, x14, x267000, x267001, x267002, x267003, x267004, x267005, x267006, x267007, x267008, x267009, x277000, x277001, x277002 => if x14 < (x267006.length : Int) then (ebbtidelaw21_Read.j1 k x9 x10 x11 x12 x13 x14 (decide (x14 < 4)) x267000 x267001 x267002 x267003 x267004 x267005 x267006 x267007 x267008 x267009 x277000 x277001 x277002) else (ebbtidelaw21_Read.j1 k x9 x10 x11 x12 x13 x14 false x267000 x267001 x267002 x267003 x267004 x267005 x267006 x267007 x267008 x267009 x277000 x277001 x277002)
def ebbtidelaw21_Read.j1 : Nat → Int → Int → Int → List (S44) → List (S44) → Int → Bool → Int → Bool → List (S77) → Int → Int → Int → List Int → List Int → List (S101) → List Int → Int → Bool → List (S79) → Option (Int × Bool × (List (S79)) × (List (S44)) × (List (S44)) × Int)
  | 0, _, _, _, _, _, _, _, _, _, _, _, _, _, _, _, _, _, _, _, _ => none
  | k + 1, x9, x10, x11, x12, x13, x14, x43, x267000, x267001, x267002, x267003, x267004, x267005, x267006, x267007, x267008, x267009, x277000, x277001, x277002 => if x43 = true then (if 0 ≤ x14 then (if x14 < (x267006.length : Int) then (if x277000 = 0 then (none) else (if x14 = 0 then (if 0 < (x12.length : Int) then (ebbtidelaw21_Read.l0 k x9 x10 x11 (x12.set (0 : Int).toNat (⟨(rd_T44 x12 0).f0, Int.tmod (wrap64 (rd x267006 x14)) 7⟩ : S44)) x13 (wrap64 (x14 + 1)) x267000 x267001 x267002 x267003 x267004 x267005 x267006 x267007 x267008 x267009 x277000 x277001 x277002) else (none)) else ((ebbtideref21_Of.f k x12 (Int.tmod (wrap64 (x9 + (wrap64 (2 * x14)))) x277000)).bind fun t285 => (if t285 < 0 then ((ebbtideref21_Of.f k x13 (Int.tmod (wrap64 (x9 + (wrap64 (2 * x14)))) x277000)).bind fun t286 => (if t286 < 0 then (if x12.length < 8796093022208 then (ebbtidelaw21_Read.l0 k x9 x10 x11 (x12 ++ [(⟨Int.tmod (wrap64 (x9 + (wrap64 (2 * x14)))) x277000, Int.tmod (wrap64 (rd x267006 x14)) 7⟩ : S44)]) x13 (wrap64 (x14 + 1)) x267000 x267001 x267002 x267003 x267004 x267005 x267006 x267007 x267008 x267009 x277000 x277001 x277002) else (none)) else (ebbtidelaw21_Read.l0 k x9 x10 x11 x12 x13 (wrap64 (x14 + 1)) x267000 x267001 x267002 x267003 x267004 x267005 x267006 x267007 x267008 x267009 x277000 x277001 x277002))) else (ebbtidelaw21_Read.l0 k x9 x10 x11 x12 x13 (wrap64 (x14 + 1)) x267000 x267001 x267002 x267003 x267004 x267005 x267006 x267007 x267008 x267009 x277000 x277001 x277002))))) else (none)) else (none)) else (ebbtidelaw21_Read.l1 k x10 x11 x12 x13 0 x267000 x267001 x267002 x267003 x267004 x267005 x267006 x267007 x267008 x267009 x277000 x277001 x277002)
def ebbtidelaw21_Read.l1 : Nat → Int → Int → List (S44) → List (S44) → Int → Int → Bool → List (S77) → Int → Int → Int → List Int → List Int → List (S101) → List Int → Int → Bool → List (S79) → Option (Int × Bool × (List (S79)) × (List (S44)) × (List (S44)) × Int)
  | 0, _, _, _, _, _, _, _, _, _, _, _, _, _, _, _, _, _, _ => none
  | k + 1, x10, x11, x12, x13, x17, x267000, x267001, x267002, x267003, x267004, x267005, x267006, x267007, x267008, x267009, x277000, x277001, x277002 => if x17 < (x267007.length : Int) then (ebbtidelaw21_Read.j3 k x10 x11 x12 x13 x17 (decide (x17 < 4)) x267000 x267001 x267002 x267003 x267004 x267005 x267006 x267007 x267008 x267009 x277000 x277001 x277002) else (ebbtidelaw21_Read.j3 k x10 x11 x12 x13 x17 false x267000 x267001 x267002 x267003 x267004 x267005 x267006 x267007 x267008 x267009 x277000 x277001 x277002)
def ebbtidelaw21_Read.j3 : Nat → Int → Int → List (S44) → List (S44) → Int → Bool → Int → Bool → List (S77) → Int → Int → Int → List Int → List Int → List (S101) → List Int → Int → Bool → List (S79) → Option (Int × Bool × (List (S79)) × (List (S44)) × (List (S44)) × Int)
  | 0, _, _, _, _, _, _, _, _, _, _, _, _, _, _, _, _, _, _, _ => none
  | k + 1, x10, x11, x12, x13, x17, x90, x267000, x267001, x267002, x267003, x267004, x267005, x267006, x267007, x267008, x267009, x277000, x277001, x277002 => if x90 = true then (if 0 ≤ x17 then (if x17 < (x267007.length : Int) then (if x277000 = 0 then (none) else (if x17 = 0 then (if 0 < (x13.length : Int) then (ebbtidelaw21_Read.l1 k x10 x11 x12 (x13.set (0 : Int).toNat (⟨(rd_T44 x13 0).f0, Int.tmod (wrap64 (rd x267007 x17)) 9⟩ : S44)) (wrap64 (x17 + 1)) x267000 x267001 x267002 x267003 x267004 x267005 x267006 x267007 x267008 x267009 x277000 x277001 x277002) else (none)) else ((ebbtideref21_Of.f k x12 (Int.tmod (wrap64 (x10 + x17)) x277000)).bind fun t292 => (if t292 < 0 then ((ebbtideref21_Of.f k x13 (Int.tmod (wrap64 (x10 + x17)) x277000)).bind fun t293 => (if t293 < 0 then (if x13.length < 8796093022208 then (ebbtidelaw21_Read.l1 k x10 x11 x12 (x13 ++ [(⟨Int.tmod (wrap64 (x10 + x17)) x277000, Int.tmod (wrap64 (rd x267007 x17)) 9⟩ : S44)]) (wrap64 (x17 + 1)) x267000 x267001 x267002 x267003 x267004 x267005 x267006 x267007 x267008 x267009 x277000 x277001 x277002) else (none)) else (ebbtidelaw21_Read.l1 k x10 x11 x12 x13 (wrap64 (x17 + 1)) x267000 x267001 x267002 x267003 x267004 x267005 x267006 x267007 x267008 x267009 x277000 x277001 x277002))) else (ebbtidelaw21_Read.l1 k x10 x11 x12 x13 (wrap64 (x17 + 1)) x267000 x267001 x267002 x267003 x267004 x267005 x267006 x267007 x267008 x267009 x277000 x277001 x277002))))) else (none)) else (none)) else (some (x277000, x277001, x277002, x12, x13, x11))
end
def ebbtidelaw21_Read.f (k : Nat) (a0_0 : Int) (a0_1 : Bool) (l0_2 : List (S77)) (a0_3 : Int) (a0_4 : Int) (a0_5 : Int) (l0_6 : List Int) (l0_7 : List Int) (l0_8 : List (S101)) (l0_9 : List Int) (a1 : Int) : Option (Int × Bool × (List (S79)) × (List (S44)) × (List (S44)) × Int) := (ebbtidelaw12_Read.f k a0_0 a0_1 l0_2 a0_3 a0_4 a0_5 a1).bind fun bt268 => (ebbtidelaw21_Read.l0 k bt268.2.2.2.1 bt268.2.2.2.2.1 bt268.2.2.2.2.2 (([(⟨bt268.2.2.2.1, 0⟩ : S44)] : List (S44))) (([(⟨bt268.2.2.2.2.1, 0⟩ : S44)] : List (S44))) 0 a0_0 a0_1 l0_2 a0_3 a0_4 a0_5 l0_6 l0_7 l0_8 l0_9 bt268.1 bt268.2.1 bt268.2.2.1)
theorem ebbtidelaw21_Read.mono_l : ∀ k, (∀ y0 y1 y2 y3 y4 y5 y6 y7 y8 y9 y10 y11 y12 y13 y14 y15 y16 y17 y18, LeO (ebbtidelaw21_Read.l0 k y0 y1 y2 y3 y4 y5 y6 y7 y8 y9 y10 y11 y12 y13 y14 y15 y16 y17 y18) (ebbtidelaw21_Read.l0 (k + 1) y0 y1 y2 y3 y4 y5 y6 y7 y8 y9 y10 y11 y12 y13 y14 y15 y16 y17 y18)) ∧ (∀ y0 y1 y2 y3 y4 y5 y6 y7 y8 y9 y10 y11 y12 y13 y14 y15 y16 y17 y18 y19, LeO (ebbtidelaw21_Read.j1 k y0 y1 y2 y3 y4 y5 y6 y7 y8 y9 y10 y11 y12 y13 y14 y15 y16 y17 y18 y19) (ebbtidelaw21_Read.j1 (k + 1) y0 y1 y2 y3 y4 y5 y6 y7 y8 y9 y10 y11 y12 y13 y14 y15 y16 y17 y18 y19)) ∧ (∀ y0 y1 y2 y3 y4 y5 y6 y7 y8 y9 y10 y11 y12 y13 y14 y15 y16 y17, LeO (ebbtidelaw21_Read.l1 k y0 y1 y2 y3 y4 y5 y6 y7 y8 y9 y10 y11 y12 y13 y14 y15 y16 y17) (ebbtidelaw21_Read.l1 (k + 1) y0 y1 y2 y3 y4 y5 y6 y7 y8 y9 y10 y11 y12 y13 y14 y15 y16 y17)) ∧ (∀ y0 y1 y2 y3 y4 y5 y6 y7 y8 y9 y10 y11 y12 y13 y14 y15 y16 y17 y18, LeO (ebbtidelaw21_Read.j3 k y0 y1 y2 y3 y4 y5 y6 y7 y8 y9 y10 y11 y12 y13 y14 y15 y16 y17 y18) (ebbtidelaw21_Read.j3 (k + 1) y0 y1 y2 y3 y4 y5 y6 y7 y8 y9 y10 y11 y12 y13 y14 y15 y16 y17 y18))
  | 0 => ⟨fun _ _ _ _ _ _ _ _ _ _ _ _ _ _ _ _ _ _ _ r h => by simp [ebbtidelaw21_Read.l0] at h, fun _ _ _ _ _ _ _ _ _ _ _ _ _ _ _ _ _ _ _ _ r h => by simp [ebbtidelaw21_Read.j1] at h, fun _ _ _ _ _ _ _ _ _ _ _ _ _ _ _ _ _ _ r h => by simp [ebbtidelaw21_Read.l1] at h, fun _ _ _ _ _ _ _ _ _ _ _ _ _ _ _ _ _ _ _ r h => by simp [ebbtidelaw21_Read.j3] at h⟩
  | k + 1 => by
    obtain ⟨ih0, ih1, ih2, ih3⟩ := ebbtidelaw21_Read.mono_l k
    refine ⟨?_, ?_, ?_, ?_⟩
    · intro y0 y1 y2 y3 y4 y5 y6 y7 y8 y9 y10 y11 y12 y13 y14 y15 y16 y17 y18
      unfold ebbtidelaw21_Read.l0
      repeat' first
      | (with_reducible exact ih0 _ _ _ _ _ _ _ _ _ _ _ _ _ _ _ _ _ _ _)
      | (with_reducible exact ih1 _ _ _ _ _ _ _ _ _ _ _ _ _ _ _ _ _ _ _ _)
      | (with_reducible exact ih2 _ _ _ _ _ _ _ _ _ _ _ _ _ _ _ _ _ _)
      | (with_reducible exact ih3 _ _ _ _ _ _ _ _ _ _ _ _ _ _ _ _ _ _ _)
      | (with_reducible exact ebbtidelaw12_Read.mono _ _ _ _ _ _ _ _)
      | (with_reducible exact ebbtideref21_Of.mono _ _ _)
      | (with_reducible exact LeO.refl _)
      | (with_reducible exact LeO.none _)
      | (with_reducible refine LeO.ite ?_ ?_)
      | (with_reducible refine LeO.bind ?_ (fun _ => ?_))
      | exact ih0 _ _ _ _ _ _ _ _ _ _ _ _ _ _ _ _ _ _ _
      | exact ih1 _ _ _ _ _ _ _ _ _ _ _ _ _ _ _ _ _ _ _ _
      | exact ih2 _ _ _ _ _ _ _ _ _ _ _ _ _ _ _ _ _ _
      | exact ih3 _ _ _ _ _ _ _ _ _ _ _ _ _ _ _ _ _ _ _
      | exact ebbtidelaw12_Read.mono _ _ _ _ _ _ _ _
      | exact ebbtideref21_Of.mono _ _ _
      | exact LeO.none _
      | refine LeO.ite ?_ ?_
      | refine LeO.bind ?_ (fun _ => ?_)
    · intro y0 y1 y2 y3 y4 y5 y6 y7 y8 y9 y10 y11 y12 y13 y14 y15 y16 y17 y18 y19
      unfold ebbtidelaw21_Read.j1
      repeat' first
      | (with_reducible exact ih0 _ _ _ _ _ _ _ _ _ _ _ _ _ _ _ _ _ _ _)
      | (with_reducible exact ih1 _ _ _ _ _ _ _ _ _ _ _ _ _ _ _ _ _ _ _ _)
      | (with_reducible exact ih2 _ _ _ _ _ _ _ _ _ _ _ _ _ _ _ _ _ _)
      | (with_reducible exact ih3 _ _ _ _ _ _ _ _ _ _ _ _ _ _ _ _ _ _ _)
      | (with_reducible exact ebbtidelaw12_Read.mono _ _ _ _ _ _ _ _)
      | (with_reducible exact ebbtideref21_Of.mono _ _ _)
      | (with_reducible exact LeO.refl _)
      | (with_reducible exact LeO.none _)
      | (with_reducible refine LeO.ite ?_ ?_)
      | (with_reducible refine LeO.bind ?_ (fun _ => ?_))
      | exact ih0 _ _ _ _ _ _ _ _ _ _ _ _ _ _ _ _ _ _ _
      | exact ih1 _ _ _ _ _ _ _ _ _ _ _ _ _ _ _ _ _ _ _ _
      | exact ih2 _ _ _ _ _ _ _ _ _ _ _ _ _ _ _ _ _ _
      | exact ih3 _ _ _ _ _ _ _ _ _ _ _ _ _ _ _ _ _ _ _
      | exact ebbtidelaw12_Read.mono _ _ _ _ _ _ _ _
      | exact ebbtideref21_Of.mono _ _ _
      | exact LeO.none _
      | refine LeO.ite ?_ ?_
      | refine LeO.bind ?_ (fun _ => ?_)
    · intro y0 y1 y2 y3 y4 y5 y6 y7 y8 y9 y10 y11 y12 y13 y14 y15 y16 y17
      unfold ebbtidelaw21_Read.l1
      repeat' first
      | (with_reducible exact ih0 _ _ _ _ _ _ _ _ _ _ _ _ _ _ _ _ _ _ _)
      | (with_reducible exact ih1 _ _ _ _ _ _ _ _ _ _ _ _ _ _ _ _ _ _ _ _)
      | (with_reducible exact ih2 _ _ _ _ _ _ _ _ _ _ _ _ _ _ _ _ _ _)
      | (with_reducible exact ih3 _ _ _ _ _ _ _ _ _ _ _ _ _ _ _ _ _ _ _)
      | (with_reducible exact ebbtidelaw12_Read.mono _ _ _ _ _ _ _ _)
      | (with_reducible exact ebbtideref21_Of.mono _ _ _)
      | (with_reducible exact LeO.refl _)
      | (with_reducible exact LeO.none _)
      | (with_reducible refine LeO.ite ?_ ?_)
      | (with_reducible refine LeO.bind ?_ (fun _ => ?_))
      | exact ih0 _ _ _ _ _ _ _ _ _ _ _ _ _ _ _ _ _ _ _
      | exact ih1 _ _ _ _ _ _ _ _ _ _ _ _ _ _ _ _ _ _ _ _
      | exact ih2 _ _ _ _ _ _ _ _ _ _ _ _ _ _ _ _ _ _
      | exact ih3 _ _ _ _ _ _ _ _ _ _ _ _ _ _ _ _ _ _ _
      | exact ebbtidelaw12_Read.mono _ _ _ _ _ _ _ _
      | exact ebbtideref21_Of.mono _ _ _
      | exact LeO.none _
      | refine LeO.ite ?_ ?_
      | refine LeO.bind ?_ (fun _ => ?_)
    · intro y0 y1 y2 y3 y4 y5 y6 y7 y8 y9 y10 y11 y12 y13 y14 y15 y16 y17 y18
      unfold ebbtidelaw21_Read.j3
      repeat' first
      | (with_reducible exact ih0 _ _ _ _ _ _ _ _ _ _ _ _ _ _ _ _ _ _ _)
      | (with_reducible exact ih1 _ _ _ _ _ _ _ _ _ _ _ _ _ _ _ _ _ _ _ _)
      | (with_reducible exact ih2 _ _ _ _ _ _ _ _ _ _ _ _ _ _ _ _ _ _)
      | (with_reducible exact ih3 _ _ _ _ _ _ _ _ _ _ _ _ _ _ _ _ _ _ _)
      | (with_reducible exact ebbtidelaw12_Read.mono _ _ _ _ _ _ _ _)
      | (with_reducible exact ebbtideref21_Of.mono _ _ _)
      | (with_reducible exact LeO.refl _)
      | (with_reducible exact LeO.none _)
      | (with_reducible refine LeO.ite ?_ ?_)
      | (with_reducible refine LeO.bind ?_ (fun _ => ?_))
      | exact ih0 _ _ _ _ _ _ _ _ _ _ _ _ _ _ _ _ _ _ _
      | exact ih1 _ _ _ _ _ _ _ _ _ _ _ _ _ _ _ _ _ _ _ _
      | exact ih2 _ _ _ _ _ _ _ _ _ _ _ _ _ _ _ _ _ _
      | exact ih3 _ _ _ _ _ _ _ _ _ _ _ _ _ _ _ _ _ _ _
      | exact ebbtidelaw12_Read.mono _ _ _ _ _ _ _ _
      | exact ebbtideref21_Of.mono _ _ _
      | exact LeO.none _
      | refine LeO.ite ?_ ?_
      | refine LeO.bind ?_ (fun _ => ?_)
set_option maxHeartbeats 8000000 in
set_option maxRecDepth 100000 in
theorem ebbtidelaw21_Read.calls (k : Nat) (a0_0 : Int) (a0_1 : Bool) (A0_2 : Option Addr) (c0_2 : Nat) (l0_2 : List (S77)) (a0_3 : Int) (a0_4 : Int) (a0_5 : Int) (A0_6 : Option Addr) (c0_6 : Nat) (l0_6 : List Int) (A0_7 : Option Addr) (c0_7 : Nat) (l0_7 : List Int) (A0_8 : Option Addr) (c0_8 : Nat) (l0_8 : List (S101)) (A0_9 : Option Addr) (c0_9 : Nat) (l0_9 : List Int) (a1 : Int) (r1 : Int) (r2 : Bool) (r3 : List (S79)) (r4 : List (S44)) (r5 : List (S44)) (r6 : Int) (w : World) (hr0_2 : Kd.C k77 w A0_2 l0_2.length l0_2) (hc0_2 : l0_2.length ≤ c0_2) (hr0_6 : Kd.C (Kd.int .u8) w A0_6 l0_6.length l0_6) (hc0_6 : l0_6.length ≤ c0_6) (hr0_7 : Kd.C (Kd.int .u8) w A0_7 l0_7.length l0_7) (hc0_7 : l0_7.length ≤ c0_7) (hr0_8 : Kd.C k101 w A0_8 l0_8.length l0_8) (hc0_8 : l0_8.length ≤ c0_8) (hr0_9 : Kd.C (Kd.int .u16) w A0_9 l0_9.length l0_9) (hc0_9 : l0_9.length ≤ c0_9) (h : ebbtidelaw21_Read.f k a0_0 a0_1 l0_2 a0_3 a0_4 a0_5 l0_6 l0_7 l0_8 l0_9 a1 = some (r1, r2, r3, r4, r5, r6)) :
    Calls Try.prog 10 #[.agg #[.int .u8 a0_0, .bool a0_1, .slice A0_2 l0_2.length c0_2, .int .u8 a0_3, .int .u8 a0_4, .int .u8 a0_5, .slice A0_6 l0_6.length c0_6, .slice A0_7 l0_7.length c0_7, .slice A0_8 l0_8.length c0_8, .slice A0_9 l0_9.length c0_9], .int .i64 a1] w fun e w' => ∃ v2_ v3_ v4_ : Value, e = .returned (.tuple #[.agg #[.int .i64 r1, .bool r2, v2_], v3_, v4_, .int .i64 r6]) ∧ Kd.R k79 79 w' w.heap.size (fun _ => True) v2_ r3 ∧ Kd.R k44 44 w' w.heap.size (fun k_ => some k_ ≠ (v4_ : Value).ownBlock) v3_ r4 ∧ Kd.R k44 44 w' w.heap.size (fun k_ => some k_ ≠ (v3_ : Value).ownBlock) v4_ r5 ∧ Below w.heap.size w w' := by
  have hu29 := Try.underlying29
  have hu32 := Try.underlying32
  have hu24 := Try.underlying24
  have hu44 := Try.underlying44
  have HR0_2 := Aside0.mk hr0_2
  have HC0_2 := Aside0.mk hc0_2
  clear hr0_2 hc0_2
  have HR0_6 := Aside0.mk hr0_6
  have HC0_6 := Aside0.mk hc0_6
  clear hr0_6 hc0_6
  have HR0_7 := Aside0.mk hr0_7
  have HC0_7 := Aside0.mk hc0_7
  clear hr0_7 hc0_7
  have HR0_8 := Aside0.mk hr0_8
  have HC0_8 := Aside0.mk hc0_8
  clear hr0_8 hc0_8
  have HR0_9 := Aside0.mk hr0_9
  have HC0_9 := Aside0.mk hc0_9
  clear hr0_9 hc0_9
  have HB := Aside0.mk (Below.refl w.heap.size w)
  have H : ((ebbtidelaw12_Read.f k a0_0 a0_1 l0_2 a0_3 a0_4 a0_5 a1).bind fun bt268 => (ebbtidelaw21_Read.l0 k bt268.2.2.2.1 bt268.2.2.2.2.1 bt268.2.2.2.2.2 (([(⟨bt268.2.2.2.1, 0⟩ : S44)] : List (S44))) (([(⟨bt268.2.2.2.2.1, 0⟩ : S44)] : List (S44))) 0 a0_0 a0_1 l0_2 a0_3 a0_4 a0_5 l0_6 l0_7 l0_8 l0_9 bt268.1 bt268.2.1 bt268.2.2.1)) = some (r1, r2, r3, r4, r5, r6) := h
  clear h
  replace H := Option.bind_eq_some_iff.mp H
  obtain ⟨⟨t268, t269, t270, t273, t274, t275⟩, A30, H⟩ := H
  replace H : (ebbtidelaw21_Read.l0 k t273 t274 t275 (([(⟨t273, 0⟩ : S44)] : List (S44))) (([(⟨t274, 0⟩ : S44)] : List (S44))) 0 a0_0 a0_1 l0_2 a0_3 a0_4 a0_5 l0_6 l0_7 l0_8 l0_9 t268 t269 t270) = some (r1, r2, r3, r4, r5, r6) := H
  have A3 := Aside0.mk A30
  clear A30
  obtain ⟨y277, hy277⟩ : ∃ y_ : List (S44), y_ = (([(⟨t273, 0⟩ : S44)] : List (S44))) := ⟨_, rfl⟩
  replace H : (ebbtidelaw21_Read.l0 k t273 t274 t275 y277 (([(⟨t274, 0⟩ : S44)] : List (S44))) 0 a0_0 a0_1 l0_2 a0_3 a0_4 a0_5 l0_6 l0_7 l0_8 l0_9 t268 t269 t270) = some (r1, r2, r3, r4, r5, r6) := by first | (rw [hy277]; with_reducible exact H) | (have H2_ := (Option.bind_some _ _).symm.trans H; rw [hy277]; with_reducible exact H2_) | (have H2_ := (Option.bind_some _ _).symm.trans H; with_reducible exact H2_) | with_reducible exact H | (rw [hy277]; exact H) | exact H
  have Ny277 := Aside0.mk hy277
  clear hy277
  obtain ⟨y280, hy280⟩ : ∃ y_ : List (S44), y_ = (([(⟨t274, 0⟩ : S44)] : List (S44))) := ⟨_, rfl⟩
  replace H : (ebbtidelaw21_Read.l0 k t273 t274 t275 y277 y280 0 a0_0 a0_1 l0_2 a0_3 a0_4 a0_5 l0_6 l0_7 l0_8 l0_9 t268 t269 t270) = some (r1, r2, r3, r4, r5, r6) := by first | (rw [hy280]; with_reducible exact H) | (have H2_ := (Option.bind_some _ _).symm.trans H; rw [hy280]; with_reducible exact H2_) | (have H2_ := (Option.bind_some _ _).symm.trans H; with_reducible exact H2_) | with_reducible exact H | (rw [hy280]; exact H) | exact H
  have Ny280 := Aside0.mk hy280
  clear hy280
  have H' := Aside0.mk H
  clear H
  go_enter Try.func10, Try.ntmps10
  go_wp2_with (first | ((with_reducible refine gate_dst (N := 2) rfl ?_); refine box_event ?hg (N := 2) ?hd (cs := #[.int .u8 a0_0, .bool a0_1, .slice A0_2 l0_2.length c0_2, .int .u8 a0_3, .int .u8 a0_4, .int .u8 a0_5, .slice A0_6 l0_6.length c0_6, .slice A0_7 l0_7.length c0_7, .slice A0_8 l0_8.length c0_8, .slice A0_9 l0_9.length c0_9]) (t := 29) ?hr ?_; (case hd => rfl); (case hg => rfl); (case hr => first | (go_simp; done) | (go_simp; rfl)); intro gb266 hg w4 hbox hb; have n0_ := Aside0.mk (below_step (by repeat (first | (with_reducible first | exact HB.out | apply below_alloc | apply pw_below_drewN | apply below_drew1) | exact HB.out)) hb); have n1_ := Aside0.mk (hbox); have n2_ := Aside0.mk ((by rw [hg]; exact (below_size (by repeat (first | (with_reducible first | exact HB.out | apply below_alloc | apply pw_below_drewN | apply below_drew1) | exact HB.out))) : w.heap.size ≤ gb266)); have n3_ := Aside0.mk ((by rw [hg]; exact (below_size (by repeat (first | (with_reducible first | exact HB.out | apply below_alloc | apply pw_below_drewN | apply below_drew1) | exact HB.out))) : w.heap.size ≤ gb266)); clear HB; have HB := n0_; have BK266 := n1_; have GW266 := n2_; have GE266 := n3_; clear n0_ n1_ n2_ n3_; clear hb hbox hg) | ((with_reducible refine gate_dst (N := 4) rfl ?_); refine box_event ?hg (N := 4) ?hd (cs := #[.int .i64 0, .bool false, .slice none 0 0]) (t := 32) ?hr ?_; (case hd => rfl); (case hg => rfl); (case hr => first | (go_simp; done) | (go_simp; rfl)); intro gb267 hg w5 hbox hb; have n0_ := Aside0.mk (blk_below (g := gb266) (o := .cells #[.int .u8 a0_0, .bool a0_1, .slice A0_2 l0_2.length c0_2, .int .u8 a0_3, .int .u8 a0_4, .int .u8 a0_5, .slice A0_6 l0_6.length c0_6, .slice A0_7 l0_7.length c0_7, .slice A0_8 l0_8.length c0_8, .slice A0_9 l0_9.length c0_9] 29 (0, 0)) (by (with_reducible repeat (first | refine blk_drewN ?_ _ | refine blk_drew ?_ | refine blk_alloc ?_ _)); exact BK266.out) hb); have n1_ := Aside0.mk (below_step (by repeat (first | (with_reducible first | exact HB.out | apply below_alloc | apply pw_below_drewN | apply below_drew1 | refine below_set ?_ GE266.out) | exact HB.out)) hb); have n2_ := Aside0.mk (hbox); have n3_ := Aside0.mk ((by rw [hg]; exact (below_size (by repeat (first | (with_reducible first | exact HB.out | apply below_alloc | apply pw_below_drewN | apply below_drew1 | refine below_set ?_ GE266.out) | exact HB.out))) : w.heap.size ≤ gb267)); have n4_ := Aside0.mk ((by rw [hg]; exact (below_size (by repeat (first | (with_reducible first | exact HB.out | apply below_alloc | apply pw_below_drewN | apply below_drew1 | refine below_set ?_ GE266.out) | exact HB.out))) : w.heap.size ≤ gb267)); have n5_ := Aside0.mk ((by rw [hg]; exact Nat.ne_of_lt (blk_lt (g := gb266) (o := .cells #[.int .u8 a0_0, .bool a0_1, .slice A0_2 l0_2.length c0_2, .int .u8 a0_3, .int .u8 a0_4, .int .u8 a0_5, .slice A0_6 l0_6.length c0_6, .slice A0_7 l0_7.length c0_7, .slice A0_8 l0_8.length c0_8, .slice A0_9 l0_9.length c0_9] 29 (0, 0)) (by (with_reducible repeat (first | refine blk_drewN ?_ _ | refine blk_drew ?_ | refine blk_alloc ?_ _)); exact BK266.out)) : gb266 ≠ gb267)); have n6_ := Aside0.mk ((by rw [hg]; exact Nat.ne_of_gt (blk_lt (g := gb266) (o := .cells #[.int .u8 a0_0, .bool a0_1, .slice A0_2 l0_2.length c0_2, .int .u8 a0_3, .int .u8 a0_4, .int .u8 a0_5, .slice A0_6 l0_6.length c0_6, .slice A0_7 l0_7.length c0_7, .slice A0_8 l0_8.length c0_8, .slice A0_9 l0_9.length c0_9] 29 (0, 0)) (by (with_reducible repeat (first | refine blk_drewN ?_ _ | refine blk_drew ?_ | refine blk_alloc ?_ _)); exact BK266.out)) : gb267 ≠ gb266)); clear BK266; clear HB; have BK266 := n0_; have HB := n1_; have BK267 := n2_; have GW267 := n3_; have GE267 := n4_; have NB266_267 := n5_; have NB267_266 := n6_; clear n0_ n1_ n2_ n3_ n4_ n5_ n6_; clear hb hbox hg; have hnb6 := NB266_267.out; have hnc6 := NB267_266.out; have hcz7_0 : w5.cell? ⟨gb266, 0, none⟩ = some (.int .u8 a0_0) := (blk_cell BK266.out 0).trans rfl; have hcz7_1 : w5.cell? ⟨gb266, 1, none⟩ = some (.bool a0_1) := (blk_cell BK266.out 1).trans rfl; have hcz7_2 : w5.cell? ⟨gb266, 2, none⟩ = some (.slice A0_2 l0_2.length c0_2) := (blk_cell BK266.out 2).trans rfl; have hcz7_3 : w5.cell? ⟨gb266, 3, none⟩ = some (.int .u8 a0_3) := (blk_cell BK266.out 3).trans rfl; have hcz7_4 : w5.cell? ⟨gb266, 4, none⟩ = some (.int .u8 a0_4) := (blk_cell BK266.out 4).trans rfl; have hcz7_5 : w5.cell? ⟨gb266, 5, none⟩ = some (.int .u8 a0_5) := (blk_cell BK266.out 5).trans rfl; have hcz7_6 : w5.cell? ⟨gb266, 6, none⟩ = some (.slice A0_6 l0_6.length c0_6) := (blk_cell BK266.out 6).trans rfl; have hcz7_7 : w5.cell? ⟨gb266, 7, none⟩ = some (.slice A0_7 l0_7.length c0_7) := (blk_cell BK266.out 7).trans rfl; have hcz7_8 : w5.cell? ⟨gb266, 8, none⟩ = some (.slice A0_8 l0_8.length c0_8) := (blk_cell BK266.out 8).trans rfl; have hcz7_9 : w5.cell? ⟨gb266, 9, none⟩ = some (.slice A0_9 l0_9.length c0_9) := (blk_cell BK266.out 9).trans rfl; have hfz7_0 := blk_frozen BK266.out 0; have hfz7_1 := blk_frozen BK266.out 1; have hfz7_2 := blk_frozen BK266.out 2; have hfz7_3 := blk_frozen BK266.out 3; have hfz7_4 := blk_frozen BK266.out 4; have hfz7_5 := blk_frozen BK266.out 5; have hfz7_6 := blk_frozen BK266.out 6; have hfz7_7 := blk_frozen BK266.out 7; have hfz7_8 := blk_frozen BK266.out 8; have hfz7_9 := blk_frozen BK266.out 9) | ((with_reducible refine gate_callee (f := 16) rfl ?_); refine goesL_ (some 24) rfl rfl Try.func16 (by kernel_rfl) rfl #[.agg #[.int .u8 a0_0, .bool a0_1, .slice A0_2 l0_2.length c0_2, .int .u8 a0_3, .int .u8 a0_4, .int .u8 a0_5], .int .i64 a1] rfl (by (try simp only [List.map_toArray, List.map_cons, List.map_nil]); first | done | rfl | (simp only [List.length_drop, List.length_take]; rfl)) ?_; (with_reducible refine (ebbtidelaw12_Read.calls k a0_0 a0_1 _ _ l0_2 a0_3 a0_4 a0_5 a1 t268 t269 t270 t273 t274 t275 _ ?side1 ?side2 A3.out).mono ?_); (case side1 => repeat (first | exact (Kd.C_below HR0_2.out HB.out) | (with_reducible refine Kd.C_alloc ?_ _) | (with_reducible refine Kd.C_drewN ?_ _) | (with_reducible refine Kd.C_drew ?_))); (case side2 => exact HC0_2.out); rintro e w8 ⟨v271, rfl, ho0, hb⟩; refine ⟨_, rfl, ?_⟩; have n0_ := Aside0.mk (Kd.R_lower ho0 (below_size (by repeat (first | (with_reducible first | exact HB.out | apply below_alloc | apply pw_below_drewN | apply below_drew1 | refine below_set ?_ GE266.out | refine below_set ?_ GE267.out) | exact HB.out)))); have n1_ := Aside0.mk (blk_below (g := gb266) (o := .cells #[.int .u8 a0_0, .bool a0_1, .slice A0_2 l0_2.length c0_2, .int .u8 a0_3, .int .u8 a0_4, .int .u8 a0_5, .slice A0_6 l0_6.length c0_6, .slice A0_7 l0_7.length c0_7, .slice A0_8 l0_8.length c0_8, .slice A0_9 l0_9.length c0_9] 29 (0, 0)) (by (with_reducible repeat (first | refine blk_drewN ?_ _ | refine blk_drew ?_ | refine blk_alloc ?_ _)); exact BK266.out) hb); have n2_ := Aside0.mk (blk_below (g := gb267) (o := .cells #[.int .i64 0, .bool false, .slice none 0 0] 32 (0, 0)) (by (with_reducible repeat (first | refine blk_drewN ?_ _ | refine blk_drew ?_ | refine blk_alloc ?_ _)); exact BK267.out) hb); have n3_ := Aside0.mk (below_step (by repeat (first | (with_reducible first | exact HB.out | apply below_alloc | apply pw_below_drewN | apply below_drew1 | refine below_set ?_ GE266.out | refine below_set ?_ GE267.out) | exact HB.out)) hb); clear BK266; clear BK267; clear HB; have HO272 := n0_; have BK266 := n1_; have BK267 := n2_; have HB := n3_; clear n0_ n1_ n2_ n3_; (try clear hb); (try clear hb2); (try clear hk); (try clear hi); (try clear ho0)) | ((with_reducible refine gate_dst (N := 8) rfl ?_); refine box_event ?hg (N := 8) ?hd (cs := #[.int .i64 0, .bool false, .slice none 0 0]) (t := 32) ?hr ?_; (case hd => rfl); (case hg => rfl); (case hr => first | (go_simp; done) | (go_simp; rfl)); intro gb276 hg w9 hbox hb; have n0_ := Aside0.mk (Kd.R_below (by (with_reducible repeat (first | apply Kd.R_alloc | apply Kd.R_drewN | apply Kd.R_drew)); exact HO272.out) hb); have n1_ := Aside0.mk (blk_below (g := gb266) (o := .cells #[.int .u8 a0_0, .bool a0_1, .slice A0_2 l0_2.length c0_2, .int .u8 a0_3, .int .u8 a0_4, .int .u8 a0_5, .slice A0_6 l0_6.length c0_6, .slice A0_7 l0_7.length c0_7, .slice A0_8 l0_8.length c0_8, .slice A0_9 l0_9.length c0_9] 29 (0, 0)) (by (with_reducible repeat (first | refine blk_drewN ?_ _ | refine blk_drew ?_ | refine blk_alloc ?_ _)); exact BK266.out) hb); have n2_ := Aside0.mk (blk_below (g := gb267) (o := .cells #[.int .i64 0, .bool false, .slice none 0 0] 32 (0, 0)) (by (with_reducible repeat (first | refine blk_drewN ?_ _ | refine blk_drew ?_ | refine blk_alloc ?_ _)); exact BK267.out) hb); have n3_ := Aside0.mk (below_step (by repeat (first | (with_reducible first | exact HB.out | apply below_alloc | apply pw_below_drewN | apply below_drew1 | refine below_set ?_ GE266.out | refine below_set ?_ GE267.out) | exact HB.out)) hb); have n4_ := Aside0.mk (hbox); have n5_ := Aside0.mk ((by rw [hg]; exact (below_size (by repeat (first | (with_reducible first | exact HB.out | apply below_alloc | apply pw_below_drewN | apply below_drew1 | refine below_set ?_ GE266.out | refine below_set ?_ GE267.out) | exact HB.out))) : w.heap.size ≤ gb276)); have n6_ := Aside0.mk ((by rw [hg]; exact (below_size (by repeat (first | (with_reducible first | exact HB.out | apply below_alloc | apply pw_below_drewN | apply below_drew1 | refine below_set ?_ GE266.out | refine below_set ?_ GE267.out) | exact HB.out))) : w.heap.size ≤ gb276)); have n7_ := Aside0.mk ((by rw [hg]; exact Nat.ne_of_lt (blk_lt (g := gb266) (o := .cells #[.int .u8 a0_0, .bool a0_1, .slice A0_2 l0_2.length c0_2, .int .u8 a0_3, .int .u8 a0_4, .int .u8 a0_5, .slice A0_6 l0_6.length c0_6, .slice A0_7 l0_7.length c0_7, .slice A0_8 l0_8.length c0_8, .slice A0_9 l0_9.length c0_9] 29 (0, 0)) (by (with_reducible repeat (first | refine blk_drewN ?_ _ | refine blk_drew ?_ | refine blk_alloc ?_ _)); exact BK266.out)) : gb266 ≠ gb276)); have n8_ := Aside0.mk ((by rw [hg]; exact Nat.ne_of_gt (blk_lt (g := gb266) (o := .cells #[.int .u8 a0_0, .bool a0_1, .slice A0_2 l0_2.length c0_2, .int .u8 a0_3, .int .u8 a0_4, .int .u8 a0_5, .slice A0_6 l0_6.length c0_6, .slice A0_7 l0_7.length c0_7, .slice A0_8 l0_8.length c0_8, .slice A0_9 l0_9.length c0_9] 29 (0, 0)) (by (with_reducible repeat (first | refine blk_drewN ?_ _ | refine blk_drew ?_ | refine blk_alloc ?_ _)); exact BK266.out)) : gb276 ≠ gb266)); have n9_ := Aside0.mk ((by rw [hg]; exact Nat.ne_of_lt (blk_lt (g := gb267) (o := .cells #[.int .i64 0, .bool false, .slice none 0 0] 32 (0, 0)) (by (with_reducible repeat (first | refine blk_drewN ?_ _ | refine blk_drew ?_ | refine blk_alloc ?_ _)); exact BK267.out)) : gb267 ≠ gb276)); have n10_ := Aside0.mk ((by rw [hg]; exact Nat.ne_of_gt (blk_lt (g := gb267) (o := .cells #[.int .i64 0, .bool false, .slice none 0 0] 32 (0, 0)) (by (with_reducible repeat (first | refine blk_drewN ?_ _ | refine blk_drew ?_ | refine blk_alloc ?_ _)); exact BK267.out)) : gb276 ≠ gb267)); clear HO272; clear BK266; clear BK267; clear HB; have HO272 := n0_; have BK266 := n1_; have BK267 := n2_; have HB := n3_; have BK276 := n4_; have GW276 := n5_; have GE276 := n6_; have NB266_276 := n7_; have NB276_266 := n8_; have NB267_276 := n9_; have NB276_267 := n10_; clear n0_ n1_ n2_ n3_ n4_ n5_ n6_ n7_ n8_ n9_ n10_; clear hb hbox hg; have hnb10 := NB276_266.out; have hnc10 := NB266_276.out; have hnb11 := NB276_267.out; have hnc11 := NB267_276.out; have hcz12_0 : w9.cell? ⟨gb276, 0, none⟩ = some (.int .i64 0) := (blk_cell BK276.out 0).trans rfl; have hcz12_1 : w9.cell? ⟨gb276, 1, none⟩ = some (.bool false) := (blk_cell BK276.out 1).trans rfl; have hcz12_2 : w9.cell? ⟨gb276, 2, none⟩ = some (.slice none 0 0) := (blk_cell BK276.out 2).trans rfl; have hfz12_0 := blk_frozen BK276.out 0; have hfz12_1 := blk_frozen BK276.out 1; have hfz12_2 := blk_frozen BK276.out 2; obtain ⟨Ao13, co13, eo13⟩ := Kd.R_slice HO272.out; subst eo13) | ((with_reducible refine gate_dst (N := 31) rfl ?_); refine Kd.R_lit k44 _ 44 ?hg (N := 31) ?hd (xs := ([(⟨t273, 0⟩ : S44)] : List (S44))) (inner := [.int .i64 t273, .int .i64 0]) (ok := fun _ => True) (okp := fun _ => True) ?hr ?hp (fun _ hk => hk) trivial (Below.refl _ _) (Nat.le_refl _) (by simp) ?_; (case hd => rfl); (case hg => rfl); (case hr => first | (go_simp; done) | (go_simp; rfl)); (case hp => exact (Reps.c2 (show Kd.M k44 _ _ _ (⟨t273, 0⟩ : S44) [.int .i64 t273, .int .i64 0] from (k44_mkM _ _ _ (⟨t273, 0⟩ : S44) )) (Reps.none _ _))); intro v278 w14 ho15 hb hg_ hnew_; clear hg_ hnew_; (first | rw [← Ny277.out] at ho15 | (simp only [Int.reduceToNat] at ho15; rw [← Ny277.out] at ho15)); have n0_ := Aside0.mk (Kd.R_below (by (with_reducible repeat (first | apply Kd.R_alloc | apply Kd.R_drewN | apply Kd.R_drew)); exact (Kd.R_mono (Kd.R_far (p := ⟨gb276, 2, none⟩) (Kd.R_far (p := ⟨gb276, 1, none⟩) (Kd.R_far (p := ⟨gb276, 0, none⟩) (Kd.R_types HO272.out BK276.out (by decide)) (fun _ hk => hk.2) (.int .i64 t268)) (fun _ hk => hk.2) (.bool t269)) (fun _ hk => hk.2) (.slice Ao13 t270.length co13)) (fun _ h_ => h_.1))) hb); have n1_ := Aside0.mk (Kd.R_lower ho15 (below_size (by repeat (first | (with_reducible first | exact HB.out | apply below_alloc | apply pw_below_drewN | apply below_drew1 | refine below_set ?_ GE266.out | refine below_set ?_ GE267.out | refine below_set ?_ GE276.out) | exact HB.out)))); have n2_ := Aside0.mk (blk_below (g := gb266) (o := .cells #[.int .u8 a0_0, .bool a0_1, .slice A0_2 l0_2.length c0_2, .int .u8 a0_3, .int .u8 a0_4, .int .u8 a0_5, .slice A0_6 l0_6.length c0_6, .slice A0_7 l0_7.length c0_7, .slice A0_8 l0_8.length c0_8, .slice A0_9 l0_9.length c0_9] 29 (0, 0)) (by (with_reducible repeat (first | refine blk_drewN ?_ _ | refine blk_drew ?_ | refine blk_alloc ?_ _)); refine blk_far ?_ NB266_276.out _; (with_reducible repeat (first | refine blk_drewN ?_ _ | refine blk_drew ?_ | refine blk_alloc ?_ _)); refine blk_far ?_ NB266_276.out _; (with_reducible repeat (first | refine blk_drewN ?_ _ | refine blk_drew ?_ | refine blk_alloc ?_ _)); refine blk_far ?_ NB266_276.out _; (with_reducible repeat (first | refine blk_drewN ?_ _ | refine blk_drew ?_ | refine blk_alloc ?_ _)); exact BK266.out) hb); have n3_ := Aside0.mk (blk_below (g := gb267) (o := .cells #[.int .i64 0, .bool false, .slice none 0 0] 32 (0, 0)) (by (with_reducible repeat (first | refine blk_drewN ?_ _ | refine blk_drew ?_ | refine blk_alloc ?_ _)); refine blk_far ?_ NB267_276.out _; (with_reducible repeat (first | refine blk_drewN ?_ _ | refine blk_drew ?_ | refine blk_alloc ?_ _)); refine blk_far ?_ NB267_276.out _; (with_reducible repeat (first | refine blk_drewN ?_ _ | refine blk_drew ?_ | refine blk_alloc ?_ _)); refine blk_far ?_ NB267_276.out _; (with_reducible repeat (first | refine blk_drewN ?_ _ | refine blk_drew ?_ | refine blk_alloc ?_ _)); exact BK267.out) hb); have n4_ := Aside0.mk (blk_below (g := gb276) (o := .cells #[.int .i64 t268, .bool t269, .slice Ao13 t270.length co13] 32 (0, 0)) (by (with_reducible repeat (first | refine blk_drewN ?_ _ | refine blk_drew ?_ | refine blk_alloc ?_ _)); refine blk_put (cs := #[.int .i64 t268, .bool t269, .slice none 0 0]) ?_ 2 _ rfl; (with_reducible repeat (first | refine blk_drewN ?_ _ | refine blk_drew ?_ | refine blk_alloc ?_ _)); refine blk_put (cs := #[.int .i64 t268, .bool false, .slice none 0 0]) ?_ 1 _ rfl; (with_reducible repeat (first | refine blk_drewN ?_ _ | refine blk_drew ?_ | refine blk_alloc ?_ _)); refine blk_put (cs := #[.int .i64 0, .bool false, .slice none 0 0]) ?_ 0 _ rfl; (with_reducible repeat (first | refine blk_drewN ?_ _ | refine blk_drew ?_ | refine blk_alloc ?_ _)); exact BK276.out) hb); have n5_ := Aside0.mk (below_step (by repeat (first | (with_reducible first | exact HB.out | apply below_alloc | apply pw_below_drewN | apply below_drew1 | refine below_set ?_ GE266.out | refine below_set ?_ GE267.out | refine below_set ?_ GE276.out) | exact HB.out)) hb); clear HO272; clear BK266; clear BK267; clear BK276; clear HB; have HO272 := n0_; have HO279 := n1_; have BK266 := n2_; have BK267 := n3_; have BK276 := n4_; have HB := n5_; clear n0_ n1_ n2_ n3_ n4_ n5_; clear hb ho15) | ((with_reducible refine gate_dst (N := 34) rfl ?_); refine Kd.R_lit k44 _ 44 ?hg (N := 34) ?hd (xs := ([(⟨t274, 0⟩ : S44)] : List (S44))) (inner := [.int .i64 t274, .int .i64 0]) (ok := fun _ => True) (okp := fun _ => True) ?hr ?hp (fun _ hk => hk) trivial (Below.refl _ _) (Nat.le_refl _) (by simp) ?_; (case hd => rfl); (case hg => rfl); (case hr => first | (go_simp; done) | (go_simp; rfl)); (case hp => exact (Reps.c2 (show Kd.M k44 _ _ _ (⟨t274, 0⟩ : S44) [.int .i64 t274, .int .i64 0] from (k44_mkM _ _ _ (⟨t274, 0⟩ : S44) )) (Reps.none _ _))); intro v281 w16 ho17 hb hg_ hnew_; clear hg_ hnew_; (first | rw [← Ny280.out] at ho17 | (simp only [Int.reduceToNat] at ho17; rw [← Ny280.out] at ho17)); have n0_ := Aside0.mk (Kd.R_below (by (with_reducible repeat (first | apply Kd.R_alloc | apply Kd.R_drewN | apply Kd.R_drew)); exact HO272.out) hb); have n1_ := Aside0.mk (Kd.R_elder' (by (with_reducible repeat (first | apply Kd.R_alloc | apply Kd.R_drewN | apply Kd.R_drew)); exact HO279.out) (Kd.R_base ho17) hb); have n2_ := Aside0.mk (Kd.R_lower (Kd.R_new' ho17 (Kd.R_lt (by (with_reducible repeat (first | apply Kd.R_alloc | apply Kd.R_drewN | apply Kd.R_drew)); exact HO279.out))) (below_size (by repeat (first | (with_reducible first | exact HB.out | apply below_alloc | apply pw_below_drewN | apply below_drew1 | refine below_set ?_ GE266.out | refine below_set ?_ GE267.out | refine below_set ?_ GE276.out) | exact HB.out)))); have n3_ := Aside0.mk (blk_below (g := gb266) (o := .cells #[.int .u8 a0_0, .bool a0_1, .slice A0_2 l0_2.length c0_2, .int .u8 a0_3, .int .u8 a0_4, .int .u8 a0_5, .slice A0_6 l0_6.length c0_6, .slice A0_7 l0_7.length c0_7, .slice A0_8 l0_8.length c0_8, .slice A0_9 l0_9.length c0_9] 29 (0, 0)) (by (with_reducible repeat (first | refine blk_drewN ?_ _ | refine blk_drew ?_ | refine blk_alloc ?_ _)); exact BK266.out) hb); have n4_ := Aside0.mk (blk_below (g := gb267) (o := .cells #[.int .i64 0, .bool false, .slice none 0 0] 32 (0, 0)) (by (with_reducible repeat (first | refine blk_drewN ?_ _ | refine blk_drew ?_ | refine blk_alloc ?_ _)); exact BK267.out) hb); have n5_ := Aside0.mk (blk_below (g := gb276) (o := .cells #[.int .i64 t268, .bool t269, .slice Ao13 t270.length co13] 32 (0, 0)) (by (with_reducible repeat (first | refine blk_drewN ?_ _ | refine blk_drew ?_ | refine blk_alloc ?_ _)); exact BK276.out) hb); have n6_ := Aside0.mk (below_step (by repeat (first | (with_reducible first | exact HB.out | apply below_alloc | apply pw_below_drewN | apply below_drew1 | refine below_set ?_ GE266.out | refine below_set ?_ GE267.out | refine below_set ?_ GE276.out) | exact HB.out)) hb); clear HO272; clear HO279; clear BK266; clear BK267; clear BK276; clear HB; have HO272 := n0_; have HO279 := n1_; have HO282 := n2_; have BK266 := n3_; have BK267 := n4_; have BK276 := n5_; have HB := n6_; clear n0_ n1_ n2_ n3_ n4_ n5_ n6_; clear hb ho17))
  go_loopg [12, 14] k (fun kq v12 v14 w' => ∃ (x12_1 : List (S44)) (x13_1 : List (S44)) (x14_1 : Int), v14 = .int .i64 x14_1 ∧ Aside0 (ebbtidelaw21_Read.l0 kq t273 t274 t275 x12_1 x13_1 x14_1 a0_0 a0_1 l0_2 a0_3 a0_4 a0_5 l0_6 l0_7 l0_8 l0_9 t268 t269 t270 = some (r1, r2, r3, r4, r5, r6)) ∧ Aside0 (kq ≤ k) ∧ Aside0 (Kd.R k44 44 w' w.heap.size (fun k_ => some k_ ≠ (v281 : Value).ownBlock) v12 x12_1) ∧ Aside0 (Kd.R k44 44 w' w.heap.size (fun k_ => some k_ ≠ (v12 : Value).ownBlock) v281 x13_1) ∧ Aside0 (Kd.R k79 79 w' w.heap.size (fun _ => True) (.slice Ao13 t270.length co13) t270) ∧ Aside0 (w'.heap[gb266]? = some (.cells #[.int .u8 a0_0, .bool a0_1, (.slice A0_2 l0_2.length c0_2), .int .u8 a0_3, .int .u8 a0_4, .int .u8 a0_5, (.slice A0_6 l0_6.length c0_6), (.slice A0_7 l0_7.length c0_7), (.slice A0_8 l0_8.length c0_8), (.slice A0_9 l0_9.length c0_9)] 29 (0, 0))) ∧ Aside0 (w'.heap[gb267]? = some (.cells #[.int .i64 0, .bool false, (.slice none 0 0)] 32 (0, 0))) ∧ Aside0 (w'.heap[gb276]? = some (.cells #[.int .i64 t268, .bool t269, (.slice Ao13 t270.length co13)] 32 (0, 0))) ∧ Aside0 (Below w.heap.size w w'))
  case atStart => exact ⟨(y277), (y280), (0), (by first | rfl | (simp; done) | (simp [*]; done)), H', ⟨Nat.le_refl _⟩, ⟨by (with_reducible repeat (first | apply Kd.R_alloc | apply Kd.R_drewN | apply Kd.R_drew)); exact Kd.R_mono HO279.out (fun _ hk => hk.2)⟩, ⟨by (with_reducible repeat (first | apply Kd.R_alloc | apply Kd.R_drewN | apply Kd.R_drew)); exact Kd.R_mono HO282.out (fun _ hk => hk.2)⟩, ⟨by (with_reducible repeat (first | apply Kd.R_alloc | apply Kd.R_drewN | apply Kd.R_drew)); exact HO272.out⟩, ⟨by (with_reducible repeat (first | refine blk_drewN ?_ _ | refine blk_drew ?_ | refine blk_alloc ?_ _)); exact BK266.out⟩, ⟨by (with_reducible repeat (first | refine blk_drewN ?_ _ | refine blk_drew ?_ | refine blk_alloc ?_ _)); exact BK267.out⟩, ⟨by (with_reducible repeat (first | refine blk_drewN ?_ _ | refine blk_drew ?_ | refine blk_alloc ?_ _)); exact BK276.out⟩, ⟨by repeat (first | (with_reducible first | exact HB.out | apply below_alloc | apply pw_below_drewN | apply below_drew1 | refine below_set ?_ GE266.out | refine below_set ?_ GE267.out | refine below_set ?_ GE276.out) | exact HB.out)⟩⟩
  case round =>
    clear H'
    try clear c1
    try clear c2
    try clear p2
    try clear c6
    try clear c10
    try clear c11
    try clear c16
    try clear hcz12_0
    try clear hcz12_1
    try clear hcz12_2
    try clear hcz7_0
    try clear hcz7_1
    try clear hcz7_2
    try clear hcz7_3
    try clear hcz7_4
    try clear hcz7_5
    try clear hcz7_6
    try clear hcz7_7
    try clear hcz7_8
    try clear hcz7_9
    try clear hfz12_0
    try clear hfz12_1
    try clear hfz12_2
    try clear hfz7_0
    try clear hfz7_1
    try clear hfz7_2
    try clear hfz7_3
    try clear hfz7_4
    try clear hfz7_5
    try clear hfz7_6
    try clear hfz7_7
    try clear hfz7_8
    try clear hfz7_9
    obtain ⟨x12_1, x13_1, x14_1, rfl, HA, HK1, HO_12, HO_13, HO_277002, BK266, BK267, BK276, HB⟩ := hrel
    cases gk with
    | zero => exact absurd HA.out (by simp [ebbtidelaw21_Read.l0])
    | succ k1 =>
      have H := HA.out
      clear HA
      simp only [ebbtidelaw21_Read.l0] at H
      have HC18 := Aside0.mk H
      clear H
      go_upto_region 5 with (fail)
      go_cut [43] (fun v43 wc => ∃ (kq : Nat) (x43_17 : Bool), v43 = .bool x43_17 ∧ Aside0 (ebbtidelaw21_Read.j1 kq t273 t274 t275 x12_1 x13_1 x14_1 x43_17 a0_0 a0_1 l0_2 a0_3 a0_4 a0_5 l0_6 l0_7 l0_8 l0_9 t268 t269 t270 = some (r1, r2, r3, r4, r5, r6)) ∧ Aside0 (kq ≤ k1) ∧ Aside0 (Kd.R k44 44 wc w.heap.size (fun k_ => some k_ ≠ (v281 : Value).ownBlock) u12 x12_1) ∧ Aside0 (Kd.R k44 44 wc w.heap.size (fun k_ => some k_ ≠ (u12 : Value).ownBlock) v281 x13_1) ∧ Aside0 (Kd.R k79 79 wc w.heap.size (fun _ => True) (.slice Ao13 t270.length co13) t270) ∧ Aside0 (wc.heap[gb266]? = some (.cells #[.int .u8 a0_0, .bool a0_1, (.slice A0_2 l0_2.length c0_2), .int .u8 a0_3, .int .u8 a0_4, .int .u8 a0_5, (.slice A0_6 l0_6.length c0_6), (.slice A0_7 l0_7.length c0_7), (.slice A0_8 l0_8.length c0_8), (.slice A0_9 l0_9.length c0_9)] 29 (0, 0))) ∧ Aside0 (wc.heap[gb267]? = some (.cells #[.int .i64 0, .bool false, (.slice none 0 0)] 32 (0, 0))) ∧ Aside0 (wc.heap[gb276]? = some (.cells #[.int .i64 t268, .bool t269, (.slice Ao13 t270.length co13)] 32 (0, 0))) ∧ Aside0 (Below w.heap.size w wc))
      case first =>
        have H := HC18.out
        clear HC18
        by_cases c19 : x14_1 < (l0_6.length : Int)
        · rw [if_pos c19] at H
          have c19b0 : decide (x14_1 < (l0_6.length : Int)) = true := decide_eq_true c19
          clear c19
          (first | rw [c19b0] | (simp only [i64_w, i32_w]; rw [c19b0]) | skip)
          have H' := Aside0.mk H
          clear H
          have hnb20 := NB266_267.out
          have hnc20 := NB267_266.out
          have hnb21 := NB266_276.out
          have hnc21 := NB276_266.out
          have hcz22_0 : wr.cell? ⟨gb266, 0, none⟩ = some (.int .u8 a0_0) := (blk_cell BK266.out 0).trans rfl
          have hcz22_1 : wr.cell? ⟨gb266, 1, none⟩ = some (.bool a0_1) := (blk_cell BK266.out 1).trans rfl
          have hcz22_2 : wr.cell? ⟨gb266, 2, none⟩ = some (.slice A0_2 l0_2.length c0_2) := (blk_cell BK266.out 2).trans rfl
          have hcz22_3 : wr.cell? ⟨gb266, 3, none⟩ = some (.int .u8 a0_3) := (blk_cell BK266.out 3).trans rfl
          have hcz22_4 : wr.cell? ⟨gb266, 4, none⟩ = some (.int .u8 a0_4) := (blk_cell BK266.out 4).trans rfl
          have hcz22_5 : wr.cell? ⟨gb266, 5, none⟩ = some (.int .u8 a0_5) := (blk_cell BK266.out 5).trans rfl
          have hcz22_6 : wr.cell? ⟨gb266, 6, none⟩ = some (.slice A0_6 l0_6.length c0_6) := (blk_cell BK266.out 6).trans rfl
          have hcz22_7 : wr.cell? ⟨gb266, 7, none⟩ = some (.slice A0_7 l0_7.length c0_7) := (blk_cell BK266.out 7).trans rfl
          have hcz22_8 : wr.cell? ⟨gb266, 8, none⟩ = some (.slice A0_8 l0_8.length c0_8) := (blk_cell BK266.out 8).trans rfl
          have hcz22_9 : wr.cell? ⟨gb266, 9, none⟩ = some (.slice A0_9 l0_9.length c0_9) := (blk_cell BK266.out 9).trans rfl
          have hfz22_0 := blk_frozen BK266.out 0
          have hfz22_1 := blk_frozen BK266.out 1
          have hfz22_2 := blk_frozen BK266.out 2
          have hfz22_3 := blk_frozen BK266.out 3
          have hfz22_4 := blk_frozen BK266.out 4
          have hfz22_5 := blk_frozen BK266.out 5
          have hfz22_6 := blk_frozen BK266.out 6
          have hfz22_7 := blk_frozen BK266.out 7
          have hfz22_8 := blk_frozen BK266.out 8
          have hfz22_9 := blk_frozen BK266.out 9
          go_wp2
          go_meet
          case rel => exact ⟨_, (decide (x14_1 < 4)), (by first | rfl | (simp; done) | (simp [*]; done)), H', ⟨by have := HK1.out; first | omega | exact Nat.le_refl _⟩, ⟨by (with_reducible repeat (first | apply Kd.R_alloc | apply Kd.R_drewN | apply Kd.R_drew)); exact HO_12.out⟩, ⟨by (with_reducible repeat (first | apply Kd.R_alloc | apply Kd.R_drewN | apply Kd.R_drew)); exact HO_13.out⟩, ⟨by (with_reducible repeat (first | apply Kd.R_alloc | apply Kd.R_drewN | apply Kd.R_drew)); exact HO_277002.out⟩, ⟨by (with_reducible repeat (first | refine blk_drewN ?_ _ | refine blk_drew ?_ | refine blk_alloc ?_ _)); exact BK266.out⟩, ⟨by (with_reducible repeat (first | refine blk_drewN ?_ _ | refine blk_drew ?_ | refine blk_alloc ?_ _)); exact BK267.out⟩, ⟨by (with_reducible repeat (first | refine blk_drewN ?_ _ | refine blk_drew ?_ | refine blk_alloc ?_ _)); exact BK276.out⟩, ⟨by repeat (first | (with_reducible first | exact HB.out | apply below_alloc | apply pw_below_drewN | apply below_drew1 | refine below_set ?_ GE266.out | refine below_set ?_ GE267.out | refine below_set ?_ GE276.out) | exact HB.out)⟩⟩
        · rw [if_neg c19] at H
          have c19b0 : decide (x14_1 < (l0_6.length : Int)) = false := decide_eq_false c19
          clear c19
          (first | rw [c19b0] | (simp only [i64_w, i32_w]; rw [c19b0]) | skip)
          have H' := Aside0.mk H
          clear H
          have hnb23 := NB266_267.out
          have hnc23 := NB267_266.out
          have hnb24 := NB266_276.out
          have hnc24 := NB276_266.out
          have hcz25_0 : wr.cell? ⟨gb266, 0, none⟩ = some (.int .u8 a0_0) := (blk_cell BK266.out 0).trans rfl
          have hcz25_1 : wr.cell? ⟨gb266, 1, none⟩ = some (.bool a0_1) := (blk_cell BK266.out 1).trans rfl
          have hcz25_2 : wr.cell? ⟨gb266, 2, none⟩ = some (.slice A0_2 l0_2.length c0_2) := (blk_cell BK266.out 2).trans rfl
          have hcz25_3 : wr.cell? ⟨gb266, 3, none⟩ = some (.int .u8 a0_3) := (blk_cell BK266.out 3).trans rfl
          have hcz25_4 : wr.cell? ⟨gb266, 4, none⟩ = some (.int .u8 a0_4) := (blk_cell BK266.out 4).trans rfl
          have hcz25_5 : wr.cell? ⟨gb266, 5, none⟩ = some (.int .u8 a0_5) := (blk_cell BK266.out 5).trans rfl
          have hcz25_6 : wr.cell? ⟨gb266, 6, none⟩ = some (.slice A0_6 l0_6.length c0_6) := (blk_cell BK266.out 6).trans rfl
          have hcz25_7 : wr.cell? ⟨gb266, 7, none⟩ = some (.slice A0_7 l0_7.length c0_7) := (blk_cell BK266.out 7).trans rfl
          have hcz25_8 : wr.cell? ⟨gb266, 8, none⟩ = some (.slice A0_8 l0_8.length c0_8) := (blk_cell BK266.out 8).trans rfl
          have hcz25_9 : wr.cell? ⟨gb266, 9, none⟩ = some (.slice A0_9 l0_9.length c0_9) := (blk_cell BK266.out 9).trans rfl
          have hfz25_0 := blk_frozen BK266.out 0
          have hfz25_1 := blk_frozen BK266.out 1
          have hfz25_2 := blk_frozen BK266.out 2
          have hfz25_3 := blk_frozen BK266.out 3
          have hfz25_4 := blk_frozen BK266.out 4
          have hfz25_5 := blk_frozen BK266.out 5
          have hfz25_6 := blk_frozen BK266.out 6
          have hfz25_7 := blk_frozen BK266.out 7
          have hfz25_8 := blk_frozen BK266.out 8
          have hfz25_9 := blk_frozen BK266.out 9
          go_wp2
          go_meet
          case rel => exact ⟨_, (false), (by first | rfl | (simp; done) | (simp [*]; done)), H', ⟨by have := HK1.out; first | omega | exact Nat.le_refl _⟩, ⟨by (with_reducible repeat (first | apply Kd.R_alloc | apply Kd.R_drewN | apply Kd.R_drew)); exact HO_12.out⟩, ⟨by (with_reducible repeat (first | apply Kd.R_alloc | apply Kd.R_drewN | apply Kd.R_drew)); exact HO_13.out⟩, ⟨by (with_reducible repeat (first | apply Kd.R_alloc | apply Kd.R_drewN | apply Kd.R_drew)); exact HO_277002.out⟩, ⟨by (with_reducible repeat (first | refine blk_drewN ?_ _ | refine blk_drew ?_ | refine blk_alloc ?_ _)); exact BK266.out⟩, ⟨by (with_reducible repeat (first | refine blk_drewN ?_ _ | refine blk_drew ?_ | refine blk_alloc ?_ _)); exact BK267.out⟩, ⟨by (with_reducible repeat (first | refine blk_drewN ?_ _ | refine blk_drew ?_ | refine blk_alloc ?_ _)); exact BK276.out⟩, ⟨by repeat (first | (with_reducible first | exact HB.out | apply below_alloc | apply pw_below_drewN | apply below_drew1 | refine below_set ?_ GE266.out | refine below_set ?_ GE267.out | refine below_set ?_ GE276.out) | exact HB.out)⟩⟩
      case rest =>
        clear HC18
        try clear c1
        try clear c2
        try clear p2
        try clear c6
        try clear c10
        try clear c11
        try clear c16
        try clear c19
        try clear c19b0
        try clear c20
        try clear c21
        try clear c23
        try clear c24
        try clear hcz12_0
        try clear hcz12_1
        try clear hcz12_2
        try clear hcz22_0
        try clear hcz22_1
        try clear hcz22_2
        try clear hcz22_3
        try clear hcz22_4
        try clear hcz22_5
        try clear hcz22_6
        try clear hcz22_7
        try clear hcz22_8
        try clear hcz22_9
        try clear hcz25_0
        try clear hcz25_1
        try clear hcz25_2
        try clear hcz25_3
        try clear hcz25_4
        try clear hcz25_5
        try clear hcz25_6
        try clear hcz25_7
        try clear hcz25_8
        try clear hcz25_9
        try clear hcz7_0
        try clear hcz7_1
        try clear hcz7_2
        try clear hcz7_3
        try clear hcz7_4
        try clear hcz7_5
        try clear hcz7_6
        try clear hcz7_7
        try clear hcz7_8
        try clear hcz7_9
        try clear hfz12_0
        try clear hfz12_1
        try clear hfz12_2
        try clear hfz22_0
        try clear hfz22_1
        try clear hfz22_2
        try clear hfz22_3
        try clear hfz22_4
        try clear hfz22_5
        try clear hfz22_6
        try clear hfz22_7
        try clear hfz22_8
        try clear hfz22_9
        try clear hfz25_0
        try clear hfz25_1
        try clear hfz25_2
        try clear hfz25_3
        try clear hfz25_4
        try clear hfz25_5
        try clear hfz25_6
        try clear hfz25_7
        try clear hfz25_8
        try clear hfz25_9
        try clear hfz7_0
        try clear hfz7_1
        try clear hfz7_2
        try clear hfz7_3
        try clear hfz7_4
        try clear hfz7_5
        try clear hfz7_6
        try clear hfz7_7
        try clear hfz7_8
        try clear hfz7_9
        try clear p2
        obtain ⟨kq, x43_17, rfl, HA, HJ17, HO_12, HO_13, HO_277002, BK266, BK267, BK276, HB⟩ := hcut
        cases kq with
        | zero => exact absurd HA.out (by simp [ebbtidelaw21_Read.j1])
        | succ kj17 =>
          have H := HA.out
          clear HA
          simp only [ebbtidelaw21_Read.j1] at H
          by_cases c26 : x43_17 = true
          · subst c26
            have H1 : (if 0 ≤ x14_1 then (if x14_1 < (l0_6.length : Int) then (if t268 = 0 then (none) else (if x14_1 = 0 then (if 0 < (x12_1.length : Int) then (ebbtidelaw21_Read.l0 kj17 t273 t274 t275 (x12_1.set (0 : Int).toNat (⟨(rd_T44 x12_1 0).f0, Int.tmod (wrap64 (rd l0_6 x14_1)) 7⟩ : S44)) x13_1 (wrap64 (x14_1 + 1)) a0_0 a0_1 l0_2 a0_3 a0_4 a0_5 l0_6 l0_7 l0_8 l0_9 t268 t269 t270) else (none)) else ((ebbtideref21_Of.f kj17 x12_1 (Int.tmod (wrap64 (t273 + (wrap64 (2 * x14_1)))) t268)).bind fun t285 => (if t285 < 0 then ((ebbtideref21_Of.f kj17 x13_1 (Int.tmod (wrap64 (t273 + (wrap64 (2 * x14_1)))) t268)).bind fun t286 => (if t286 < 0 then (if x12_1.length < 8796093022208 then (ebbtidelaw21_Read.l0 kj17 t273 t274 t275 (x12_1 ++ [(⟨Int.tmod (wrap64 (t273 + (wrap64 (2 * x14_1)))) t268, Int.tmod (wrap64 (rd l0_6 x14_1)) 7⟩ : S44)]) x13_1 (wrap64 (x14_1 + 1)) a0_0 a0_1 l0_2 a0_3 a0_4 a0_5 l0_6 l0_7 l0_8 l0_9 t268 t269 t270) else (none)) else (ebbtidelaw21_Read.l0 kj17 t273 t274 t275 x12_1 x13_1 (wrap64 (x14_1 + 1)) a0_0 a0_1 l0_2 a0_3 a0_4 a0_5 l0_6 l0_7 l0_8 l0_9 t268 t269 t270))) else (ebbtidelaw21_Read.l0 kj17 t273 t274 t275 x12_1 x13_1 (wrap64 (x14_1 + 1)) a0_0 a0_1 l0_2 a0_3 a0_4 a0_5 l0_6 l0_7 l0_8 l0_9 t268 t269 t270))))) else (none)) else (none)) = some (r1, r2, r3, r4, r5, r6) := by rw [if_pos rfl] at H; exact H
            clear H
            have H := H1
            clear H1
            by_cases c27 : 0 ≤ x14_1
            · rw [if_pos c27] at H
              have c27b0 : decide (0 ≤ x14_1) = true := decide_eq_true c27
              clear c27
              by_cases c28 : x14_1 < (l0_6.length : Int)
              · rw [if_pos c28] at H
                have c28b0 : decide (x14_1 < (l0_6.length : Int)) = true := decide_eq_true c28
                clear c28
                by_cases c29 : t268 = 0
                · rw [if_pos c29] at H
                  exact absurd H (by simp)
                · rw [if_neg c29] at H
                  have c29b0 : (t268 == 0) = false := beq_eq_false_iff_ne.mpr c29
                  have c29b1 : (t268 != 0) = true := bne_iff_ne.mpr c29
                  by_cases c30 : x14_1 = 0
                  · rw [if_pos c30] at H
                    have c30b0 : (x14_1 == 0) = true := beq_iff_eq.mpr c30
                    have c30b1 : (x14_1 != 0) = false := bne_eq_false_iff_eq.mpr c30
                    clear c30
                    by_cases c31 : 0 < (x12_1.length : Int)
                    · rw [if_pos c31] at H
                      have c31b0 : decide (0 < (x12_1.length : Int)) = true := decide_eq_true c31
                      have c31b1 : decide (0 < x12_1.length) = true := decide_eq_true (by omega)
                      clear c31
                      obtain ⟨y284, hy284⟩ : ∃ y_ : List (S44), y_ = (x12_1.set (0 : Int).toNat (⟨(rd_T44 x12_1 0).f0, Int.tmod (wrap64 (rd l0_6 x14_1)) 7⟩ : S44)) := ⟨_, rfl⟩
                      replace H : (ebbtidelaw21_Read.l0 kj17 t273 t274 t275 y284 x13_1 (wrap64 (x14_1 + 1)) a0_0 a0_1 l0_2 a0_3 a0_4 a0_5 l0_6 l0_7 l0_8 l0_9 t268 t269 t270) = some (r1, r2, r3, r4, r5, r6) := by first | (rw [hy284]; with_reducible exact H) | (have H2_ := (Option.bind_some _ _).symm.trans H; rw [hy284]; with_reducible exact H2_) | (have H2_ := (Option.bind_some _ _).symm.trans H; with_reducible exact H2_) | with_reducible exact H | (rw [hy284]; exact H) | exact H
                      have Ny284 := Aside0.mk hy284
                      clear hy284
                      have H' := Aside0.mk H
                      clear H
                      have hnb33 := NB266_267.out
                      have hnc33 := NB267_266.out
                      have hnb34 := NB266_276.out
                      have hnc34 := NB276_266.out
                      have hcz35_0 : wc.cell? ⟨gb266, 0, none⟩ = some (.int .u8 a0_0) := (blk_cell BK266.out 0).trans rfl
                      have hcz35_1 : wc.cell? ⟨gb266, 1, none⟩ = some (.bool a0_1) := (blk_cell BK266.out 1).trans rfl
                      have hcz35_2 : wc.cell? ⟨gb266, 2, none⟩ = some (.slice A0_2 l0_2.length c0_2) := (blk_cell BK266.out 2).trans rfl
                      have hcz35_3 : wc.cell? ⟨gb266, 3, none⟩ = some (.int .u8 a0_3) := (blk_cell BK266.out 3).trans rfl
                      have hcz35_4 : wc.cell? ⟨gb266, 4, none⟩ = some (.int .u8 a0_4) := (blk_cell BK266.out 4).trans rfl
                      have hcz35_5 : wc.cell? ⟨gb266, 5, none⟩ = some (.int .u8 a0_5) := (blk_cell BK266.out 5).trans rfl
                      have hcz35_6 : wc.cell? ⟨gb266, 6, none⟩ = some (.slice A0_6 l0_6.length c0_6) := (blk_cell BK266.out 6).trans rfl
                      have hcz35_7 : wc.cell? ⟨gb266, 7, none⟩ = some (.slice A0_7 l0_7.length c0_7) := (blk_cell BK266.out 7).trans rfl
                      have hcz35_8 : wc.cell? ⟨gb266, 8, none⟩ = some (.slice A0_8 l0_8.length c0_8) := (blk_cell BK266.out 8).trans rfl
                      have hcz35_9 : wc.cell? ⟨gb266, 9, none⟩ = some (.slice A0_9 l0_9.length c0_9) := (blk_cell BK266.out 9).trans rfl
                      have hfz35_0 := blk_frozen BK266.out 0
                      have hfz35_1 := blk_frozen BK266.out 1
                      have hfz35_2 := blk_frozen BK266.out 2
                      have hfz35_3 := blk_frozen BK266.out 3
                      have hfz35_4 := blk_frozen BK266.out 4
                      have hfz35_5 := blk_frozen BK266.out 5
                      have hfz35_6 := blk_frozen BK266.out 6
                      have hfz35_7 := blk_frozen BK266.out 7
                      have hfz35_8 := blk_frozen BK266.out 8
                      have hfz35_9 := blk_frozen BK266.out 9
                      have p283 : 0 ≤ (x14_1 : Int) := of_decide_eq_true (by first | (with_reducible assumption) | assumption)
                      have q283 : x14_1 < (l0_6.length : Int) := of_decide_eq_true (by first | (with_reducible assumption) | assumption)
                      obtain ⟨ad283, e283, hx283_0⟩ := Kd.at_int HR0_6.out x14_1 p283 q283
                      cases e283
                      replace hx283_0 := (HB.out.cell (World.block_lt_of_cell? w _ hx283_0)).trans hx283_0
                      replace p283 := eq_true p283
                      replace q283 := eq_true q283
                      have hnb36 := NB276_267.out
                      have hnc36 := NB267_276.out
                      have hcz37_0 : wc.cell? ⟨gb276, 0, none⟩ = some (.int .i64 t268) := (blk_cell BK276.out 0).trans rfl
                      have hcz37_1 : wc.cell? ⟨gb276, 1, none⟩ = some (.bool t269) := (blk_cell BK276.out 1).trans rfl
                      have hcz37_2 : wc.cell? ⟨gb276, 2, none⟩ = some (.slice Ao13 t270.length co13) := (blk_cell BK276.out 2).trans rfl
                      have hfz37_0 := blk_frozen BK276.out 0
                      have hfz37_1 := blk_frozen BK276.out 1
                      have hfz37_2 := blk_frozen BK276.out 2
                      have p32 : 0 ≤ (0 : Int) := (by omega)
                      have q32 : (0 : Int) < ((x12_1.length : Int) : Int) := of_decide_eq_true (by first | (with_reducible assumption) | assumption)
                      have qi32 : (0 < x12_1.length) = True := eq_true (by omega)
                      obtain ⟨go32, co32, eo32, gb32, gl32, cl32, HG32⟩ := Kd.R_form HO_12.out (by omega)
                      (first | cases eo32 | (injection eo32 with ea_ en_ ec_; (first | subst ea_ | (injection ea_ with ea_; subst ea_)); subst ec_; clear en_))
                      have GB32 := Aside0.mk gb32
                      have GG32 := Aside0.mk HG32
                      clear gb32 gl32 HG32
                      obtain ⟨ce32, hcl32, hM32, hcc32, hfr32⟩ := Kd.R_elem HO_12.out z44 (0 : Int) p32 q32
                      obtain rfl := k44_openM hM32
                      have hx32_0 : wc.cell? ⟨go32, (0 : Int).toNat * 2, none⟩ = some (.int .i64 ((rd_T44 x12_1 0).f0)) := hcc32 0 _ rfl
                      have hx32_1 : wc.cell? ⟨go32, (0 : Int).toNat * 2 + 1, none⟩ = some (.int .i64 ((rd_T44 x12_1 0).f1)) := hcc32 1 _ rfl
                      have hf32_0 : wc.frozen? ⟨go32, (0 : Int).toNat * 2, none⟩ = false := hfr32 0
                      have hf32_1 : wc.frozen? ⟨go32, (0 : Int).toNat * 2 + 1, none⟩ = false := hfr32 1
                      clear hcl32 hcc32 hfr32 hM32
                      (try rw [show ((0 : Int)).toNat = 0 from rfl] at hx32_0)
                      (try simp only [Nat.reduceMul, Nat.zero_mul, Nat.zero_add, Nat.reduceAdd] at hx32_0)
                      (try rw [show ((0 : Int)).toNat = 0 from rfl] at hf32_0)
                      (try simp only [Nat.reduceMul, Nat.zero_mul, Nat.zero_add, Nat.reduceAdd] at hf32_0)
                      (try rw [show ((0 : Int)).toNat = 0 from rfl] at hx32_1)
                      (try simp only [Nat.reduceMul, Nat.zero_mul, Nat.zero_add, Nat.reduceAdd] at hx32_1)
                      (try rw [show ((0 : Int)).toNat = 0 from rfl] at hf32_1)
                      (try simp only [Nat.reduceMul, Nat.zero_mul, Nat.zero_add, Nat.reduceAdd] at hf32_1)
                      replace p32 := eq_true p32
                      replace q32 := eq_true q32
                      have HX38 := Aside0.mk (show Kd.R k44 44 wc w.heap.size (fun k_ => some k_ ≠ (v281 : Value).ownBlock) (.slice (some ⟨go32, 0, none⟩) x12_1.length co32) x12_1 from (by (with_reducible repeat (first | apply Kd.R_alloc | apply Kd.R_drewN | apply Kd.R_drew)); exact HO_12.out))
                      obtain ⟨ce38, hcl38, hM38, hcc38, hfr38⟩ := Kd.R_elem HX38.out z44 (0 : Int) (by omega) (by have h_ : (0 : Int) < ((x12_1.length : Int) : Int) := of_decide_eq_true (by first | (with_reducible assumption) | assumption); first | exact h_ | (have e_ := (Kd.R_reads' HO_12.out).1; omega) | simpa using h_)
                      obtain rfl := k44_openM hM38
                      have HP38 := Kd.R_seg HX38.out (0 : Int) (by omega) (by have h_ : (0 : Int) < ((x12_1.length : Int) : Int) := of_decide_eq_true (by first | (with_reducible assumption) | assumption); first | exact h_ | (have e_ := (Kd.R_reads' HO_12.out).1; omega) | simpa using h_) (seg := [.int .i64 (Int.tmod (wrap64 (rd l0_6 x14_1)) 7)]) (j := 1) hcl38 hcc38 (show 2 ≤ 2 from by decide) (x' := (⟨(rd_T44 x12_1 0).f0, Int.tmod (wrap64 (rd l0_6 x14_1)) 7⟩ : S44)) (k44_mkM _ _ _ (⟨(rd_T44 x12_1 0).f0, Int.tmod (wrap64 (rd l0_6 x14_1)) 7⟩ : S44) ) (fun _ hk => hk)
                      have hx38_1 := hcc38 1 _ rfl
                      (try simp only [show (k44).sz = 2 from rfl, Nat.mul_one, Nat.add_zero] at hx38_1)
                      (try rw [show ((0 : Int)).toNat = 0 from rfl] at hx38_1)
                      (try simp only [Nat.reduceMul, Nat.zero_mul, Nat.zero_add, Nat.reduceAdd] at hx38_1)
                      have hf38_1 := hfr38 1
                      (try simp only [show (k44).sz = 2 from rfl, Nat.mul_one, Nat.add_zero] at hf38_1)
                      (try rw [show ((0 : Int)).toNat = 0 from rfl] at hf38_1)
                      (try simp only [Nat.reduceMul, Nat.zero_mul, Nat.zero_add, Nat.reduceAdd] at hf38_1)
                      clear hcl38 hcc38 hfr38 hM38
                      go_wp2_with (first | ((with_reducible refine gate_store (t := 3) (p := 65) rfl ?_); refine store_event (t := 3) (p := 65) (v := ?vo_w39) (w1 := (wc.setCell ⟨go32, 1, none⟩ (.int .i64 (Int.tmod (wrap64 (rd l0_6 x14_1)) 7)))) ?hg ?ho ?hn ?hr ?_; (case ho => rfl); (case hg => rfl); (case hn => rfl); (case hr => first | (go_simp; done) | (go_simp; rfl)); intro w39 hw; have hg : wc.grownBy w39 (some go32) := (by rw [hw]; exact HP38.2); have hp_ : Kd.R k44 44 w39 w.heap.size (fun k_ => some k_ ≠ (v281 : Value).ownBlock) (.slice (some ⟨go32, 0, none⟩) x12_1.length co32) y284 := (by rw [hw, Ny284.out]; exact HP38.1); clear HP38; have n0_ := Aside0.mk (hp_); have n1_ := Aside0.mk (Kd.R_after (v := (.slice (some ⟨go32, 0, none⟩) x12_1.length co32)) (v1 := (.slice (some ⟨go32, 0, none⟩) x12_1.length co32)) (ok := (fun _ => True)) (by (with_reducible repeat (first | apply Kd.R_alloc | apply Kd.R_drewN | apply Kd.R_drew)); exact Kd.R_mono HO_13.out (fun _ hk => ⟨trivial, hk⟩)) hg (.inl rfl)); have n2_ := Aside0.mk (Kd.R_over' (v := (.slice (some ⟨go32, 0, none⟩) x12_1.length co32)) (by (with_reducible repeat (first | apply Kd.R_alloc | apply Kd.R_drewN | apply Kd.R_drew)); exact HO_277002.out) (Kd.R_typed HO_12.out) (by decide) hg); have n3_ := Aside0.mk (blk_grown (g := gb266) (o := .cells #[.int .u8 a0_0, .bool a0_1, .slice A0_2 l0_2.length c0_2, .int .u8 a0_3, .int .u8 a0_4, .int .u8 a0_5, .slice (some ad283) l0_6.length c0_6, .slice A0_7 l0_7.length c0_7, .slice A0_8 l0_8.length c0_8, .slice A0_9 l0_9.length c0_9] 29 (0, 0)) (by (with_reducible repeat (first | refine blk_drewN ?_ _ | refine blk_drew ?_ | refine blk_alloc ?_ _)); exact BK266.out) hg (Kd.R_ne HO_12.out BK266.out (by decide))); have n4_ := Aside0.mk (blk_grown (g := gb267) (o := .cells #[.int .i64 0, .bool false, .slice none 0 0] 32 (0, 0)) (by (with_reducible repeat (first | refine blk_drewN ?_ _ | refine blk_drew ?_ | refine blk_alloc ?_ _)); exact BK267.out) hg (Kd.R_ne HO_12.out BK267.out (by decide))); have n5_ := Aside0.mk (blk_grown (g := gb276) (o := .cells #[.int .i64 t268, .bool t269, .slice Ao13 t270.length co13] 32 (0, 0)) (by (with_reducible repeat (first | refine blk_drewN ?_ _ | refine blk_drew ?_ | refine blk_alloc ?_ _)); exact BK276.out) hg (Kd.R_ne HO_12.out BK276.out (by decide))); have n6_ := Aside0.mk ((by rw [hw]; exact below_set (HB.out) GB32.out : Below w.heap.size w w39)); clear HO_12; clear HO_13; clear HO_277002; clear BK266; clear BK267; clear BK276; clear HB; have HO_12 := n0_; have HO_13 := n1_; have HO_277002 := n2_; have BK266 := n3_; have BK267 := n4_; have BK276 := n5_; have HB := n6_; clear n0_ n1_ n2_ n3_ n4_ n5_ n6_; clear hg hw hp_))
                      go_roundg kj17
                      case measure => have := HK1.out; have := HJ17.out; omega
                      case rel => exact ⟨(y284), (x13_1), (wrap64 (x14_1 + 1)), (by first | rfl | (simp; done) | (simp [*]; done)), H', ⟨by have := HK1.out; have := HJ17.out; omega⟩, ⟨by (with_reducible repeat (first | apply Kd.R_alloc | apply Kd.R_drewN | apply Kd.R_drew)); exact HO_12.out⟩, ⟨by (with_reducible repeat (first | apply Kd.R_alloc | apply Kd.R_drewN | apply Kd.R_drew)); exact Kd.R_mono HO_13.out (fun _ hk => hk.2)⟩, ⟨by (with_reducible repeat (first | apply Kd.R_alloc | apply Kd.R_drewN | apply Kd.R_drew)); exact HO_277002.out⟩, ⟨by (with_reducible repeat (first | refine blk_drewN ?_ _ | refine blk_drew ?_ | refine blk_alloc ?_ _)); exact BK266.out⟩, ⟨by (with_reducible repeat (first | refine blk_drewN ?_ _ | refine blk_drew ?_ | refine blk_alloc ?_ _)); exact BK267.out⟩, ⟨by (with_reducible repeat (first | refine blk_drewN ?_ _ | refine blk_drew ?_ | refine blk_alloc ?_ _)); exact BK276.out⟩, ⟨by repeat (first | (with_reducible first | exact HB.out | apply below_alloc | apply pw_below_drewN | apply below_drew1 | refine below_set ?_ GE266.out | refine below_set ?_ GE267.out | refine below_set ?_ GE276.out) | exact HB.out)⟩⟩
                    · rw [if_neg c31] at H
                      exact absurd H (by simp)
                  · rw [if_neg c30] at H
                    have c30b0 : (x14_1 == 0) = false := beq_eq_false_iff_ne.mpr c30
                    have c30b1 : (x14_1 != 0) = true := bne_iff_ne.mpr c30
                    replace H := Option.bind_eq_some_iff.mp H
                    obtain ⟨t285, A400, H⟩ := H
                    replace H : (if t285 < 0 then ((ebbtideref21_Of.f kj17 x13_1 (Int.tmod (wrap64 (t273 + (wrap64 (2 * x14_1)))) t268)).bind fun t286 => (if t286 < 0 then (if x12_1.length < 8796093022208 then (ebbtidelaw21_Read.l0 kj17 t273 t274 t275 (x12_1 ++ [(⟨Int.tmod (wrap64 (t273 + (wrap64 (2 * x14_1)))) t268, Int.tmod (wrap64 (rd l0_6 x14_1)) 7⟩ : S44)]) x13_1 (wrap64 (x14_1 + 1)) a0_0 a0_1 l0_2 a0_3 a0_4 a0_5 l0_6 l0_7 l0_8 l0_9 t268 t269 t270) else (none)) else (ebbtidelaw21_Read.l0 kj17 t273 t274 t275 x12_1 x13_1 (wrap64 (x14_1 + 1)) a0_0 a0_1 l0_2 a0_3 a0_4 a0_5 l0_6 l0_7 l0_8 l0_9 t268 t269 t270))) else (ebbtidelaw21_Read.l0 kj17 t273 t274 t275 x12_1 x13_1 (wrap64 (x14_1 + 1)) a0_0 a0_1 l0_2 a0_3 a0_4 a0_5 l0_6 l0_7 l0_8 l0_9 t268 t269 t270)) = some (r1, r2, r3, r4, r5, r6) := H
                    have A40 := Aside0.mk A400
                    clear A400
                    by_cases c41 : t285 < 0
                    · rw [if_pos c41] at H
                      have c41b0 : decide (t285 < 0) = true := decide_eq_true c41
                      clear c41
                      replace H := Option.bind_eq_some_iff.mp H
                      obtain ⟨t286, A420, H⟩ := H
                      replace H : (if t286 < 0 then (if x12_1.length < 8796093022208 then (ebbtidelaw21_Read.l0 kj17 t273 t274 t275 (x12_1 ++ [(⟨Int.tmod (wrap64 (t273 + (wrap64 (2 * x14_1)))) t268, Int.tmod (wrap64 (rd l0_6 x14_1)) 7⟩ : S44)]) x13_1 (wrap64 (x14_1 + 1)) a0_0 a0_1 l0_2 a0_3 a0_4 a0_5 l0_6 l0_7 l0_8 l0_9 t268 t269 t270) else (none)) else (ebbtidelaw21_Read.l0 kj17 t273 t274 t275 x12_1 x13_1 (wrap64 (x14_1 + 1)) a0_0 a0_1 l0_2 a0_3 a0_4 a0_5 l0_6 l0_7 l0_8 l0_9 t268 t269 t270)) = some (r1, r2, r3, r4, r5, r6) := H
                      have A42 := Aside0.mk A420
                      clear A420
                      by_cases c43 : t286 < 0
                      · rw [if_pos c43] at H
                        have c43b0 : decide (t286 < 0) = true := decide_eq_true c43
                        clear c43
                        by_cases c44 : x12_1.length < 8796093022208
                        · rw [if_pos c44] at H
                          have LMc44 := Aside0.mk c44
                          clear c44
                          obtain ⟨y287, hy287⟩ : ∃ y_ : List (S44), y_ = (x12_1 ++ [(⟨Int.tmod (wrap64 (t273 + (wrap64 (2 * x14_1)))) t268, Int.tmod (wrap64 (rd l0_6 x14_1)) 7⟩ : S44)]) := ⟨_, rfl⟩
                          replace H : (ebbtidelaw21_Read.l0 kj17 t273 t274 t275 y287 x13_1 (wrap64 (x14_1 + 1)) a0_0 a0_1 l0_2 a0_3 a0_4 a0_5 l0_6 l0_7 l0_8 l0_9 t268 t269 t270) = some (r1, r2, r3, r4, r5, r6) := by first | (rw [hy287]; with_reducible exact H) | (have H2_ := (Option.bind_some _ _).symm.trans H; rw [hy287]; with_reducible exact H2_) | (have H2_ := (Option.bind_some _ _).symm.trans H; with_reducible exact H2_) | with_reducible exact H | (rw [hy287]; exact H) | exact H
                          have Ny287 := Aside0.mk hy287
                          clear hy287
                          have H' := Aside0.mk H
                          clear H
                          have hnb45 := NB266_267.out
                          have hnc45 := NB267_266.out
                          have hnb46 := NB266_276.out
                          have hnc46 := NB276_266.out
                          have hcz47_0 : wc.cell? ⟨gb266, 0, none⟩ = some (.int .u8 a0_0) := (blk_cell BK266.out 0).trans rfl
                          have hcz47_1 : wc.cell? ⟨gb266, 1, none⟩ = some (.bool a0_1) := (blk_cell BK266.out 1).trans rfl
                          have hcz47_2 : wc.cell? ⟨gb266, 2, none⟩ = some (.slice A0_2 l0_2.length c0_2) := (blk_cell BK266.out 2).trans rfl
                          have hcz47_3 : wc.cell? ⟨gb266, 3, none⟩ = some (.int .u8 a0_3) := (blk_cell BK266.out 3).trans rfl
                          have hcz47_4 : wc.cell? ⟨gb266, 4, none⟩ = some (.int .u8 a0_4) := (blk_cell BK266.out 4).trans rfl
                          have hcz47_5 : wc.cell? ⟨gb266, 5, none⟩ = some (.int .u8 a0_5) := (blk_cell BK266.out 5).trans rfl
                          have hcz47_6 : wc.cell? ⟨gb266, 6, none⟩ = some (.slice A0_6 l0_6.length c0_6) := (blk_cell BK266.out 6).trans rfl
                          have hcz47_7 : wc.cell? ⟨gb266, 7, none⟩ = some (.slice A0_7 l0_7.length c0_7) := (blk_cell BK266.out 7).trans rfl
                          have hcz47_8 : wc.cell? ⟨gb266, 8, none⟩ = some (.slice A0_8 l0_8.length c0_8) := (blk_cell BK266.out 8).trans rfl
                          have hcz47_9 : wc.cell? ⟨gb266, 9, none⟩ = some (.slice A0_9 l0_9.length c0_9) := (blk_cell BK266.out 9).trans rfl
                          have hfz47_0 := blk_frozen BK266.out 0
                          have hfz47_1 := blk_frozen BK266.out 1
                          have hfz47_2 := blk_frozen BK266.out 2
                          have hfz47_3 := blk_frozen BK266.out 3
                          have hfz47_4 := blk_frozen BK266.out 4
                          have hfz47_5 := blk_frozen BK266.out 5
                          have hfz47_6 := blk_frozen BK266.out 6
                          have hfz47_7 := blk_frozen BK266.out 7
                          have hfz47_8 := blk_frozen BK266.out 8
                          have hfz47_9 := blk_frozen BK266.out 9
                          have p283 : 0 ≤ (x14_1 : Int) := of_decide_eq_true (by first | (with_reducible assumption) | assumption)
                          have q283 : x14_1 < (l0_6.length : Int) := of_decide_eq_true (by first | (with_reducible assumption) | assumption)
                          obtain ⟨ad283, e283, hx283_0⟩ := Kd.at_int HR0_6.out x14_1 p283 q283
                          cases e283
                          replace hx283_0 := (HB.out.cell (World.block_lt_of_cell? w _ hx283_0)).trans hx283_0
                          replace p283 := eq_true p283
                          replace q283 := eq_true q283
                          have hnb48 := NB276_267.out
                          have hnc48 := NB267_276.out
                          have hcz49_0 : wc.cell? ⟨gb276, 0, none⟩ = some (.int .i64 t268) := (blk_cell BK276.out 0).trans rfl
                          have hcz49_1 : wc.cell? ⟨gb276, 1, none⟩ = some (.bool t269) := (blk_cell BK276.out 1).trans rfl
                          have hcz49_2 : wc.cell? ⟨gb276, 2, none⟩ = some (.slice Ao13 t270.length co13) := (blk_cell BK276.out 2).trans rfl
                          have hfz49_0 := blk_frozen BK276.out 0
                          have hfz49_1 := blk_frozen BK276.out 1
                          have hfz49_2 := blk_frozen BK276.out 2
                          obtain ⟨Ao50, co50, eo50⟩ := Kd.R_slice HO_12.out
                          subst eo50
                          go_wp2_with (first | ((with_reducible refine gate_callee (f := 27) rfl ?_); refine goesL_ (some 68) rfl rfl Try.func27 (by kernel_rfl) rfl #[.slice Ao50 x12_1.length co50, .int .i64 (Int.tmod (wrap64 (t273 + (wrap64 (2 * x14_1)))) t268)] rfl (by (try simp only [List.map_toArray, List.map_cons, List.map_nil]); first | done | rfl | (simp only [List.length_drop, List.length_take]; rfl)) ?_; (with_reducible refine (ebbtideref21_Of.calls kj17 _ _ x12_1 (Int.tmod (wrap64 (t273 + (wrap64 (2 * x14_1)))) t268) t285 _ ?side1 ?side2 A40.out).mono ?_); (case side1 => repeat (first | exact (Kd.R_reads' HO_12.out).2.2 | (with_reducible refine Kd.C_alloc ?_ _) | (with_reducible refine Kd.C_drewN ?_ _) | (with_reducible refine Kd.C_drew ?_))); (case side2 => exact (Kd.R_reads' HO_12.out).2.1); rintro e w' ⟨rfl, ⟨nd, rfl⟩⟩; refine ⟨_, rfl, ?_⟩; obtain ⟨Ao51, co51, eo51⟩ := Kd.R_slice HO_13.out; subst eo51) | (go_at_call 27; (with_reducible refine (ebbtideref21_Of.calls kj17 _ _ x13_1 (Int.tmod (wrap64 (t273 + (wrap64 (2 * x14_1)))) t268) t286 _ ?side1 ?side2 A42.out).mono ?_); (case side1 => repeat (first | exact (Kd.R_reads' HO_13.out).2.2 | (with_reducible refine Kd.C_alloc ?_ _) | (with_reducible refine Kd.C_drewN ?_ _) | (with_reducible refine Kd.C_drew ?_))); (case side2 => exact (Kd.R_reads' HO_13.out).2.1); rintro e w' ⟨rfl, ⟨nd, rfl⟩⟩) | ((with_reducible refine gate_builtin (b := .append) (xs := #[.tmp 76, .tmp 80]) rfl ?_); at_builtin; refine Kd.R_append k44 (w0 := w) w.heap.size rfl (.tmp 76) (.tmp 80) 33 44 (.agg #[(.int .i64 0), (.int .i64 0)]) 16 rfl Try.underlying33 info44 rfl (by decide) (by omega) (.slice Ao50 x12_1.length co50) x12_1 (⟨Int.tmod (wrap64 (t273 + (wrap64 (2 * x14_1)))) t268, Int.tmod (wrap64 (rd l0_6 x14_1)) 7⟩ : S44) [.int .i64 (Int.tmod (wrap64 (t273 + (wrap64 (2 * x14_1)))) t268), .int .i64 (Int.tmod (wrap64 (rd l0_6 x14_1)) 7)] (fun k_ => some k_ ≠ (.slice Ao51 x13_1.length co51 : Value).ownBlock) (fun _ => False) rfl rfl ?aP (fun _ hk => hk.elim) ?aF ?aO ?aB ?aS ?aL ?_; (case aP => exact k44_mkM _ _ _ (⟨Int.tmod (wrap64 (t273 + (wrap64 (2 * x14_1)))) t268, Int.tmod (wrap64 (rd l0_6 x14_1)) 7⟩ : S44)); (case aB => exact (by repeat (first | (with_reducible first | exact HB.out | apply below_alloc | apply pw_below_drewN | apply below_drew1 | refine below_set ?_ GE266.out | refine below_set ?_ GE267.out | refine below_set ?_ GE276.out) | exact HB.out))); (case aF => exact (fun k_ hk => Kd.fresh' (Kd.R_lt (by (with_reducible repeat (first | apply Kd.R_alloc | apply Kd.R_drewN | apply Kd.R_drew)); exact HO_13.out)) k_ hk)); (case aO => exact (by (with_reducible repeat (first | apply Kd.R_alloc | apply Kd.R_drewN | apply Kd.R_drew)); exact HO_12.out)); (case aS => exact (below_size (by repeat (first | (with_reducible first | exact HB.out | apply below_alloc | apply pw_below_drewN | apply below_drew1 | refine below_set ?_ GE266.out | refine below_set ?_ GE267.out | refine below_set ?_ GE276.out) | exact HB.out)))); (case aL => have := LMc44.out; omega); intro v288 w52 ho hb hg hat; rw [← Ny287.out] at ho; have n0_ := Aside0.mk (Kd.R_after (ok := (fun _ => True)) (by (with_reducible repeat (first | apply Kd.R_alloc | apply Kd.R_drewN | apply Kd.R_drew)); exact Kd.R_mono HO_13.out (fun _ hk => ⟨trivial, hk⟩)) hg hat); have n1_ := Aside0.mk (Kd.R_over' (by (with_reducible repeat (first | apply Kd.R_alloc | apply Kd.R_drewN | apply Kd.R_drew)); exact HO_277002.out) (Kd.R_typed (by (with_reducible repeat (first | apply Kd.R_alloc | apply Kd.R_drewN | apply Kd.R_drew)); exact HO_12.out)) (by decide) hg); have n2_ := Aside0.mk (blk_grown (g := gb266) (o := .cells #[.int .u8 a0_0, .bool a0_1, .slice A0_2 l0_2.length c0_2, .int .u8 a0_3, .int .u8 a0_4, .int .u8 a0_5, .slice (some ad283) l0_6.length c0_6, .slice A0_7 l0_7.length c0_7, .slice A0_8 l0_8.length c0_8, .slice A0_9 l0_9.length c0_9] 29 (0, 0)) (by (with_reducible repeat (first | refine blk_drewN ?_ _ | refine blk_drew ?_ | refine blk_alloc ?_ _)); exact BK266.out) hg (Kd.R_ne HO_12.out BK266.out (by decide))); have n3_ := Aside0.mk (blk_grown (g := gb267) (o := .cells #[.int .i64 0, .bool false, .slice none 0 0] 32 (0, 0)) (by (with_reducible repeat (first | refine blk_drewN ?_ _ | refine blk_drew ?_ | refine blk_alloc ?_ _)); exact BK267.out) hg (Kd.R_ne HO_12.out BK267.out (by decide))); have n4_ := Aside0.mk (blk_grown (g := gb276) (o := .cells #[.int .i64 t268, .bool t269, .slice Ao13 t270.length co13] 32 (0, 0)) (by (with_reducible repeat (first | refine blk_drewN ?_ _ | refine blk_drew ?_ | refine blk_alloc ?_ _)); exact BK276.out) hg (Kd.R_ne HO_12.out BK276.out (by decide))); have n5_ := Aside0.mk (hb); have n6_ := Aside0.mk (ho); clear HO_13; clear HO_277002; clear BK266; clear BK267; clear BK276; clear HB; clear HO_12; have HO_13 := n0_; have HO_277002 := n1_; have BK266 := n2_; have BK267 := n3_; have BK276 := n4_; have HB := n5_; have HO289 := n6_; clear n0_ n1_ n2_ n3_ n4_ n5_ n6_; clear ho hb hg hat))
                          go_roundg kj17
                          case measure => have := HK1.out; have := HJ17.out; omega
                          case rel => exact ⟨(y287), (x13_1), (wrap64 (x14_1 + 1)), (by first | rfl | (simp; done) | (simp [*]; done)), H', ⟨by have := HK1.out; have := HJ17.out; omega⟩, ⟨by (with_reducible repeat (first | apply Kd.R_alloc | apply Kd.R_drewN | apply Kd.R_drew)); exact HO289.out⟩, ⟨by (with_reducible repeat (first | apply Kd.R_alloc | apply Kd.R_drewN | apply Kd.R_drew)); exact Kd.R_mono HO_13.out (fun _ hk => hk.2)⟩, ⟨by (with_reducible repeat (first | apply Kd.R_alloc | apply Kd.R_drewN | apply Kd.R_drew)); exact HO_277002.out⟩, ⟨by (with_reducible repeat (first | refine blk_drewN ?_ _ | refine blk_drew ?_ | refine blk_alloc ?_ _)); exact BK266.out⟩, ⟨by (with_reducible repeat (first | refine blk_drewN ?_ _ | refine blk_drew ?_ | refine blk_alloc ?_ _)); exact BK267.out⟩, ⟨by (with_reducible repeat (first | refine blk_drewN ?_ _ | refine blk_drew ?_ | refine blk_alloc ?_ _)); exact BK276.out⟩, ⟨by repeat (first | (with_reducible first | exact HB.out | apply below_alloc | apply pw_below_drewN | apply below_drew1 | refine below_set ?_ GE266.out | refine below_set ?_ GE267.out | refine below_set ?_ GE276.out) | exact HB.out)⟩⟩
                        · rw [if_neg c44] at H
                          exact absurd H (by simp)
                      · rw [if_neg c43] at H
                        have c43b0 : decide (t286 < 0) = false := decide_eq_false c43
                        clear c43
                        have H' := Aside0.mk H
                        clear H
                        have hnb53 := NB266_267.out
                        have hnc53 := NB267_266.out
                        have hnb54 := NB266_276.out
                        have hnc54 := NB276_266.out
                        have hcz55_0 : wc.cell? ⟨gb266, 0, none⟩ = some (.int .u8 a0_0) := (blk_cell BK266.out 0).trans rfl
                        have hcz55_1 : wc.cell? ⟨gb266, 1, none⟩ = some (.bool a0_1) := (blk_cell BK266.out 1).trans rfl
                        have hcz55_2 : wc.cell? ⟨gb266, 2, none⟩ = some (.slice A0_2 l0_2.length c0_2) := (blk_cell BK266.out 2).trans rfl
                        have hcz55_3 : wc.cell? ⟨gb266, 3, none⟩ = some (.int .u8 a0_3) := (blk_cell BK266.out 3).trans rfl
                        have hcz55_4 : wc.cell? ⟨gb266, 4, none⟩ = some (.int .u8 a0_4) := (blk_cell BK266.out 4).trans rfl
                        have hcz55_5 : wc.cell? ⟨gb266, 5, none⟩ = some (.int .u8 a0_5) := (blk_cell BK266.out 5).trans rfl
                        have hcz55_6 : wc.cell? ⟨gb266, 6, none⟩ = some (.slice A0_6 l0_6.length c0_6) := (blk_cell BK266.out 6).trans rfl
                        have hcz55_7 : wc.cell? ⟨gb266, 7, none⟩ = some (.slice A0_7 l0_7.length c0_7) := (blk_cell BK266.out 7).trans rfl
                        have hcz55_8 : wc.cell? ⟨gb266, 8, none⟩ = some (.slice A0_8 l0_8.length c0_8) := (blk_cell BK266.out 8).trans rfl
                        have hcz55_9 : wc.cell? ⟨gb266, 9, none⟩ = some (.slice A0_9 l0_9.length c0_9) := (blk_cell BK266.out 9).trans rfl
                        have hfz55_0 := blk_frozen BK266.out 0
                        have hfz55_1 := blk_frozen BK266.out 1
                        have hfz55_2 := blk_frozen BK266.out 2
                        have hfz55_3 := blk_frozen BK266.out 3
                        have hfz55_4 := blk_frozen BK266.out 4
                        have hfz55_5 := blk_frozen BK266.out 5
                        have hfz55_6 := blk_frozen BK266.out 6
                        have hfz55_7 := blk_frozen BK266.out 7
                        have hfz55_8 := blk_frozen BK266.out 8
                        have hfz55_9 := blk_frozen BK266.out 9
                        have p283 : 0 ≤ (x14_1 : Int) := of_decide_eq_true (by first | (with_reducible assumption) | assumption)
                        have q283 : x14_1 < (l0_6.length : Int) := of_decide_eq_true (by first | (with_reducible assumption) | assumption)
                        obtain ⟨ad283, e283, hx283_0⟩ := Kd.at_int HR0_6.out x14_1 p283 q283
                        cases e283
                        replace hx283_0 := (HB.out.cell (World.block_lt_of_cell? w _ hx283_0)).trans hx283_0
                        replace p283 := eq_true p283
                        replace q283 := eq_true q283
                        have hnb56 := NB276_267.out
                        have hnc56 := NB267_276.out
                        have hcz57_0 : wc.cell? ⟨gb276, 0, none⟩ = some (.int .i64 t268) := (blk_cell BK276.out 0).trans rfl
                        have hcz57_1 : wc.cell? ⟨gb276, 1, none⟩ = some (.bool t269) := (blk_cell BK276.out 1).trans rfl
                        have hcz57_2 : wc.cell? ⟨gb276, 2, none⟩ = some (.slice Ao13 t270.length co13) := (blk_cell BK276.out 2).trans rfl
                        have hfz57_0 := blk_frozen BK276.out 0
                        have hfz57_1 := blk_frozen BK276.out 1
                        have hfz57_2 := blk_frozen BK276.out 2
                        obtain ⟨Ao58, co58, eo58⟩ := Kd.R_slice HO_12.out
                        subst eo58
                        go_wp2_with (first | ((with_reducible refine gate_callee (f := 27) rfl ?_); refine goesL_ (some 68) rfl rfl Try.func27 (by kernel_rfl) rfl #[.slice Ao58 x12_1.length co58, .int .i64 (Int.tmod (wrap64 (t273 + (wrap64 (2 * x14_1)))) t268)] rfl (by (try simp only [List.map_toArray, List.map_cons, List.map_nil]); first | done | rfl | (simp only [List.length_drop, List.length_take]; rfl)) ?_; (with_reducible refine (ebbtideref21_Of.calls kj17 _ _ x12_1 (Int.tmod (wrap64 (t273 + (wrap64 (2 * x14_1)))) t268) t285 _ ?side1 ?side2 A40.out).mono ?_); (case side1 => repeat (first | exact (Kd.R_reads' HO_12.out).2.2 | (with_reducible refine Kd.C_alloc ?_ _) | (with_reducible refine Kd.C_drewN ?_ _) | (with_reducible refine Kd.C_drew ?_))); (case side2 => exact (Kd.R_reads' HO_12.out).2.1); rintro e w' ⟨rfl, ⟨nd, rfl⟩⟩; refine ⟨_, rfl, ?_⟩; obtain ⟨Ao59, co59, eo59⟩ := Kd.R_slice HO_13.out; subst eo59) | (go_at_call 27; (with_reducible refine (ebbtideref21_Of.calls kj17 _ _ x13_1 (Int.tmod (wrap64 (t273 + (wrap64 (2 * x14_1)))) t268) t286 _ ?side1 ?side2 A42.out).mono ?_); (case side1 => repeat (first | exact (Kd.R_reads' HO_13.out).2.2 | (with_reducible refine Kd.C_alloc ?_ _) | (with_reducible refine Kd.C_drewN ?_ _) | (with_reducible refine Kd.C_drew ?_))); (case side2 => exact (Kd.R_reads' HO_13.out).2.1); rintro e w' ⟨rfl, ⟨nd, rfl⟩⟩))
                        go_roundg kj17
                        case measure => have := HK1.out; have := HJ17.out; omega
                        case rel => exact ⟨(x12_1), (x13_1), (wrap64 (x14_1 + 1)), (by first | rfl | (simp; done) | (simp [*]; done)), H', ⟨by have := HK1.out; have := HJ17.out; omega⟩, ⟨by (with_reducible repeat (first | apply Kd.R_alloc | apply Kd.R_drewN | apply Kd.R_drew)); exact HO_12.out⟩, ⟨by (with_reducible repeat (first | apply Kd.R_alloc | apply Kd.R_drewN | apply Kd.R_drew)); exact HO_13.out⟩, ⟨by (with_reducible repeat (first | apply Kd.R_alloc | apply Kd.R_drewN | apply Kd.R_drew)); exact HO_277002.out⟩, ⟨by (with_reducible repeat (first | refine blk_drewN ?_ _ | refine blk_drew ?_ | refine blk_alloc ?_ _)); exact BK266.out⟩, ⟨by (with_reducible repeat (first | refine blk_drewN ?_ _ | refine blk_drew ?_ | refine blk_alloc ?_ _)); exact BK267.out⟩, ⟨by (with_reducible repeat (first | refine blk_drewN ?_ _ | refine blk_drew ?_ | refine blk_alloc ?_ _)); exact BK276.out⟩, ⟨by repeat (first | (with_reducible first | exact HB.out | apply below_alloc | apply pw_below_drewN | apply below_drew1 | refine below_set ?_ GE266.out | refine below_set ?_ GE267.out | refine below_set ?_ GE276.out) | exact HB.out)⟩⟩
                    · rw [if_neg c41] at H
                      have c41b0 : decide (t285 < 0) = false := decide_eq_false c41
                      clear c41
                      have H' := Aside0.mk H
                      clear H
                      have hnb60 := NB266_267.out
                      have hnc60 := NB267_266.out
                      have hnb61 := NB266_276.out
                      have hnc61 := NB276_266.out
                      have hcz62_0 : wc.cell? ⟨gb266, 0, none⟩ = some (.int .u8 a0_0) := (blk_cell BK266.out 0).trans rfl
                      have hcz62_1 : wc.cell? ⟨gb266, 1, none⟩ = some (.bool a0_1) := (blk_cell BK266.out 1).trans rfl
                      have hcz62_2 : wc.cell? ⟨gb266, 2, none⟩ = some (.slice A0_2 l0_2.length c0_2) := (blk_cell BK266.out 2).trans rfl
                      have hcz62_3 : wc.cell? ⟨gb266, 3, none⟩ = some (.int .u8 a0_3) := (blk_cell BK266.out 3).trans rfl
                      have hcz62_4 : wc.cell? ⟨gb266, 4, none⟩ = some (.int .u8 a0_4) := (blk_cell BK266.out 4).trans rfl
                      have hcz62_5 : wc.cell? ⟨gb266, 5, none⟩ = some (.int .u8 a0_5) := (blk_cell BK266.out 5).trans rfl
                      have hcz62_6 : wc.cell? ⟨gb266, 6, none⟩ = some (.slice A0_6 l0_6.length c0_6) := (blk_cell BK266.out 6).trans rfl
                      have hcz62_7 : wc.cell? ⟨gb266, 7, none⟩ = some (.slice A0_7 l0_7.length c0_7) := (blk_cell BK266.out 7).trans rfl
                      have hcz62_8 : wc.cell? ⟨gb266, 8, none⟩ = some (.slice A0_8 l0_8.length c0_8) := (blk_cell BK266.out 8).trans rfl
                      have hcz62_9 : wc.cell? ⟨gb266, 9, none⟩ = some (.slice A0_9 l0_9.length c0_9) := (blk_cell BK266.out 9).trans rfl
                      have hfz62_0 := blk_frozen BK266.out 0
                      have hfz62_1 := blk_frozen BK266.out 1
                      have hfz62_2 := blk_frozen BK266.out 2
                      have hfz62_3 := blk_frozen BK266.out 3
                      have hfz62_4 := blk_frozen BK266.out 4
                      have hfz62_5 := blk_frozen BK266.out 5
                      have hfz62_6 := blk_frozen BK266.out 6
                      have hfz62_7 := blk_frozen BK266.out 7
                      have hfz62_8 := blk_frozen BK266.out 8
                      have hfz62_9 := blk_frozen BK266.out 9
                      have p283 : 0 ≤ (x14_1 : Int) := of_decide_eq_true (by first | (with_reducible assumption) | assumption)
                      have q283 : x14_1 < (l0_6.length : Int) := of_decide_eq_true (by first | (with_reducible assumption) | assumption)
                      obtain ⟨ad283, e283, hx283_0⟩ := Kd.at_int HR0_6.out x14_1 p283 q283
                      cases e283
                      replace hx283_0 := (HB.out.cell (World.block_lt_of_cell? w _ hx283_0)).trans hx283_0
                      replace p283 := eq_true p283
                      replace q283 := eq_true q283
                      have hnb63 := NB276_267.out
                      have hnc63 := NB267_276.out
                      have hcz64_0 : wc.cell? ⟨gb276, 0, none⟩ = some (.int .i64 t268) := (blk_cell BK276.out 0).trans rfl
                      have hcz64_1 : wc.cell? ⟨gb276, 1, none⟩ = some (.bool t269) := (blk_cell BK276.out 1).trans rfl
                      have hcz64_2 : wc.cell? ⟨gb276, 2, none⟩ = some (.slice Ao13 t270.length co13) := (blk_cell BK276.out 2).trans rfl
                      have hfz64_0 := blk_frozen BK276.out 0
                      have hfz64_1 := blk_frozen BK276.out 1
                      have hfz64_2 := blk_frozen BK276.out 2
                      obtain ⟨Ao65, co65, eo65⟩ := Kd.R_slice HO_12.out
                      subst eo65
                      go_wp2_with (first | ((with_reducible refine gate_callee (f := 27) rfl ?_); refine goesL_ (some 68) rfl rfl Try.func27 (by kernel_rfl) rfl #[.slice Ao65 x12_1.length co65, .int .i64 (Int.tmod (wrap64 (t273 + (wrap64 (2 * x14_1)))) t268)] rfl (by (try simp only [List.map_toArray, List.map_cons, List.map_nil]); first | done | rfl | (simp only [List.length_drop, List.length_take]; rfl)) ?_; (with_reducible refine (ebbtideref21_Of.calls kj17 _ _ x12_1 (Int.tmod (wrap64 (t273 + (wrap64 (2 * x14_1)))) t268) t285 _ ?side1 ?side2 A40.out).mono ?_); (case side1 => repeat (first | exact (Kd.R_reads' HO_12.out).2.2 | (with_reducible refine Kd.C_alloc ?_ _) | (with_reducible refine Kd.C_drewN ?_ _) | (with_reducible refine Kd.C_drew ?_))); (case side2 => exact (Kd.R_reads' HO_12.out).2.1); rintro e w' ⟨rfl, ⟨nd, rfl⟩⟩; refine ⟨_, rfl, ?_⟩))
                      go_roundg kj17
                      case measure => have := HK1.out; have := HJ17.out; omega
                      case rel => exact ⟨(x12_1), (x13_1), (wrap64 (x14_1 + 1)), (by first | rfl | (simp; done) | (simp [*]; done)), H', ⟨by have := HK1.out; have := HJ17.out; omega⟩, ⟨by (with_reducible repeat (first | apply Kd.R_alloc | apply Kd.R_drewN | apply Kd.R_drew)); exact HO_12.out⟩, ⟨by (with_reducible repeat (first | apply Kd.R_alloc | apply Kd.R_drewN | apply Kd.R_drew)); exact HO_13.out⟩, ⟨by (with_reducible repeat (first | apply Kd.R_alloc | apply Kd.R_drewN | apply Kd.R_drew)); exact HO_277002.out⟩, ⟨by (with_reducible repeat (first | refine blk_drewN ?_ _ | refine blk_drew ?_ | refine blk_alloc ?_ _)); exact BK266.out⟩, ⟨by (with_reducible repeat (first | refine blk_drewN ?_ _ | refine blk_drew ?_ | refine blk_alloc ?_ _)); exact BK267.out⟩, ⟨by (with_reducible repeat (first | refine blk_drewN ?_ _ | refine blk_drew ?_ | refine blk_alloc ?_ _)); exact BK276.out⟩, ⟨by repeat (first | (with_reducible first | exact HB.out | apply below_alloc | apply pw_below_drewN | apply below_drew1 | refine below_set ?_ GE266.out | refine below_set ?_ GE267.out | refine below_set ?_ GE276.out) | exact HB.out)⟩⟩
              · rw [if_neg c28] at H
                exact absurd H (by simp)
            · rw [if_neg c27] at H
              exact absurd H (by simp)
          · replace c26 := Bool.eq_false_iff.mpr c26
            subst c26
            have H1 : (ebbtidelaw21_Read.l1 kj17 t274 t275 x12_1 x13_1 0 a0_0 a0_1 l0_2 a0_3 a0_4 a0_5 l0_6 l0_7 l0_8 l0_9 t268 t269 t270) = some (r1, r2, r3, r4, r5, r6) := by rw [if_neg (show ¬ (false = true) by decide)] at H; exact H
            clear H
            have H := H1
            clear H1
            have H' := Aside0.mk H
            clear H
            go_wp2
            go_loopg [13, 17] kj17 (fun kq v13 v17 w' => ∃ (x12_3 : List (S44)) (x13_3 : List (S44)) (x17_3 : Int), v17 = .int .i64 x17_3 ∧ Aside0 (ebbtidelaw21_Read.l1 kq t274 t275 x12_3 x13_3 x17_3 a0_0 a0_1 l0_2 a0_3 a0_4 a0_5 l0_6 l0_7 l0_8 l0_9 t268 t269 t270 = some (r1, r2, r3, r4, r5, r6)) ∧ Aside0 (kq ≤ kj17) ∧ Aside0 (Kd.R k44 44 w' w.heap.size (fun k_ => some k_ ≠ (v13 : Value).ownBlock) u12 x12_3) ∧ Aside0 (Kd.R k44 44 w' w.heap.size (fun k_ => some k_ ≠ (u12 : Value).ownBlock) v13 x13_3) ∧ Aside0 (Kd.R k79 79 w' w.heap.size (fun _ => True) (.slice Ao13 t270.length co13) t270) ∧ Aside0 (w'.heap[gb266]? = some (.cells #[.int .u8 a0_0, .bool a0_1, (.slice A0_2 l0_2.length c0_2), .int .u8 a0_3, .int .u8 a0_4, .int .u8 a0_5, (.slice A0_6 l0_6.length c0_6), (.slice A0_7 l0_7.length c0_7), (.slice A0_8 l0_8.length c0_8), (.slice A0_9 l0_9.length c0_9)] 29 (0, 0))) ∧ Aside0 (w'.heap[gb267]? = some (.cells #[.int .i64 0, .bool false, (.slice none 0 0)] 32 (0, 0))) ∧ Aside0 (w'.heap[gb276]? = some (.cells #[.int .i64 t268, .bool t269, (.slice Ao13 t270.length co13)] 32 (0, 0))) ∧ Aside0 (Below w.heap.size w w'))
            case atStart => exact ⟨(x12_1), (x13_1), (0), (by first | rfl | (simp; done) | (simp [*]; done)), H', ⟨Nat.le_refl _⟩, ⟨by (with_reducible repeat (first | apply Kd.R_alloc | apply Kd.R_drewN | apply Kd.R_drew)); exact HO_12.out⟩, ⟨by (with_reducible repeat (first | apply Kd.R_alloc | apply Kd.R_drewN | apply Kd.R_drew)); exact HO_13.out⟩, ⟨by (with_reducible repeat (first | apply Kd.R_alloc | apply Kd.R_drewN | apply Kd.R_drew)); exact HO_277002.out⟩, ⟨by (with_reducible repeat (first | refine blk_drewN ?_ _ | refine blk_drew ?_ | refine blk_alloc ?_ _)); exact BK266.out⟩, ⟨by (with_reducible repeat (first | refine blk_drewN ?_ _ | refine blk_drew ?_ | refine blk_alloc ?_ _)); exact BK267.out⟩, ⟨by (with_reducible repeat (first | refine blk_drewN ?_ _ | refine blk_drew ?_ | refine blk_alloc ?_ _)); exact BK276.out⟩, ⟨by repeat (first | (with_reducible first | exact HB.out | apply below_alloc | apply pw_below_drewN | apply below_drew1 | refine below_set ?_ GE266.out | refine below_set ?_ GE267.out | refine below_set ?_ GE276.out) | exact HB.out)⟩⟩
            case round =>
              clear H'
              try clear c1
              try clear c2
              try clear p2
              try clear q2
              try clear hx2
              try clear c3
              try clear p3
              try clear q3
              try clear hx3
              try clear qi3
              try clear hf3
              try clear c4
              try clear c5
              try clear c6
              try clear p6
              try clear c10
              try clear c11
              try clear c16
              try clear c19
              try clear c19b0
              try clear c20
              try clear c21
              try clear c23
              try clear c24
              try clear c26
              try clear c27
              try clear c27b0
              try clear c28
              try clear c28b0
              try clear p28
              try clear q28
              try clear hx28
              try clear c29
              try clear c29b0
              try clear c29b1
              try clear c30
              try clear c30b0
              try clear c30b1
              try clear c31
              try clear c31b0
              try clear c31b1
              try clear c32
              try clear p32
              try clear q32
              try clear hx32
              try clear qi32
              try clear hf32
              try clear c33
              try clear c34
              try clear c36
              try clear c38
              try clear hx38
              try clear hf38
              try clear c41
              try clear c41b0
              try clear c43
              try clear c43b0
              try clear c44
              try clear c45
              try clear c46
              try clear c48
              try clear c53
              try clear c54
              try clear c56
              try clear c60
              try clear c61
              try clear c63
              try clear p64
              try clear hcz12_0
              try clear hcz12_1
              try clear hcz12_2
              try clear hcz22_0
              try clear hcz22_1
              try clear hcz22_2
              try clear hcz22_3
              try clear hcz22_4
              try clear hcz22_5
              try clear hcz22_6
              try clear hcz22_7
              try clear hcz22_8
              try clear hcz22_9
              try clear hcz25_0
              try clear hcz25_1
              try clear hcz25_2
              try clear hcz25_3
              try clear hcz25_4
              try clear hcz25_5
              try clear hcz25_6
              try clear hcz25_7
              try clear hcz25_8
              try clear hcz25_9
              try clear hcz35_0
              try clear hcz35_1
              try clear hcz35_2
              try clear hcz35_3
              try clear hcz35_4
              try clear hcz35_5
              try clear hcz35_6
              try clear hcz35_7
              try clear hcz35_8
              try clear hcz35_9
              try clear hcz37_0
              try clear hcz37_1
              try clear hcz37_2
              try clear hcz47_0
              try clear hcz47_1
              try clear hcz47_2
              try clear hcz47_3
              try clear hcz47_4
              try clear hcz47_5
              try clear hcz47_6
              try clear hcz47_7
              try clear hcz47_8
              try clear hcz47_9
              try clear hcz49_0
              try clear hcz49_1
              try clear hcz49_2
              try clear hcz55_0
              try clear hcz55_1
              try clear hcz55_2
              try clear hcz55_3
              try clear hcz55_4
              try clear hcz55_5
              try clear hcz55_6
              try clear hcz55_7
              try clear hcz55_8
              try clear hcz55_9
              try clear hcz57_0
              try clear hcz57_1
              try clear hcz57_2
              try clear hcz62_0
              try clear hcz62_1
              try clear hcz62_2
              try clear hcz62_3
              try clear hcz62_4
              try clear hcz62_5
              try clear hcz62_6
              try clear hcz62_7
              try clear hcz62_8
              try clear hcz62_9
              try clear hcz64_0
              try clear hcz64_1
              try clear hcz64_2
              try clear hcz7_0
              try clear hcz7_1
              try clear hcz7_2
              try clear hcz7_3
              try clear hcz7_4
              try clear hcz7_5
              try clear hcz7_6
              try clear hcz7_7
              try clear hcz7_8
              try clear hcz7_9
              try clear hfz12_0
              try clear hfz12_1
              try clear hfz12_2
              try clear hfz22_0
              try clear hfz22_1
              try clear hfz22_2
              try clear hfz22_3
              try clear hfz22_4
              try clear hfz22_5
              try clear hfz22_6
              try clear hfz22_7
              try clear hfz22_8
              try clear hfz22_9
              try clear hfz25_0
              try clear hfz25_1
              try clear hfz25_2
              try clear hfz25_3
              try clear hfz25_4
              try clear hfz25_5
              try clear hfz25_6
              try clear hfz25_7
              try clear hfz25_8
              try clear hfz25_9
              try clear hfz35_0
              try clear hfz35_1
              try clear hfz35_2
              try clear hfz35_3
              try clear hfz35_4
              try clear hfz35_5
              try clear hfz35_6
              try clear hfz35_7
              try clear hfz35_8
              try clear hfz35_9
              try clear hfz37_0
              try clear hfz37_1
              try clear hfz37_2
              try clear hfz47_0
              try clear hfz47_1
              try clear hfz47_2
              try clear hfz47_3
              try clear hfz47_4
              try clear hfz47_5
              try clear hfz47_6
              try clear hfz47_7
              try clear hfz47_8
              try clear hfz47_9
              try clear hfz49_0
              try clear hfz49_1
              try clear hfz49_2
              try clear hfz55_0
              try clear hfz55_1
              try clear hfz55_2
              try clear hfz55_3
              try clear hfz55_4
              try clear hfz55_5
              try clear hfz55_6
              try clear hfz55_7
              try clear hfz55_8
              try clear hfz55_9
              try clear hfz57_0
              try clear hfz57_1
              try clear hfz57_2
              try clear hfz62_0
              try clear hfz62_1
              try clear hfz62_2
              try clear hfz62_3
              try clear hfz62_4
              try clear hfz62_5
              try clear hfz62_6
              try clear hfz62_7
              try clear hfz62_8
              try clear hfz62_9
              try clear hfz64_0
              try clear hfz64_1
              try clear hfz64_2
              try clear hfz7_0
              try clear hfz7_1
              try clear hfz7_2
              try clear hfz7_3
              try clear hfz7_4
              try clear hfz7_5
              try clear hfz7_6
              try clear hfz7_7
              try clear hfz7_8
              try clear hfz7_9
              try clear hx283_0
              try clear hx32_0
              try clear hx32_1
              try clear hx38_1
              try clear p2
              try clear p283
              try clear p32
              try clear q283
              try clear q32
              obtain ⟨x12_3, x13_3, x17_3, rfl, HA, HK3, HO_12, HO_13, HO_277002, BK266, BK267, BK276, HB⟩ := hrel
              cases gk with
              | zero => exact absurd HA.out (by simp [ebbtidelaw21_Read.l1])
              | succ k3 =>
                have H := HA.out
                clear HA
                simp only [ebbtidelaw21_Read.l1] at H
                have HC66 := Aside0.mk H
                clear H
                go_upto_region 14 with (fail)
                go_cut [90] (fun v90 wc => ∃ (kq : Nat) (x90_65 : Bool), v90 = .bool x90_65 ∧ Aside0 (ebbtidelaw21_Read.j3 kq t274 t275 x12_3 x13_3 x17_3 x90_65 a0_0 a0_1 l0_2 a0_3 a0_4 a0_5 l0_6 l0_7 l0_8 l0_9 t268 t269 t270 = some (r1, r2, r3, r4, r5, r6)) ∧ Aside0 (kq ≤ k3) ∧ Aside0 (Kd.R k44 44 wc w.heap.size (fun k_ => some k_ ≠ (u13 : Value).ownBlock) u12 x12_3) ∧ Aside0 (Kd.R k44 44 wc w.heap.size (fun k_ => some k_ ≠ (u12 : Value).ownBlock) u13 x13_3) ∧ Aside0 (Kd.R k79 79 wc w.heap.size (fun _ => True) (.slice Ao13 t270.length co13) t270) ∧ Aside0 (wc.heap[gb266]? = some (.cells #[.int .u8 a0_0, .bool a0_1, (.slice A0_2 l0_2.length c0_2), .int .u8 a0_3, .int .u8 a0_4, .int .u8 a0_5, (.slice A0_6 l0_6.length c0_6), (.slice A0_7 l0_7.length c0_7), (.slice A0_8 l0_8.length c0_8), (.slice A0_9 l0_9.length c0_9)] 29 (0, 0))) ∧ Aside0 (wc.heap[gb267]? = some (.cells #[.int .i64 0, .bool false, (.slice none 0 0)] 32 (0, 0))) ∧ Aside0 (wc.heap[gb276]? = some (.cells #[.int .i64 t268, .bool t269, (.slice Ao13 t270.length co13)] 32 (0, 0))) ∧ Aside0 (Below w.heap.size w wc))
                case first =>
                  have H := HC66.out
                  clear HC66
                  by_cases c67 : x17_3 < (l0_7.length : Int)
                  · rw [if_pos c67] at H
                    have c67b0 : decide (x17_3 < (l0_7.length : Int)) = true := decide_eq_true c67
                    clear c67
                    (first | rw [c67b0] | (simp only [i64_w, i32_w]; rw [c67b0]) | skip)
                    have H' := Aside0.mk H
                    clear H
                    have hnb68 := NB266_267.out
                    have hnc68 := NB267_266.out
                    have hnb69 := NB266_276.out
                    have hnc69 := NB276_266.out
                    have hcz70_0 : wr.cell? ⟨gb266, 0, none⟩ = some (.int .u8 a0_0) := (blk_cell BK266.out 0).trans rfl
                    have hcz70_1 : wr.cell? ⟨gb266, 1, none⟩ = some (.bool a0_1) := (blk_cell BK266.out 1).trans rfl
                    have hcz70_2 : wr.cell? ⟨gb266, 2, none⟩ = some (.slice A0_2 l0_2.length c0_2) := (blk_cell BK266.out 2).trans rfl
                    have hcz70_3 : wr.cell? ⟨gb266, 3, none⟩ = some (.int .u8 a0_3) := (blk_cell BK266.out 3).trans rfl
                    have hcz70_4 : wr.cell? ⟨gb266, 4, none⟩ = some (.int .u8 a0_4) := (blk_cell BK266.out 4).trans rfl
                    have hcz70_5 : wr.cell? ⟨gb266, 5, none⟩ = some (.int .u8 a0_5) := (blk_cell BK266.out 5).trans rfl
                    have hcz70_6 : wr.cell? ⟨gb266, 6, none⟩ = some (.slice A0_6 l0_6.length c0_6) := (blk_cell BK266.out 6).trans rfl
                    have hcz70_7 : wr.cell? ⟨gb266, 7, none⟩ = some (.slice A0_7 l0_7.length c0_7) := (blk_cell BK266.out 7).trans rfl
                    have hcz70_8 : wr.cell? ⟨gb266, 8, none⟩ = some (.slice A0_8 l0_8.length c0_8) := (blk_cell BK266.out 8).trans rfl
                    have hcz70_9 : wr.cell? ⟨gb266, 9, none⟩ = some (.slice A0_9 l0_9.length c0_9) := (blk_cell BK266.out 9).trans rfl
                    have hfz70_0 := blk_frozen BK266.out 0
                    have hfz70_1 := blk_frozen BK266.out 1
                    have hfz70_2 := blk_frozen BK266.out 2
                    have hfz70_3 := blk_frozen BK266.out 3
                    have hfz70_4 := blk_frozen BK266.out 4
                    have hfz70_5 := blk_frozen BK266.out 5
                    have hfz70_6 := blk_frozen BK266.out 6
                    have hfz70_7 := blk_frozen BK266.out 7
                    have hfz70_8 := blk_frozen BK266.out 8
                    have hfz70_9 := blk_frozen BK266.out 9
                    go_wp2
                    go_meet
                    case rel => exact ⟨_, (decide (x17_3 < 4)), (by first | rfl | (simp; done) | (simp [*]; done)), H', ⟨by have := HK1.out; have := HJ17.out; have := HK3.out; first | omega | exact Nat.le_refl _⟩, ⟨by (with_reducible repeat (first | apply Kd.R_alloc | apply Kd.R_drewN | apply Kd.R_drew)); exact HO_12.out⟩, ⟨by (with_reducible repeat (first | apply Kd.R_alloc | apply Kd.R_drewN | apply Kd.R_drew)); exact HO_13.out⟩, ⟨by (with_reducible repeat (first | apply Kd.R_alloc | apply Kd.R_drewN | apply Kd.R_drew)); exact HO_277002.out⟩, ⟨by (with_reducible repeat (first | refine blk_drewN ?_ _ | refine blk_drew ?_ | refine blk_alloc ?_ _)); exact BK266.out⟩, ⟨by (with_reducible repeat (first | refine blk_drewN ?_ _ | refine blk_drew ?_ | refine blk_alloc ?_ _)); exact BK267.out⟩, ⟨by (with_reducible repeat (first | refine blk_drewN ?_ _ | refine blk_drew ?_ | refine blk_alloc ?_ _)); exact BK276.out⟩, ⟨by repeat (first | (with_reducible first | exact HB.out | apply below_alloc | apply pw_below_drewN | apply below_drew1 | refine below_set ?_ GE266.out | refine below_set ?_ GE267.out | refine below_set ?_ GE276.out) | exact HB.out)⟩⟩
                  · rw [if_neg c67] at H
                    have c67b0 : decide (x17_3 < (l0_7.length : Int)) = false := decide_eq_false c67
                    clear c67
                    (first | rw [c67b0] | (simp only [i64_w, i32_w]; rw [c67b0]) | skip)
                    have H' := Aside0.mk H
                    clear H
                    have hnb71 := NB266_267.out
                    have hnc71 := NB267_266.out
                    have hnb72 := NB266_276.out
                    have hnc72 := NB276_266.out
                    have hcz73_0 : wr.cell? ⟨gb266, 0, none⟩ = some (.int .u8 a0_0) := (blk_cell BK266.out 0).trans rfl
                    have hcz73_1 : wr.cell? ⟨gb266, 1, none⟩ = some (.bool a0_1) := (blk_cell BK266.out 1).trans rfl
                    have hcz73_2 : wr.cell? ⟨gb266, 2, none⟩ = some (.slice A0_2 l0_2.length c0_2) := (blk_cell BK266.out 2).trans rfl
                    have hcz73_3 : wr.cell? ⟨gb266, 3, none⟩ = some (.int .u8 a0_3) := (blk_cell BK266.out 3).trans rfl
                    have hcz73_4 : wr.cell? ⟨gb266, 4, none⟩ = some (.int .u8 a0_4) := (blk_cell BK266.out 4).trans rfl
                    have hcz73_5 : wr.cell? ⟨gb266, 5, none⟩ = some (.int .u8 a0_5) := (blk_cell BK266.out 5).trans rfl
                    have hcz73_6 : wr.cell? ⟨gb266, 6, none⟩ = some (.slice A0_6 l0_6.length c0_6) := (blk_cell BK266.out 6).trans rfl
                    have hcz73_7 : wr.cell? ⟨gb266, 7, none⟩ = some (.slice A0_7 l0_7.length c0_7) := (blk_cell BK266.out 7).trans rfl
                    have hcz73_8 : wr.cell? ⟨gb266, 8, none⟩ = some (.slice A0_8 l0_8.length c0_8) := (blk_cell BK266.out 8).trans rfl
                    have hcz73_9 : wr.cell? ⟨gb266, 9, none⟩ = some (.slice A0_9 l0_9.length c0_9) := (blk_cell BK266.out 9).trans rfl
                    have hfz73_0 := blk_frozen BK266.out 0
                    have hfz73_1 := blk_frozen BK266.out 1
                    have hfz73_2 := blk_frozen BK266.out 2
                    have hfz73_3 := blk_frozen BK266.out 3
                    have hfz73_4 := blk_frozen BK266.out 4
                    have hfz73_5 := blk_frozen BK266.out 5
                    have hfz73_6 := blk_frozen BK266.out 6
                    have hfz73_7 := blk_frozen BK266.out 7
                    have hfz73_8 := blk_frozen BK266.out 8
                    have hfz73_9 := blk_frozen BK266.out 9
                    go_wp2
                    go_meet
                    case rel => exact ⟨_, (false), (by first | rfl | (simp; done) | (simp [*]; done)), H', ⟨by have := HK1.out; have := HJ17.out; have := HK3.out; first | omega | exact Nat.le_refl _⟩, ⟨by (with_reducible repeat (first | apply Kd.R_alloc | apply Kd.R_drewN | apply Kd.R_drew)); exact HO_12.out⟩, ⟨by (with_reducible repeat (first | apply Kd.R_alloc | apply Kd.R_drewN | apply Kd.R_drew)); exact HO_13.out⟩, ⟨by (with_reducible repeat (first | apply Kd.R_alloc | apply Kd.R_drewN | apply Kd.R_drew)); exact HO_277002.out⟩, ⟨by (with_reducible repeat (first | refine blk_drewN ?_ _ | refine blk_drew ?_ | refine blk_alloc ?_ _)); exact BK266.out⟩, ⟨by (with_reducible repeat (first | refine blk_drewN ?_ _ | refine blk_drew ?_ | refine blk_alloc ?_ _)); exact BK267.out⟩, ⟨by (with_reducible repeat (first | refine blk_drewN ?_ _ | refine blk_drew ?_ | refine blk_alloc ?_ _)); exact BK276.out⟩, ⟨by repeat (first | (with_reducible first | exact HB.out | apply below_alloc | apply pw_below_drewN | apply below_drew1 | refine below_set ?_ GE266.out | refine below_set ?_ GE267.out | refine below_set ?_ GE276.out) | exact HB.out)⟩⟩
                case rest =>
                  clear HC66
                  try clear c1
                  try clear c2
                  try clear p2
                  try clear q2
                  try clear hx2
                  try clear c3
                  try clear p3
                  try clear q3
                  try clear hx3
                  try clear qi3
                  try clear hf3
                  try clear c4
                  try clear c5
                  try clear c6
                  try clear p6
                  try clear c7
                  try clear c10
                  try clear c11
                  try clear c16
                  try clear c19
                  try clear c19b0
                  try clear c20
                  try clear c21
                  try clear c23
                  try clear c24
                  try clear c26
                  try clear c27
                  try clear c27b0
                  try clear c28
                  try clear c28b0
                  try clear p28
                  try clear q28
                  try clear hx28
                  try clear c29
                  try clear c29b0
                  try clear c29b1
                  try clear c30
                  try clear c30b0
                  try clear c30b1
                  try clear c31
                  try clear c31b0
                  try clear c31b1
                  try clear c32
                  try clear p32
                  try clear q32
                  try clear hx32
                  try clear qi32
                  try clear hf32
                  try clear c33
                  try clear c34
                  try clear c36
                  try clear c38
                  try clear hx38
                  try clear hf38
                  try clear c41
                  try clear c41b0
                  try clear c43
                  try clear c43b0
                  try clear c44
                  try clear c45
                  try clear c46
                  try clear c48
                  try clear c53
                  try clear c54
                  try clear c56
                  try clear c60
                  try clear c61
                  try clear c63
                  try clear p64
                  try clear c67
                  try clear c67b0
                  try clear c68
                  try clear c69
                  try clear c71
                  try clear c72
                  try clear hcz12_0
                  try clear hcz12_1
                  try clear hcz12_2
                  try clear hcz22_0
                  try clear hcz22_1
                  try clear hcz22_2
                  try clear hcz22_3
                  try clear hcz22_4
                  try clear hcz22_5
                  try clear hcz22_6
                  try clear hcz22_7
                  try clear hcz22_8
                  try clear hcz22_9
                  try clear hcz25_0
                  try clear hcz25_1
                  try clear hcz25_2
                  try clear hcz25_3
                  try clear hcz25_4
                  try clear hcz25_5
                  try clear hcz25_6
                  try clear hcz25_7
                  try clear hcz25_8
                  try clear hcz25_9
                  try clear hcz35_0
                  try clear hcz35_1
                  try clear hcz35_2
                  try clear hcz35_3
                  try clear hcz35_4
                  try clear hcz35_5
                  try clear hcz35_6
                  try clear hcz35_7
                  try clear hcz35_8
                  try clear hcz35_9
                  try clear hcz37_0
                  try clear hcz37_1
                  try clear hcz37_2
                  try clear hcz47_0
                  try clear hcz47_1
                  try clear hcz47_2
                  try clear hcz47_3
                  try clear hcz47_4
                  try clear hcz47_5
                  try clear hcz47_6
                  try clear hcz47_7
                  try clear hcz47_8
                  try clear hcz47_9
                  try clear hcz49_0
                  try clear hcz49_1
                  try clear hcz49_2
                  try clear hcz55_0
                  try clear hcz55_1
                  try clear hcz55_2
                  try clear hcz55_3
                  try clear hcz55_4
                  try clear hcz55_5
                  try clear hcz55_6
                  try clear hcz55_7
                  try clear hcz55_8
                  try clear hcz55_9
                  try clear hcz57_0
                  try clear hcz57_1
                  try clear hcz57_2
                  try clear hcz62_0
                  try clear hcz62_1
                  try clear hcz62_2
                  try clear hcz62_3
                  try clear hcz62_4
                  try clear hcz62_5
                  try clear hcz62_6
                  try clear hcz62_7
                  try clear hcz62_8
                  try clear hcz62_9
                  try clear hcz64_0
                  try clear hcz64_1
                  try clear hcz64_2
                  try clear hcz70_0
                  try clear hcz70_1
                  try clear hcz70_2
                  try clear hcz70_3
                  try clear hcz70_4
                  try clear hcz70_5
                  try clear hcz70_6
                  try clear hcz70_7
                  try clear hcz70_8
                  try clear hcz70_9
                  try clear hcz73_0
                  try clear hcz73_1
                  try clear hcz73_2
                  try clear hcz73_3
                  try clear hcz73_4
                  try clear hcz73_5
                  try clear hcz73_6
                  try clear hcz73_7
                  try clear hcz73_8
                  try clear hcz73_9
                  try clear hcz7_0
                  try clear hcz7_1
                  try clear hcz7_2
                  try clear hcz7_3
                  try clear hcz7_4
                  try clear hcz7_5
                  try clear hcz7_6
                  try clear hcz7_7
                  try clear hcz7_8
                  try clear hcz7_9
                  try clear hfz12_0
                  try clear hfz12_1
                  try clear hfz12_2
                  try clear hfz22_0
                  try clear hfz22_1
                  try clear hfz22_2
                  try clear hfz22_3
                  try clear hfz22_4
                  try clear hfz22_5
                  try clear hfz22_6
                  try clear hfz22_7
                  try clear hfz22_8
                  try clear hfz22_9
                  try clear hfz25_0
                  try clear hfz25_1
                  try clear hfz25_2
                  try clear hfz25_3
                  try clear hfz25_4
                  try clear hfz25_5
                  try clear hfz25_6
                  try clear hfz25_7
                  try clear hfz25_8
                  try clear hfz25_9
                  try clear hfz35_0
                  try clear hfz35_1
                  try clear hfz35_2
                  try clear hfz35_3
                  try clear hfz35_4
                  try clear hfz35_5
                  try clear hfz35_6
                  try clear hfz35_7
                  try clear hfz35_8
                  try clear hfz35_9
                  try clear hfz37_0
                  try clear hfz37_1
                  try clear hfz37_2
                  try clear hfz47_0
                  try clear hfz47_1
                  try clear hfz47_2
                  try clear hfz47_3
                  try clear hfz47_4
                  try clear hfz47_5
                  try clear hfz47_6
                  try clear hfz47_7
                  try clear hfz47_8
                  try clear hfz47_9
                  try clear hfz49_0
                  try clear hfz49_1
                  try clear hfz49_2
                  try clear hfz55_0
                  try clear hfz55_1
                  try clear hfz55_2
                  try clear hfz55_3
                  try clear hfz55_4
                  try clear hfz55_5
                  try clear hfz55_6
                  try clear hfz55_7
                  try clear hfz55_8
                  try clear hfz55_9
                  try clear hfz57_0
                  try clear hfz57_1
                  try clear hfz57_2
                  try clear hfz62_0
                  try clear hfz62_1
                  try clear hfz62_2
                  try clear hfz62_3
                  try clear hfz62_4
                  try clear hfz62_5
                  try clear hfz62_6
                  try clear hfz62_7
                  try clear hfz62_8
                  try clear hfz62_9
                  try clear hfz64_0
                  try clear hfz64_1
                  try clear hfz64_2
                  try clear hfz70_0
                  try clear hfz70_1
                  try clear hfz70_2
                  try clear hfz70_3
                  try clear hfz70_4
                  try clear hfz70_5
                  try clear hfz70_6
                  try clear hfz70_7
                  try clear hfz70_8
                  try clear hfz70_9
                  try clear hfz73_0
                  try clear hfz73_1
                  try clear hfz73_2
                  try clear hfz73_3
                  try clear hfz73_4
                  try clear hfz73_5
                  try clear hfz73_6
                  try clear hfz73_7
                  try clear hfz73_8
                  try clear hfz73_9
                  try clear hfz7_0
                  try clear hfz7_1
                  try clear hfz7_2
                  try clear hfz7_3
                  try clear hfz7_4
                  try clear hfz7_5
                  try clear hfz7_6
                  try clear hfz7_7
                  try clear hfz7_8
                  try clear hfz7_9
                  try clear hx283_0
                  try clear hx32_0
                  try clear hx32_1
                  try clear hx38_1
                  try clear p2
                  try clear p28
                  try clear p283
                  try clear p3
                  try clear p32
                  try clear p6
                  try clear p64
                  try clear q2
                  try clear q28
                  try clear q283
                  try clear q3
                  try clear q32
                  obtain ⟨kq, x90_65, rfl, HA, HJ65, HO_12, HO_13, HO_277002, BK266, BK267, BK276, HB⟩ := hcut
                  cases kq with
                  | zero => exact absurd HA.out (by simp [ebbtidelaw21_Read.j3])
                  | succ kj65 =>
                    have H := HA.out
                    clear HA
                    simp only [ebbtidelaw21_Read.j3] at H
                    by_cases c74 : x90_65 = true
                    · subst c74
                      have H1 : (if 0 ≤ x17_3 then (if x17_3 < (l0_7.length : Int) then (if t268 = 0 then (none) else (if x17_3 = 0 then (if 0 < (x13_3.length : Int) then (ebbtidelaw21_Read.l1 kj65 t274 t275 x12_3 (x13_3.set (0 : Int).toNat (⟨(rd_T44 x13_3 0).f0, Int.tmod (wrap64 (rd l0_7 x17_3)) 9⟩ : S44)) (wrap64 (x17_3 + 1)) a0_0 a0_1 l0_2 a0_3 a0_4 a0_5 l0_6 l0_7 l0_8 l0_9 t268 t269 t270) else (none)) else ((ebbtideref21_Of.f kj65 x12_3 (Int.tmod (wrap64 (t274 + x17_3)) t268)).bind fun t292 => (if t292 < 0 then ((ebbtideref21_Of.f kj65 x13_3 (Int.tmod (wrap64 (t274 + x17_3)) t268)).bind fun t293 => (if t293 < 0 then (if x13_3.length < 8796093022208 then (ebbtidelaw21_Read.l1 kj65 t274 t275 x12_3 (x13_3 ++ [(⟨Int.tmod (wrap64 (t274 + x17_3)) t268, Int.tmod (wrap64 (rd l0_7 x17_3)) 9⟩ : S44)]) (wrap64 (x17_3 + 1)) a0_0 a0_1 l0_2 a0_3 a0_4 a0_5 l0_6 l0_7 l0_8 l0_9 t268 t269 t270) else (none)) else (ebbtidelaw21_Read.l1 kj65 t274 t275 x12_3 x13_3 (wrap64 (x17_3 + 1)) a0_0 a0_1 l0_2 a0_3 a0_4 a0_5 l0_6 l0_7 l0_8 l0_9 t268 t269 t270))) else (ebbtidelaw21_Read.l1 kj65 t274 t275 x12_3 x13_3 (wrap64 (x17_3 + 1)) a0_0 a0_1 l0_2 a0_3 a0_4 a0_5 l0_6 l0_7 l0_8 l0_9 t268 t269 t270))))) else (none)) else (none)) = some (r1, r2, r3, r4, r5, r6) := by rw [if_pos rfl] at H; exact H
                      clear H
                      have H := H1
                      clear H1
                      by_cases c75 : 0 ≤ x17_3
                      · rw [if_pos c75] at H
                        have c75b0 : decide (0 ≤ x17_3) = true := decide_eq_true c75
                        clear c75
                        by_cases c76 : x17_3 < (l0_7.length : Int)
                        · rw [if_pos c76] at H
                          have c76b0 : decide (x17_3 < (l0_7.length : Int)) = true := decide_eq_true c76
                          clear c76
                          by_cases c77 : t268 = 0
                          · rw [if_pos c77] at H
                            exact absurd H (by simp)
                          · rw [if_neg c77] at H
                            have c77b0 : (t268 == 0) = false := beq_eq_false_iff_ne.mpr c77
                            have c77b1 : (t268 != 0) = true := bne_iff_ne.mpr c77
                            by_cases c78 : x17_3 = 0
                            · rw [if_pos c78] at H
                              have c78b0 : (x17_3 == 0) = true := beq_iff_eq.mpr c78
                              have c78b1 : (x17_3 != 0) = false := bne_eq_false_iff_eq.mpr c78
                              clear c78
                              by_cases c79 : 0 < (x13_3.length : Int)
                              · rw [if_pos c79] at H
                                have c79b0 : decide (0 < (x13_3.length : Int)) = true := decide_eq_true c79
                                have c79b1 : decide (0 < x13_3.length) = true := decide_eq_true (by omega)
                                clear c79
                                obtain ⟨y291, hy291⟩ : ∃ y_ : List (S44), y_ = (x13_3.set (0 : Int).toNat (⟨(rd_T44 x13_3 0).f0, Int.tmod (wrap64 (rd l0_7 x17_3)) 9⟩ : S44)) := ⟨_, rfl⟩
                                replace H : (ebbtidelaw21_Read.l1 kj65 t274 t275 x12_3 y291 (wrap64 (x17_3 + 1)) a0_0 a0_1 l0_2 a0_3 a0_4 a0_5 l0_6 l0_7 l0_8 l0_9 t268 t269 t270) = some (r1, r2, r3, r4, r5, r6) := by first | (rw [hy291]; with_reducible exact H) | (have H2_ := (Option.bind_some _ _).symm.trans H; rw [hy291]; with_reducible exact H2_) | (have H2_ := (Option.bind_some _ _).symm.trans H; with_reducible exact H2_) | with_reducible exact H | (rw [hy291]; exact H) | exact H
                                have Ny291 := Aside0.mk hy291
                                clear hy291
                                have H' := Aside0.mk H
                                clear H
                                have hnb81 := NB266_267.out
                                have hnc81 := NB267_266.out
                                have hnb82 := NB266_276.out
                                have hnc82 := NB276_266.out
                                have hcz83_0 : wc.cell? ⟨gb266, 0, none⟩ = some (.int .u8 a0_0) := (blk_cell BK266.out 0).trans rfl
                                have hcz83_1 : wc.cell? ⟨gb266, 1, none⟩ = some (.bool a0_1) := (blk_cell BK266.out 1).trans rfl
                                have hcz83_2 : wc.cell? ⟨gb266, 2, none⟩ = some (.slice A0_2 l0_2.length c0_2) := (blk_cell BK266.out 2).trans rfl
                                have hcz83_3 : wc.cell? ⟨gb266, 3, none⟩ = some (.int .u8 a0_3) := (blk_cell BK266.out 3).trans rfl
                                have hcz83_4 : wc.cell? ⟨gb266, 4, none⟩ = some (.int .u8 a0_4) := (blk_cell BK266.out 4).trans rfl
                                have hcz83_5 : wc.cell? ⟨gb266, 5, none⟩ = some (.int .u8 a0_5) := (blk_cell BK266.out 5).trans rfl
                                have hcz83_6 : wc.cell? ⟨gb266, 6, none⟩ = some (.slice A0_6 l0_6.length c0_6) := (blk_cell BK266.out 6).trans rfl
                                have hcz83_7 : wc.cell? ⟨gb266, 7, none⟩ = some (.slice A0_7 l0_7.length c0_7) := (blk_cell BK266.out 7).trans rfl
                                have hcz83_8 : wc.cell? ⟨gb266, 8, none⟩ = some (.slice A0_8 l0_8.length c0_8) := (blk_cell BK266.out 8).trans rfl
                                have hcz83_9 : wc.cell? ⟨gb266, 9, none⟩ = some (.slice A0_9 l0_9.length c0_9) := (blk_cell BK266.out 9).trans rfl
                                have hfz83_0 := blk_frozen BK266.out 0
                                have hfz83_1 := blk_frozen BK266.out 1
                                have hfz83_2 := blk_frozen BK266.out 2
                                have hfz83_3 := blk_frozen BK266.out 3
                                have hfz83_4 := blk_frozen BK266.out 4
                                have hfz83_5 := blk_frozen BK266.out 5
                                have hfz83_6 := blk_frozen BK266.out 6
                                have hfz83_7 := blk_frozen BK266.out 7
                                have hfz83_8 := blk_frozen BK266.out 8
                                have hfz83_9 := blk_frozen BK266.out 9
                                have p290 : 0 ≤ (x17_3 : Int) := of_decide_eq_true (by first | (with_reducible assumption) | assumption)
                                have q290 : x17_3 < (l0_7.length : Int) := of_decide_eq_true (by first | (with_reducible assumption) | assumption)
                                obtain ⟨ad290, e290, hx290_0⟩ := Kd.at_int HR0_7.out x17_3 p290 q290
                                cases e290
                                replace hx290_0 := (HB.out.cell (World.block_lt_of_cell? w _ hx290_0)).trans hx290_0
                                replace p290 := eq_true p290
                                replace q290 := eq_true q290
                                have hnb84 := NB276_267.out
                                have hnc84 := NB267_276.out
                                have hcz85_0 : wc.cell? ⟨gb276, 0, none⟩ = some (.int .i64 t268) := (blk_cell BK276.out 0).trans rfl
                                have hcz85_1 : wc.cell? ⟨gb276, 1, none⟩ = some (.bool t269) := (blk_cell BK276.out 1).trans rfl
                                have hcz85_2 : wc.cell? ⟨gb276, 2, none⟩ = some (.slice Ao13 t270.length co13) := (blk_cell BK276.out 2).trans rfl
                                have hfz85_0 := blk_frozen BK276.out 0
                                have hfz85_1 := blk_frozen BK276.out 1
                                have hfz85_2 := blk_frozen BK276.out 2
                                have p80 : 0 ≤ (0 : Int) := (by omega)
                                have q80 : (0 : Int) < ((x13_3.length : Int) : Int) := of_decide_eq_true (by first | (with_reducible assumption) | assumption)
                                have qi80 : (0 < x13_3.length) = True := eq_true (by omega)
                                obtain ⟨go80, co80, eo80, gb80, gl80, cl80, HG80⟩ := Kd.R_form HO_13.out (by omega)
                                (first | cases eo80 | (injection eo80 with ea_ en_ ec_; (first | subst ea_ | (injection ea_ with ea_; subst ea_)); subst ec_; clear en_))
                                have GB80 := Aside0.mk gb80
                                have GG80 := Aside0.mk HG80
                                clear gb80 gl80 HG80
                                obtain ⟨ce80, hcl80, hM80, hcc80, hfr80⟩ := Kd.R_elem HO_13.out z44 (0 : Int) p80 q80
                                obtain rfl := k44_openM hM80
                                have hx80_0 : wc.cell? ⟨go80, (0 : Int).toNat * 2, none⟩ = some (.int .i64 ((rd_T44 x13_3 0).f0)) := hcc80 0 _ rfl
                                have hx80_1 : wc.cell? ⟨go80, (0 : Int).toNat * 2 + 1, none⟩ = some (.int .i64 ((rd_T44 x13_3 0).f1)) := hcc80 1 _ rfl
                                have hf80_0 : wc.frozen? ⟨go80, (0 : Int).toNat * 2, none⟩ = false := hfr80 0
                                have hf80_1 : wc.frozen? ⟨go80, (0 : Int).toNat * 2 + 1, none⟩ = false := hfr80 1
                                clear hcl80 hcc80 hfr80 hM80
                                (try rw [show ((0 : Int)).toNat = 0 from rfl] at hx80_0)
                                (try simp only [Nat.reduceMul, Nat.zero_mul, Nat.zero_add, Nat.reduceAdd] at hx80_0)
                                (try rw [show ((0 : Int)).toNat = 0 from rfl] at hf80_0)
                                (try simp only [Nat.reduceMul, Nat.zero_mul, Nat.zero_add, Nat.reduceAdd] at hf80_0)
                                (try rw [show ((0 : Int)).toNat = 0 from rfl] at hx80_1)
                                (try simp only [Nat.reduceMul, Nat.zero_mul, Nat.zero_add, Nat.reduceAdd] at hx80_1)
                                (try rw [show ((0 : Int)).toNat = 0 from rfl] at hf80_1)
                                (try simp only [Nat.reduceMul, Nat.zero_mul, Nat.zero_add, Nat.reduceAdd] at hf80_1)
                                replace p80 := eq_true p80
                                replace q80 := eq_true q80
                                have HX86 := Aside0.mk (show Kd.R k44 44 wc w.heap.size (fun k_ => some k_ ≠ (u12 : Value).ownBlock) (.slice (some ⟨go80, 0, none⟩) x13_3.length co80) x13_3 from (by (with_reducible repeat (first | apply Kd.R_alloc | apply Kd.R_drewN | apply Kd.R_drew)); exact HO_13.out))
                                obtain ⟨ce86, hcl86, hM86, hcc86, hfr86⟩ := Kd.R_elem HX86.out z44 (0 : Int) (by omega) (by have h_ : (0 : Int) < ((x13_3.length : Int) : Int) := of_decide_eq_true (by first | (with_reducible assumption) | assumption); first | exact h_ | (have e_ := (Kd.R_reads' HO_13.out).1; omega) | simpa using h_)
                                obtain rfl := k44_openM hM86
                                have HP86 := Kd.R_seg HX86.out (0 : Int) (by omega) (by have h_ : (0 : Int) < ((x13_3.length : Int) : Int) := of_decide_eq_true (by first | (with_reducible assumption) | assumption); first | exact h_ | (have e_ := (Kd.R_reads' HO_13.out).1; omega) | simpa using h_) (seg := [.int .i64 (Int.tmod (wrap64 (rd l0_7 x17_3)) 9)]) (j := 1) hcl86 hcc86 (show 2 ≤ 2 from by decide) (x' := (⟨(rd_T44 x13_3 0).f0, Int.tmod (wrap64 (rd l0_7 x17_3)) 9⟩ : S44)) (k44_mkM _ _ _ (⟨(rd_T44 x13_3 0).f0, Int.tmod (wrap64 (rd l0_7 x17_3)) 9⟩ : S44) ) (fun _ hk => hk)
                                have hx86_1 := hcc86 1 _ rfl
                                (try simp only [show (k44).sz = 2 from rfl, Nat.mul_one, Nat.add_zero] at hx86_1)
                                (try rw [show ((0 : Int)).toNat = 0 from rfl] at hx86_1)
                                (try simp only [Nat.reduceMul, Nat.zero_mul, Nat.zero_add, Nat.reduceAdd] at hx86_1)
                                have hf86_1 := hfr86 1
                                (try simp only [show (k44).sz = 2 from rfl, Nat.mul_one, Nat.add_zero] at hf86_1)
                                (try rw [show ((0 : Int)).toNat = 0 from rfl] at hf86_1)
                                (try simp only [Nat.reduceMul, Nat.zero_mul, Nat.zero_add, Nat.reduceAdd] at hf86_1)
                                clear hcl86 hcc86 hfr86 hM86
                                go_wp2_with (first | ((with_reducible refine gate_store (t := 3) (p := 111) rfl ?_); refine store_event (t := 3) (p := 111) (v := ?vo_w87) (w1 := (wc.setCell ⟨go80, 1, none⟩ (.int .i64 (Int.tmod (wrap64 (rd l0_7 x17_3)) 9)))) ?hg ?ho ?hn ?hr ?_; (case ho => rfl); (case hg => rfl); (case hn => rfl); (case hr => first | (go_simp; done) | (go_simp; rfl)); intro w87 hw; have hg : wc.grownBy w87 (some go80) := (by rw [hw]; exact HP86.2); have hp_ : Kd.R k44 44 w87 w.heap.size (fun k_ => some k_ ≠ (u12 : Value).ownBlock) (.slice (some ⟨go80, 0, none⟩) x13_3.length co80) y291 := (by rw [hw, Ny291.out]; exact HP86.1); clear HP86; have n0_ := Aside0.mk (Kd.R_after (v := (.slice (some ⟨go80, 0, none⟩) x13_3.length co80)) (v1 := (.slice (some ⟨go80, 0, none⟩) x13_3.length co80)) (ok := (fun _ => True)) (by (with_reducible repeat (first | apply Kd.R_alloc | apply Kd.R_drewN | apply Kd.R_drew)); exact Kd.R_mono HO_12.out (fun _ hk => ⟨trivial, hk⟩)) hg (.inl rfl)); have n1_ := Aside0.mk (hp_); have n2_ := Aside0.mk (Kd.R_over' (v := (.slice (some ⟨go80, 0, none⟩) x13_3.length co80)) (by (with_reducible repeat (first | apply Kd.R_alloc | apply Kd.R_drewN | apply Kd.R_drew)); exact HO_277002.out) (Kd.R_typed HO_13.out) (by decide) hg); have n3_ := Aside0.mk (blk_grown (g := gb266) (o := .cells #[.int .u8 a0_0, .bool a0_1, .slice A0_2 l0_2.length c0_2, .int .u8 a0_3, .int .u8 a0_4, .int .u8 a0_5, .slice A0_6 l0_6.length c0_6, .slice (some ad290) l0_7.length c0_7, .slice A0_8 l0_8.length c0_8, .slice A0_9 l0_9.length c0_9] 29 (0, 0)) (by (with_reducible repeat (first | refine blk_drewN ?_ _ | refine blk_drew ?_ | refine blk_alloc ?_ _)); exact BK266.out) hg (Kd.R_ne HO_13.out BK266.out (by decide))); have n4_ := Aside0.mk (blk_grown (g := gb267) (o := .cells #[.int .i64 0, .bool false, .slice none 0 0] 32 (0, 0)) (by (with_reducible repeat (first | refine blk_drewN ?_ _ | refine blk_drew ?_ | refine blk_alloc ?_ _)); exact BK267.out) hg (Kd.R_ne HO_13.out BK267.out (by decide))); have n5_ := Aside0.mk (blk_grown (g := gb276) (o := .cells #[.int .i64 t268, .bool t269, .slice Ao13 t270.length co13] 32 (0, 0)) (by (with_reducible repeat (first | refine blk_drewN ?_ _ | refine blk_drew ?_ | refine blk_alloc ?_ _)); exact BK276.out) hg (Kd.R_ne HO_13.out BK276.out (by decide))); have n6_ := Aside0.mk ((by rw [hw]; exact below_set (HB.out) GB80.out : Below w.heap.size w w87)); clear HO_12; clear HO_13; clear HO_277002; clear BK266; clear BK267; clear BK276; clear HB; have HO_12 := n0_; have HO_13 := n1_; have HO_277002 := n2_; have BK266 := n3_; have BK267 := n4_; have BK276 := n5_; have HB := n6_; clear n0_ n1_ n2_ n3_ n4_ n5_ n6_; clear hg hw hp_))
                                go_roundg kj65
                                case measure => have := HK1.out; have := HJ17.out; have := HK3.out; have := HJ65.out; omega
                                case rel => exact ⟨(x12_3), (y291), (wrap64 (x17_3 + 1)), (by first | rfl | (simp; done) | (simp [*]; done)), H', ⟨by have := HK1.out; have := HJ17.out; have := HK3.out; have := HJ65.out; omega⟩, ⟨by (with_reducible repeat (first | apply Kd.R_alloc | apply Kd.R_drewN | apply Kd.R_drew)); exact Kd.R_mono HO_12.out (fun _ hk => hk.2)⟩, ⟨by (with_reducible repeat (first | apply Kd.R_alloc | apply Kd.R_drewN | apply Kd.R_drew)); exact HO_13.out⟩, ⟨by (with_reducible repeat (first | apply Kd.R_alloc | apply Kd.R_drewN | apply Kd.R_drew)); exact HO_277002.out⟩, ⟨by (with_reducible repeat (first | refine blk_drewN ?_ _ | refine blk_drew ?_ | refine blk_alloc ?_ _)); exact BK266.out⟩, ⟨by (with_reducible repeat (first | refine blk_drewN ?_ _ | refine blk_drew ?_ | refine blk_alloc ?_ _)); exact BK267.out⟩, ⟨by (with_reducible repeat (first | refine blk_drewN ?_ _ | refine blk_drew ?_ | refine blk_alloc ?_ _)); exact BK276.out⟩, ⟨by repeat (first | (with_reducible first | exact HB.out | apply below_alloc | apply pw_below_drewN | apply below_drew1 | refine below_set ?_ GE266.out | refine below_set ?_ GE267.out | refine below_set ?_ GE276.out) | exact HB.out)⟩⟩
                              · rw [if_neg c79] at H
                                exact absurd H (by simp)
                            · rw [if_neg c78] at H
                              have c78b0 : (x17_3 == 0) = false := beq_eq_false_iff_ne.mpr c78
                              have c78b1 : (x17_3 != 0) = true := bne_iff_ne.mpr c78
                              replace H := Option.bind_eq_some_iff.mp H
                              obtain ⟨t292, A880, H⟩ := H
                              replace H : (if t292 < 0 then ((ebbtideref21_Of.f kj65 x13_3 (Int.tmod (wrap64 (t274 + x17_3)) t268)).bind fun t293 => (if t293 < 0 then (if x13_3.length < 8796093022208 then (ebbtidelaw21_Read.l1 kj65 t274 t275 x12_3 (x13_3 ++ [(⟨Int.tmod (wrap64 (t274 + x17_3)) t268, Int.tmod (wrap64 (rd l0_7 x17_3)) 9⟩ : S44)]) (wrap64 (x17_3 + 1)) a0_0 a0_1 l0_2 a0_3 a0_4 a0_5 l0_6 l0_7 l0_8 l0_9 t268 t269 t270) else (none)) else (ebbtidelaw21_Read.l1 kj65 t274 t275 x12_3 x13_3 (wrap64 (x17_3 + 1)) a0_0 a0_1 l0_2 a0_3 a0_4 a0_5 l0_6 l0_7 l0_8 l0_9 t268 t269 t270))) else (ebbtidelaw21_Read.l1 kj65 t274 t275 x12_3 x13_3 (wrap64 (x17_3 + 1)) a0_0 a0_1 l0_2 a0_3 a0_4 a0_5 l0_6 l0_7 l0_8 l0_9 t268 t269 t270)) = some (r1, r2, r3, r4, r5, r6) := H
                              have A88 := Aside0.mk A880
                              clear A880
                              by_cases c89 : t292 < 0
                              · rw [if_pos c89] at H
                                have c89b0 : decide (t292 < 0) = true := decide_eq_true c89
                                clear c89
                                replace H := Option.bind_eq_some_iff.mp H
                                obtain ⟨t293, A900, H⟩ := H
                                replace H : (if t293 < 0 then (if x13_3.length < 8796093022208 then (ebbtidelaw21_Read.l1 kj65 t274 t275 x12_3 (x13_3 ++ [(⟨Int.tmod (wrap64 (t274 + x17_3)) t268, Int.tmod (wrap64 (rd l0_7 x17_3)) 9⟩ : S44)]) (wrap64 (x17_3 + 1)) a0_0 a0_1 l0_2 a0_3 a0_4 a0_5 l0_6 l0_7 l0_8 l0_9 t268 t269 t270) else (none)) else (ebbtidelaw21_Read.l1 kj65 t274 t275 x12_3 x13_3 (wrap64 (x17_3 + 1)) a0_0 a0_1 l0_2 a0_3 a0_4 a0_5 l0_6 l0_7 l0_8 l0_9 t268 t269 t270)) = some (r1, r2, r3, r4, r5, r6) := H
                                have A90 := Aside0.mk A900
                                clear A900
                                by_cases c91 : t293 < 0
                                · rw [if_pos c91] at H
                                  have c91b0 : decide (t293 < 0) = true := decide_eq_true c91
                                  clear c91
                                  by_cases c92 : x13_3.length < 8796093022208
                                  · rw [if_pos c92] at H
                                    have LMc92 := Aside0.mk c92
                                    clear c92
                                    obtain ⟨y294, hy294⟩ : ∃ y_ : List (S44), y_ = (x13_3 ++ [(⟨Int.tmod (wrap64 (t274 + x17_3)) t268, Int.tmod (wrap64 (rd l0_7 x17_3)) 9⟩ : S44)]) := ⟨_, rfl⟩
                                    replace H : (ebbtidelaw21_Read.l1 kj65 t274 t275 x12_3 y294 (wrap64 (x17_3 + 1)) a0_0 a0_1 l0_2 a0_3 a0_4 a0_5 l0_6 l0_7 l0_8 l0_9 t268 t269 t270) = some (r1, r2, r3, r4, r5, r6) := by first | (rw [hy294]; with_reducible exact H) | (have H2_ := (Option.bind_some _ _).symm.trans H; rw [hy294]; with_reducible exact H2_) | (have H2_ := (Option.bind_some _ _).symm.trans H; with_reducible exact H2_) | with_reducible exact H | (rw [hy294]; exact H) | exact H
                                    have Ny294 := Aside0.mk hy294
                                    clear hy294
                                    have H' := Aside0.mk H
                                    clear H
                                    have hnb93 := NB266_267.out
                                    have hnc93 := NB267_266.out
                                    have hnb94 := NB266_276.out
                                    have hnc94 := NB276_266.out
                                    have hcz95_0 : wc.cell? ⟨gb266, 0, none⟩ = some (.int .u8 a0_0) := (blk_cell BK266.out 0).trans rfl
                                    have hcz95_1 : wc.cell? ⟨gb266, 1, none⟩ = some (.bool a0_1) := (blk_cell BK266.out 1).trans rfl
                                    have hcz95_2 : wc.cell? ⟨gb266, 2, none⟩ = some (.slice A0_2 l0_2.length c0_2) := (blk_cell BK266.out 2).trans rfl
                                    have hcz95_3 : wc.cell? ⟨gb266, 3, none⟩ = some (.int .u8 a0_3) := (blk_cell BK266.out 3).trans rfl
                                    have hcz95_4 : wc.cell? ⟨gb266, 4, none⟩ = some (.int .u8 a0_4) := (blk_cell BK266.out 4).trans rfl
                                    have hcz95_5 : wc.cell? ⟨gb266, 5, none⟩ = some (.int .u8 a0_5) := (blk_cell BK266.out 5).trans rfl
                                    have hcz95_6 : wc.cell? ⟨gb266, 6, none⟩ = some (.slice A0_6 l0_6.length c0_6) := (blk_cell BK266.out 6).trans rfl
                                    have hcz95_7 : wc.cell? ⟨gb266, 7, none⟩ = some (.slice A0_7 l0_7.length c0_7) := (blk_cell BK266.out 7).trans rfl
                                    have hcz95_8 : wc.cell? ⟨gb266, 8, none⟩ = some (.slice A0_8 l0_8.length c0_8) := (blk_cell BK266.out 8).trans rfl
                                    have hcz95_9 : wc.cell? ⟨gb266, 9, none⟩ = some (.slice A0_9 l0_9.length c0_9) := (blk_cell BK266.out 9).trans rfl
                                    have hfz95_0 := blk_frozen BK266.out 0
                                    have hfz95_1 := blk_frozen BK266.out 1
                                    have hfz95_2 := blk_frozen BK266.out 2
                                    have hfz95_3 := blk_frozen BK266.out 3
                                    have hfz95_4 := blk_frozen BK266.out 4
                                    have hfz95_5 := blk_frozen BK266.out 5
                                    have hfz95_6 := blk_frozen BK266.out 6
                                    have hfz95_7 := blk_frozen BK266.out 7
                                    have hfz95_8 := blk_frozen BK266.out 8
                                    have hfz95_9 := blk_frozen BK266.out 9
                                    have p290 : 0 ≤ (x17_3 : Int) := of_decide_eq_true (by first | (with_reducible assumption) | assumption)
                                    have q290 : x17_3 < (l0_7.length : Int) := of_decide_eq_true (by first | (with_reducible assumption) | assumption)
                                    obtain ⟨ad290, e290, hx290_0⟩ := Kd.at_int HR0_7.out x17_3 p290 q290
                                    cases e290
                                    replace hx290_0 := (HB.out.cell (World.block_lt_of_cell? w _ hx290_0)).trans hx290_0
                                    replace p290 := eq_true p290
                                    replace q290 := eq_true q290
                                    have hnb96 := NB276_267.out
                                    have hnc96 := NB267_276.out
                                    have hcz97_0 : wc.cell? ⟨gb276, 0, none⟩ = some (.int .i64 t268) := (blk_cell BK276.out 0).trans rfl
                                    have hcz97_1 : wc.cell? ⟨gb276, 1, none⟩ = some (.bool t269) := (blk_cell BK276.out 1).trans rfl
                                    have hcz97_2 : wc.cell? ⟨gb276, 2, none⟩ = some (.slice Ao13 t270.length co13) := (blk_cell BK276.out 2).trans rfl
                                    have hfz97_0 := blk_frozen BK276.out 0
                                    have hfz97_1 := blk_frozen BK276.out 1
                                    have hfz97_2 := blk_frozen BK276.out 2
                                    obtain ⟨Ao98, co98, eo98⟩ := Kd.R_slice HO_12.out
                                    subst eo98
                                    go_wp2_with (first | ((with_reducible refine gate_callee (f := 27) rfl ?_); refine goesL_ (some 114) rfl rfl Try.func27 (by kernel_rfl) rfl #[.slice Ao98 x12_3.length co98, .int .i64 (Int.tmod (wrap64 (t274 + x17_3)) t268)] rfl (by (try simp only [List.map_toArray, List.map_cons, List.map_nil]); first | done | rfl | (simp only [List.length_drop, List.length_take]; rfl)) ?_; (with_reducible refine (ebbtideref21_Of.calls kj65 _ _ x12_3 (Int.tmod (wrap64 (t274 + x17_3)) t268) t292 _ ?side1 ?side2 A88.out).mono ?_); (case side1 => repeat (first | exact (Kd.R_reads' HO_12.out).2.2 | (with_reducible refine Kd.C_alloc ?_ _) | (with_reducible refine Kd.C_drewN ?_ _) | (with_reducible refine Kd.C_drew ?_))); (case side2 => exact (Kd.R_reads' HO_12.out).2.1); rintro e w' ⟨rfl, ⟨nd, rfl⟩⟩; refine ⟨_, rfl, ?_⟩; obtain ⟨Ao99, co99, eo99⟩ := Kd.R_slice HO_13.out; subst eo99) | (go_at_call 27; (with_reducible refine (ebbtideref21_Of.calls kj65 _ _ x13_3 (Int.tmod (wrap64 (t274 + x17_3)) t268) t293 _ ?side1 ?side2 A90.out).mono ?_); (case side1 => repeat (first | exact (Kd.R_reads' HO_13.out).2.2 | (with_reducible refine Kd.C_alloc ?_ _) | (with_reducible refine Kd.C_drewN ?_ _) | (with_reducible refine Kd.C_drew ?_))); (case side2 => exact (Kd.R_reads' HO_13.out).2.1); rintro e w' ⟨rfl, ⟨nd, rfl⟩⟩) | ((with_reducible refine gate_builtin (b := .append) (xs := #[.tmp 122, .tmp 126]) rfl ?_); at_builtin; refine Kd.R_append k44 (w0 := w) w.heap.size rfl (.tmp 122) (.tmp 126) 33 44 (.agg #[(.int .i64 0), (.int .i64 0)]) 16 rfl Try.underlying33 info44 rfl (by decide) (by omega) (.slice Ao99 x13_3.length co99) x13_3 (⟨Int.tmod (wrap64 (t274 + x17_3)) t268, Int.tmod (wrap64 (rd l0_7 x17_3)) 9⟩ : S44) [.int .i64 (Int.tmod (wrap64 (t274 + x17_3)) t268), .int .i64 (Int.tmod (wrap64 (rd l0_7 x17_3)) 9)] (fun k_ => some k_ ≠ (.slice Ao98 x12_3.length co98 : Value).ownBlock) (fun _ => False) rfl rfl ?aP (fun _ hk => hk.elim) ?aF ?aO ?aB ?aS ?aL ?_; (case aP => exact k44_mkM _ _ _ (⟨Int.tmod (wrap64 (t274 + x17_3)) t268, Int.tmod (wrap64 (rd l0_7 x17_3)) 9⟩ : S44)); (case aB => exact (by repeat (first | (with_reducible first | exact HB.out | apply below_alloc | apply pw_below_drewN | apply below_drew1 | refine below_set ?_ GE266.out | refine below_set ?_ GE267.out | refine below_set ?_ GE276.out) | exact HB.out))); (case aF => exact (fun k_ hk => Kd.fresh' (Kd.R_lt (by (with_reducible repeat (first | apply Kd.R_alloc | apply Kd.R_drewN | apply Kd.R_drew)); exact HO_12.out)) k_ hk)); (case aO => exact (by (with_reducible repeat (first | apply Kd.R_alloc | apply Kd.R_drewN | apply Kd.R_drew)); exact HO_13.out)); (case aS => exact (below_size (by repeat (first | (with_reducible first | exact HB.out | apply below_alloc | apply pw_below_drewN | apply below_drew1 | refine below_set ?_ GE266.out | refine below_set ?_ GE267.out | refine below_set ?_ GE276.out) | exact HB.out)))); (case aL => have := LMc92.out; omega); intro v295 w100 ho hb hg hat; rw [← Ny294.out] at ho; have n0_ := Aside0.mk (Kd.R_after (ok := (fun _ => True)) (by (with_reducible repeat (first | apply Kd.R_alloc | apply Kd.R_drewN | apply Kd.R_drew)); exact Kd.R_mono HO_12.out (fun _ hk => ⟨trivial, hk⟩)) hg hat); have n1_ := Aside0.mk (Kd.R_over' (by (with_reducible repeat (first | apply Kd.R_alloc | apply Kd.R_drewN | apply Kd.R_drew)); exact HO_277002.out) (Kd.R_typed (by (with_reducible repeat (first | apply Kd.R_alloc | apply Kd.R_drewN | apply Kd.R_drew)); exact HO_13.out)) (by decide) hg); have n2_ := Aside0.mk (blk_grown (g := gb266) (o := .cells #[.int .u8 a0_0, .bool a0_1, .slice A0_2 l0_2.length c0_2, .int .u8 a0_3, .int .u8 a0_4, .int .u8 a0_5, .slice A0_6 l0_6.length c0_6, .slice (some ad290) l0_7.length c0_7, .slice A0_8 l0_8.length c0_8, .slice A0_9 l0_9.length c0_9] 29 (0, 0)) (by (with_reducible repeat (first | refine blk_drewN ?_ _ | refine blk_drew ?_ | refine blk_alloc ?_ _)); exact BK266.out) hg (Kd.R_ne HO_13.out BK266.out (by decide))); have n3_ := Aside0.mk (blk_grown (g := gb267) (o := .cells #[.int .i64 0, .bool false, .slice none 0 0] 32 (0, 0)) (by (with_reducible repeat (first | refine blk_drewN ?_ _ | refine blk_drew ?_ | refine blk_alloc ?_ _)); exact BK267.out) hg (Kd.R_ne HO_13.out BK267.out (by decide))); have n4_ := Aside0.mk (blk_grown (g := gb276) (o := .cells #[.int .i64 t268, .bool t269, .slice Ao13 t270.length co13] 32 (0, 0)) (by (with_reducible repeat (first | refine blk_drewN ?_ _ | refine blk_drew ?_ | refine blk_alloc ?_ _)); exact BK276.out) hg (Kd.R_ne HO_13.out BK276.out (by decide))); have n5_ := Aside0.mk (hb); have n6_ := Aside0.mk (ho); clear HO_12; clear HO_277002; clear BK266; clear BK267; clear BK276; clear HB; clear HO_13; have HO_12 := n0_; have HO_277002 := n1_; have BK266 := n2_; have BK267 := n3_; have BK276 := n4_; have HB := n5_; have HO296 := n6_; clear n0_ n1_ n2_ n3_ n4_ n5_ n6_; clear ho hb hg hat))
                                    go_roundg kj65
                                    case measure => have := HK1.out; have := HJ17.out; have := HK3.out; have := HJ65.out; omega
                                    case rel => exact ⟨(x12_3), (y294), (wrap64 (x17_3 + 1)), (by first | rfl | (simp; done) | (simp [*]; done)), H', ⟨by have := HK1.out; have := HJ17.out; have := HK3.out; have := HJ65.out; omega⟩, ⟨by (with_reducible repeat (first | apply Kd.R_alloc | apply Kd.R_drewN | apply Kd.R_drew)); exact Kd.R_mono HO_12.out (fun _ hk => hk.2)⟩, ⟨by (with_reducible repeat (first | apply Kd.R_alloc | apply Kd.R_drewN | apply Kd.R_drew)); exact HO296.out⟩, ⟨by (with_reducible repeat (first | apply Kd.R_alloc | apply Kd.R_drewN | apply Kd.R_drew)); exact HO_277002.out⟩, ⟨by (with_reducible repeat (first | refine blk_drewN ?_ _ | refine blk_drew ?_ | refine blk_alloc ?_ _)); exact BK266.out⟩, ⟨by (with_reducible repeat (first | refine blk_drewN ?_ _ | refine blk_drew ?_ | refine blk_alloc ?_ _)); exact BK267.out⟩, ⟨by (with_reducible repeat (first | refine blk_drewN ?_ _ | refine blk_drew ?_ | refine blk_alloc ?_ _)); exact BK276.out⟩, ⟨by repeat (first | (with_reducible first | exact HB.out | apply below_alloc | apply pw_below_drewN | apply below_drew1 | refine below_set ?_ GE266.out | refine below_set ?_ GE267.out | refine below_set ?_ GE276.out) | exact HB.out)⟩⟩
                                  · rw [if_neg c92] at H
                                    exact absurd H (by simp)
                                · rw [if_neg c91] at H
                                  have c91b0 : decide (t293 < 0) = false := decide_eq_false c91
                                  clear c91
                                  have H' := Aside0.mk H
                                  clear H
                                  have hnb101 := NB266_267.out
                                  have hnc101 := NB267_266.out
                                  have hnb102 := NB266_276.out
                                  have hnc102 := NB276_266.out
                                  have hcz103_0 : wc.cell? ⟨gb266, 0, none⟩ = some (.int .u8 a0_0) := (blk_cell BK266.out 0).trans rfl
                                  have hcz103_1 : wc.cell? ⟨gb266, 1, none⟩ = some (.bool a0_1) := (blk_cell BK266.out 1).trans rfl
                                  have hcz103_2 : wc.cell? ⟨gb266, 2, none⟩ = some (.slice A0_2 l0_2.length c0_2) := (blk_cell BK266.out 2).trans rfl
                                  have hcz103_3 : wc.cell? ⟨gb266, 3, none⟩ = some (.int .u8 a0_3) := (blk_cell BK266.out 3).trans rfl
                                  have hcz103_4 : wc.cell? ⟨gb266, 4, none⟩ = some (.int .u8 a0_4) := (blk_cell BK266.out 4).trans rfl
                                  have hcz103_5 : wc.cell? ⟨gb266, 5, none⟩ = some (.int .u8 a0_5) := (blk_cell BK266.out 5).trans rfl
                                  have hcz103_6 : wc.cell? ⟨gb266, 6, none⟩ = some (.slice A0_6 l0_6.length c0_6) := (blk_cell BK266.out 6).trans rfl
                                  have hcz103_7 : wc.cell? ⟨gb266, 7, none⟩ = some (.slice A0_7 l0_7.length c0_7) := (blk_cell BK266.out 7).trans rfl
                                  have hcz103_8 : wc.cell? ⟨gb266, 8, none⟩ = some (.slice A0_8 l0_8.length c0_8) := (blk_cell BK266.out 8).trans rfl
                                  have hcz103_9 : wc.cell? ⟨gb266, 9, none⟩ = some (.slice A0_9 l0_9.length c0_9) := (blk_cell BK266.out 9).trans rfl
                                  have hfz103_0 := blk_frozen BK266.out 0
                                  have hfz103_1 := blk_frozen BK266.out 1
                                  have hfz103_2 := blk_frozen BK266.out 2
                                  have hfz103_3 := blk_frozen BK266.out 3
                                  have hfz103_4 := blk_frozen BK266.out 4
                                  have hfz103_5 := blk_frozen BK266.out 5
                                  have hfz103_6 := blk_frozen BK266.out 6
                                  have hfz103_7 := blk_frozen BK266.out 7
                                  have hfz103_8 := blk_frozen BK266.out 8
                                  have hfz103_9 := blk_frozen BK266.out 9
                                  have p290 : 0 ≤ (x17_3 : Int) := of_decide_eq_true (by first | (with_reducible assumption) | assumption)
                                  have q290 : x17_3 < (l0_7.length : Int) := of_decide_eq_true (by first | (with_reducible assumption) | assumption)
                                  obtain ⟨ad290, e290, hx290_0⟩ := Kd.at_int HR0_7.out x17_3 p290 q290
                                  cases e290
                                  replace hx290_0 := (HB.out.cell (World.block_lt_of_cell? w _ hx290_0)).trans hx290_0
                                  replace p290 := eq_true p290
                                  replace q290 := eq_true q290
                                  have hnb104 := NB276_267.out
                                  have hnc104 := NB267_276.out
                                  have hcz105_0 : wc.cell? ⟨gb276, 0, none⟩ = some (.int .i64 t268) := (blk_cell BK276.out 0).trans rfl
                                  have hcz105_1 : wc.cell? ⟨gb276, 1, none⟩ = some (.bool t269) := (blk_cell BK276.out 1).trans rfl
                                  have hcz105_2 : wc.cell? ⟨gb276, 2, none⟩ = some (.slice Ao13 t270.length co13) := (blk_cell BK276.out 2).trans rfl
                                  have hfz105_0 := blk_frozen BK276.out 0
                                  have hfz105_1 := blk_frozen BK276.out 1
                                  have hfz105_2 := blk_frozen BK276.out 2
                                  obtain ⟨Ao106, co106, eo106⟩ := Kd.R_slice HO_12.out
                                  subst eo106
                                  go_wp2_with (first | ((with_reducible refine gate_callee (f := 27) rfl ?_); refine goesL_ (some 114) rfl rfl Try.func27 (by kernel_rfl) rfl #[.slice Ao106 x12_3.length co106, .int .i64 (Int.tmod (wrap64 (t274 + x17_3)) t268)] rfl (by (try simp only [List.map_toArray, List.map_cons, List.map_nil]); first | done | rfl | (simp only [List.length_drop, List.length_take]; rfl)) ?_; (with_reducible refine (ebbtideref21_Of.calls kj65 _ _ x12_3 (Int.tmod (wrap64 (t274 + x17_3)) t268) t292 _ ?side1 ?side2 A88.out).mono ?_); (case side1 => repeat (first | exact (Kd.R_reads' HO_12.out).2.2 | (with_reducible refine Kd.C_alloc ?_ _) | (with_reducible refine Kd.C_drewN ?_ _) | (with_reducible refine Kd.C_drew ?_))); (case side2 => exact (Kd.R_reads' HO_12.out).2.1); rintro e w' ⟨rfl, ⟨nd, rfl⟩⟩; refine ⟨_, rfl, ?_⟩; obtain ⟨Ao107, co107, eo107⟩ := Kd.R_slice HO_13.out; subst eo107) | (go_at_call 27; (with_reducible refine (ebbtideref21_Of.calls kj65 _ _ x13_3 (Int.tmod (wrap64 (t274 + x17_3)) t268) t293 _ ?side1 ?side2 A90.out).mono ?_); (case side1 => repeat (first | exact (Kd.R_reads' HO_13.out).2.2 | (with_reducible refine Kd.C_alloc ?_ _) | (with_reducible refine Kd.C_drewN ?_ _) | (with_reducible refine Kd.C_drew ?_))); (case side2 => exact (Kd.R_reads' HO_13.out).2.1); rintro e w' ⟨rfl, ⟨nd, rfl⟩⟩))
                                  go_roundg kj65
                                  case measure => have := HK1.out; have := HJ17.out; have := HK3.out; have := HJ65.out; omega
                                  case rel => exact ⟨(x12_3), (x13_3), (wrap64 (x17_3 + 1)), (by first | rfl | (simp; done) | (simp [*]; done)), H', ⟨by have := HK1.out; have := HJ17.out; have := HK3.out; have := HJ65.out; omega⟩, ⟨by (with_reducible repeat (first | apply Kd.R_alloc | apply Kd.R_drewN | apply Kd.R_drew)); exact HO_12.out⟩, ⟨by (with_reducible repeat (first | apply Kd.R_alloc | apply Kd.R_drewN | apply Kd.R_drew)); exact HO_13.out⟩, ⟨by (with_reducible repeat (first | apply Kd.R_alloc | apply Kd.R_drewN | apply Kd.R_drew)); exact HO_277002.out⟩, ⟨by (with_reducible repeat (first | refine blk_drewN ?_ _ | refine blk_drew ?_ | refine blk_alloc ?_ _)); exact BK266.out⟩, ⟨by (with_reducible repeat (first | refine blk_drewN ?_ _ | refine blk_drew ?_ | refine blk_alloc ?_ _)); exact BK267.out⟩, ⟨by (with_reducible repeat (first | refine blk_drewN ?_ _ | refine blk_drew ?_ | refine blk_alloc ?_ _)); exact BK276.out⟩, ⟨by repeat (first | (with_reducible first | exact HB.out | apply below_alloc | apply pw_below_drewN | apply below_drew1 | refine below_set ?_ GE266.out | refine below_set ?_ GE267.out | refine below_set ?_ GE276.out) | exact HB.out)⟩⟩
                              · rw [if_neg c89] at H
                                have c89b0 : decide (t292 < 0) = false := decide_eq_false c89
                                clear c89
                                have H' := Aside0.mk H
                                clear H
                                have hnb108 := NB266_267.out
                                have hnc108 := NB267_266.out
                                have hnb109 := NB266_276.out
                                have hnc109 := NB276_266.out
                                have hcz110_0 : wc.cell? ⟨gb266, 0, none⟩ = some (.int .u8 a0_0) := (blk_cell BK266.out 0).trans rfl
                                have hcz110_1 : wc.cell? ⟨gb266, 1, none⟩ = some (.bool a0_1) := (blk_cell BK266.out 1).trans rfl
                                have hcz110_2 : wc.cell? ⟨gb266, 2, none⟩ = some (.slice A0_2 l0_2.length c0_2) := (blk_cell BK266.out 2).trans rfl
                                have hcz110_3 : wc.cell? ⟨gb266, 3, none⟩ = some (.int .u8 a0_3) := (blk_cell BK266.out 3).trans rfl
                                have hcz110_4 : wc.cell? ⟨gb266, 4, none⟩ = some (.int .u8 a0_4) := (blk_cell BK266.out 4).trans rfl
                                have hcz110_5 : wc.cell? ⟨gb266, 5, none⟩ = some (.int .u8 a0_5) := (blk_cell BK266.out 5).trans rfl
                                have hcz110_6 : wc.cell? ⟨gb266, 6, none⟩ = some (.slice A0_6 l0_6.length c0_6) := (blk_cell BK266.out 6).trans rfl
                                have hcz110_7 : wc.cell? ⟨gb266, 7, none⟩ = some (.slice A0_7 l0_7.length c0_7) := (blk_cell BK266.out 7).trans rfl
                                have hcz110_8 : wc.cell? ⟨gb266, 8, none⟩ = some (.slice A0_8 l0_8.length c0_8) := (blk_cell BK266.out 8).trans rfl
                                have hcz110_9 : wc.cell? ⟨gb266, 9, none⟩ = some (.slice A0_9 l0_9.length c0_9) := (blk_cell BK266.out 9).trans rfl
                                have hfz110_0 := blk_frozen BK266.out 0
                                have hfz110_1 := blk_frozen BK266.out 1
                                have hfz110_2 := blk_frozen BK266.out 2
                                have hfz110_3 := blk_frozen BK266.out 3
                                have hfz110_4 := blk_frozen BK266.out 4
                                have hfz110_5 := blk_frozen BK266.out 5
                                have hfz110_6 := blk_frozen BK266.out 6
                                have hfz110_7 := blk_frozen BK266.out 7
                                have hfz110_8 := blk_frozen BK266.out 8
                                have hfz110_9 := blk_frozen BK266.out 9
                                have p290 : 0 ≤ (x17_3 : Int) := of_decide_eq_true (by first | (with_reducible assumption) | assumption)
                                have q290 : x17_3 < (l0_7.length : Int) := of_decide_eq_true (by first | (with_reducible assumption) | assumption)
                                obtain ⟨ad290, e290, hx290_0⟩ := Kd.at_int HR0_7.out x17_3 p290 q290
                                cases e290
                                replace hx290_0 := (HB.out.cell (World.block_lt_of_cell? w _ hx290_0)).trans hx290_0
                                replace p290 := eq_true p290
                                replace q290 := eq_true q290
                                have hnb111 := NB276_267.out
                                have hnc111 := NB267_276.out
                                have hcz112_0 : wc.cell? ⟨gb276, 0, none⟩ = some (.int .i64 t268) := (blk_cell BK276.out 0).trans rfl
                                have hcz112_1 : wc.cell? ⟨gb276, 1, none⟩ = some (.bool t269) := (blk_cell BK276.out 1).trans rfl
                                have hcz112_2 : wc.cell? ⟨gb276, 2, none⟩ = some (.slice Ao13 t270.length co13) := (blk_cell BK276.out 2).trans rfl
                                have hfz112_0 := blk_frozen BK276.out 0
                                have hfz112_1 := blk_frozen BK276.out 1
                                have hfz112_2 := blk_frozen BK276.out 2
                                obtain ⟨Ao113, co113, eo113⟩ := Kd.R_slice HO_12.out
                                subst eo113
                                go_wp2_with (first | ((with_reducible refine gate_callee (f := 27) rfl ?_); refine goesL_ (some 114) rfl rfl Try.func27 (by kernel_rfl) rfl #[.slice Ao113 x12_3.length co113, .int .i64 (Int.tmod (wrap64 (t274 + x17_3)) t268)] rfl (by (try simp only [List.map_toArray, List.map_cons, List.map_nil]); first | done | rfl | (simp only [List.length_drop, List.length_take]; rfl)) ?_; (with_reducible refine (ebbtideref21_Of.calls kj65 _ _ x12_3 (Int.tmod (wrap64 (t274 + x17_3)) t268) t292 _ ?side1 ?side2 A88.out).mono ?_); (case side1 => repeat (first | exact (Kd.R_reads' HO_12.out).2.2 | (with_reducible refine Kd.C_alloc ?_ _) | (with_reducible refine Kd.C_drewN ?_ _) | (with_reducible refine Kd.C_drew ?_))); (case side2 => exact (Kd.R_reads' HO_12.out).2.1); rintro e w' ⟨rfl, ⟨nd, rfl⟩⟩; refine ⟨_, rfl, ?_⟩))
                                go_roundg kj65
                                case measure => have := HK1.out; have := HJ17.out; have := HK3.out; have := HJ65.out; omega
                                case rel => exact ⟨(x12_3), (x13_3), (wrap64 (x17_3 + 1)), (by first | rfl | (simp; done) | (simp [*]; done)), H', ⟨by have := HK1.out; have := HJ17.out; have := HK3.out; have := HJ65.out; omega⟩, ⟨by (with_reducible repeat (first | apply Kd.R_alloc | apply Kd.R_drewN | apply Kd.R_drew)); exact HO_12.out⟩, ⟨by (with_reducible repeat (first | apply Kd.R_alloc | apply Kd.R_drewN | apply Kd.R_drew)); exact HO_13.out⟩, ⟨by (with_reducible repeat (first | apply Kd.R_alloc | apply Kd.R_drewN | apply Kd.R_drew)); exact HO_277002.out⟩, ⟨by (with_reducible repeat (first | refine blk_drewN ?_ _ | refine blk_drew ?_ | refine blk_alloc ?_ _)); exact BK266.out⟩, ⟨by (with_reducible repeat (first | refine blk_drewN ?_ _ | refine blk_drew ?_ | refine blk_alloc ?_ _)); exact BK267.out⟩, ⟨by (with_reducible repeat (first | refine blk_drewN ?_ _ | refine blk_drew ?_ | refine blk_alloc ?_ _)); exact BK276.out⟩, ⟨by repeat (first | (with_reducible first | exact HB.out | apply below_alloc | apply pw_below_drewN | apply below_drew1 | refine below_set ?_ GE266.out | refine below_set ?_ GE267.out | refine below_set ?_ GE276.out) | exact HB.out)⟩⟩
                        · rw [if_neg c76] at H
                          exact absurd H (by simp)
                      · rw [if_neg c75] at H
                        exact absurd H (by simp)
                    · replace c74 := Bool.eq_false_iff.mpr c74
                      subst c74
                      have H1 : (some (t268, t269, t270, x12_3, x13_3, t275)) = some (r1, r2, r3, r4, r5, r6) := by rw [if_neg (show ¬ (false = true) by decide)] at H; exact H
                      clear H
                      have H := H1
                      clear H1
                      simp only [Option.some.injEq, Prod.mk.injEq] at H
                      obtain ⟨rfl, rfl, rfl, rfl, rfl, rfl⟩ := H
                      have hnb114 := NB276_266.out
                      have hnc114 := NB266_276.out
                      have hnb115 := NB276_267.out
                      have hnc115 := NB267_276.out
                      have hcz116_0 : wc.cell? ⟨gb276, 0, none⟩ = some (.int .i64 t268) := (blk_cell BK276.out 0).trans rfl
                      have hcz116_1 : wc.cell? ⟨gb276, 1, none⟩ = some (.bool t269) := (blk_cell BK276.out 1).trans rfl
                      have hcz116_2 : wc.cell? ⟨gb276, 2, none⟩ = some (.slice Ao13 t270.length co13) := (blk_cell BK276.out 2).trans rfl
                      have hfz116_0 := blk_frozen BK276.out 0
                      have hfz116_1 := blk_frozen BK276.out 1
                      have hfz116_2 := blk_frozen BK276.out 2
                      have hnb117 := NB267_266.out
                      have hnc117 := NB266_267.out
                      have hcz118_0 : wc.cell? ⟨gb267, 0, none⟩ = some (.int .i64 0) := (blk_cell BK267.out 0).trans rfl
                      have hcz118_1 : wc.cell? ⟨gb267, 1, none⟩ = some (.bool false) := (blk_cell BK267.out 1).trans rfl
                      have hcz118_2 : wc.cell? ⟨gb267, 2, none⟩ = some (.slice none 0 0) := (blk_cell BK267.out 2).trans rfl
                      have hfz118_0 := blk_frozen BK267.out 0
                      have hfz118_1 := blk_frozen BK267.out 1
                      have hfz118_2 := blk_frozen BK267.out 2
                      go_wp2
                      refine bodyPost_ret (results_list (rs := [.cell 4 32, .tmp 5, .tmp 6, .tmp 7]) rfl (by simp) (.cell gb267 32 #[.int .i64 t268, .bool t269, .slice Ao13 t270.length co13] (0, 0) _ rfl (by (with_reducible repeat (first | refine blk_drewN ?_ _ | refine blk_drew ?_ | refine blk_alloc ?_ _)); refine blk_put (cs := #[.int .i64 t268, .bool t269, .slice none 0 0]) ?_ 2 _ rfl; (with_reducible repeat (first | refine blk_drewN ?_ _ | refine blk_drew ?_ | refine blk_alloc ?_ _)); refine blk_put (cs := #[.int .i64 t268, .bool false, .slice none 0 0]) ?_ 1 _ rfl; (with_reducible repeat (first | refine blk_drewN ?_ _ | refine blk_drew ?_ | refine blk_alloc ?_ _)); refine blk_put (cs := #[.int .i64 0, .bool false, .slice none 0 0]) ?_ 0 _ rfl; (with_reducible repeat (first | refine blk_drewN ?_ _ | refine blk_drew ?_ | refine blk_alloc ?_ _)); exact BK267.out) Try.underlying32 rfl (by kernel_rfl) (.tmp (.tmp (.tmp .nil))))) rfl ?_
                      exact ⟨_, _, _, by first | rfl | (simp [errW_none, errW_some] <;> rfl) | (simp [*, errW_none, errW_some] <;> rfl), by (with_reducible repeat (first | apply Kd.R_alloc | apply Kd.R_drewN | apply Kd.R_drew)); exact Kd.R_mono (Kd.R_far (p := ⟨gb267, 2, none⟩) (Kd.R_far (p := ⟨gb267, 1, none⟩) (Kd.R_far (p := ⟨gb267, 0, none⟩) (Kd.R_types HO_277002.out BK267.out (by decide)) (fun _ hk => hk.2) (.int .i64 t268)) (fun _ hk => hk.2) (.bool t269)) (fun _ hk => hk.2) (.slice Ao13 t270.length co13)) (fun _ hk => trivial), by (with_reducible repeat (first | apply Kd.R_alloc | apply Kd.R_drewN | apply Kd.R_drew)); exact Kd.R_mono (Kd.R_far (p := ⟨gb267, 2, none⟩) (Kd.R_far (p := ⟨gb267, 1, none⟩) (Kd.R_far (p := ⟨gb267, 0, none⟩) (Kd.R_types HO_12.out BK267.out (by decide)) (fun _ hk => hk.2) (.int .i64 t268)) (fun _ hk => hk.2) (.bool t269)) (fun _ hk => hk.2) (.slice Ao13 t270.length co13)) (fun _ hk => hk.1), by (with_reducible repeat (first | apply Kd.R_alloc | apply Kd.R_drewN | apply Kd.R_drew)); exact Kd.R_mono (Kd.R_far (p := ⟨gb267, 2, none⟩) (Kd.R_far (p := ⟨gb267, 1, none⟩) (Kd.R_far (p := ⟨gb267, 0, none⟩) (Kd.R_types HO_13.out BK267.out (by decide)) (fun _ hk => hk.2) (.int .i64 t268)) (fun _ hk => hk.2) (.bool t269)) (fun _ hk => hk.2) (.slice Ao13 t270.length co13)) (fun _ hk => hk.1), by repeat (first | (with_reducible first | exact HB.out | apply below_alloc | apply pw_below_drewN | apply below_drew1 | refine below_set ?_ GE266.out | refine below_set ?_ GE267.out | refine below_set ?_ GE276.out) | exact HB.out)⟩
end Go.Proofs.Ytcgdloldkcmhnaa.PrintE
end
