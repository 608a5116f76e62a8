/- Texts of this proof, joined; what the statement doesn't need is left out. -/
import Derived.Test.YtcgdloldkcmhnaaA4
section
namespace Go.Proofs.Ytcgdloldkcmhnaa.PrintE
open Go.Proofs.Ytcgdloldkcmhnaa.PrintC Go.RowKit Go.Proofs.Ytcgdloldkcmhnaa.H Go.Proofs.YtcgdloldkcmhnaaW.PrintWords Go.Proofs.YtcgdloldkcmhnaaW.PrintLast Go.Proofs.YtcgdloldkcmhnaaW.PrintMore
attribute [local go_sem] max2_int min2_int max_two min_two max_three min_three max_four min_four
set_option linter.unusedVariables false
set_option linter.unusedSimpArgs false
mutual
def ebbtideref21_Groups.j0 : Nat → List (S44) → List (S44) → Bool → Int → Bool → List (S79) → Option (Int)
 |0, _, _, _, _, _, _ => none
 |k + 1, x1, x2, x18, x109000, x109001, x109002 => if x18 = true then (some 210) else (if ([] : List (S44)).length + x1.length < 8796093022208 then ((some (([] : List (S44)) ++ x1 : List (S44))).bind fun y109 => (if y109.length + x2.length < 8796093022208 then (ebbtideref21_Groups.l0 k ([] : List (S44)) (y109 ++ x2) 0 x109000 x109001 x109002) else (none))) else (none))
def ebbtideref21_Groups.l0 : Nat → List (S44) → List (S44) → Int → Int → Bool → List (S79) → Option (Int)
 |0, _, _, _, _, _, _ => none
 |k + 1, x7, x8, x9, x109000, x109001, x109002 => if x9 < (x8.length : Int) then (if 0 ≤ x9 then ((ebbtideref21_group.f k x109000 x109001 x109002 x7 ((rd_T44 x8 x9).f0) ((rd_T44 x8 x9).f1)).bind fun t116 => (if t116 = 0 then (if x7.length < 8796093022208 then (ebbtideref21_Groups.l0 k (x7 ++ [(⟨(rd_T44 x8 x9).f0, (rd_T44 x8 x9).f1⟩ : S44)]) x8 (wrap64 (x9 + 1)) x109000 x109001 x109002) else (none)) else (some t116))) else (none)) else (some 0)
end
def ebbtideref21_Groups.f (k : Nat) (a0_0 : Int) (a0_1 : Bool) (l0_2 : List (S79)) (l1 : List (S44)) (l2 : List (S44)) : Option (Int) := if (l1.length : Int) = 0 then (ebbtideref21_Groups.j0 k l1 l2 true a0_0 a0_1 l0_2) else (ebbtideref21_Groups.j0 k l1 l2 ((l2.length : Int) == 0) a0_0 a0_1 l0_2)
theorem ebbtideref21_Groups.mono_l : ∀ k, (∀ y0 y1 y2 y3 y4 y5, LeO (ebbtideref21_Groups.j0 k y0 y1 y2 y3 y4 y5) (ebbtideref21_Groups.j0 (k + 1) y0 y1 y2 y3 y4 y5)) ∧ (∀ y0 y1 y2 y3 y4 y5, LeO (ebbtideref21_Groups.l0 k y0 y1 y2 y3 y4 y5) (ebbtideref21_Groups.l0 (k + 1) y0 y1 y2 y3 y4 y5))
 |0 => ⟨fun _ _ _ _ _ _ r h => by simp [ebbtideref21_Groups.j0] at h, fun _ _ _ _ _ _ r h => by simp [ebbtideref21_Groups.l0] at h⟩
 |k + 1 => by
  obtain ⟨ih0, ih1⟩ := ebbtideref21_Groups.mono_l k
  refine ⟨?_, ?_⟩
  ·intro y0 y1 y2 y3 y4 y5
   unfold ebbtideref21_Groups.j0
   repeat' first
   |(with_reducible exact ih0 _ _ _ _ _ _)
   |(with_reducible exact ih1 _ _ _ _ _ _)
   |(with_reducible exact ebbtideref21_group.mono _ _ _ _ _ _ _)
   |(with_reducible exact LeO.refl _)
   |(with_reducible exact LeO.none _)
   |(with_reducible refine LeO.ite ?_ ?_)
   |(with_reducible refine LeO.bind ?_ (fun _ => ?_))
   |exact ih0 _ _ _ _ _ _
   |exact ih1 _ _ _ _ _ _
   |exact ebbtideref21_group.mono _ _ _ _ _ _ _
   |exact LeO.none _
   |refine LeO.ite ?_ ?_
   |refine LeO.bind ?_ (fun _ => ?_)
  ·intro y0 y1 y2 y3 y4 y5
   unfold ebbtideref21_Groups.l0
   repeat' first
   |(with_reducible exact ih0 _ _ _ _ _ _)
   |(with_reducible exact ih1 _ _ _ _ _ _)
   |(with_reducible exact ebbtideref21_group.mono _ _ _ _ _ _ _)
   |(with_reducible exact LeO.refl _)
   |(with_reducible exact LeO.none _)
   |(with_reducible refine LeO.ite ?_ ?_)
   |(with_reducible refine LeO.bind ?_ (fun _ => ?_))
   |exact ih0 _ _ _ _ _ _
   |exact ih1 _ _ _ _ _ _
   |exact ebbtideref21_group.mono _ _ _ _ _ _ _
   |exact LeO.none _
   |refine LeO.ite ?_ ?_
   |refine LeO.bind ?_ (fun _ => ?_)
def ebbtideref21_Groups.T10 : Bool × List (List Nat × List Nat) := (true, [([], []), ([], []), ([], []), ([], []), ([2, 3], [2, 3]), ([4], [4]), ([0, 1, 5], [0, 1, 5]), ([6, 6, 0, 1, 2, 3, 4, 5, 6], [6])])
def ebbtideref21_Groups.B10 : List Nat := [0, 0, 0, 0, 12, 28, 63, 127]
theorem ebbtideref21_Groups.tab10 : rtab .any (opsOf Try.f65 10) = ebbtideref21_Groups.T10 := by kernel_rfl
theorem ebbtideref21_Groups.bits10 : waitsOk ebbtideref21_Groups.T10.2 ebbtideref21_Groups.B10 = true := by kernel_rfl
set_option maxHeartbeats 8000000 in
set_option maxRecDepth 100000 in
theorem ebbtideref21_Groups.calls (k : Nat) (a0_0 : Int) (a0_1 : Bool) (A0_2 : Option Addr) (c0_2 : Nat) (l0_2 : List (S79)) (A1 : Option Addr) (c1 : Nat) (l1 : List (S44)) (A2 : Option Addr) (c2 : Nat) (l2 : List (S44)) (r : Int) (w : World) (hr0_2 : Kd.C k79 w A0_2 l0_2.length l0_2) (hc0_2 : l0_2.length ≤ c0_2) (hr1 : Kd.C k44 w A1 l1.length l1) (hc1 : l1.length ≤ c1) (hr2 : Kd.C k44 w A2 l2.length l2) (hc2 : l2.length ≤ c2) (h : ebbtideref21_Groups.f k a0_0 a0_1 l0_2 l1 l2 = some r) :
  Calls Try.prog 65 #[.agg #[.int .i64 a0_0, .bool a0_1, .slice A0_2 l0_2.length c0_2], .slice A1 l1.length c1, .slice A2 l2.length c2] w fun e w' => e = .returned (.int .i64 r) ∧ Below w.heap.size w w' := by
 have hu32 := Try.underlying32
 have hu44 := Try.underlying44
 have HR0_2 := Aside0.mk hr0_2
 have HC0_2 := Aside0.mk hc0_2
 clear hr0_2 hc0_2
 have HR1 := Aside0.mk hr1
 have HC1 := Aside0.mk hc1
 clear hr1 hc1
 have HR2 := Aside0.mk hr2
 have HC2 := Aside0.mk hc2
 clear hr2 hc2
 have HB := Aside0.mk (Below.refl w.heap.size w)
 have H : (if (l1.length : Int) = 0 then (ebbtideref21_Groups.j0 k l1 l2 true a0_0 a0_1 l0_2) else (ebbtideref21_Groups.j0 k l1 l2 ((l2.length : Int) == 0) a0_0 a0_1 l0_2)) = some r := h
 clear h
 have HC4 := Aside0.mk H
 clear H
 go_enter Try.func65, Try.ntmps65
 go_upto_region 1 with (first | ((with_reducible refine gate_dst (N := 3) rfl ?_); (try (refine gate_guard (by rfl) ?_; dsimp only)); refine box_event ?hg (N := 3) ?hd (cs := #[.int .i64 a0_0, .bool a0_1, .slice A0_2 l0_2.length c0_2]) (t := 32) ?hr ?_; (case hd => rfl); (case hg => rfl); (case hr => first | (go_simp; done) | (go_simp; rfl)); intro gb108 hg w5 hbox hb; have n0_ := Aside0.mk (below_step (by repeat (first | (with_reducible first | exact HB.out | apply below_alloc | apply pw_below_drewN | apply below_drew1) | exact HB.out)) hb); have n1_ := Aside0.mk (hbox); have n2_ := Aside0.mk ((by rw [hg]; exact (below_size (by repeat (first | (with_reducible first | exact HB.out | apply below_alloc | apply pw_below_drewN | apply below_drew1) | exact HB.out))) : w.heap.size ≤ gb108)); have n3_ := Aside0.mk ((by rw [hg]; exact (below_size (by repeat (first | (with_reducible first | exact HB.out | apply below_alloc | apply pw_below_drewN | apply below_drew1) | exact HB.out))) : w.heap.size ≤ gb108)); clear HB; have HB := n0_; have BK108 := n1_; have GW108 := n2_; have GE108 := n3_; clear n0_ n1_ n2_ n3_; clear hb hbox hg))
 (try simp only [Act.put, List.setIfInBounds_toArray, List.set_cons_zero, List.set_cons_succ])
 go_cut [18] (fun v18 wc => ∃ (kq : Nat) (x18_3 : Bool), v18 = .bool x18_3 ∧ Aside0 (ebbtideref21_Groups.j0 kq l1 l2 x18_3 a0_0 a0_1 l0_2 = some r) ∧ Aside0 (kq ≤ k) ∧ Aside0 (wc.heap[gb108]? = some (.cells #[.int .i64 a0_0, .bool a0_1, (.slice A0_2 l0_2.length c0_2)] 32 (0, 0))) ∧ Aside0 (Below w.heap.size w wc))
 case first =>
  have H := HC4.out
  clear HC4
  by_cases c6 : (l1.length : Int) = 0
  ·rw [if_pos c6] at H
   have c6b0 : ((l1.length : Int) == 0) = true := beq_iff_eq.mpr c6
   have c6b1 : ((l1.length : Int) != 0) = false := bne_eq_false_iff_eq.mpr c6
   clear c6
   (first | rw [c6b0] | (simp only [i64_w, i32_w]; rw [c6b0]) | skip)
   have H' := Aside0.mk H
   clear H
   go_wp2
   go_meet
   case rel => exact ⟨_, (true), (by first | rfl | (simp; done) | (simp [*]; done)), H', ⟨by first | omega | exact Nat.le_refl _⟩, ⟨by (with_reducible repeat (first | refine blk_drewN ?_ _ | refine blk_drew ?_ | refine blk_alloc ?_ _)); exact BK108.out⟩, ⟨by repeat (first | (with_reducible first | exact HB.out | apply below_alloc | apply pw_below_drewN | apply below_drew1 | refine below_set ?_ GE108.out) | exact HB.out)⟩⟩
  ·rw [if_neg c6] at H
   have c6b0 : ((l1.length : Int) == 0) = false := beq_eq_false_iff_ne.mpr c6
   have c6b1 : ((l1.length : Int) != 0) = true := bne_iff_ne.mpr c6
   have c6b2 : ¬ (l1 = []) := fun h_ => c6 (by rw [h_]; rfl)
   (first | rw [c6b0] | (simp only [i64_w, i32_w]; rw [c6b0]) | skip)
   have H' := Aside0.mk H
   clear H
   go_wp2
   go_meet
   case rel => exact ⟨_, (((l2.length : Int) == 0)), (by first | rfl | (simp; done) | (simp [*]; done)), H', ⟨by first | omega | exact Nat.le_refl _⟩, ⟨by (with_reducible repeat (first | refine blk_drewN ?_ _ | refine blk_drew ?_ | refine blk_alloc ?_ _)); exact BK108.out⟩, ⟨by repeat (first | (with_reducible first | exact HB.out | apply below_alloc | apply pw_below_drewN | apply below_drew1 | refine below_set ?_ GE108.out) | exact HB.out)⟩⟩
 case rest =>
  clear HC4
  try clear c1
  try clear c2
  try clear p2
  try clear c6
  try clear c6b0
  try clear c6b1
  try clear c6b2
  obtain ⟨kq, x18_3, rfl, HA, HJ3, BK108, HB⟩ := hcut
  cases kq with
  |zero => exact absurd HA.out (by simp [ebbtideref21_Groups.j0])
  |succ kj3 =>
   have H := HA.out
   clear HA
   simp only [ebbtideref21_Groups.j0] at H
   by_cases c7 : x18_3 = true
   ·subst c7
    have H1 : (some 210) = some r := by rw [if_pos rfl] at H; exact H
    clear H
    have H := H1
    clear H1
    obtain rfl := Option.some.inj H
    go_wp2
    go_ret
    exact ⟨by first | rfl | (simp [errW_none, errW_some] <;> rfl) | (simp [*, errW_none, errW_some] <;> rfl), by repeat (first | (with_reducible first | exact HB.out | apply below_alloc | apply pw_below_drewN | apply below_drew1 | refine below_set ?_ GE108.out) | exact HB.out)⟩
   ·replace c7 := Bool.eq_false_iff.mpr c7
    subst c7
    have H1 : (if ([] : List (S44)).length + l1.length < 8796093022208 then ((some (([] : List (S44)) ++ l1 : List (S44))).bind fun y109 => (if y109.length + l2.length < 8796093022208 then (ebbtideref21_Groups.l0 kj3 ([] : List (S44)) (y109 ++ l2) 0 a0_0 a0_1 l0_2) else (none))) else (none)) = some r := by rw [if_neg (show ¬ (false = true) by decide)] at H; exact H
    clear H
    have H := H1
    clear H1
    by_cases c8 : ([] : List (S44)).length + l1.length < 8796093022208
    ·rw [if_pos c8] at H
     have LMc8 := Aside0.mk c8
     clear c8
     obtain ⟨y109, hy109⟩ : ∃ y_ : List (S44), y_ = (([] : List (S44)) ++ l1) := ⟨_, rfl⟩
     replace H : (if y109.length + l2.length < 8796093022208 then (ebbtideref21_Groups.l0 kj3 ([] : List (S44)) (y109 ++ l2) 0 a0_0 a0_1 l0_2) else (none)) = some r := by first | (rw [hy109]; with_reducible exact H) | (have H2_ := (Option.bind_some _ _).symm.trans H; rw [hy109]; with_reducible exact H2_) | (have H2_ := (Option.bind_some _ _).symm.trans H; with_reducible exact H2_) | with_reducible exact H | (rw [hy109]; exact H) | exact H
     have Ny109 := Aside0.mk hy109
     clear hy109
     by_cases c9 : y109.length + l2.length < 8796093022208
     ·rw [if_pos c9] at H
      have LMc9 := Aside0.mk c9
      clear c9
      obtain ⟨y112, hy112⟩ : ∃ y_ : List (S44), y_ = (y109 ++ l2) := ⟨_, rfl⟩
      replace H : (ebbtideref21_Groups.l0 kj3 ([] : List (S44)) y112 0 a0_0 a0_1 l0_2) = some r := by first | (rw [hy112]; with_reducible exact H) | (have H2_ := (Option.bind_some _ _).symm.trans H; rw [hy112]; with_reducible exact H2_) | (have H2_ := (Option.bind_some _ _).symm.trans H; with_reducible exact H2_) | with_reducible exact H | (rw [hy112]; exact H) | exact H
      have Ny112 := Aside0.mk hy112
      clear hy112
      have H' := Aside0.mk H
      clear H
      go_wp2_with (first | ((with_reducible refine gate_builtin (b := .append) (xs := #[.tmp 19, .tmp 20]) rfl ?_); (try (refine gate_guard (by rfl) ?_; dsimp only)); at_builtin; refine Kd.R_append_rows k44 (w0 := w) w.heap.size rfl (.tmp 19) (.tmp 20) 33 44 (.agg #[(.int .i64 0), (.int .i64 0)]) 16 rfl Try.underlying33 info44 rfl (by decide) (by omega) (.slice none 0 0) ([] : List (S44)) l1 _ _ _ (fun _ => True) (fun _ => False) rfl rfl ?aO ?aR (fun _ _ h => h) (fun _ h => h.elim) ?aF ?aB ?aS ?aL ?_; (case aR => repeat (first | exact (Kd.C_below HR1.out HB.out) | (with_reducible refine Kd.C_alloc ?_ _) | (with_reducible refine Kd.C_drewN ?_ _) | (with_reducible refine Kd.C_drew ?_))); (case aB => exact (by repeat (first | (with_reducible first | exact HB.out | apply below_alloc | apply pw_below_drewN | apply below_drew1 | refine below_set ?_ GE108.out) | exact HB.out))); (case aF => exact (fun _ _ => trivial)); (case aO => exact ((Kd.R_nil _ _ _ _ (fun _ => True)))); (case aS => exact (below_size (by repeat (first | (with_reducible first | exact HB.out | apply below_alloc | apply pw_below_drewN | apply below_drew1 | refine below_set ?_ GE108.out) | exact HB.out)))); (case aL => have := LMc8.out; omega); intro v110 w10 ho hb hg hat; rw [← Ny109.out] at ho; have n0_ := Aside0.mk (blk_grown (g := gb108) (o := .cells #[.int .i64 a0_0, .bool a0_1, .slice A0_2 l0_2.length c0_2] 32 (0, 0)) (by (with_reducible repeat (first | refine blk_drewN ?_ _ | refine blk_drew ?_ | refine blk_alloc ?_ _)); exact BK108.out) hg (by simp [Value.ownBlock])); have n1_ := Aside0.mk (hb); have n2_ := Aside0.mk (ho); clear BK108; clear HB; have BK108 := n0_; have HB := n1_; have HO111 := n2_; clear n0_ n1_ n2_; clear ho hb hg hat) | ((with_reducible refine gate_builtin (b := .append) (xs := #[.tmp 22, .tmp 23]) rfl ?_); (try (refine gate_guard (by rfl) ?_; dsimp only)); at_builtin; refine Kd.R_append_rows k44 (w0 := w) w.heap.size rfl (.tmp 22) (.tmp 23) 33 44 (.agg #[(.int .i64 0), (.int .i64 0)]) 16 rfl Try.underlying33 info44 rfl (by decide) (by omega) v110 y109 l2 _ _ _ (fun _ => True) (fun _ => False) rfl rfl ?aO ?aR (fun _ _ h => h) (fun _ h => h.elim) ?aF ?aB ?aS ?aL ?_; (case aR => repeat (first | exact (Kd.C_below HR2.out HB.out) | (with_reducible refine Kd.C_alloc ?_ _) | (with_reducible refine Kd.C_drewN ?_ _) | (with_reducible refine Kd.C_drew ?_))); (case aB => exact (by repeat (first | (with_reducible first | exact HB.out | apply below_alloc | apply pw_below_drewN | apply below_drew1 | refine below_set ?_ GE108.out) | exact HB.out))); (case aF => exact (fun _ _ => trivial)); (case aO => exact (by (with_reducible repeat (first | apply Kd.R_alloc | apply Kd.R_drewN | apply Kd.R_drew)); exact HO111.out)); (case aS => exact (below_size (by repeat (first | (with_reducible first | exact HB.out | apply below_alloc | apply pw_below_drewN | apply below_drew1 | refine below_set ?_ GE108.out) | exact HB.out)))); (case aL => have := LMc9.out; omega); intro v113 w11 ho hb hg hat; rw [← Ny112.out] at ho; have n0_ := Aside0.mk (blk_grown (g := gb108) (o := .cells #[.int .i64 a0_0, .bool a0_1, .slice A0_2 l0_2.length c0_2] 32 (0, 0)) (by (with_reducible repeat (first | refine blk_drewN ?_ _ | refine blk_drew ?_ | refine blk_alloc ?_ _)); exact BK108.out) hg (Kd.R_ne HO111.out BK108.out (by decide))); have n1_ := Aside0.mk (hb); have n2_ := Aside0.mk (ho); clear BK108; clear HB; clear HO111; have BK108 := n0_; have HB := n1_; have HO114 := n2_; clear n0_ n1_ n2_; clear ho hb hg hat))
      go_loopg [7, 9] kj3 (fun kq v7 v9 w' => ∃ (x7_2 : List (S44)) (x9_2 : Int), v9 = .int .i64 x9_2 ∧ Aside0 (ebbtideref21_Groups.l0 kq x7_2 y112 x9_2 a0_0 a0_1 l0_2 = some r) ∧ Aside0 (kq ≤ kj3) ∧ Aside0 (Kd.R k44 44 w' w.heap.size (fun k_ => some k_ ≠ (v113 : Value).ownBlock) v7 x7_2) ∧ Aside0 (Kd.R k44 44 w' w.heap.size (fun k_ => some k_ ≠ (v7 : Value).ownBlock) v113 y112) ∧ Aside0 (w'.heap[gb108]? = some (.cells #[.int .i64 a0_0, .bool a0_1, (.slice A0_2 l0_2.length c0_2)] 32 (0, 0))) ∧ Aside0 (Below w.heap.size w w'))
      case atStart => exact ⟨(([] : List (S44))), (0), (by first | rfl | (simp; done) | (simp [*]; done)), H', ⟨Nat.le_refl _⟩, ⟨by first | exact Kd.R_nil _ _ _ _ _ | exact Kd.N_nil _ _ _ _ _ | exact Kd.V_nil _ _ _ _ _ | exact Kd.Q_nil _ _ _ _ _ | exact Kd.S_nil _ _ _ _ _⟩, ⟨by (with_reducible repeat (first | apply Kd.R_alloc | apply Kd.R_drewN | apply Kd.R_drew)); exact Kd.R_mono HO114.out (fun _ hk => (by simp [Value.ownBlock]))⟩, ⟨by (with_reducible repeat (first | refine blk_drewN ?_ _ | refine blk_drew ?_ | refine blk_alloc ?_ _)); exact BK108.out⟩, ⟨by repeat (first | (with_reducible first | exact HB.out | apply below_alloc | apply pw_below_drewN | apply below_drew1 | refine below_set ?_ GE108.out) | exact HB.out)⟩⟩
      case round =>
       clear H'
       try clear c1
       try clear c2
       try clear p2
       try clear c6
       try clear c6b0
       try clear c6b1
       try clear c6b2
       try clear c7
       try clear c8
       try clear c9
       try clear p2
       obtain ⟨x7_2, x9_2, rfl, HA, HK2, HO_7, HO_8, BK108, HB⟩ := hrel
       cases gk with
       |zero => exact absurd HA.out (by simp [ebbtideref21_Groups.l0])
       |succ k2 =>
        have H := HA.out
        clear HA
        simp only [ebbtideref21_Groups.l0] at H
        by_cases c12 : x9_2 < (y112.length : Int)
        ·rw [if_pos c12] at H
         have c12b0 : decide (x9_2 < (y112.length : Int)) = true := decide_eq_true c12
         clear c12
         by_cases c13 : 0 ≤ x9_2
         ·rw [if_pos c13] at H
          have c13b0 : decide (0 ≤ x9_2) = true := decide_eq_true c13
          clear c13
          replace H := Option.bind_eq_some_iff.mp H
          obtain ⟨t116, A140, H⟩ := H
          replace H : (if t116 = 0 then (if x7_2.length < 8796093022208 then (ebbtideref21_Groups.l0 k2 (x7_2 ++ [(⟨(rd_T44 y112 x9_2).f0, (rd_T44 y112 x9_2).f1⟩ : S44)]) y112 (wrap64 (x9_2 + 1)) a0_0 a0_1 l0_2) else (none)) else (some t116)) = some r := H
          have A14 := Aside0.mk A140
          clear A140
          by_cases c15 : t116 = 0
          ·rw [if_pos c15] at H
           have c15b0 : (t116 == 0) = true := beq_iff_eq.mpr c15
           have c15b1 : (t116 != 0) = false := bne_eq_false_iff_eq.mpr c15
           clear c15
           by_cases c16 : x7_2.length < 8796093022208
           ·rw [if_pos c16] at H
            have LMc16 := Aside0.mk c16
            clear c16
            obtain ⟨y118, hy118⟩ : ∃ y_ : List (S44), y_ = (x7_2 ++ [(⟨(rd_T44 y112 x9_2).f0, (rd_T44 y112 x9_2).f1⟩ : S44)]) := ⟨_, rfl⟩
            replace H : (ebbtideref21_Groups.l0 k2 y118 y112 (wrap64 (x9_2 + 1)) a0_0 a0_1 l0_2) = some r := by first | (rw [hy118]; with_reducible exact H) | (have H2_ := (Option.bind_some _ _).symm.trans H; rw [hy118]; with_reducible exact H2_) | (have H2_ := (Option.bind_some _ _).symm.trans H; with_reducible exact H2_) | with_reducible exact H | (rw [hy118]; exact H) | exact H
            have Ny118 := Aside0.mk hy118
            clear hy118
            have H' := Aside0.mk H
            clear H
            obtain ⟨Ao17, co17, eo17⟩ := Kd.R_slice HO_8.out
            subst eo17
            try go_wp2
            have n0_ := Aside0.mk (Kd.R_drew HO_7.out)
            have n1_ := Aside0.mk (Kd.R_drew HO_8.out)
            have n2_ := Aside0.mk (blk_drew BK108.out)
            have n3_ := Aside0.mk (below_drew1 HB.out)
            clear HO_7
            clear HO_8
            clear BK108
            clear HB
            have HO_7 := n0_
            have HO_8 := n1_
            have BK108 := n2_
            have HB := n3_
            clear n0_ n1_ n2_ n3_
            have p115 : 0 ≤ (x9_2 : Int) := of_decide_eq_true (by first | (with_reducible assumption) | assumption)
            have q115 : x9_2 < (y112.length : Int) := of_decide_eq_true (by first | (with_reducible assumption) | assumption)
            obtain ⟨ad115, e115, hx115_0, hx115_1⟩ := at_T44 (Kd.R_reads' HO_8.out).2.2 x9_2 p115 q115
            cases e115
            replace p115 := eq_true p115
            replace q115 := eq_true q115
            obtain ⟨Ao19, co19, eo19⟩ := Kd.R_slice HO_7.out
            (first | subst eo19 | (injection eo19 with f1_ f2_ f3_; have f4_ := f1_.symm; have f5_ := f3_.symm; clear f1_ f2_ f3_; subst f4_; subst f5_))
            refine start_ (n := 8) (S := fun w' => w'.cell? ⟨gb108, 0, none⟩ = some (.int .i64 a0_0) ∧ w'.cell? ⟨gb108, 1, none⟩ = some (.bool a0_1) ∧ w'.cell? ⟨gb108, 2, none⟩ = some (.slice A0_2 l0_2.length c0_2) ∧ w'.cell? (ad115.add ((x9_2).toNat * 2)) = some (.int .i64 ((rd_T44 y112 x9_2).f0)) ∧ w'.cell? ⟨(ad115.add ((x9_2).toNat * 2)).block, (ad115.add ((x9_2).toNat * 2)).off + 1, none⟩ = some (.int .i64 ((rd_T44 y112 x9_2).f1))) (ds := []) #[false, false, false, false, false, false, false, false] (by kernel_rfl) rfl rfl ⟨(blk_cell BK108.out 0).trans rfl, (blk_cell BK108.out 1).trans rfl, (blk_cell BK108.out 2).trans rfl, hx115_0, hx115_1⟩ (fun hHeld => ?_); refine with_tabW ebbtideref21_Groups.tab10 ebbtideref21_Groups.bits10 (fun HT_ HW_ => ?_)
            generalize wr.drew = w18 at HO_7 HO_8 BK108 HB hx115_0 hx115_1 hHeld ⊢
            refine pure_ (i := 1) (N := some 32) (v := ?_) (a' := ?_) #[false, true, false, false, false, false, false, false] rfl rfl (any_of HT_.out (by kernel_rfl)) (fun _ _ _ h => h) (Or.inl ⟨by rfl, ?_⟩) ?_ ?_
            rotate_left
            ·intro w'
             go_simp
             with_reducible rfl
            rotate_left
            ·simp only [Act.put, List.setIfInBounds_toArray, List.set_cons_zero, List.set_cons_succ, i64_w, i32_w]
             rfl
            refine pure_ (i := 2) (N := some 33) (v := ?_) (a' := ?_) #[false, true, true, false, false, false, false, false] rfl rfl (any_of HT_.out (by kernel_rfl)) (fun _ _ _ h => h) (Or.inl ⟨by rfl, ?_⟩) ?_ ?_
            rotate_left
            ·intro w'
             go_simp
             with_reducible rfl
            rotate_left
            ·simp only [Act.put, List.setIfInBounds_toArray, List.set_cons_zero, List.set_cons_succ, i64_w, i32_w]
             rfl
            refine pure_ (i := 3) (N := some 34) (v := ?_) (a' := ?_) #[false, true, true, true, false, false, false, false] rfl rfl (any_of HT_.out (by kernel_rfl)) (fun _ _ _ h => h) (Or.inl ⟨by rfl, ?_⟩) ?_ ?_
            rotate_left
            ·intro w'
             go_simp
             with_reducible rfl
            rotate_left
            ·simp only [Act.put, List.setIfInBounds_toArray, List.set_cons_zero, List.set_cons_succ, i64_w, i32_w]
             rfl
            refine pure_ (i := 4) (N := some 35) (v := ?_) (a' := ?_) #[false, true, true, true, true, false, false, false] rfl rfl (any_of HT_.out (by kernel_rfl)) (fun _ _ _ h => h) (Or.inl ⟨by rfl, ?_⟩) ?_ ?_
            rotate_left
            ·intro w'
             go_simp
             with_reducible rfl
            rotate_left
            ·simp only [Act.put, List.setIfInBounds_toArray, List.set_cons_zero, List.set_cons_succ, i64_w, i32_w]
             rfl
            refine take_ (i := 0) (N := some 31) (v := ?_) (a' := ?_) #[true, true, true, true, true, false, false, false] rfl rfl (take_ofW HT_.out HW_.out (by kernel_rfl)) (fun _ _ _ h => h) (Or.inl ⟨by rfl, ?_⟩) hHeld ?_ ?_
            rotate_left
            ·rintro w' ⟨s0, s1, s2, s3, s4⟩
             go_simp
             with_reducible rfl
            rotate_left
            ·simp only [Act.put, List.setIfInBounds_toArray, List.set_cons_zero, List.set_cons_succ, i64_w, i32_w]
             rfl
            refine take_ (i := 5) (N := some 36) (v := ?_) (a' := ?_) #[true, true, true, true, true, true, false, false] rfl rfl (take_ofW HT_.out HW_.out (by kernel_rfl)) (fun _ _ _ h => h) (Or.inl ⟨by rfl, ?_⟩) hHeld ?_ ?_
            rotate_left
            ·rintro w' ⟨s0, s1, s2, s3, s4⟩
             go_simp
             with_reducible rfl
            rotate_left
            ·simp only [Act.put, List.setIfInBounds_toArray, List.set_cons_zero, List.set_cons_succ, i64_w, i32_w]
             rfl
            refine one_ (i := 6) (N := some 37) #[true, true, true, true, true, true, true, false] rfl rfl (one_of HT_.out (by kernel_rfl)) (by decide) (fun K hK => ?_)
            refine goes_ Try.func87 (by kernel_rfl) rfl #[.agg #[.int .i64 a0_0, .bool a0_1, .slice A0_2 l0_2.length c0_2], .slice Ao19 x7_2.length co19, .agg #[.int .i64 ((rd_T44 y112 x9_2).f0), .int .i64 ((rd_T44 y112 x9_2).f1)]] (by rfl) rfl rfl (by (try simp only [List.map_toArray, List.map_cons, List.map_nil]); first | done | rfl | (simp only [List.length_drop, List.length_take]; rfl)) ?_
            with_reducible refine (ebbtideref21_group.calls k2 a0_0 a0_1 _ _ l0_2 _ _ x7_2 ((rd_T44 y112 x9_2).f0) ((rd_T44 y112 x9_2).f1) t116 _ ?side1 ?side2 ?side3 ?side4 A14.out).mono ?_
            (case side1 => repeat (first | exact (Kd.C_below HR0_2.out HB.out) | (with_reducible refine Kd.C_alloc ?_ _) | (with_reducible refine Kd.C_drewN ?_ _) | (with_reducible refine Kd.C_drew ?_)))
            (case side2 => exact HC0_2.out)
            (case side3 => repeat (first | exact (Kd.R_reads' HO_7.out).2.2 | (with_reducible refine Kd.C_alloc ?_ _) | (with_reducible refine Kd.C_drewN ?_ _) | (with_reducible refine Kd.C_drew ?_)))
            (case side4 => exact (Kd.R_reads' HO_7.out).2.1)
            rintro e w20 ⟨rfl, hb⟩
            have HS3_ := (hb.cell (World.block_lt_of_cell? _ _ (hHeld.2.2.2.1))).trans (hHeld.2.2.2.1)
            have HS4_ := (hb.cell (World.block_lt_of_cell? _ _ (hHeld.2.2.2.2))).trans (hHeld.2.2.2.2)
            refine ⟨_, rfl, ?_⟩
            have n0_ := Aside0.mk (Kd.R_below (by (with_reducible repeat (first | apply Kd.R_alloc | apply Kd.R_drewN | apply Kd.R_drew)); exact HO_7.out) hb)
            have n1_ := Aside0.mk (Kd.R_below (by (with_reducible repeat (first | apply Kd.R_alloc | apply Kd.R_drewN | apply Kd.R_drew)); exact HO_8.out) hb)
            have n2_ := Aside0.mk (blk_below (g := gb108) (o := .cells #[.int .i64 a0_0, .bool a0_1, .slice A0_2 l0_2.length c0_2] 32 (0, 0)) (by (with_reducible repeat (first | refine blk_drewN ?_ _ | refine blk_drew ?_ | refine blk_alloc ?_ _)); exact BK108.out) hb)
            have n3_ := Aside0.mk (below_step (by repeat (first | (with_reducible first | exact HB.out | apply below_alloc | apply pw_below_drewN | apply below_drew1 | refine below_set ?_ GE108.out) | exact HB.out)) hb)
            clear HO_7
            clear HO_8
            clear BK108
            clear HB
            have HO_7 := n0_
            have HO_8 := n1_
            have BK108 := n2_
            have HB := n3_
            clear n0_ n1_ n2_ n3_
            (try clear hb)
            (try clear hb2)
            (try clear hk)
            (try clear hi)
            refine hK.out _ _ ⟨(blk_cell BK108.out 0).trans rfl, (blk_cell BK108.out 1).trans rfl, (blk_cell BK108.out 2).trans rfl, HS3_, HS4_⟩ (fun hHeld => ?_)
            clear hK K
            refine norm_ (a' := ?_) ?_ ?_
            rotate_left
            ·show Act.put _ (some 37) _ = _
             simp only [Act.put, List.setIfInBounds_toArray, List.set_cons_zero, List.set_cons_succ, i64_w, i32_w]
             rfl
            refine pure_ (i := 7) (N := some 10) (v := ?_) (a' := ?_) #[true, true, true, true, true, true, true, true] rfl rfl (any_of HT_.out (by kernel_rfl)) (fun _ _ _ h => h) (Or.inl ⟨by rfl, ?_⟩) ?_ ?_
            rotate_left
            ·intro w'
             go_simp
             with_reducible rfl
            rotate_left
            ·simp only [Act.put, List.setIfInBounds_toArray, List.set_cons_zero, List.set_cons_succ, i64_w, i32_w]
             rfl
            refine done_ (done_of HT_.out (by kernel_rfl)) ?_
            have p117 : 0 ≤ (x9_2 : Int) := of_decide_eq_true (by first | (with_reducible assumption) | assumption)
            have q117 : x9_2 < (y112.length : Int) := of_decide_eq_true (by first | (with_reducible assumption) | assumption)
            obtain ⟨ad117, e117, hx117_0, hx117_1⟩ := at_T44 (Kd.R_reads' HO_8.out).2.2 x9_2 p117 q117
            obtain rfl : ad115 = ad117 := (by injection e117)
            replace p117 := eq_true p117
            replace q117 := eq_true q117
            try go_wp2_with (first | ((with_reducible refine gate_builtin (b := .append) (xs := #[.tmp 41, .tmp 46]) rfl ?_); (try (refine gate_guard (by rfl) ?_; dsimp only)); at_builtin; refine Kd.R_append k44 (w0 := w) w.heap.size rfl (.tmp 41) (.tmp 46) 33 44 (.agg #[(.int .i64 0), (.int .i64 0)]) 16 rfl Try.underlying33 info44 rfl (by decide) (by omega) (.slice Ao19 x7_2.length co19) x7_2 (⟨(rd_T44 y112 x9_2).f0, (rd_T44 y112 x9_2).f1⟩ : S44) [.int .i64 ((rd_T44 y112 x9_2).f0), .int .i64 ((rd_T44 y112 x9_2).f1)] (fun k_ => some k_ ≠ (.slice (some ad115) y112.length co17 : Value).ownBlock) (fun _ => False) rfl rfl ?aP (fun _ hk => hk.elim) ?aF ?aO ?aB ?aS ?aL ?_; (case aP => exact k44_mkM _ _ _ (⟨(rd_T44 y112 x9_2).f0, (rd_T44 y112 x9_2).f1⟩ : S44)); (case aB => exact (by repeat (first | (with_reducible first | exact HB.out | apply below_alloc | apply pw_below_drewN | apply below_drew1 | refine below_set ?_ GE108.out) | exact HB.out))); (case aF => exact (fun k_ hk => Kd.fresh' (Kd.R_lt (by (with_reducible repeat (first | apply Kd.R_alloc | apply Kd.R_drewN | apply Kd.R_drew)); exact HO_8.out)) k_ hk)); (case aO => exact (by (with_reducible repeat (first | apply Kd.R_alloc | apply Kd.R_drewN | apply Kd.R_drew)); exact HO_7.out)); (case aS => exact (below_size (by repeat (first | (with_reducible first | exact HB.out | apply below_alloc | apply pw_below_drewN | apply below_drew1 | refine below_set ?_ GE108.out) | exact HB.out)))); (case aL => have := LMc16.out; omega); intro v119 w21 ho hb hg hat; rw [← Ny118.out] at ho; have n0_ := Aside0.mk (Kd.R_after (ok := (fun _ => True)) (by (with_reducible repeat (first | apply Kd.R_alloc | apply Kd.R_drewN | apply Kd.R_drew)); exact Kd.R_mono HO_8.out (fun _ hk => ⟨trivial, hk⟩)) hg hat); have n1_ := Aside0.mk (blk_grown (g := gb108) (o := .cells #[.int .i64 a0_0, .bool a0_1, .slice A0_2 l0_2.length c0_2] 32 (0, 0)) (by (with_reducible repeat (first | refine blk_drewN ?_ _ | refine blk_drew ?_ | refine blk_alloc ?_ _)); exact BK108.out) hg (Kd.R_ne HO_7.out BK108.out (by decide))); have n2_ := Aside0.mk (hb); have n3_ := Aside0.mk (ho); clear HO_8; clear BK108; clear HB; clear HO_7; have HO_8 := n0_; have BK108 := n1_; have HB := n2_; have HO120 := n3_; clear n0_ n1_ n2_ n3_; clear ho hb hg hat))
            go_roundg k2
            case measure => have := HJ3.out; have := HK2.out; omega
            case rel => exact ⟨(y118), (wrap64 (x9_2 + 1)), (by first | rfl | (simp; done) | (simp [*]; done)), H', ⟨by have := HJ3.out; have := HK2.out; omega⟩, ⟨by (with_reducible repeat (first | apply Kd.R_alloc | apply Kd.R_drewN | apply Kd.R_drew)); exact HO120.out⟩, ⟨by (with_reducible repeat (first | apply Kd.R_alloc | apply Kd.R_drewN | apply Kd.R_drew)); exact Kd.R_mono HO_8.out (fun _ hk => hk.2)⟩, ⟨by (with_reducible repeat (first | refine blk_drewN ?_ _ | refine blk_drew ?_ | refine blk_alloc ?_ _)); exact BK108.out⟩, ⟨by repeat (first | (with_reducible first | exact HB.out | apply below_alloc | apply pw_below_drewN | apply below_drew1 | refine below_set ?_ GE108.out) | exact HB.out)⟩⟩
           ·rw [if_neg c16] at H
            exact absurd H (by simp)
          ·rw [if_neg c15] at H
           have c15b0 : (t116 == 0) = false := beq_eq_false_iff_ne.mpr c15
           have c15b1 : (t116 != 0) = true := bne_iff_ne.mpr c15
           obtain rfl := Option.some.inj H
           obtain ⟨Ao22, co22, eo22⟩ := Kd.R_slice HO_8.out
           subst eo22
           try go_wp2
           have n0_ := Aside0.mk (Kd.R_drew HO_7.out)
           have n1_ := Aside0.mk (Kd.R_drew HO_8.out)
           have n2_ := Aside0.mk (blk_drew BK108.out)
           have n3_ := Aside0.mk (below_drew1 HB.out)
           clear HO_7
           clear HO_8
           clear BK108
           clear HB
           have HO_7 := n0_
           have HO_8 := n1_
           have BK108 := n2_
           have HB := n3_
           clear n0_ n1_ n2_ n3_
           have p115 : 0 ≤ (x9_2 : Int) := of_decide_eq_true (by first | (with_reducible assumption) | assumption)
           have q115 : x9_2 < (y112.length : Int) := of_decide_eq_true (by first | (with_reducible assumption) | assumption)
           obtain ⟨ad115, e115, hx115_0, hx115_1⟩ := at_T44 (Kd.R_reads' HO_8.out).2.2 x9_2 p115 q115
           cases e115
           replace p115 := eq_true p115
           replace q115 := eq_true q115
           obtain ⟨Ao24, co24, eo24⟩ := Kd.R_slice HO_7.out
           (first | subst eo24 | (injection eo24 with f1_ f2_ f3_; have f4_ := f1_.symm; have f5_ := f3_.symm; clear f1_ f2_ f3_; subst f4_; subst f5_))
           refine start_ (n := 8) (S := fun w' => w'.cell? ⟨gb108, 0, none⟩ = some (.int .i64 a0_0) ∧ w'.cell? ⟨gb108, 1, none⟩ = some (.bool a0_1) ∧ w'.cell? ⟨gb108, 2, none⟩ = some (.slice A0_2 l0_2.length c0_2) ∧ w'.cell? (ad115.add ((x9_2).toNat * 2)) = some (.int .i64 ((rd_T44 y112 x9_2).f0)) ∧ w'.cell? ⟨(ad115.add ((x9_2).toNat * 2)).block, (ad115.add ((x9_2).toNat * 2)).off + 1, none⟩ = some (.int .i64 ((rd_T44 y112 x9_2).f1))) (ds := []) #[false, false, false, false, false, false, false, false] (by kernel_rfl) rfl rfl ⟨(blk_cell BK108.out 0).trans rfl, (blk_cell BK108.out 1).trans rfl, (blk_cell BK108.out 2).trans rfl, hx115_0, hx115_1⟩ (fun hHeld => ?_); refine with_tabW ebbtideref21_Groups.tab10 ebbtideref21_Groups.bits10 (fun HT_ HW_ => ?_)
           generalize wr.drew = w23 at HO_7 HO_8 BK108 HB hx115_0 hx115_1 hHeld ⊢
           refine pure_ (i := 1) (N := some 32) (v := ?_) (a' := ?_) #[false, true, false, false, false, false, false, false] rfl rfl (any_of HT_.out (by kernel_rfl)) (fun _ _ _ h => h) (Or.inl ⟨by rfl, ?_⟩) ?_ ?_
           rotate_left
           ·intro w'
            go_simp
            with_reducible rfl
           rotate_left
           ·simp only [Act.put, List.setIfInBounds_toArray, List.set_cons_zero, List.set_cons_succ, i64_w, i32_w]
            rfl
           refine pure_ (i := 2) (N := some 33) (v := ?_) (a' := ?_) #[false, true, true, false, false, false, false, false] rfl rfl (any_of HT_.out (by kernel_rfl)) (fun _ _ _ h => h) (Or.inl ⟨by rfl, ?_⟩) ?_ ?_
           rotate_left
           ·intro w'
            go_simp
            with_reducible rfl
           rotate_left
           ·simp only [Act.put, List.setIfInBounds_toArray, List.set_cons_zero, List.set_cons_succ, i64_w, i32_w]
            rfl
           refine pure_ (i := 3) (N := some 34) (v := ?_) (a' := ?_) #[false, true, true, true, false, false, false, false] rfl rfl (any_of HT_.out (by kernel_rfl)) (fun _ _ _ h => h) (Or.inl ⟨by rfl, ?_⟩) ?_ ?_
           rotate_left
           ·intro w'
            go_simp
            with_reducible rfl
           rotate_left
           ·simp only [Act.put, List.setIfInBounds_toArray, List.set_cons_zero, List.set_cons_succ, i64_w, i32_w]
            rfl
           refine pure_ (i := 4) (N := some 35) (v := ?_) (a' := ?_) #[false, true, true, true, true, false, false, false] rfl rfl (any_of HT_.out (by kernel_rfl)) (fun _ _ _ h => h) (Or.inl ⟨by rfl, ?_⟩) ?_ ?_
           rotate_left
           ·intro w'
            go_simp
            with_reducible rfl
           rotate_left
           ·simp only [Act.put, List.setIfInBounds_toArray, List.set_cons_zero, List.set_cons_succ, i64_w, i32_w]
            rfl
           refine take_ (i := 0) (N := some 31) (v := ?_) (a' := ?_) #[true, true, true, true, true, false, false, false] rfl rfl (take_ofW HT_.out HW_.out (by kernel_rfl)) (fun _ _ _ h => h) (Or.inl ⟨by rfl, ?_⟩) hHeld ?_ ?_
           rotate_left
           ·rintro w' ⟨s0, s1, s2, s3, s4⟩
            go_simp
            with_reducible rfl
           rotate_left
           ·simp only [Act.put, List.setIfInBounds_toArray, List.set_cons_zero, List.set_cons_succ, i64_w, i32_w]
            rfl
           refine take_ (i := 5) (N := some 36) (v := ?_) (a' := ?_) #[true, true, true, true, true, true, false, false] rfl rfl (take_ofW HT_.out HW_.out (by kernel_rfl)) (fun _ _ _ h => h) (Or.inl ⟨by rfl, ?_⟩) hHeld ?_ ?_
           rotate_left
           ·rintro w' ⟨s0, s1, s2, s3, s4⟩
            go_simp
            with_reducible rfl
           rotate_left
           ·simp only [Act.put, List.setIfInBounds_toArray, List.set_cons_zero, List.set_cons_succ, i64_w, i32_w]
            rfl
           refine one_ (i := 6) (N := some 37) #[true, true, true, true, true, true, true, false] rfl rfl (one_of HT_.out (by kernel_rfl)) (by decide) (fun K hK => ?_)
           refine goes_ Try.func87 (by kernel_rfl) rfl #[.agg #[.int .i64 a0_0, .bool a0_1, .slice A0_2 l0_2.length c0_2], .slice Ao24 x7_2.length co24, .agg #[.int .i64 ((rd_T44 y112 x9_2).f0), .int .i64 ((rd_T44 y112 x9_2).f1)]] (by rfl) rfl rfl (by (try simp only [List.map_toArray, List.map_cons, List.map_nil]); first | done | rfl | (simp only [List.length_drop, List.length_take]; rfl)) ?_
           with_reducible refine (ebbtideref21_group.calls k2 a0_0 a0_1 _ _ l0_2 _ _ x7_2 ((rd_T44 y112 x9_2).f0) ((rd_T44 y112 x9_2).f1) t116 _ ?side1 ?side2 ?side3 ?side4 A14.out).mono ?_
           (case side1 => repeat (first | exact (Kd.C_below HR0_2.out HB.out) | (with_reducible refine Kd.C_alloc ?_ _) | (with_reducible refine Kd.C_drewN ?_ _) | (with_reducible refine Kd.C_drew ?_)))
           (case side2 => exact HC0_2.out)
           (case side3 => repeat (first | exact (Kd.R_reads' HO_7.out).2.2 | (with_reducible refine Kd.C_alloc ?_ _) | (with_reducible refine Kd.C_drewN ?_ _) | (with_reducible refine Kd.C_drew ?_)))
           (case side4 => exact (Kd.R_reads' HO_7.out).2.1)
           rintro e w25 ⟨rfl, hb⟩
           have HS3_ := (hb.cell (World.block_lt_of_cell? _ _ (hHeld.2.2.2.1))).trans (hHeld.2.2.2.1)
           have HS4_ := (hb.cell (World.block_lt_of_cell? _ _ (hHeld.2.2.2.2))).trans (hHeld.2.2.2.2)
           refine ⟨_, rfl, ?_⟩
           have n0_ := Aside0.mk (Kd.R_below (by (with_reducible repeat (first | apply Kd.R_alloc | apply Kd.R_drewN | apply Kd.R_drew)); exact HO_7.out) hb)
           have n1_ := Aside0.mk (Kd.R_below (by (with_reducible repeat (first | apply Kd.R_alloc | apply Kd.R_drewN | apply Kd.R_drew)); exact HO_8.out) hb)
           have n2_ := Aside0.mk (blk_below (g := gb108) (o := .cells #[.int .i64 a0_0, .bool a0_1, .slice A0_2 l0_2.length c0_2] 32 (0, 0)) (by (with_reducible repeat (first | refine blk_drewN ?_ _ | refine blk_drew ?_ | refine blk_alloc ?_ _)); exact BK108.out) hb)
           have n3_ := Aside0.mk (below_step (by repeat (first | (with_reducible first | exact HB.out | apply below_alloc | apply pw_below_drewN | apply below_drew1 | refine below_set ?_ GE108.out) | exact HB.out)) hb)
           clear HO_7
           clear HO_8
           clear BK108
           clear HB
           have HO_7 := n0_
           have HO_8 := n1_
           have BK108 := n2_
           have HB := n3_
           clear n0_ n1_ n2_ n3_
           (try clear hb)
           (try clear hb2)
           (try clear hk)
           (try clear hi)
           refine hK.out _ _ ⟨(blk_cell BK108.out 0).trans rfl, (blk_cell BK108.out 1).trans rfl, (blk_cell BK108.out 2).trans rfl, HS3_, HS4_⟩ (fun hHeld => ?_)
           clear hK K
           refine norm_ (a' := ?_) ?_ ?_
           rotate_left
           ·show Act.put _ (some 37) _ = _
            simp only [Act.put, List.setIfInBounds_toArray, List.set_cons_zero, List.set_cons_succ, i64_w, i32_w]
            rfl
           refine pure_ (i := 7) (N := some 10) (v := ?_) (a' := ?_) #[true, true, true, true, true, true, true, true] rfl rfl (any_of HT_.out (by kernel_rfl)) (fun _ _ _ h => h) (Or.inl ⟨by rfl, ?_⟩) ?_ ?_
           rotate_left
           ·intro w'
            go_simp
            with_reducible rfl
           rotate_left
           ·simp only [Act.put, List.setIfInBounds_toArray, List.set_cons_zero, List.set_cons_succ, i64_w, i32_w]
            rfl
           refine done_ (done_of HT_.out (by kernel_rfl)) ?_
           try go_wp2
           go_ret
           exact ⟨by first | rfl | (simp [errW_none, errW_some] <;> rfl) | (simp [*, errW_none, errW_some] <;> rfl), by repeat (first | (with_reducible first | exact HB.out | apply below_alloc | apply pw_below_drewN | apply below_drew1 | refine below_set ?_ GE108.out) | exact HB.out)⟩
         ·rw [if_neg c13] at H
          exact absurd H (by simp)
        ·rw [if_neg c12] at H
         have c12b0 : decide (x9_2 < (y112.length : Int)) = false := decide_eq_false c12
         clear c12
         obtain rfl := Option.some.inj H
         obtain ⟨Ao26, co26, eo26⟩ := Kd.R_slice HO_8.out
         subst eo26
         go_wp2
         go_ret
         exact ⟨by first | rfl | (simp [errW_none, errW_some] <;> rfl) | (simp [*, errW_none, errW_some] <;> rfl), by repeat (first | (with_reducible first | exact HB.out | apply below_alloc | apply pw_below_drewN | apply below_drew1 | refine below_set ?_ GE108.out) | exact HB.out)⟩
     ·rw [if_neg c9] at H
      exact absurd H (by simp)
    ·rw [if_neg c8] at H
     exact absurd H (by simp)
def ebbtideref05_nodes.f (a0 : Int) : Option (Int) := if a0 < 1 then (some 51) else (if a0 > 50 then (some 2) else (some 0))
set_option maxHeartbeats 8000000 in
set_option maxRecDepth 100000 in
theorem ebbtideref05_nodes.calls (a0 : Int) (r : Int) (w : World) (h : ebbtideref05_nodes.f a0 = some r) :
  Calls Try.prog 85 #[.int .i64 a0] w fun e w' => e = .returned (.int .i64 r) ∧ Drawn0 w w' := by
 have H : (if a0 < 1 then (some 51) else (if a0 > 50 then (some 2) else (some 0))) = some r := h
 clear h
 by_cases c2 : a0 < 1
 ·rw [if_pos c2] at H
  have c2b0 : decide (a0 < 1) = true := decide_eq_true c2
  clear c2
  obtain rfl := Option.some.inj H
  go_enter Try.func85, Try.ntmps85
  go_wp2
  go_ret
  exact ⟨by first | rfl | (simp; done) | (simp [*]; done), by repeat (first | exact Drawn0.refl _ | apply Drawn0.step)⟩
 ·rw [if_neg c2] at H
  have c2b0 : decide (a0 < 1) = false := decide_eq_false c2
  clear c2
  by_cases c3 : a0 > 50
  ·rw [if_pos c3] at H
   have c3b0 : decide (50 < a0) = true := decide_eq_true c3
   clear c3
   obtain rfl := Option.some.inj H
   go_enter Try.func85, Try.ntmps85
   go_wp2
   go_ret
   exact ⟨by first | rfl | (simp; done) | (simp [*]; done), by repeat (first | exact Drawn0.refl _ | apply Drawn0.step)⟩
  ·rw [if_neg c3] at H
   have c3b0 : decide (50 < a0) = false := decide_eq_false c3
   clear c3
   obtain rfl := Option.some.inj H
   go_enter Try.func85, Try.ntmps85
   go_wp2
   go_ret
   exact ⟨by first | rfl | (simp; done) | (simp [*]; done), by repeat (first | exact Drawn0.refl _ | apply Drawn0.step)⟩
end Go.Proofs.Ytcgdloldkcmhnaa.PrintE
end
section
namespace Go.Proofs.Ytcgdloldkcmhnaa.PrintE
open Go.Proofs.Ytcgdloldkcmhnaa.PrintC Go.RowKit Go.Proofs.Ytcgdloldkcmhnaa.H Go.Proofs.YtcgdloldkcmhnaaW.PrintWords Go.Proofs.YtcgdloldkcmhnaaW.PrintLast Go.Proofs.YtcgdloldkcmhnaaW.PrintMore
attribute [local go_sem] max2_int min2_int max_two min_two max_three min_three max_four min_four
set_option linter.unusedVariables false
set_option linter.unusedSimpArgs false
def ebbtideref05_Arc.j0 : Nat → Bool → Int → Int → Int → Int → Option (Int)
 |0, _, _, _, _, _ => none
 |k + 1, x34, x122000, x122001, x122002, x122003 => if x34 = true then (some 51) else (if x122002 > 1048576 then (some 2) else (if x122003 > 1048576 then (some 2) else (some 0)))
def ebbtideref05_Arc.f (k : Nat) (a0 : Int) (a1_0 : Int) (a1_1 : Int) (a1_2 : Int) (a1_3 : Int) : Option (Int) := if a1_0 < 0 then (ebbtideref05_Arc.j0 k true a1_0 a1_1 a1_2 a1_3) else (if a1_0 ≥ a0 then (ebbtideref05_Arc.j0 k true a1_0 a1_1 a1_2 a1_3) else (if a1_1 < 0 then (ebbtideref05_Arc.j0 k true a1_0 a1_1 a1_2 a1_3) else (if a1_1 ≥ a0 then (ebbtideref05_Arc.j0 k true a1_0 a1_1 a1_2 a1_3) else (if a1_2 < 0 then (ebbtideref05_Arc.j0 k true a1_0 a1_1 a1_2 a1_3) else (ebbtideref05_Arc.j0 k (decide (a1_3 < 0)) a1_0 a1_1 a1_2 a1_3)))))
theorem ebbtideref05_Arc.mono_l : ∀ k, (∀ y0 y1 y2 y3 y4, LeO (ebbtideref05_Arc.j0 k y0 y1 y2 y3 y4) (ebbtideref05_Arc.j0 (k + 1) y0 y1 y2 y3 y4))
 |0 => fun _ _ _ _ _ r h => by simp [ebbtideref05_Arc.j0] at h
 |k + 1 => by
  have ih0 := ebbtideref05_Arc.mono_l k
  ·intro y0 y1 y2 y3 y4
   unfold ebbtideref05_Arc.j0
   repeat' first
   |(with_reducible exact ih0 _ _ _ _ _)
   |(with_reducible exact LeO.refl _)
   |(with_reducible exact LeO.none _)
   |(with_reducible refine LeO.ite ?_ ?_)
   |(with_reducible refine LeO.bind ?_ (fun _ => ?_))
   |exact ih0 _ _ _ _ _
   |exact LeO.none _
   |refine LeO.ite ?_ ?_
   |refine LeO.bind ?_ (fun _ => ?_)
theorem ebbtideref05_Arc.mono : ∀ a0 a1 a2 a3 a4 k, LeO (ebbtideref05_Arc.f k a0 a1 a2 a3 a4) (ebbtideref05_Arc.f (k + 1) a0 a1 a2 a3 a4) := by
 intro a0 a1 a2 a3 a4 k
 have ih0 := ebbtideref05_Arc.mono_l k
 unfold ebbtideref05_Arc.f
 repeat' first
   |(with_reducible exact ih0 _ _ _ _ _)
   |(with_reducible exact LeO.refl _)
   |(with_reducible exact LeO.none _)
   |(with_reducible refine LeO.ite ?_ ?_)
   |(with_reducible refine LeO.bind ?_ (fun _ => ?_))
   |exact ih0 _ _ _ _ _
   |exact LeO.none _
   |refine LeO.ite ?_ ?_
   |refine LeO.bind ?_ (fun _ => ?_)
set_option maxHeartbeats 8000000 in
set_option maxRecDepth 100000 in
theorem ebbtideref05_Arc.calls (k : Nat) (a0 : Int) (a1_0 : Int) (a1_1 : Int) (a1_2 : Int) (a1_3 : Int) (r : Int) (w : World) (h : ebbtideref05_Arc.f k a0 a1_0 a1_1 a1_2 a1_3 = some r) :
  Calls Try.prog 86 #[.int .i64 a0, .agg #[.int .i64 a1_0, .int .i64 a1_1, .int .i64 a1_2, .int .i64 a1_3]] w fun e w' => e = .returned (.int .i64 r) ∧ Below w.heap.size w w' := by
 have hu79 := Try.underlying79
 have HB := Aside0.mk (Below.refl w.heap.size w)
 have H : (if a1_0 < 0 then (ebbtideref05_Arc.j0 k true a1_0 a1_1 a1_2 a1_3) else (if a1_0 ≥ a0 then (ebbtideref05_Arc.j0 k true a1_0 a1_1 a1_2 a1_3) else (if a1_1 < 0 then (ebbtideref05_Arc.j0 k true a1_0 a1_1 a1_2 a1_3) else (if a1_1 ≥ a0 then (ebbtideref05_Arc.j0 k true a1_0 a1_1 a1_2 a1_3) else (if a1_2 < 0 then (ebbtideref05_Arc.j0 k true a1_0 a1_1 a1_2 a1_3) else (ebbtideref05_Arc.j0 k (decide (a1_3 < 0)) a1_0 a1_1 a1_2 a1_3)))))) = some r := h
 clear h
 have HC3 := Aside0.mk H
 clear H
 go_enter Try.func86, Try.ntmps86
 go_upto_region 1 with (first | ((with_reducible refine gate_dst (N := 3) rfl ?_); refine box_event ?hg (N := 3) ?hd (cs := #[.int .i64 a1_0, .int .i64 a1_1, .int .i64 a1_2, .int .i64 a1_3]) (t := 79) ?hr ?_; (case hd => rfl); (case hg => rfl); (case hr => first | (go_simp; done) | (go_simp; rfl)); intro gb121 hg w4 hbox hb; have n0_ := Aside0.mk (below_step (by repeat (first | (with_reducible first | exact HB.out | apply below_alloc | apply pw_below_drewN | apply below_drew1) | exact HB.out)) hb); have n1_ := Aside0.mk (hbox); have n2_ := Aside0.mk ((by rw [hg]; exact (below_size (by repeat (first | (with_reducible first | exact HB.out | apply below_alloc | apply pw_below_drewN | apply below_drew1) | exact HB.out))) : w.heap.size ≤ gb121)); have n3_ := Aside0.mk ((by rw [hg]; exact (below_size (by repeat (first | (with_reducible first | exact HB.out | apply below_alloc | apply pw_below_drewN | apply below_drew1) | exact HB.out))) : w.heap.size ≤ gb121)); clear HB; have HB := n0_; have BK121 := n1_; have GW121 := n2_; have GE121 := n3_; clear n0_ n1_ n2_ n3_; clear hb hbox hg))
 (try simp only [Act.put, List.setIfInBounds_toArray, List.set_cons_zero, List.set_cons_succ])
 go_cut [34] (fun v34 wc => ∃ (kq : Nat) (x34_2 : Bool), v34 = .bool x34_2 ∧ Aside0 (ebbtideref05_Arc.j0 kq x34_2 a1_0 a1_1 a1_2 a1_3 = some r) ∧ Aside0 (kq ≤ k) ∧ Aside0 (wc.heap[gb121]? = some (.cells #[.int .i64 a1_0, .int .i64 a1_1, .int .i64 a1_2, .int .i64 a1_3] 79 (0, 0))) ∧ Aside0 (Below w.heap.size w wc))
 case first =>
  have H := HC3.out
  clear HC3
  by_cases c5 : a1_0 < 0
  ·rw [if_pos c5] at H
   have c5b0 : decide (a1_0 < 0) = true := decide_eq_true c5
   clear c5
   (first | rw [c5b0] | (simp only [i64_w, i32_w]; rw [c5b0]) | skip)
   have H' := Aside0.mk H
   clear H
   have hcz6_0 : w4.cell? ⟨gb121, 0, none⟩ = some (.int .i64 a1_0) := (blk_cell BK121.out 0).trans rfl
   have hcz6_1 : w4.cell? ⟨gb121, 1, none⟩ = some (.int .i64 a1_1) := (blk_cell BK121.out 1).trans rfl
   have hcz6_2 : w4.cell? ⟨gb121, 2, none⟩ = some (.int .i64 a1_2) := (blk_cell BK121.out 2).trans rfl
   have hcz6_3 : w4.cell? ⟨gb121, 3, none⟩ = some (.int .i64 a1_3) := (blk_cell BK121.out 3).trans rfl
   have hfz6_0 := blk_frozen BK121.out 0
   have hfz6_1 := blk_frozen BK121.out 1
   have hfz6_2 := blk_frozen BK121.out 2
   have hfz6_3 := blk_frozen BK121.out 3
   go_wp2
   go_meet
   case rel => exact ⟨_, (true), (by first | rfl | (simp; done) | (simp [*]; done)), H', ⟨by first | omega | exact Nat.le_refl _⟩, ⟨by (with_reducible repeat (first | refine blk_drewN ?_ _ | refine blk_drew ?_ | refine blk_alloc ?_ _)); exact BK121.out⟩, ⟨by repeat (first | (with_reducible first | exact HB.out | apply below_alloc | apply pw_below_drewN | apply below_drew1 | refine below_set ?_ GE121.out) | exact HB.out)⟩⟩
  ·rw [if_neg c5] at H
   have c5b0 : decide (a1_0 < 0) = false := decide_eq_false c5
   clear c5
   (first | rw [c5b0] | (simp only [i64_w, i32_w]; rw [c5b0]) | skip)
   by_cases c7 : a1_0 ≥ a0
   ·rw [if_pos c7] at H
    have c7b0 : decide (a0 ≤ a1_0) = true := decide_eq_true c7
    clear c7
    have H' := Aside0.mk H
    clear H
    have hcz8_0 : w4.cell? ⟨gb121, 0, none⟩ = some (.int .i64 a1_0) := (blk_cell BK121.out 0).trans rfl
    have hcz8_1 : w4.cell? ⟨gb121, 1, none⟩ = some (.int .i64 a1_1) := (blk_cell BK121.out 1).trans rfl
    have hcz8_2 : w4.cell? ⟨gb121, 2, none⟩ = some (.int .i64 a1_2) := (blk_cell BK121.out 2).trans rfl
    have hcz8_3 : w4.cell? ⟨gb121, 3, none⟩ = some (.int .i64 a1_3) := (blk_cell BK121.out 3).trans rfl
    have hfz8_0 := blk_frozen BK121.out 0
    have hfz8_1 := blk_frozen BK121.out 1
    have hfz8_2 := blk_frozen BK121.out 2
    have hfz8_3 := blk_frozen BK121.out 3
    go_wp2
    go_meet
    case rel => exact ⟨_, (true), (by first | rfl | (simp; done) | (simp [*]; done)), H', ⟨by first | omega | exact Nat.le_refl _⟩, ⟨by (with_reducible repeat (first | refine blk_drewN ?_ _ | refine blk_drew ?_ | refine blk_alloc ?_ _)); exact BK121.out⟩, ⟨by repeat (first | (with_reducible first | exact HB.out | apply below_alloc | apply pw_below_drewN | apply below_drew1 | refine below_set ?_ GE121.out) | exact HB.out)⟩⟩
   ·rw [if_neg c7] at H
    have c7b0 : decide (a0 ≤ a1_0) = false := decide_eq_false c7
    clear c7
    by_cases c9 : a1_1 < 0
    ·rw [if_pos c9] at H
     have c9b0 : decide (a1_1 < 0) = true := decide_eq_true c9
     clear c9
     have H' := Aside0.mk H
     clear H
     have hcz10_0 : w4.cell? ⟨gb121, 0, none⟩ = some (.int .i64 a1_0) := (blk_cell BK121.out 0).trans rfl
     have hcz10_1 : w4.cell? ⟨gb121, 1, none⟩ = some (.int .i64 a1_1) := (blk_cell BK121.out 1).trans rfl
     have hcz10_2 : w4.cell? ⟨gb121, 2, none⟩ = some (.int .i64 a1_2) := (blk_cell BK121.out 2).trans rfl
     have hcz10_3 : w4.cell? ⟨gb121, 3, none⟩ = some (.int .i64 a1_3) := (blk_cell BK121.out 3).trans rfl
     have hfz10_0 := blk_frozen BK121.out 0
     have hfz10_1 := blk_frozen BK121.out 1
     have hfz10_2 := blk_frozen BK121.out 2
     have hfz10_3 := blk_frozen BK121.out 3
     go_wp2
     go_meet
     case rel => exact ⟨_, (true), (by first | rfl | (simp; done) | (simp [*]; done)), H', ⟨by first | omega | exact Nat.le_refl _⟩, ⟨by (with_reducible repeat (first | refine blk_drewN ?_ _ | refine blk_drew ?_ | refine blk_alloc ?_ _)); exact BK121.out⟩, ⟨by repeat (first | (with_reducible first | exact HB.out | apply below_alloc | apply pw_below_drewN | apply below_drew1 | refine below_set ?_ GE121.out) | exact HB.out)⟩⟩
    ·rw [if_neg c9] at H
     have c9b0 : decide (a1_1 < 0) = false := decide_eq_false c9
     clear c9
     by_cases c11 : a1_1 ≥ a0
     ·rw [if_pos c11] at H
      have c11b0 : decide (a0 ≤ a1_1) = true := decide_eq_true c11
      clear c11
      have H' := Aside0.mk H
      clear H
      have hcz12_0 : w4.cell? ⟨gb121, 0, none⟩ = some (.int .i64 a1_0) := (blk_cell BK121.out 0).trans rfl
      have hcz12_1 : w4.cell? ⟨gb121, 1, none⟩ = some (.int .i64 a1_1) := (blk_cell BK121.out 1).trans rfl
      have hcz12_2 : w4.cell? ⟨gb121, 2, none⟩ = some (.int .i64 a1_2) := (blk_cell BK121.out 2).trans rfl
      have hcz12_3 : w4.cell? ⟨gb121, 3, none⟩ = some (.int .i64 a1_3) := (blk_cell BK121.out 3).trans rfl
      have hfz12_0 := blk_frozen BK121.out 0
      have hfz12_1 := blk_frozen BK121.out 1
      have hfz12_2 := blk_frozen BK121.out 2
      have hfz12_3 := blk_frozen BK121.out 3
      go_wp2
      go_meet
      case rel => exact ⟨_, (true), (by first | rfl | (simp; done) | (simp [*]; done)), H', ⟨by first | omega | exact Nat.le_refl _⟩, ⟨by (with_reducible repeat (first | refine blk_drewN ?_ _ | refine blk_drew ?_ | refine blk_alloc ?_ _)); exact BK121.out⟩, ⟨by repeat (first | (with_reducible first | exact HB.out | apply below_alloc | apply pw_below_drewN | apply below_drew1 | refine below_set ?_ GE121.out) | exact HB.out)⟩⟩
     ·rw [if_neg c11] at H
      have c11b0 : decide (a0 ≤ a1_1) = false := decide_eq_false c11
      clear c11
      by_cases c13 : a1_2 < 0
      ·rw [if_pos c13] at H
       have c13b0 : decide (a1_2 < 0) = true := decide_eq_true c13
       clear c13
       have H' := Aside0.mk H
       clear H
       have hcz14_0 : w4.cell? ⟨gb121, 0, none⟩ = some (.int .i64 a1_0) := (blk_cell BK121.out 0).trans rfl
       have hcz14_1 : w4.cell? ⟨gb121, 1, none⟩ = some (.int .i64 a1_1) := (blk_cell BK121.out 1).trans rfl
       have hcz14_2 : w4.cell? ⟨gb121, 2, none⟩ = some (.int .i64 a1_2) := (blk_cell BK121.out 2).trans rfl
       have hcz14_3 : w4.cell? ⟨gb121, 3, none⟩ = some (.int .i64 a1_3) := (blk_cell BK121.out 3).trans rfl
       have hfz14_0 := blk_frozen BK121.out 0
       have hfz14_1 := blk_frozen BK121.out 1
       have hfz14_2 := blk_frozen BK121.out 2
       have hfz14_3 := blk_frozen BK121.out 3
       go_wp2
       go_meet
       case rel => exact ⟨_, (true), (by first | rfl | (simp; done) | (simp [*]; done)), H', ⟨by first | omega | exact Nat.le_refl _⟩, ⟨by (with_reducible repeat (first | refine blk_drewN ?_ _ | refine blk_drew ?_ | refine blk_alloc ?_ _)); exact BK121.out⟩, ⟨by repeat (first | (with_reducible first | exact HB.out | apply below_alloc | apply pw_below_drewN | apply below_drew1 | refine below_set ?_ GE121.out) | exact HB.out)⟩⟩
      ·rw [if_neg c13] at H
       have c13b0 : decide (a1_2 < 0) = false := decide_eq_false c13
       clear c13
       have H' := Aside0.mk H
       clear H
       have hcz15_0 : w4.cell? ⟨gb121, 0, none⟩ = some (.int .i64 a1_0) := (blk_cell BK121.out 0).trans rfl
       have hcz15_1 : w4.cell? ⟨gb121, 1, none⟩ = some (.int .i64 a1_1) := (blk_cell BK121.out 1).trans rfl
       have hcz15_2 : w4.cell? ⟨gb121, 2, none⟩ = some (.int .i64 a1_2) := (blk_cell BK121.out 2).trans rfl
       have hcz15_3 : w4.cell? ⟨gb121, 3, none⟩ = some (.int .i64 a1_3) := (blk_cell BK121.out 3).trans rfl
       have hfz15_0 := blk_frozen BK121.out 0
       have hfz15_1 := blk_frozen BK121.out 1
       have hfz15_2 := blk_frozen BK121.out 2
       have hfz15_3 := blk_frozen BK121.out 3
       go_wp2
       go_meet
       case rel => exact ⟨_, (decide (a1_3 < 0)), (by first | rfl | (simp; done) | (simp [*]; done)), H', ⟨by first | omega | exact Nat.le_refl _⟩, ⟨by (with_reducible repeat (first | refine blk_drewN ?_ _ | refine blk_drew ?_ | refine blk_alloc ?_ _)); exact BK121.out⟩, ⟨by repeat (first | (with_reducible first | exact HB.out | apply below_alloc | apply pw_below_drewN | apply below_drew1 | refine below_set ?_ GE121.out) | exact HB.out)⟩⟩
 case rest =>
  clear HC3
  try clear c1
  try clear p2
  try clear c5
  try clear c5b0
  try clear c7
  try clear c7b0
  try clear c8
  try clear c9
  try clear c9b0
  try clear c11
  try clear c11b0
  try clear c13
  try clear c13b0
  try clear hcz10_0
  try clear hcz10_1
  try clear hcz10_2
  try clear hcz10_3
  try clear hcz12_0
  try clear hcz12_1
  try clear hcz12_2
  try clear hcz12_3
  try clear hcz14_0
  try clear hcz14_1
  try clear hcz14_2
  try clear hcz14_3
  try clear hcz15_0
  try clear hcz15_1
  try clear hcz15_2
  try clear hcz15_3
  try clear hcz6_0
  try clear hcz6_1
  try clear hcz6_2
  try clear hcz6_3
  try clear hcz8_0
  try clear hcz8_1
  try clear hcz8_2
  try clear hcz8_3
  try clear hfz10_0
  try clear hfz10_1
  try clear hfz10_2
  try clear hfz10_3
  try clear hfz12_0
  try clear hfz12_1
  try clear hfz12_2
  try clear hfz12_3
  try clear hfz14_0
  try clear hfz14_1
  try clear hfz14_2
  try clear hfz14_3
  try clear hfz15_0
  try clear hfz15_1
  try clear hfz15_2
  try clear hfz15_3
  try clear hfz6_0
  try clear hfz6_1
  try clear hfz6_2
  try clear hfz6_3
  try clear hfz8_0
  try clear hfz8_1
  try clear hfz8_2
  try clear hfz8_3
  obtain ⟨kq, x34_2, rfl, HA, HJ2, BK121, HB⟩ := hcut
  cases kq with
  |zero => exact absurd HA.out (by simp [ebbtideref05_Arc.j0])
  |succ kj2 =>
   have H := HA.out
   clear HA
   simp only [ebbtideref05_Arc.j0] at H
   by_cases c16 : x34_2 = true
   ·subst c16
    have H1 : (some 51) = some r := by rw [if_pos rfl] at H; exact H
    clear H
    have H := H1
    clear H1
    obtain rfl := Option.some.inj H
    go_wp2
    go_ret
    exact ⟨by first | rfl | (simp [errW_none, errW_some] <;> rfl) | (simp [*, errW_none, errW_some] <;> rfl), by repeat (first | (with_reducible first | exact HB.out | apply below_alloc | apply pw_below_drewN | apply below_drew1 | refine below_set ?_ GE121.out) | exact HB.out)⟩
   ·replace c16 := Bool.eq_false_iff.mpr c16
    subst c16
    have H1 : (if a1_2 > 1048576 then (some 2) else (if a1_3 > 1048576 then (some 2) else (some 0))) = some r := by rw [if_neg (show ¬ (false = true) by decide)] at H; exact H
    clear H
    have H := H1
    clear H1
    by_cases c17 : a1_2 > 1048576
    ·rw [if_pos c17] at H
     have c17b0 : decide (1048576 < a1_2) = true := decide_eq_true c17
     clear c17
     obtain rfl := Option.some.inj H
     have hcz18_0 : wc.cell? ⟨gb121, 0, none⟩ = some (.int .i64 a1_0) := (blk_cell BK121.out 0).trans rfl
     have hcz18_1 : wc.cell? ⟨gb121, 1, none⟩ = some (.int .i64 a1_1) := (blk_cell BK121.out 1).trans rfl
     have hcz18_2 : wc.cell? ⟨gb121, 2, none⟩ = some (.int .i64 a1_2) := (blk_cell BK121.out 2).trans rfl
     have hcz18_3 : wc.cell? ⟨gb121, 3, none⟩ = some (.int .i64 a1_3) := (blk_cell BK121.out 3).trans rfl
     have hfz18_0 := blk_frozen BK121.out 0
     have hfz18_1 := blk_frozen BK121.out 1
     have hfz18_2 := blk_frozen BK121.out 2
     have hfz18_3 := blk_frozen BK121.out 3
     go_wp2
     go_ret
     exact ⟨by first | rfl | (simp [errW_none, errW_some] <;> rfl) | (simp [*, errW_none, errW_some] <;> rfl), by repeat (first | (with_reducible first | exact HB.out | apply below_alloc | apply pw_below_drewN | apply below_drew1 | refine below_set ?_ GE121.out) | exact HB.out)⟩
    ·rw [if_neg c17] at H
     have c17b0 : decide (1048576 < a1_2) = false := decide_eq_false c17
     clear c17
     by_cases c19 : a1_3 > 1048576
     ·rw [if_pos c19] at H
      have c19b0 : decide (1048576 < a1_3) = true := decide_eq_true c19
      clear c19
      obtain rfl := Option.some.inj H
      have hcz20_0 : wc.cell? ⟨gb121, 0, none⟩ = some (.int .i64 a1_0) := (blk_cell BK121.out 0).trans rfl
      have hcz20_1 : wc.cell? ⟨gb121, 1, none⟩ = some (.int .i64 a1_1) := (blk_cell BK121.out 1).trans rfl
      have hcz20_2 : wc.cell? ⟨gb121, 2, none⟩ = some (.int .i64 a1_2) := (blk_cell BK121.out 2).trans rfl
      have hcz20_3 : wc.cell? ⟨gb121, 3, none⟩ = some (.int .i64 a1_3) := (blk_cell BK121.out 3).trans rfl
      have hfz20_0 := blk_frozen BK121.out 0
      have hfz20_1 := blk_frozen BK121.out 1
      have hfz20_2 := blk_frozen BK121.out 2
      have hfz20_3 := blk_frozen BK121.out 3
      go_wp2
      go_ret
      exact ⟨by first | rfl | (simp [errW_none, errW_some] <;> rfl) | (simp [*, errW_none, errW_some] <;> rfl), by repeat (first | (with_reducible first | exact HB.out | apply below_alloc | apply pw_below_drewN | apply below_drew1 | refine below_set ?_ GE121.out) | exact HB.out)⟩
     ·rw [if_neg c19] at H
      have c19b0 : decide (1048576 < a1_3) = false := decide_eq_false c19
      clear c19
      obtain rfl := Option.some.inj H
      have hcz21_0 : wc.cell? ⟨gb121, 0, none⟩ = some (.int .i64 a1_0) := (blk_cell BK121.out 0).trans rfl
      have hcz21_1 : wc.cell? ⟨gb121, 1, none⟩ = some (.int .i64 a1_1) := (blk_cell BK121.out 1).trans rfl
      have hcz21_2 : wc.cell? ⟨gb121, 2, none⟩ = some (.int .i64 a1_2) := (blk_cell BK121.out 2).trans rfl
      have hcz21_3 : wc.cell? ⟨gb121, 3, none⟩ = some (.int .i64 a1_3) := (blk_cell BK121.out 3).trans rfl
      have hfz21_0 := blk_frozen BK121.out 0
      have hfz21_1 := blk_frozen BK121.out 1
      have hfz21_2 := blk_frozen BK121.out 2
      have hfz21_3 := blk_frozen BK121.out 3
      go_wp2
      go_ret
      exact ⟨by first | rfl | (simp [errW_none, errW_some] <;> rfl) | (simp [*, errW_none, errW_some] <;> rfl), by repeat (first | (with_reducible first | exact HB.out | apply below_alloc | apply pw_below_drewN | apply below_drew1 | refine below_set ?_ GE121.out) | exact HB.out)⟩
end Go.Proofs.Ytcgdloldkcmhnaa.PrintE
end
section
namespace Go.Proofs.Ytcgdloldkcmhnaa.PrintE
open Go.Proofs.Ytcgdloldkcmhnaa.PrintC Go.RowKit Go.Proofs.Ytcgdloldkcmhnaa.H Go.Proofs.YtcgdloldkcmhnaaW.PrintWords Go.Proofs.YtcgdloldkcmhnaaW.PrintLast Go.Proofs.YtcgdloldkcmhnaaW.PrintMore
attribute [local go_sem] max2_int min2_int max_two min_two max_three min_three max_four min_four
set_option linter.unusedVariables false
set_option linter.unusedSimpArgs false
def ebbtideref05_Check.l0 : Nat → Int → Int → Bool → List (S79) → Option (Int)
 |0, _, _, _, _ => none
 |k + 1, x4, x123000, x123001, x123002 => if x4 < (x123002.length : Int) then (if 0 ≤ x4 then ((ebbtideref05_Arc.f k x123000 ((rd_T79 x123002 x4).f0) ((rd_T79 x123002 x4).f1) ((rd_T79 x123002 x4).f2) ((rd_T79 x123002 x4).f3)).bind fun t125 => (if t125 = 0 then (ebbtideref05_Check.l0 k (wrap64 (x4 + 1)) x123000 x123001 x123002) else (some t125))) else (none)) else (some 0)
def ebbtideref05_Check.f (k : Nat) (a0_0 : Int) (a0_1 : Bool) (l0_2 : List (S79)) : Option (Int) := (ebbtideref05_nodes.f a0_0).bind fun t123 => (if t123 = 0 then (if (l0_2.length : Int) > 200 then (some 2) else (ebbtideref05_Check.l0 k 0 a0_0 a0_1 l0_2)) else (some t123))
theorem ebbtideref05_Check.mono_l : ∀ k, (∀ y0 y1 y2 y3, LeO (ebbtideref05_Check.l0 k y0 y1 y2 y3) (ebbtideref05_Check.l0 (k + 1) y0 y1 y2 y3))
 |0 => fun _ _ _ _ r h => by simp [ebbtideref05_Check.l0] at h
 |k + 1 => by
  have ih0 := ebbtideref05_Check.mono_l k
  ·intro y0 y1 y2 y3
   unfold ebbtideref05_Check.l0
   repeat' first
   |(with_reducible exact ih0 _ _ _ _)
   |(with_reducible exact ebbtideref05_Arc.mono _ _ _ _ _ _)
   |(with_reducible exact LeO.refl _)
   |(with_reducible exact LeO.none _)
   |(with_reducible refine LeO.ite ?_ ?_)
   |(with_reducible refine LeO.bind ?_ (fun _ => ?_))
   |exact ih0 _ _ _ _
   |exact ebbtideref05_Arc.mono _ _ _ _ _ _
   |exact LeO.none _
   |refine LeO.ite ?_ ?_
   |refine LeO.bind ?_ (fun _ => ?_)
def ebbtideref05_Check.T9 : Bool × List (List Nat × List Nat) := (true, [([], []), ([0], [0]), ([], []), ([2], [2]), ([], []), ([3, 4], [3, 4]), ([5], [5]), ([1, 6], [1, 6]), ([7, 7, 0, 1, 2, 3, 4, 5, 6, 7], [7])])
def ebbtideref05_Check.B9 : List Nat := [0, 1, 0, 4, 0, 28, 60, 127, 255]
theorem ebbtideref05_Check.tab9 : rtab .any (opsOf Try.f64 9) = ebbtideref05_Check.T9 := by kernel_rfl
theorem ebbtideref05_Check.bits9 : waitsOk ebbtideref05_Check.T9.2 ebbtideref05_Check.B9 = true := by kernel_rfl
set_option maxHeartbeats 8000000 in
set_option maxRecDepth 100000 in
theorem ebbtideref05_Check.calls (k : Nat) (a0_0 : Int) (a0_1 : Bool) (A0_2 : Option Addr) (c0_2 : Nat) (l0_2 : List (S79)) (r : Int) (w : World) (hr0_2 : Kd.C k79 w A0_2 l0_2.length l0_2) (hc0_2 : l0_2.length ≤ c0_2) (h : ebbtideref05_Check.f k a0_0 a0_1 l0_2 = some r) :
  Calls Try.prog 64 #[.agg #[.int .i64 a0_0, .bool a0_1, .slice A0_2 l0_2.length c0_2]] w fun e w' => e = .returned (.int .i64 r) ∧ Below w.heap.size w w' := by
 have hu32 := Try.underlying32
 have hu79 := Try.underlying79
 have HR0_2 := Aside0.mk hr0_2
 have HC0_2 := Aside0.mk hc0_2
 clear hr0_2 hc0_2
 have HB := Aside0.mk (Below.refl w.heap.size w)
 have H : ((ebbtideref05_nodes.f a0_0).bind fun t123 => (if t123 = 0 then (if (l0_2.length : Int) > 200 then (some 2) else (ebbtideref05_Check.l0 k 0 a0_0 a0_1 l0_2)) else (some t123))) = some r := h
 clear h
 replace H := Option.bind_eq_some_iff.mp H
 obtain ⟨t123, A20, H⟩ := H
 replace H : (if t123 = 0 then (if (l0_2.length : Int) > 200 then (some 2) else (ebbtideref05_Check.l0 k 0 a0_0 a0_1 l0_2)) else (some t123)) = some r := H
 have A2 := Aside0.mk A20
 clear A20
 by_cases c3 : t123 = 0
 ·rw [if_pos c3] at H
  have c3b0 : (t123 == 0) = true := beq_iff_eq.mpr c3
  have c3b1 : (t123 != 0) = false := bne_eq_false_iff_eq.mpr c3
  clear c3
  by_cases c4 : (l0_2.length : Int) > 200
  ·rw [if_pos c4] at H
   have c4b0 : decide (200 < (l0_2.length : Int)) = true := decide_eq_true c4
   have c4b1 : decide (200 < l0_2.length) = true := decide_eq_true (by omega)
   clear c4
   obtain rfl := Option.some.inj H
   go_enter Try.func64, Try.ntmps64
   go_wp2_with (first | ((with_reducible refine gate_dst (N := 1) rfl ?_); refine box_event ?hg (N := 1) ?hd (cs := #[.int .i64 a0_0, .bool a0_1, .slice A0_2 l0_2.length c0_2]) (t := 32) ?hr ?_; (case hd => rfl); (case hg => rfl); (case hr => first | (go_simp; done) | (go_simp; rfl)); intro gb122 hg w5 hbox hb; have n0_ := Aside0.mk (below_step (by repeat (first | (with_reducible first | exact HB.out | apply below_alloc | apply pw_below_drewN | apply below_drew1) | exact HB.out)) hb); have n1_ := Aside0.mk (hbox); have n2_ := Aside0.mk ((by rw [hg]; exact (below_size (by repeat (first | (with_reducible first | exact HB.out | apply below_alloc | apply pw_below_drewN | apply below_drew1) | exact HB.out))) : w.heap.size ≤ gb122)); have n3_ := Aside0.mk ((by rw [hg]; exact (below_size (by repeat (first | (with_reducible first | exact HB.out | apply below_alloc | apply pw_below_drewN | apply below_drew1) | exact HB.out))) : w.heap.size ≤ gb122)); clear HB; have HB := n0_; have BK122 := n1_; have GW122 := n2_; have GE122 := n3_; clear n0_ n1_ n2_ n3_; clear hb hbox hg; have hcz6_0 : w5.cell? ⟨gb122, 0, none⟩ = some (.int .i64 a0_0) := (blk_cell BK122.out 0).trans rfl; have hcz6_1 : w5.cell? ⟨gb122, 1, none⟩ = some (.bool a0_1) := (blk_cell BK122.out 1).trans rfl; have hcz6_2 : w5.cell? ⟨gb122, 2, none⟩ = some (.slice A0_2 l0_2.length c0_2) := (blk_cell BK122.out 2).trans rfl; have hfz6_0 := blk_frozen BK122.out 0; have hfz6_1 := blk_frozen BK122.out 1; have hfz6_2 := blk_frozen BK122.out 2) | ((with_reducible refine gate_callee (f := 85) rfl ?_); refine goesL_ (some 8) rfl rfl Try.func85 (by kernel_rfl) rfl #[.int .i64 a0_0] rfl (by (try simp only [List.map_toArray, List.map_cons, List.map_nil]); first | done | rfl | (simp only [List.length_drop, List.length_take]; rfl)) ?_; (with_reducible refine (ebbtideref05_nodes.calls a0_0 t123 _ A2.out).mono ?_); rintro e w' ⟨rfl, ⟨nd, rfl⟩⟩; refine ⟨_, rfl, ?_⟩))
   go_ret
   exact ⟨by first | rfl | (simp [errW_none, errW_some] <;> rfl) | (simp [*, errW_none, errW_some] <;> rfl), by repeat (first | (with_reducible first | exact HB.out | apply below_alloc | apply pw_below_drewN | apply below_drew1 | refine below_set ?_ GE122.out) | exact HB.out)⟩
  ·rw [if_neg c4] at H
   have c4b0 : decide (200 < (l0_2.length : Int)) = false := decide_eq_false c4
   have c4b1 : decide (200 < l0_2.length) = false := decide_eq_false (by omega)
   clear c4
   have H' := Aside0.mk H
   clear H
   go_enter Try.func64, Try.ntmps64
   go_wp2_with (first | ((with_reducible refine gate_dst (N := 1) rfl ?_); refine box_event ?hg (N := 1) ?hd (cs := #[.int .i64 a0_0, .bool a0_1, .slice A0_2 l0_2.length c0_2]) (t := 32) ?hr ?_; (case hd => rfl); (case hg => rfl); (case hr => first | (go_simp; done) | (go_simp; rfl)); intro gb122 hg w7 hbox hb; have n0_ := Aside0.mk (below_step (by repeat (first | (with_reducible first | exact HB.out | apply below_alloc | apply pw_below_drewN | apply below_drew1) | exact HB.out)) hb); have n1_ := Aside0.mk (hbox); have n2_ := Aside0.mk ((by rw [hg]; exact (below_size (by repeat (first | (with_reducible first | exact HB.out | apply below_alloc | apply pw_below_drewN | apply below_drew1) | exact HB.out))) : w.heap.size ≤ gb122)); have n3_ := Aside0.mk ((by rw [hg]; exact (below_size (by repeat (first | (with_reducible first | exact HB.out | apply below_alloc | apply pw_below_drewN | apply below_drew1) | exact HB.out))) : w.heap.size ≤ gb122)); clear HB; have HB := n0_; have BK122 := n1_; have GW122 := n2_; have GE122 := n3_; clear n0_ n1_ n2_ n3_; clear hb hbox hg; have hcz8_0 : w7.cell? ⟨gb122, 0, none⟩ = some (.int .i64 a0_0) := (blk_cell BK122.out 0).trans rfl; have hcz8_1 : w7.cell? ⟨gb122, 1, none⟩ = some (.bool a0_1) := (blk_cell BK122.out 1).trans rfl; have hcz8_2 : w7.cell? ⟨gb122, 2, none⟩ = some (.slice A0_2 l0_2.length c0_2) := (blk_cell BK122.out 2).trans rfl; have hfz8_0 := blk_frozen BK122.out 0; have hfz8_1 := blk_frozen BK122.out 1; have hfz8_2 := blk_frozen BK122.out 2) | ((with_reducible refine gate_callee (f := 85) rfl ?_); refine goesL_ (some 8) rfl rfl Try.func85 (by kernel_rfl) rfl #[.int .i64 a0_0] rfl (by (try simp only [List.map_toArray, List.map_cons, List.map_nil]); first | done | rfl | (simp only [List.length_drop, List.length_take]; rfl)) ?_; (with_reducible refine (ebbtideref05_nodes.calls a0_0 t123 _ A2.out).mono ?_); rintro e w' ⟨rfl, ⟨nd, rfl⟩⟩; refine ⟨_, rfl, ?_⟩))
   go_loopg [4] k (fun kq v4 w' => ∃ (x4_1 : Int), v4 = .int .i64 x4_1 ∧ Aside0 (ebbtideref05_Check.l0 kq x4_1 a0_0 a0_1 l0_2 = some r) ∧ Aside0 (kq ≤ k) ∧ Aside0 (w'.heap[gb122]? = some (.cells #[.int .i64 a0_0, .bool a0_1, (.slice A0_2 l0_2.length c0_2)] 32 (0, 0))) ∧ Aside0 (Below w.heap.size w w'))
   case atStart => exact ⟨(0), (by first | rfl | (simp; done) | (simp [*]; done)), H', ⟨Nat.le_refl _⟩, ⟨by (with_reducible repeat (first | refine blk_drewN ?_ _ | refine blk_drew ?_ | refine blk_alloc ?_ _)); exact BK122.out⟩, ⟨by repeat (first | (with_reducible first | exact HB.out | apply below_alloc | apply pw_below_drewN | apply below_drew1 | refine below_set ?_ GE122.out) | exact HB.out)⟩⟩
   case round =>
    clear H'
    try clear p2
    try clear c3
    try clear c3b0
    try clear c3b1
    try clear c4
    try clear c4b0
    try clear c4b1
    try clear c6
    try clear c8
    try clear hcz6_0
    try clear hcz6_1
    try clear hcz6_2
    try clear hcz8_0
    try clear hcz8_1
    try clear hcz8_2
    try clear hfz6_0
    try clear hfz6_1
    try clear hfz6_2
    try clear hfz8_0
    try clear hfz8_1
    try clear hfz8_2
    obtain ⟨x4_1, rfl, HA, HK1, BK122, HB⟩ := hrel
    cases gk with
    |zero => exact absurd HA.out (by simp [ebbtideref05_Check.l0])
    |succ k1 =>
     have H := HA.out
     clear HA
     simp only [ebbtideref05_Check.l0] at H
     by_cases c9 : x4_1 < (l0_2.length : Int)
     ·rw [if_pos c9] at H
      have c9b0 : decide (x4_1 < (l0_2.length : Int)) = true := decide_eq_true c9
      clear c9
      by_cases c10 : 0 ≤ x4_1
      ·rw [if_pos c10] at H
       have c10b0 : decide (0 ≤ x4_1) = true := decide_eq_true c10
       clear c10
       replace H := Option.bind_eq_some_iff.mp H
       obtain ⟨t125, A110, H⟩ := H
       replace H : (if t125 = 0 then (ebbtideref05_Check.l0 k1 (wrap64 (x4_1 + 1)) a0_0 a0_1 l0_2) else (some t125)) = some r := H
       have A11 := Aside0.mk A110
       clear A110
       by_cases c12 : t125 = 0
       ·rw [if_pos c12] at H
        have c12b0 : (t125 == 0) = true := beq_iff_eq.mpr c12
        have c12b1 : (t125 != 0) = false := bne_eq_false_iff_eq.mpr c12
        clear c12
        have H' := Aside0.mk H
        clear H
        have hcz13_0 : wr.cell? ⟨gb122, 0, none⟩ = some (.int .i64 a0_0) := (blk_cell BK122.out 0).trans rfl
        have hcz13_1 : wr.cell? ⟨gb122, 1, none⟩ = some (.bool a0_1) := (blk_cell BK122.out 1).trans rfl
        have hcz13_2 : wr.cell? ⟨gb122, 2, none⟩ = some (.slice A0_2 l0_2.length c0_2) := (blk_cell BK122.out 2).trans rfl
        have hfz13_0 := blk_frozen BK122.out 0
        have hfz13_1 := blk_frozen BK122.out 1
        have hfz13_2 := blk_frozen BK122.out 2
        try go_wp2
        have n0_ := Aside0.mk (blk_drew BK122.out)
        have n1_ := Aside0.mk (below_drew1 HB.out)
        clear BK122
        clear HB
        have BK122 := n0_
        have HB := n1_
        clear n0_ n1_
        have p124 : 0 ≤ (x4_1 : Int) := of_decide_eq_true (by first | (with_reducible assumption) | assumption)
        have q124 : x4_1 < (l0_2.length : Int) := of_decide_eq_true (by first | (with_reducible assumption) | assumption)
        obtain ⟨ad124, e124, hx124_0, hx124_1, hx124_2, hx124_3⟩ := at_T79 HR0_2.out x4_1 p124 q124
        have hw124_3 := hx124_3
        have hw124_2 := hx124_2
        have hw124_1 := hx124_1
        have hw124_0 := hx124_0
        cases e124
        replace hx124_0 := (HB.out.cell (World.block_lt_of_cell? w _ hx124_0)).trans hx124_0
        replace hx124_1 := (HB.out.cell (World.block_lt_of_cell? w _ hx124_1)).trans hx124_1
        replace hx124_2 := (HB.out.cell (World.block_lt_of_cell? w _ hx124_2)).trans hx124_2
        replace hx124_3 := (HB.out.cell (World.block_lt_of_cell? w _ hx124_3)).trans hx124_3
        replace p124 := eq_true p124
        replace q124 := eq_true q124
        refine start_ (n := 9) (S := fun w' => w'.cell? ⟨gb122, 0, none⟩ = some (.int .i64 a0_0) ∧ w'.cell? ⟨gb122, 1, none⟩ = some (.bool a0_1) ∧ w'.cell? ⟨gb122, 2, none⟩ = some (.slice (some ad124) l0_2.length c0_2) ∧ w'.cell? (ad124.add ((x4_1).toNat * 4)) = some (.int .i64 ((rd_T79 l0_2 x4_1).f0)) ∧ w'.cell? ⟨(ad124.add ((x4_1).toNat * 4)).block, (ad124.add ((x4_1).toNat * 4)).off + 1, none⟩ = some (.int .i64 ((rd_T79 l0_2 x4_1).f1)) ∧ w'.cell? ⟨(ad124.add ((x4_1).toNat * 4)).block, (ad124.add ((x4_1).toNat * 4)).off + 2, none⟩ = some (.int .i64 ((rd_T79 l0_2 x4_1).f2)) ∧ w'.cell? ⟨(ad124.add ((x4_1).toNat * 4)).block, (ad124.add ((x4_1).toNat * 4)).off + 3, none⟩ = some (.int .i64 ((rd_T79 l0_2 x4_1).f3))) (ds := []) #[false, false, false, false, false, false, false, false, false] (by kernel_rfl) rfl rfl ⟨(blk_cell BK122.out 0).trans rfl, (blk_cell BK122.out 1).trans rfl, (blk_cell BK122.out 2).trans rfl, ((HB.out.cell (World.block_lt_of_cell? w _ hw124_0)).trans hw124_0), ((HB.out.cell (World.block_lt_of_cell? w _ hw124_1)).trans hw124_1), ((HB.out.cell (World.block_lt_of_cell? w _ hw124_2)).trans hw124_2), ((HB.out.cell (World.block_lt_of_cell? w _ hw124_3)).trans hw124_3)⟩ (fun hHeld => ?_); refine with_tabW ebbtideref05_Check.tab9 ebbtideref05_Check.bits9 (fun HT_ HW_ => ?_)
        generalize wr.drew = w14 at BK122 HB hx124_0 hx124_1 hx124_2 hx124_3 hHeld ⊢
        refine pure_ (i := 0) (N := some 23) (v := ?_) (a' := ?_) #[true, false, false, false, false, false, false, false, false] rfl rfl (any_of HT_.out (by kernel_rfl)) (fun _ _ _ h => h) (Or.inl ⟨by rfl, ?_⟩) ?_ ?_
        rotate_left
        ·intro w'
         go_simp
         with_reducible rfl
        rotate_left
        ·simp only [Act.put, List.setIfInBounds_toArray, List.set_cons_zero, List.set_cons_succ, i64_w, i32_w]
         rfl
        refine pure_ (i := 2) (N := some 25) (v := ?_) (a' := ?_) #[true, false, true, false, false, false, false, false, false] rfl rfl (any_of HT_.out (by kernel_rfl)) (fun _ _ _ h => h) (Or.inl ⟨by rfl, ?_⟩) ?_ ?_
        rotate_left
        ·intro w'
         go_simp
         with_reducible rfl
        rotate_left
        ·simp only [Act.put, List.setIfInBounds_toArray, List.set_cons_zero, List.set_cons_succ, i64_w, i32_w]
         rfl
        refine pure_ (i := 4) (N := some 27) (v := ?_) (a' := ?_) #[true, false, true, false, true, false, false, false, false] rfl rfl (any_of HT_.out (by kernel_rfl)) (fun _ _ _ h => h) (Or.inl ⟨by rfl, ?_⟩) ?_ ?_
        rotate_left
        ·intro w'
         go_simp
         with_reducible rfl
        rotate_left
        ·simp only [Act.put, List.setIfInBounds_toArray, List.set_cons_zero, List.set_cons_succ, i64_w, i32_w]
         rfl
        refine take_ (i := 1) (N := some 24) (v := ?_) (a' := ?_) #[true, true, true, false, true, false, false, false, false] rfl rfl (take_ofW HT_.out HW_.out (by kernel_rfl)) (fun _ _ _ h => h) (Or.inl ⟨by rfl, ?_⟩) hHeld ?_ ?_
        rotate_left
        ·rintro w' ⟨s0, s1, s2, s3, s4, s5, s6⟩
         go_simp
         with_reducible rfl
        rotate_left
        ·simp only [Act.put, List.setIfInBounds_toArray, List.set_cons_zero, List.set_cons_succ, i64_w, i32_w]
         rfl
        refine take_ (i := 3) (N := some 26) (v := ?_) (a' := ?_) #[true, true, true, true, true, false, false, false, false] rfl rfl (take_ofW HT_.out HW_.out (by kernel_rfl)) (fun _ _ _ h => h) (Or.inl ⟨by rfl, ?_⟩) hHeld ?_ ?_
        rotate_left
        ·rintro w' ⟨s0, s1, s2, s3, s4, s5, s6⟩
         go_simp
         with_reducible rfl
        rotate_left
        ·simp only [Act.put, List.setIfInBounds_toArray, List.set_cons_zero, List.set_cons_succ, i64_w, i32_w]
         rfl
        refine pure_ (i := 5) (N := some 28) (v := ?_) (a' := ?_) #[true, true, true, true, true, true, false, false, false] rfl rfl (any_of HT_.out (by kernel_rfl)) (fun _ _ _ h => h) (Or.inl ⟨by rfl, ?_⟩) ?_ ?_
        rotate_left
        ·intro w'
         go_simp
         with_reducible rfl
        rotate_left
        ·simp only [Act.put, List.setIfInBounds_toArray, List.set_cons_zero, List.set_cons_succ, i64_w, i32_w]
         rfl
        refine take_ (i := 6) (N := some 29) (v := ?_) (a' := ?_) #[true, true, true, true, true, true, true, false, false] rfl rfl (take_ofW HT_.out HW_.out (by kernel_rfl)) (fun _ _ _ h => h) (Or.inl ⟨by rfl, ?_⟩) hHeld ?_ ?_
        rotate_left
        ·rintro w' ⟨s0, s1, s2, s3, s4, s5, s6⟩
         go_simp
         with_reducible rfl
        rotate_left
        ·simp only [Act.put, List.setIfInBounds_toArray, List.set_cons_zero, List.set_cons_succ, i64_w, i32_w]
         rfl
        refine one_ (i := 7) (N := some 30) #[true, true, true, true, true, true, true, true, false] rfl rfl (one_of HT_.out (by kernel_rfl)) (by decide) (fun K hK => ?_)
        refine goes_ Try.func86 (by kernel_rfl) rfl #[.int .i64 a0_0, .agg #[.int .i64 ((rd_T79 l0_2 x4_1).f0), .int .i64 ((rd_T79 l0_2 x4_1).f1), .int .i64 ((rd_T79 l0_2 x4_1).f2), .int .i64 ((rd_T79 l0_2 x4_1).f3)]] (by rfl) rfl rfl (by (try simp only [List.map_toArray, List.map_cons, List.map_nil]); first | done | rfl | (simp only [List.length_drop, List.length_take]; rfl)) ?_
        with_reducible refine (ebbtideref05_Arc.calls k1 a0_0 ((rd_T79 l0_2 x4_1).f0) ((rd_T79 l0_2 x4_1).f1) ((rd_T79 l0_2 x4_1).f2) ((rd_T79 l0_2 x4_1).f3) t125 _ A11.out).mono ?_
        rintro e w15 ⟨rfl, hb⟩
        refine ⟨_, rfl, ?_⟩
        have n0_ := Aside0.mk (blk_below (g := gb122) (o := .cells #[.int .i64 a0_0, .bool a0_1, .slice (some ad124) l0_2.length c0_2] 32 (0, 0)) (by (with_reducible repeat (first | refine blk_drewN ?_ _ | refine blk_drew ?_ | refine blk_alloc ?_ _)); exact BK122.out) hb)
        have n1_ := Aside0.mk (below_step (by repeat (first | (with_reducible first | exact HB.out | apply below_alloc | apply pw_below_drewN | apply below_drew1 | refine below_set ?_ GE122.out) | exact HB.out)) hb)
        clear BK122
        clear HB
        have BK122 := n0_
        have HB := n1_
        clear n0_ n1_
        (try clear hb)
        (try clear hb2)
        (try clear hk)
        (try clear hi)
        refine hK.out _ _ ⟨(blk_cell BK122.out 0).trans rfl, (blk_cell BK122.out 1).trans rfl, (blk_cell BK122.out 2).trans rfl, ((HB.out.cell (World.block_lt_of_cell? w _ hw124_0)).trans hw124_0), ((HB.out.cell (World.block_lt_of_cell? w _ hw124_1)).trans hw124_1), ((HB.out.cell (World.block_lt_of_cell? w _ hw124_2)).trans hw124_2), ((HB.out.cell (World.block_lt_of_cell? w _ hw124_3)).trans hw124_3)⟩ (fun hHeld => ?_)
        clear hK K
        refine norm_ (a' := ?_) ?_ ?_
        rotate_left
        ·show Act.put _ (some 30) _ = _
         simp only [Act.put, List.setIfInBounds_toArray, List.set_cons_zero, List.set_cons_succ, i64_w, i32_w]
         rfl
        refine pure_ (i := 8) (N := some 5) (v := ?_) (a' := ?_) #[true, true, true, true, true, true, true, true, true] rfl rfl (any_of HT_.out (by kernel_rfl)) (fun _ _ _ h => h) (Or.inl ⟨by rfl, ?_⟩) ?_ ?_
        rotate_left
        ·intro w'
         go_simp
         with_reducible rfl
        rotate_left
        ·simp only [Act.put, List.setIfInBounds_toArray, List.set_cons_zero, List.set_cons_succ, i64_w, i32_w]
         rfl
        refine done_ (done_of HT_.out (by kernel_rfl)) ?_
        try go_wp2
        go_roundg k1
        case measure => have := HK1.out; omega
        case rel => exact ⟨(wrap64 (x4_1 + 1)), (by first | rfl | (simp; done) | (simp [*]; done)), H', ⟨by have := HK1.out; omega⟩, ⟨by (with_reducible repeat (first | refine blk_drewN ?_ _ | refine blk_drew ?_ | refine blk_alloc ?_ _)); exact BK122.out⟩, ⟨by repeat (first | (with_reducible first | exact HB.out | apply below_alloc | apply pw_below_drewN | apply below_drew1 | refine below_set ?_ GE122.out) | exact HB.out)⟩⟩
       ·rw [if_neg c12] at H
        have c12b0 : (t125 == 0) = false := beq_eq_false_iff_ne.mpr c12
        have c12b1 : (t125 != 0) = true := bne_iff_ne.mpr c12
        obtain rfl := Option.some.inj H
        have hcz16_0 : wr.cell? ⟨gb122, 0, none⟩ = some (.int .i64 a0_0) := (blk_cell BK122.out 0).trans rfl
        have hcz16_1 : wr.cell? ⟨gb122, 1, none⟩ = some (.bool a0_1) := (blk_cell BK122.out 1).trans rfl
        have hcz16_2 : wr.cell? ⟨gb122, 2, none⟩ = some (.slice A0_2 l0_2.length c0_2) := (blk_cell BK122.out 2).trans rfl
        have hfz16_0 := blk_frozen BK122.out 0
        have hfz16_1 := blk_frozen BK122.out 1
        have hfz16_2 := blk_frozen BK122.out 2
        try go_wp2
        have n0_ := Aside0.mk (blk_drew BK122.out)
        have n1_ := Aside0.mk (below_drew1 HB.out)
        clear BK122
        clear HB
        have BK122 := n0_
        have HB := n1_
        clear n0_ n1_
        have p124 : 0 ≤ (x4_1 : Int) := of_decide_eq_true (by first | (with_reducible assumption) | assumption)
        have q124 : x4_1 < (l0_2.length : Int) := of_decide_eq_true (by first | (with_reducible assumption) | assumption)
        obtain ⟨ad124, e124, hx124_0, hx124_1, hx124_2, hx124_3⟩ := at_T79 HR0_2.out x4_1 p124 q124
        have hw124_3 := hx124_3
        have hw124_2 := hx124_2
        have hw124_1 := hx124_1
        have hw124_0 := hx124_0
        cases e124
        replace hx124_0 := (HB.out.cell (World.block_lt_of_cell? w _ hx124_0)).trans hx124_0
        replace hx124_1 := (HB.out.cell (World.block_lt_of_cell? w _ hx124_1)).trans hx124_1
        replace hx124_2 := (HB.out.cell (World.block_lt_of_cell? w _ hx124_2)).trans hx124_2
        replace hx124_3 := (HB.out.cell (World.block_lt_of_cell? w _ hx124_3)).trans hx124_3
        replace p124 := eq_true p124
        replace q124 := eq_true q124
        refine start_ (n := 9) (S := fun w' => w'.cell? ⟨gb122, 0, none⟩ = some (.int .i64 a0_0) ∧ w'.cell? ⟨gb122, 1, none⟩ = some (.bool a0_1) ∧ w'.cell? ⟨gb122, 2, none⟩ = some (.slice (some ad124) l0_2.length c0_2) ∧ w'.cell? (ad124.add ((x4_1).toNat * 4)) = some (.int .i64 ((rd_T79 l0_2 x4_1).f0)) ∧ w'.cell? ⟨(ad124.add ((x4_1).toNat * 4)).block, (ad124.add ((x4_1).toNat * 4)).off + 1, none⟩ = some (.int .i64 ((rd_T79 l0_2 x4_1).f1)) ∧ w'.cell? ⟨(ad124.add ((x4_1).toNat * 4)).block, (ad124.add ((x4_1).toNat * 4)).off + 2, none⟩ = some (.int .i64 ((rd_T79 l0_2 x4_1).f2)) ∧ w'.cell? ⟨(ad124.add ((x4_1).toNat * 4)).block, (ad124.add ((x4_1).toNat * 4)).off + 3, none⟩ = some (.int .i64 ((rd_T79 l0_2 x4_1).f3))) (ds := []) #[false, false, false, false, false, false, false, false, false] (by kernel_rfl) rfl rfl ⟨(blk_cell BK122.out 0).trans rfl, (blk_cell BK122.out 1).trans rfl, (blk_cell BK122.out 2).trans rfl, ((HB.out.cell (World.block_lt_of_cell? w _ hw124_0)).trans hw124_0), ((HB.out.cell (World.block_lt_of_cell? w _ hw124_1)).trans hw124_1), ((HB.out.cell (World.block_lt_of_cell? w _ hw124_2)).trans hw124_2), ((HB.out.cell (World.block_lt_of_cell? w _ hw124_3)).trans hw124_3)⟩ (fun hHeld => ?_); refine with_tabW ebbtideref05_Check.tab9 ebbtideref05_Check.bits9 (fun HT_ HW_ => ?_)
        generalize wr.drew = w17 at BK122 HB hx124_0 hx124_1 hx124_2 hx124_3 hHeld ⊢
        refine pure_ (i := 0) (N := some 23) (v := ?_) (a' := ?_) #[true, false, false, false, false, false, false, false, false] rfl rfl (any_of HT_.out (by kernel_rfl)) (fun _ _ _ h => h) (Or.inl ⟨by rfl, ?_⟩) ?_ ?_
        rotate_left
        ·intro w'
         go_simp
         with_reducible rfl
        rotate_left
        ·simp only [Act.put, List.setIfInBounds_toArray, List.set_cons_zero, List.set_cons_succ, i64_w, i32_w]
         rfl
        refine pure_ (i := 2) (N := some 25) (v := ?_) (a' := ?_) #[true, false, true, false, false, false, false, false, false] rfl rfl (any_of HT_.out (by kernel_rfl)) (fun _ _ _ h => h) (Or.inl ⟨by rfl, ?_⟩) ?_ ?_
        rotate_left
        ·intro w'
         go_simp
         with_reducible rfl
        rotate_left
        ·simp only [Act.put, List.setIfInBounds_toArray, List.set_cons_zero, List.set_cons_succ, i64_w, i32_w]
         rfl
        refine pure_ (i := 4) (N := some 27) (v := ?_) (a' := ?_) #[true, false, true, false, true, false, false, false, false] rfl rfl (any_of HT_.out (by kernel_rfl)) (fun _ _ _ h => h) (Or.inl ⟨by rfl, ?_⟩) ?_ ?_
        rotate_left
        ·intro w'
         go_simp
         with_reducible rfl
        rotate_left
        ·simp only [Act.put, List.setIfInBounds_toArray, List.set_cons_zero, List.set_cons_succ, i64_w, i32_w]
         rfl
        refine take_ (i := 1) (N := some 24) (v := ?_) (a' := ?_) #[true, true, true, false, true, false, false, false, false] rfl rfl (take_ofW HT_.out HW_.out (by kernel_rfl)) (fun _ _ _ h => h) (Or.inl ⟨by rfl, ?_⟩) hHeld ?_ ?_
        rotate_left
        ·rintro w' ⟨s0, s1, s2, s3, s4, s5, s6⟩
         go_simp
         with_reducible rfl
        rotate_left
        ·simp only [Act.put, List.setIfInBounds_toArray, List.set_cons_zero, List.set_cons_succ, i64_w, i32_w]
         rfl
        refine take_ (i := 3) (N := some 26) (v := ?_) (a' := ?_) #[true, true, true, true, true, false, false, false, false] rfl rfl (take_ofW HT_.out HW_.out (by kernel_rfl)) (fun _ _ _ h => h) (Or.inl ⟨by rfl, ?_⟩) hHeld ?_ ?_
        rotate_left
        ·rintro w' ⟨s0, s1, s2, s3, s4, s5, s6⟩
         go_simp
         with_reducible rfl
        rotate_left
        ·simp only [Act.put, List.setIfInBounds_toArray, List.set_cons_zero, List.set_cons_succ, i64_w, i32_w]
         rfl
        refine pure_ (i := 5) (N := some 28) (v := ?_) (a' := ?_) #[true, true, true, true, true, true, false, false, false] rfl rfl (any_of HT_.out (by kernel_rfl)) (fun _ _ _ h => h) (Or.inl ⟨by rfl, ?_⟩) ?_ ?_
        rotate_left
        ·intro w'
         go_simp
         with_reducible rfl
        rotate_left
        ·simp only [Act.put, List.setIfInBounds_toArray, List.set_cons_zero, List.set_cons_succ, i64_w, i32_w]
         rfl
        refine take_ (i := 6) (N := some 29) (v := ?_) (a' := ?_) #[true, true, true, true, true, true, true, false, false] rfl rfl (take_ofW HT_.out HW_.out (by kernel_rfl)) (fun _ _ _ h => h) (Or.inl ⟨by rfl, ?_⟩) hHeld ?_ ?_
        rotate_left
        ·rintro w' ⟨s0, s1, s2, s3, s4, s5, s6⟩
         go_simp
         with_reducible rfl
        rotate_left
        ·simp only [Act.put, List.setIfInBounds_toArray, List.set_cons_zero, List.set_cons_succ, i64_w, i32_w]
         rfl
        refine one_ (i := 7) (N := some 30) #[true, true, true, true, true, true, true, true, false] rfl rfl (one_of HT_.out (by kernel_rfl)) (by decide) (fun K hK => ?_)
        refine goes_ Try.func86 (by kernel_rfl) rfl #[.int .i64 a0_0, .agg #[.int .i64 ((rd_T79 l0_2 x4_1).f0), .int .i64 ((rd_T79 l0_2 x4_1).f1), .int .i64 ((rd_T79 l0_2 x4_1).f2), .int .i64 ((rd_T79 l0_2 x4_1).f3)]] (by rfl) rfl rfl (by (try simp only [List.map_toArray, List.map_cons, List.map_nil]); first | done | rfl | (simp only [List.length_drop, List.length_take]; rfl)) ?_
        with_reducible refine (ebbtideref05_Arc.calls k1 a0_0 ((rd_T79 l0_2 x4_1).f0) ((rd_T79 l0_2 x4_1).f1) ((rd_T79 l0_2 x4_1).f2) ((rd_T79 l0_2 x4_1).f3) t125 _ A11.out).mono ?_
        rintro e w18 ⟨rfl, hb⟩
        refine ⟨_, rfl, ?_⟩
        have n0_ := Aside0.mk (blk_below (g := gb122) (o := .cells #[.int .i64 a0_0, .bool a0_1, .slice (some ad124) l0_2.length c0_2] 32 (0, 0)) (by (with_reducible repeat (first | refine blk_drewN ?_ _ | refine blk_drew ?_ | refine blk_alloc ?_ _)); exact BK122.out) hb)
        have n1_ := Aside0.mk (below_step (by repeat (first | (with_reducible first | exact HB.out | apply below_alloc | apply pw_below_drewN | apply below_drew1 | refine below_set ?_ GE122.out) | exact HB.out)) hb)
        clear BK122
        clear HB
        have BK122 := n0_
        have HB := n1_
        clear n0_ n1_
        (try clear hb)
        (try clear hb2)
        (try clear hk)
        (try clear hi)
        refine hK.out _ _ ⟨(blk_cell BK122.out 0).trans rfl, (blk_cell BK122.out 1).trans rfl, (blk_cell BK122.out 2).trans rfl, ((HB.out.cell (World.block_lt_of_cell? w _ hw124_0)).trans hw124_0), ((HB.out.cell (World.block_lt_of_cell? w _ hw124_1)).trans hw124_1), ((HB.out.cell (World.block_lt_of_cell? w _ hw124_2)).trans hw124_2), ((HB.out.cell (World.block_lt_of_cell? w _ hw124_3)).trans hw124_3)⟩ (fun hHeld => ?_)
        clear hK K
        refine norm_ (a' := ?_) ?_ ?_
        rotate_left
        ·show Act.put _ (some 30) _ = _
         simp only [Act.put, List.setIfInBounds_toArray, List.set_cons_zero, List.set_cons_succ, i64_w, i32_w]
         rfl
        refine pure_ (i := 8) (N := some 5) (v := ?_) (a' := ?_) #[true, true, true, true, true, true, true, true, true] rfl rfl (any_of HT_.out (by kernel_rfl)) (fun _ _ _ h => h) (Or.inl ⟨by rfl, ?_⟩) ?_ ?_
        rotate_left
        ·intro w'
         go_simp
         with_reducible rfl
        rotate_left
        ·simp only [Act.put, List.setIfInBounds_toArray, List.set_cons_zero, List.set_cons_succ, i64_w, i32_w]
         rfl
        refine done_ (done_of HT_.out (by kernel_rfl)) ?_
        try go_wp2
        go_ret
        exact ⟨by first | rfl | (simp [errW_none, errW_some] <;> rfl) | (simp [*, errW_none, errW_some] <;> rfl), by repeat (first | (with_reducible first | exact HB.out | apply below_alloc | apply pw_below_drewN | apply below_drew1 | refine below_set ?_ GE122.out) | exact HB.out)⟩
      ·rw [if_neg c10] at H
       exact absurd H (by simp)
     ·rw [if_neg c9] at H
      have c9b0 : decide (x4_1 < (l0_2.length : Int)) = false := decide_eq_false c9
      clear c9
      obtain rfl := Option.some.inj H
      have hcz19_0 : wr.cell? ⟨gb122, 0, none⟩ = some (.int .i64 a0_0) := (blk_cell BK122.out 0).trans rfl
      have hcz19_1 : wr.cell? ⟨gb122, 1, none⟩ = some (.bool a0_1) := (blk_cell BK122.out 1).trans rfl
      have hcz19_2 : wr.cell? ⟨gb122, 2, none⟩ = some (.slice A0_2 l0_2.length c0_2) := (blk_cell BK122.out 2).trans rfl
      have hfz19_0 := blk_frozen BK122.out 0
      have hfz19_1 := blk_frozen BK122.out 1
      have hfz19_2 := blk_frozen BK122.out 2
      go_wp2
      go_ret
      exact ⟨by first | rfl | (simp [errW_none, errW_some] <;> rfl) | (simp [*, errW_none, errW_some] <;> rfl), by repeat (first | (with_reducible first | exact HB.out | apply below_alloc | apply pw_below_drewN | apply below_drew1 | refine below_set ?_ GE122.out) | exact HB.out)⟩
 ·rw [if_neg c3] at H
  have c3b0 : (t123 == 0) = false := beq_eq_false_iff_ne.mpr c3
  have c3b1 : (t123 != 0) = true := bne_iff_ne.mpr c3
  obtain rfl := Option.some.inj H
  go_enter Try.func64, Try.ntmps64
  go_wp2_with (first | ((with_reducible refine gate_dst (N := 1) rfl ?_); refine box_event ?hg (N := 1) ?hd (cs := #[.int .i64 a0_0, .bool a0_1, .slice A0_2 l0_2.length c0_2]) (t := 32) ?hr ?_; (case hd => rfl); (case hg => rfl); (case hr => first | (go_simp; done) | (go_simp; rfl)); intro gb122 hg w20 hbox hb; have n0_ := Aside0.mk (below_step (by repeat (first | (with_reducible first | exact HB.out | apply below_alloc | apply pw_below_drewN | apply below_drew1) | exact HB.out)) hb); have n1_ := Aside0.mk (hbox); have n2_ := Aside0.mk ((by rw [hg]; exact (below_size (by repeat (first | (with_reducible first | exact HB.out | apply below_alloc | apply pw_below_drewN | apply below_drew1) | exact HB.out))) : w.heap.size ≤ gb122)); have n3_ := Aside0.mk ((by rw [hg]; exact (below_size (by repeat (first | (with_reducible first | exact HB.out | apply below_alloc | apply pw_below_drewN | apply below_drew1) | exact HB.out))) : w.heap.size ≤ gb122)); clear HB; have HB := n0_; have BK122 := n1_; have GW122 := n2_; have GE122 := n3_; clear n0_ n1_ n2_ n3_; clear hb hbox hg; have hcz21_0 : w20.cell? ⟨gb122, 0, none⟩ = some (.int .i64 a0_0) := (blk_cell BK122.out 0).trans rfl; have hcz21_1 : w20.cell? ⟨gb122, 1, none⟩ = some (.bool a0_1) := (blk_cell BK122.out 1).trans rfl; have hcz21_2 : w20.cell? ⟨gb122, 2, none⟩ = some (.slice A0_2 l0_2.length c0_2) := (blk_cell BK122.out 2).trans rfl; have hfz21_0 := blk_frozen BK122.out 0; have hfz21_1 := blk_frozen BK122.out 1; have hfz21_2 := blk_frozen BK122.out 2) | ((with_reducible refine gate_callee (f := 85) rfl ?_); refine goesL_ (some 8) rfl rfl Try.func85 (by kernel_rfl) rfl #[.int .i64 a0_0] rfl (by (try simp only [List.map_toArray, List.map_cons, List.map_nil]); first | done | rfl | (simp only [List.length_drop, List.length_take]; rfl)) ?_; (with_reducible refine (ebbtideref05_nodes.calls a0_0 t123 _ A2.out).mono ?_); rintro e w' ⟨rfl, ⟨nd, rfl⟩⟩; refine ⟨_, rfl, ?_⟩))
  go_ret
  exact ⟨by first | rfl | (simp [errW_none, errW_some] <;> rfl) | (simp [*, errW_none, errW_some] <;> rfl), by repeat (first | (with_reducible first | exact HB.out | apply below_alloc | apply pw_below_drewN | apply below_drew1 | refine below_set ?_ GE122.out) | exact HB.out)⟩
def ebbtideref12_Span.f (a0 : Int) : Option (Int) := if a0 < 0 then (some 1) else (if a0 > 1024 then (some 2) else (some 0))
set_option maxHeartbeats 8000000 in
set_option maxRecDepth 100000 in
theorem ebbtideref12_Span.calls (a0 : Int) (r : Int) (w : World) (h : ebbtideref12_Span.f a0 = some r) :
  Calls Try.prog 66 #[.int .i64 a0] w fun e w' => e = .returned (.int .i64 r) ∧ Drawn0 w w' := by
 have H : (if a0 < 0 then (some 1) else (if a0 > 1024 then (some 2) else (some 0))) = some r := h
 clear h
 by_cases c2 : a0 < 0
 ·rw [if_pos c2] at H
  have c2b0 : decide (a0 < 0) = true := decide_eq_true c2
  clear c2
  obtain rfl := Option.some.inj H
  go_enter Try.func66, Try.ntmps66
  go_wp2
  go_ret
  exact ⟨by first | rfl | (simp; done) | (simp [*]; done), by repeat (first | exact Drawn0.refl _ | apply Drawn0.step)⟩
 ·rw [if_neg c2] at H
  have c2b0 : decide (a0 < 0) = false := decide_eq_false c2
  clear c2
  by_cases c3 : a0 > 1024
  ·rw [if_pos c3] at H
   have c3b0 : decide (1024 < a0) = true := decide_eq_true c3
   clear c3
   obtain rfl := Option.some.inj H
   go_enter Try.func66, Try.ntmps66
   go_wp2
   go_ret
   exact ⟨by first | rfl | (simp; done) | (simp [*]; done), by repeat (first | exact Drawn0.refl _ | apply Drawn0.step)⟩
  ·rw [if_neg c3] at H
   have c3b0 : decide (1024 < a0) = false := decide_eq_false c3
   clear c3
   obtain rfl := Option.some.inj H
   go_enter Try.func66, Try.ntmps66
   go_wp2
   go_ret
   exact ⟨by first | rfl | (simp; done) | (simp [*]; done), by repeat (first | exact Drawn0.refl _ | apply Drawn0.step)⟩
def ebbtideref15_Fits.f (k : Nat) (a0_0 : Int) (a0_1 : Bool) (l0_2 : List (S79)) (a1 : Int) : Option (Bool) := (ebbtideref05_Check.f k a0_0 a0_1 l0_2).bind fun t127 => (if t127 = 0 then ((ebbtideref12_Span.f a1).bind fun t128 => (if t128 = 0 then (if (wrap64 ((wrap64 (a1 + 1)) * a0_0)) ≤ 4000 then (some (decide ((wrap64 ((wrap64 (a1 + 1)) * (l0_2.length : Int))) ≤ 10000))) else (some false)) else (some false))) else (some false))
set_option maxHeartbeats 8000000 in
set_option maxRecDepth 100000 in
theorem ebbtideref15_Fits.calls (k : Nat) (a0_0 : Int) (a0_1 : Bool) (A0_2 : Option Addr) (c0_2 : Nat) (l0_2 : List (S79)) (a1 : Int) (r : Bool) (w : World) (hr0_2 : Kd.C k79 w A0_2 l0_2.length l0_2) (hc0_2 : l0_2.length ≤ c0_2) (h : ebbtideref15_Fits.f k a0_0 a0_1 l0_2 a1 = some r) :
  Calls Try.prog 67 #[.agg #[.int .i64 a0_0, .bool a0_1, .slice A0_2 l0_2.length c0_2], .int .i64 a1] w fun e w' => e = .returned (.bool r) ∧ Below w.heap.size w w' := by
 have hu32 := Try.underlying32
 have HR0_2 := Aside0.mk hr0_2
 have HC0_2 := Aside0.mk hc0_2
 clear hr0_2 hc0_2
 have HB := Aside0.mk (Below.refl w.heap.size w)
 have H : ((ebbtideref05_Check.f k a0_0 a0_1 l0_2).bind fun t127 => (if t127 = 0 then ((ebbtideref12_Span.f a1).bind fun t128 => (if t128 = 0 then (if (wrap64 ((wrap64 (a1 + 1)) * a0_0)) ≤ 4000 then (some (decide ((wrap64 ((wrap64 (a1 + 1)) * (l0_2.length : Int))) ≤ 10000))) else (some false)) else (some false))) else (some false))) = some r := h
 clear h
 replace H := Option.bind_eq_some_iff.mp H
 obtain ⟨t127, A30, H⟩ := H
 replace H : (if t127 = 0 then ((ebbtideref12_Span.f a1).bind fun t128 => (if t128 = 0 then (if (wrap64 ((wrap64 (a1 + 1)) * a0_0)) ≤ 4000 then (some (decide ((wrap64 ((wrap64 (a1 + 1)) * (l0_2.length : Int))) ≤ 10000))) else (some false)) else (some false))) else (some false)) = some r := H
 have A3 := Aside0.mk A30
 clear A30
 by_cases c4 : t127 = 0
 ·rw [if_pos c4] at H
  have c4b0 : (t127 == 0) = true := beq_iff_eq.mpr c4
  have c4b1 : (t127 != 0) = false := bne_eq_false_iff_eq.mpr c4
  clear c4
  replace H := Option.bind_eq_some_iff.mp H
  obtain ⟨t128, A50, H⟩ := H
  replace H : (if t128 = 0 then (if (wrap64 ((wrap64 (a1 + 1)) * a0_0)) ≤ 4000 then (some (decide ((wrap64 ((wrap64 (a1 + 1)) * (l0_2.length : Int))) ≤ 10000))) else (some false)) else (some false)) = some r := H
  have A5 := Aside0.mk A50
  clear A50
  by_cases c6 : t128 = 0
  ·rw [if_pos c6] at H
   have c6b0 : (t128 == 0) = true := beq_iff_eq.mpr c6
   have c6b1 : (t128 != 0) = false := bne_eq_false_iff_eq.mpr c6
   clear c6
   by_cases c7 : (wrap64 ((wrap64 (a1 + 1)) * a0_0)) ≤ 4000
   ·rw [if_pos c7] at H
    have c7b0 : decide ((wrap64 ((wrap64 (a1 + 1)) * a0_0)) ≤ 4000) = true := decide_eq_true c7
    clear c7
    obtain rfl := Option.some.inj H
    go_enter Try.func67, Try.ntmps67
    go_wp2_with (first | ((with_reducible refine gate_dst (N := 2) rfl ?_); (try (refine gate_guard (by rfl) ?_; dsimp only)); refine box_event ?hg (N := 2) ?hd (cs := #[.int .i64 a0_0, .bool a0_1, .slice A0_2 l0_2.length c0_2]) (t := 32) ?hr ?_; (case hd => rfl); (case hg => rfl); (case hr => first | (go_simp; done) | (go_simp; rfl)); intro gb126 hg w8 hbox hb; have n0_ := Aside0.mk (below_step (by repeat (first | (with_reducible first | exact HB.out | apply below_alloc | apply pw_below_drewN | apply below_drew1) | exact HB.out)) hb); have n1_ := Aside0.mk (hbox); have n2_ := Aside0.mk ((by rw [hg]; exact (below_size (by repeat (first | (with_reducible first | exact HB.out | apply below_alloc | apply pw_below_drewN | apply below_drew1) | exact HB.out))) : w.heap.size ≤ gb126)); have n3_ := Aside0.mk ((by rw [hg]; exact (below_size (by repeat (first | (with_reducible first | exact HB.out | apply below_alloc | apply pw_below_drewN | apply below_drew1) | exact HB.out))) : w.heap.size ≤ gb126)); clear HB; have HB := n0_; have BK126 := n1_; have GW126 := n2_; have GE126 := n3_; clear n0_ n1_ n2_ n3_; clear hb hbox hg; have hcz9_0 : w8.cell? ⟨gb126, 0, none⟩ = some (.int .i64 a0_0) := (blk_cell BK126.out 0).trans rfl; have hcz9_1 : w8.cell? ⟨gb126, 1, none⟩ = some (.bool a0_1) := (blk_cell BK126.out 1).trans rfl; have hcz9_2 : w8.cell? ⟨gb126, 2, none⟩ = some (.slice A0_2 l0_2.length c0_2) := (blk_cell BK126.out 2).trans rfl; have hfz9_0 := blk_frozen BK126.out 0; have hfz9_1 := blk_frozen BK126.out 1; have hfz9_2 := blk_frozen BK126.out 2) | ((with_reducible refine gate_callee (f := 64) rfl ?_); refine goesL_ (some 6) rfl rfl Try.func64 (by kernel_rfl) rfl #[.agg #[.int .i64 a0_0, .bool a0_1, .slice A0_2 l0_2.length c0_2]] rfl (by (try simp only [List.map_toArray, List.map_cons, List.map_nil]); first | done | rfl | (simp only [List.length_drop, List.length_take]; rfl)) ?_; (with_reducible refine (ebbtideref05_Check.calls k a0_0 a0_1 _ _ l0_2 t127 _ ?side1 ?side2 A3.out).mono ?_); (case side1 => repeat (first | exact (Kd.C_below HR0_2.out HB.out) | (with_reducible refine Kd.C_alloc ?_ _) | (with_reducible refine Kd.C_drewN ?_ _) | (with_reducible refine Kd.C_drew ?_))); (case side2 => exact HC0_2.out); rintro e w10 ⟨rfl, hb⟩; refine ⟨_, rfl, ?_⟩; have n0_ := Aside0.mk (blk_below (g := gb126) (o := .cells #[.int .i64 a0_0, .bool a0_1, .slice A0_2 l0_2.length c0_2] 32 (0, 0)) (by (with_reducible repeat (first | refine blk_drewN ?_ _ | refine blk_drew ?_ | refine blk_alloc ?_ _)); exact BK126.out) hb); have n1_ := Aside0.mk (below_step (by repeat (first | (with_reducible first | exact HB.out | apply below_alloc | apply pw_below_drewN | apply below_drew1 | refine below_set ?_ GE126.out) | exact HB.out)) hb); clear BK126; clear HB; have BK126 := n0_; have HB := n1_; clear n0_ n1_; (try clear hb); (try clear hb2); (try clear hk); (try clear hi)) | (go_at_call 66; (with_reducible refine (ebbtideref12_Span.calls a1 t128 _ A5.out).mono ?_); rintro e w' ⟨rfl, ⟨nd, rfl⟩⟩; have hcz11_0 : w10.cell? ⟨gb126, 0, none⟩ = some (.int .i64 a0_0) := (blk_cell BK126.out 0).trans rfl; have hcz11_1 : w10.cell? ⟨gb126, 1, none⟩ = some (.bool a0_1) := (blk_cell BK126.out 1).trans rfl; have hcz11_2 : w10.cell? ⟨gb126, 2, none⟩ = some (.slice A0_2 l0_2.length c0_2) := (blk_cell BK126.out 2).trans rfl; have hfz11_0 := blk_frozen BK126.out 0; have hfz11_1 := blk_frozen BK126.out 1; have hfz11_2 := blk_frozen BK126.out 2))
    go_ret
    exact ⟨by first | rfl | (simp [errW_none, errW_some] <;> rfl) | (simp [*, errW_none, errW_some] <;> rfl), by repeat (first | (with_reducible first | exact HB.out | apply below_alloc | apply pw_below_drewN | apply below_drew1 | refine below_set ?_ GE126.out) | exact HB.out)⟩
   ·rw [if_neg c7] at H
    have c7b0 : decide ((wrap64 ((wrap64 (a1 + 1)) * a0_0)) ≤ 4000) = false := decide_eq_false c7
    clear c7
    obtain rfl := Option.some.inj H
    go_enter Try.func67, Try.ntmps67
    go_wp2_with (first | ((with_reducible refine gate_dst (N := 2) rfl ?_); (try (refine gate_guard (by rfl) ?_; dsimp only)); refine box_event ?hg (N := 2) ?hd (cs := #[.int .i64 a0_0, .bool a0_1, .slice A0_2 l0_2.length c0_2]) (t := 32) ?hr ?_; (case hd => rfl); (case hg => rfl); (case hr => first | (go_simp; done) | (go_simp; rfl)); intro gb126 hg w12 hbox hb; have n0_ := Aside0.mk (below_step (by repeat (first | (with_reducible first | exact HB.out | apply below_alloc | apply pw_below_drewN | apply below_drew1) | exact HB.out)) hb); have n1_ := Aside0.mk (hbox); have n2_ := Aside0.mk ((by rw [hg]; exact (below_size (by repeat (first | (with_reducible first | exact HB.out | apply below_alloc | apply pw_below_drewN | apply below_drew1) | exact HB.out))) : w.heap.size ≤ gb126)); have n3_ := Aside0.mk ((by rw [hg]; exact (below_size (by repeat (first | (with_reducible first | exact HB.out | apply below_alloc | apply pw_below_drewN | apply below_drew1) | exact HB.out))) : w.heap.size ≤ gb126)); clear HB; have HB := n0_; have BK126 := n1_; have GW126 := n2_; have GE126 := n3_; clear n0_ n1_ n2_ n3_; clear hb hbox hg; have hcz13_0 : w12.cell? ⟨gb126, 0, none⟩ = some (.int .i64 a0_0) := (blk_cell BK126.out 0).trans rfl; have hcz13_1 : w12.cell? ⟨gb126, 1, none⟩ = some (.bool a0_1) := (blk_cell BK126.out 1).trans rfl; have hcz13_2 : w12.cell? ⟨gb126, 2, none⟩ = some (.slice A0_2 l0_2.length c0_2) := (blk_cell BK126.out 2).trans rfl; have hfz13_0 := blk_frozen BK126.out 0; have hfz13_1 := blk_frozen BK126.out 1; have hfz13_2 := blk_frozen BK126.out 2) | ((with_reducible refine gate_callee (f := 64) rfl ?_); refine goesL_ (some 6) rfl rfl Try.func64 (by kernel_rfl) rfl #[.agg #[.int .i64 a0_0, .bool a0_1, .slice A0_2 l0_2.length c0_2]] rfl (by (try simp only [List.map_toArray, List.map_cons, List.map_nil]); first | done | rfl | (simp only [List.length_drop, List.length_take]; rfl)) ?_; (with_reducible refine (ebbtideref05_Check.calls k a0_0 a0_1 _ _ l0_2 t127 _ ?side1 ?side2 A3.out).mono ?_); (case side1 => repeat (first | exact (Kd.C_below HR0_2.out HB.out) | (with_reducible refine Kd.C_alloc ?_ _) | (with_reducible refine Kd.C_drewN ?_ _) | (with_reducible refine Kd.C_drew ?_))); (case side2 => exact HC0_2.out); rintro e w14 ⟨rfl, hb⟩; refine ⟨_, rfl, ?_⟩; have n0_ := Aside0.mk (blk_below (g := gb126) (o := .cells #[.int .i64 a0_0, .bool a0_1, .slice A0_2 l0_2.length c0_2] 32 (0, 0)) (by (with_reducible repeat (first | refine blk_drewN ?_ _ | refine blk_drew ?_ | refine blk_alloc ?_ _)); exact BK126.out) hb); have n1_ := Aside0.mk (below_step (by repeat (first | (with_reducible first | exact HB.out | apply below_alloc | apply pw_below_drewN | apply below_drew1 | refine below_set ?_ GE126.out) | exact HB.out)) hb); clear BK126; clear HB; have BK126 := n0_; have HB := n1_; clear n0_ n1_; (try clear hb); (try clear hb2); (try clear hk); (try clear hi)) | (go_at_call 66; (with_reducible refine (ebbtideref12_Span.calls a1 t128 _ A5.out).mono ?_); rintro e w' ⟨rfl, ⟨nd, rfl⟩⟩; have hcz15_0 : w14.cell? ⟨gb126, 0, none⟩ = some (.int .i64 a0_0) := (blk_cell BK126.out 0).trans rfl; have hcz15_1 : w14.cell? ⟨gb126, 1, none⟩ = some (.bool a0_1) := (blk_cell BK126.out 1).trans rfl; have hcz15_2 : w14.cell? ⟨gb126, 2, none⟩ = some (.slice A0_2 l0_2.length c0_2) := (blk_cell BK126.out 2).trans rfl; have hfz15_0 := blk_frozen BK126.out 0; have hfz15_1 := blk_frozen BK126.out 1; have hfz15_2 := blk_frozen BK126.out 2))
    go_ret
    exact ⟨by first | rfl | (simp [errW_none, errW_some] <;> rfl) | (simp [*, errW_none, errW_some] <;> rfl), by repeat (first | (with_reducible first | exact HB.out | apply below_alloc | apply pw_below_drewN | apply below_drew1 | refine below_set ?_ GE126.out) | exact HB.out)⟩
  ·rw [if_neg c6] at H
   have c6b0 : (t128 == 0) = false := beq_eq_false_iff_ne.mpr c6
   have c6b1 : (t128 != 0) = true := bne_iff_ne.mpr c6
   obtain rfl := Option.some.inj H
   go_enter Try.func67, Try.ntmps67
   go_wp2_with (first | ((with_reducible refine gate_dst (N := 2) rfl ?_); (try (refine gate_guard (by rfl) ?_; dsimp only)); refine box_event ?hg (N := 2) ?hd (cs := #[.int .i64 a0_0, .bool a0_1, .slice A0_2 l0_2.length c0_2]) (t := 32) ?hr ?_; (case hd => rfl); (case hg => rfl); (case hr => first | (go_simp; done) | (go_simp; rfl)); intro gb126 hg w16 hbox hb; have n0_ := Aside0.mk (below_step (by repeat (first | (with_reducible first | exact HB.out | apply below_alloc | apply pw_below_drewN | apply below_drew1) | exact HB.out)) hb); have n1_ := Aside0.mk (hbox); have n2_ := Aside0.mk ((by rw [hg]; exact (below_size (by repeat (first | (with_reducible first | exact HB.out | apply below_alloc | apply pw_below_drewN | apply below_drew1) | exact HB.out))) : w.heap.size ≤ gb126)); have n3_ := Aside0.mk ((by rw [hg]; exact (below_size (by repeat (first | (with_reducible first | exact HB.out | apply below_alloc | apply pw_below_drewN | apply below_drew1) | exact HB.out))) : w.heap.size ≤ gb126)); clear HB; have HB := n0_; have BK126 := n1_; have GW126 := n2_; have GE126 := n3_; clear n0_ n1_ n2_ n3_; clear hb hbox hg; have hcz17_0 : w16.cell? ⟨gb126, 0, none⟩ = some (.int .i64 a0_0) := (blk_cell BK126.out 0).trans rfl; have hcz17_1 : w16.cell? ⟨gb126, 1, none⟩ = some (.bool a0_1) := (blk_cell BK126.out 1).trans rfl; have hcz17_2 : w16.cell? ⟨gb126, 2, none⟩ = some (.slice A0_2 l0_2.length c0_2) := (blk_cell BK126.out 2).trans rfl; have hfz17_0 := blk_frozen BK126.out 0; have hfz17_1 := blk_frozen BK126.out 1; have hfz17_2 := blk_frozen BK126.out 2) | ((with_reducible refine gate_callee (f := 64) rfl ?_); refine goesL_ (some 6) rfl rfl Try.func64 (by kernel_rfl) rfl #[.agg #[.int .i64 a0_0, .bool a0_1, .slice A0_2 l0_2.length c0_2]] rfl (by (try simp only [List.map_toArray, List.map_cons, List.map_nil]); first | done | rfl | (simp only [List.length_drop, List.length_take]; rfl)) ?_; (with_reducible refine (ebbtideref05_Check.calls k a0_0 a0_1 _ _ l0_2 t127 _ ?side1 ?side2 A3.out).mono ?_); (case side1 => repeat (first | exact (Kd.C_below HR0_2.out HB.out) | (with_reducible refine Kd.C_alloc ?_ _) | (with_reducible refine Kd.C_drewN ?_ _) | (with_reducible refine Kd.C_drew ?_))); (case side2 => exact HC0_2.out); rintro e w18 ⟨rfl, hb⟩; refine ⟨_, rfl, ?_⟩; have n0_ := Aside0.mk (blk_below (g := gb126) (o := .cells #[.int .i64 a0_0, .bool a0_1, .slice A0_2 l0_2.length c0_2] 32 (0, 0)) (by (with_reducible repeat (first | refine blk_drewN ?_ _ | refine blk_drew ?_ | refine blk_alloc ?_ _)); exact BK126.out) hb); have n1_ := Aside0.mk (below_step (by repeat (first | (with_reducible first | exact HB.out | apply below_alloc | apply pw_below_drewN | apply below_drew1 | refine below_set ?_ GE126.out) | exact HB.out)) hb); clear BK126; clear HB; have BK126 := n0_; have HB := n1_; clear n0_ n1_; (try clear hb); (try clear hb2); (try clear hk); (try clear hi)) | (go_at_call 66; (with_reducible refine (ebbtideref12_Span.calls a1 t128 _ A5.out).mono ?_); rintro e w' ⟨rfl, ⟨nd, rfl⟩⟩))
   go_ret
   exact ⟨by first | rfl | (simp [errW_none, errW_some] <;> rfl) | (simp [*, errW_none, errW_some] <;> rfl), by repeat (first | (with_reducible first | exact HB.out | apply below_alloc | apply pw_below_drewN | apply below_drew1 | refine below_set ?_ GE126.out) | exact HB.out)⟩
 ·rw [if_neg c4] at H
  have c4b0 : (t127 == 0) = false := beq_eq_false_iff_ne.mpr c4
  have c4b1 : (t127 != 0) = true := bne_iff_ne.mpr c4
  obtain rfl := Option.some.inj H
  go_enter Try.func67, Try.ntmps67
  go_wp2_with (first | ((with_reducible refine gate_dst (N := 2) rfl ?_); (try (refine gate_guard (by rfl) ?_; dsimp only)); refine box_event ?hg (N := 2) ?hd (cs := #[.int .i64 a0_0, .bool a0_1, .slice A0_2 l0_2.length c0_2]) (t := 32) ?hr ?_; (case hd => rfl); (case hg => rfl); (case hr => first | (go_simp; done) | (go_simp; rfl)); intro gb126 hg w19 hbox hb; have n0_ := Aside0.mk (below_step (by repeat (first | (with_reducible first | exact HB.out | apply below_alloc | apply pw_below_drewN | apply below_drew1) | exact HB.out)) hb); have n1_ := Aside0.mk (hbox); have n2_ := Aside0.mk ((by rw [hg]; exact (below_size (by repeat (first | (with_reducible first | exact HB.out | apply below_alloc | apply pw_below_drewN | apply below_drew1) | exact HB.out))) : w.heap.size ≤ gb126)); have n3_ := Aside0.mk ((by rw [hg]; exact (below_size (by repeat (first | (with_reducible first | exact HB.out | apply below_alloc | apply pw_below_drewN | apply below_drew1) | exact HB.out))) : w.heap.size ≤ gb126)); clear HB; have HB := n0_; have BK126 := n1_; have GW126 := n2_; have GE126 := n3_; clear n0_ n1_ n2_ n3_; clear hb hbox hg; have hcz20_0 : w19.cell? ⟨gb126, 0, none⟩ = some (.int .i64 a0_0) := (blk_cell BK126.out 0).trans rfl; have hcz20_1 : w19.cell? ⟨gb126, 1, none⟩ = some (.bool a0_1) := (blk_cell BK126.out 1).trans rfl; have hcz20_2 : w19.cell? ⟨gb126, 2, none⟩ = some (.slice A0_2 l0_2.length c0_2) := (blk_cell BK126.out 2).trans rfl; have hfz20_0 := blk_frozen BK126.out 0; have hfz20_1 := blk_frozen BK126.out 1; have hfz20_2 := blk_frozen BK126.out 2) | ((with_reducible refine gate_callee (f := 64) rfl ?_); refine goesL_ (some 6) rfl rfl Try.func64 (by kernel_rfl) rfl #[.agg #[.int .i64 a0_0, .bool a0_1, .slice A0_2 l0_2.length c0_2]] rfl (by (try simp only [List.map_toArray, List.map_cons, List.map_nil]); first | done | rfl | (simp only [List.length_drop, List.length_take]; rfl)) ?_; (with_reducible refine (ebbtideref05_Check.calls k a0_0 a0_1 _ _ l0_2 t127 _ ?side1 ?side2 A3.out).mono ?_); (case side1 => repeat (first | exact (Kd.C_below HR0_2.out HB.out) | (with_reducible refine Kd.C_alloc ?_ _) | (with_reducible refine Kd.C_drewN ?_ _) | (with_reducible refine Kd.C_drew ?_))); (case side2 => exact HC0_2.out); rintro e w21 ⟨rfl, hb⟩; refine ⟨_, rfl, ?_⟩; have n0_ := Aside0.mk (blk_below (g := gb126) (o := .cells #[.int .i64 a0_0, .bool a0_1, .slice A0_2 l0_2.length c0_2] 32 (0, 0)) (by (with_reducible repeat (first | refine blk_drewN ?_ _ | refine blk_drew ?_ | refine blk_alloc ?_ _)); exact BK126.out) hb); have n1_ := Aside0.mk (below_step (by repeat (first | (with_reducible first | exact HB.out | apply below_alloc | apply pw_below_drewN | apply below_drew1 | refine below_set ?_ GE126.out) | exact HB.out)) hb); clear BK126; clear HB; have BK126 := n0_; have HB := n1_; clear n0_ n1_; (try clear hb); (try clear hb2); (try clear hk); (try clear hi)))
  go_ret
  exact ⟨by first | rfl | (simp [errW_none, errW_some] <;> rfl) | (simp [*, errW_none, errW_some] <;> rfl), by repeat (first | (with_reducible first | exact HB.out | apply below_alloc | apply pw_below_drewN | apply below_drew1 | refine below_set ?_ GE126.out) | exact HB.out)⟩
def ebbtideref21_Asked.f (k : Nat) (a0_0 : Int) (a0_1 : Bool) (l0_2 : List (S79)) (l1 : List (S44)) (l2 : List (S44)) (a3 : Int) : Option (Int) := (ebbtideref05_Check.f k a0_0 a0_1 l0_2).bind fun t130 => (if t130 = 0 then ((ebbtideref21_Groups.f k a0_0 a0_1 l0_2 l1 l2).bind fun t131 => (if t131 = 0 then ((ebbtideref12_Span.f a3).bind fun t132 => (if t132 = 0 then ((ebbtideref15_Fits.f k a0_0 a0_1 l0_2 a3).bind fun t133 => (if t133 = true then (some 0) else (some 2))) else (some t132))) else (some t131))) else (some t130))
set_option maxHeartbeats 8000000 in
set_option maxRecDepth 100000 in
theorem ebbtideref21_Asked.calls (k : Nat) (a0_0 : Int) (a0_1 : Bool) (A0_2 : Option Addr) (c0_2 : Nat) (l0_2 : List (S79)) (A1 : Option Addr) (c1 : Nat) (l1 : List (S44)) (A2 : Option Addr) (c2 : Nat) (l2 : List (S44)) (a3 : Int) (r : Int) (w : World) (hr0_2 : Kd.C k79 w A0_2 l0_2.length l0_2) (hc0_2 : l0_2.length ≤ c0_2) (hr1 : Kd.C k44 w A1 l1.length l1) (hc1 : l1.length ≤ c1) (hr2 : Kd.C k44 w A2 l2.length l2) (hc2 : l2.length ≤ c2) (h : ebbtideref21_Asked.f k a0_0 a0_1 l0_2 l1 l2 a3 = some r) :
  Calls Try.prog 33 #[.agg #[.int .i64 a0_0, .bool a0_1, .slice A0_2 l0_2.length c0_2], .slice A1 l1.length c1, .slice A2 l2.length c2, .int .i64 a3] w fun e w' => e = .returned (.int .i64 r) ∧ Below w.heap.size w w' := by
 have hu32 := Try.underlying32
 have HR0_2 := Aside0.mk hr0_2
 have HC0_2 := Aside0.mk hc0_2
 clear hr0_2 hc0_2
 have HR1 := Aside0.mk hr1
 have HC1 := Aside0.mk hc1
 clear hr1 hc1
 have HR2 := Aside0.mk hr2
 have HC2 := Aside0.mk hc2
 clear hr2 hc2
 have HB := Aside0.mk (Below.refl w.heap.size w)
 have H : ((ebbtideref05_Check.f k a0_0 a0_1 l0_2).bind fun t130 => (if t130 = 0 then ((ebbtideref21_Groups.f k a0_0 a0_1 l0_2 l1 l2).bind fun t131 => (if t131 = 0 then ((ebbtideref12_Span.f a3).bind fun t132 => (if t132 = 0 then ((ebbtideref15_Fits.f k a0_0 a0_1 l0_2 a3).bind fun t133 => (if t133 = true then (some 0) else (some 2))) else (some t132))) else (some t131))) else (some t130))) = some r := h
 clear h
 replace H := Option.bind_eq_some_iff.mp H
 obtain ⟨t130, A50, H⟩ := H
 replace H : (if t130 = 0 then ((ebbtideref21_Groups.f k a0_0 a0_1 l0_2 l1 l2).bind fun t131 => (if t131 = 0 then ((ebbtideref12_Span.f a3).bind fun t132 => (if t132 = 0 then ((ebbtideref15_Fits.f k a0_0 a0_1 l0_2 a3).bind fun t133 => (if t133 = true then (some 0) else (some 2))) else (some t132))) else (some t131))) else (some t130)) = some r := H
 have A5 := Aside0.mk A50
 clear A50
 by_cases c6 : t130 = 0
 ·rw [if_pos c6] at H
  have c6b0 : (t130 == 0) = true := beq_iff_eq.mpr c6
  have c6b1 : (t130 != 0) = false := bne_eq_false_iff_eq.mpr c6
  clear c6
  replace H := Option.bind_eq_some_iff.mp H
  obtain ⟨t131, A70, H⟩ := H
  replace H : (if t131 = 0 then ((ebbtideref12_Span.f a3).bind fun t132 => (if t132 = 0 then ((ebbtideref15_Fits.f k a0_0 a0_1 l0_2 a3).bind fun t133 => (if t133 = true then (some 0) else (some 2))) else (some t132))) else (some t131)) = some r := H
  have A7 := Aside0.mk A70
  clear A70
  by_cases c8 : t131 = 0
  ·rw [if_pos c8] at H
   have c8b0 : (t131 == 0) = true := beq_iff_eq.mpr c8
   have c8b1 : (t131 != 0) = false := bne_eq_false_iff_eq.mpr c8
   clear c8
   replace H := Option.bind_eq_some_iff.mp H
   obtain ⟨t132, A90, H⟩ := H
   replace H : (if t132 = 0 then ((ebbtideref15_Fits.f k a0_0 a0_1 l0_2 a3).bind fun t133 => (if t133 = true then (some 0) else (some 2))) else (some t132)) = some r := H
   have A9 := Aside0.mk A90
   clear A90
   by_cases c10 : t132 = 0
   ·rw [if_pos c10] at H
    have c10b0 : (t132 == 0) = true := beq_iff_eq.mpr c10
    have c10b1 : (t132 != 0) = false := bne_eq_false_iff_eq.mpr c10
    clear c10
    replace H := Option.bind_eq_some_iff.mp H
    obtain ⟨t133, A110, H⟩ := H
    replace H : (if t133 = true then (some 0) else (some 2)) = some r := H
    have A11 := Aside0.mk A110
    clear A110
    by_cases c12 : t133 = true
    ·subst c12
     have H1 : (some 0) = some r := by rw [if_pos rfl] at H; exact H
     clear H
     have H := H1
     clear H1
     obtain rfl := Option.some.inj H
     go_enter Try.func33, Try.ntmps33
     go_wp2_with (first | ((with_reducible refine gate_dst (N := 4) rfl ?_); refine box_event ?hg (N := 4) ?hd (cs := #[.int .i64 a0_0, .bool a0_1, .slice A0_2 l0_2.length c0_2]) (t := 32) ?hr ?_; (case hd => rfl); (case hg => rfl); (case hr => first | (go_simp; done) | (go_simp; rfl)); intro gb129 hg w13 hbox hb; have n0_ := Aside0.mk (below_step (by repeat (first | (with_reducible first | exact HB.out | apply below_alloc | apply pw_below_drewN | apply below_drew1) | exact HB.out)) hb); have n1_ := Aside0.mk (hbox); have n2_ := Aside0.mk ((by rw [hg]; exact (below_size (by repeat (first | (with_reducible first | exact HB.out | apply below_alloc | apply pw_below_drewN | apply below_drew1) | exact HB.out))) : w.heap.size ≤ gb129)); have n3_ := Aside0.mk ((by rw [hg]; exact (below_size (by repeat (first | (with_reducible first | exact HB.out | apply below_alloc | apply pw_below_drewN | apply below_drew1) | exact HB.out))) : w.heap.size ≤ gb129)); clear HB; have HB := n0_; have BK129 := n1_; have GW129 := n2_; have GE129 := n3_; clear n0_ n1_ n2_ n3_; clear hb hbox hg; have hcz14_0 : w13.cell? ⟨gb129, 0, none⟩ = some (.int .i64 a0_0) := (blk_cell BK129.out 0).trans rfl; have hcz14_1 : w13.cell? ⟨gb129, 1, none⟩ = some (.bool a0_1) := (blk_cell BK129.out 1).trans rfl; have hcz14_2 : w13.cell? ⟨gb129, 2, none⟩ = some (.slice A0_2 l0_2.length c0_2) := (blk_cell BK129.out 2).trans rfl; have hfz14_0 := blk_frozen BK129.out 0; have hfz14_1 := blk_frozen BK129.out 1; have hfz14_2 := blk_frozen BK129.out 2) | ((with_reducible refine gate_callee (f := 64) rfl ?_); refine goesL_ (some 13) rfl rfl Try.func64 (by kernel_rfl) rfl #[.agg #[.int .i64 a0_0, .bool a0_1, .slice A0_2 l0_2.length c0_2]] rfl (by (try simp only [List.map_toArray, List.map_cons, List.map_nil]); first | done | rfl | (simp only [List.length_drop, List.length_take]; rfl)) ?_; (with_reducible refine (ebbtideref05_Check.calls k a0_0 a0_1 _ _ l0_2 t130 _ ?side1 ?side2 A5.out).mono ?_); (case side1 => repeat (first | exact (Kd.C_below HR0_2.out HB.out) | (with_reducible refine Kd.C_alloc ?_ _) | (with_reducible refine Kd.C_drewN ?_ _) | (with_reducible refine Kd.C_drew ?_))); (case side2 => exact HC0_2.out); rintro e w15 ⟨rfl, hb⟩; refine ⟨_, rfl, ?_⟩; have n0_ := Aside0.mk (blk_below (g := gb129) (o := .cells #[.int .i64 a0_0, .bool a0_1, .slice A0_2 l0_2.length c0_2] 32 (0, 0)) (by (with_reducible repeat (first | refine blk_drewN ?_ _ | refine blk_drew ?_ | refine blk_alloc ?_ _)); exact BK129.out) hb); have n1_ := Aside0.mk (below_step (by repeat (first | (with_reducible first | exact HB.out | apply below_alloc | apply pw_below_drewN | apply below_drew1 | refine below_set ?_ GE129.out) | exact HB.out)) hb); clear BK129; clear HB; have BK129 := n0_; have HB := n1_; clear n0_ n1_; (try clear hb); (try clear hb2); (try clear hk); (try clear hi); have hcz16_0 : w15.cell? ⟨gb129, 0, none⟩ = some (.int .i64 a0_0) := (blk_cell BK129.out 0).trans rfl; have hcz16_1 : w15.cell? ⟨gb129, 1, none⟩ = some (.bool a0_1) := (blk_cell BK129.out 1).trans rfl; have hcz16_2 : w15.cell? ⟨gb129, 2, none⟩ = some (.slice A0_2 l0_2.length c0_2) := (blk_cell BK129.out 2).trans rfl; have hfz16_0 := blk_frozen BK129.out 0; have hfz16_1 := blk_frozen BK129.out 1; have hfz16_2 := blk_frozen BK129.out 2) | ((with_reducible refine gate_callee (f := 65) rfl ?_); refine goesL_ (some 20) rfl rfl Try.func65 (by kernel_rfl) rfl #[.agg #[.int .i64 a0_0, .bool a0_1, .slice A0_2 l0_2.length c0_2], .slice A1 l1.length c1, .slice A2 l2.length c2] rfl (by (try simp only [List.map_toArray, List.map_cons, List.map_nil]); first | done | rfl | (simp only [List.length_drop, List.length_take]; rfl)) ?_; (with_reducible refine (ebbtideref21_Groups.calls k a0_0 a0_1 _ _ l0_2 _ _ l1 _ _ l2 t131 _ ?side1 ?side2 ?side3 ?side4 ?side5 ?side6 A7.out).mono ?_); (case side1 => repeat (first | exact (Kd.C_below HR0_2.out HB.out) | (with_reducible refine Kd.C_alloc ?_ _) | (with_reducible refine Kd.C_drewN ?_ _) | (with_reducible refine Kd.C_drew ?_))); (case side2 => exact HC0_2.out); (case side3 => repeat (first | exact (Kd.C_below HR1.out HB.out) | (with_reducible refine Kd.C_alloc ?_ _) | (with_reducible refine Kd.C_drewN ?_ _) | (with_reducible refine Kd.C_drew ?_))); (case side4 => exact HC1.out); (case side5 => repeat (first | exact (Kd.C_below HR2.out HB.out) | (with_reducible refine Kd.C_alloc ?_ _) | (with_reducible refine Kd.C_drewN ?_ _) | (with_reducible refine Kd.C_drew ?_))); (case side6 => exact HC2.out); rintro e w17 ⟨rfl, hb⟩; refine ⟨_, rfl, ?_⟩; have n0_ := Aside0.mk (blk_below (g := gb129) (o := .cells #[.int .i64 a0_0, .bool a0_1, .slice A0_2 l0_2.length c0_2] 32 (0, 0)) (by (with_reducible repeat (first | refine blk_drewN ?_ _ | refine blk_drew ?_ | refine blk_alloc ?_ _)); exact BK129.out) hb); have n1_ := Aside0.mk (below_step (by repeat (first | (with_reducible first | exact HB.out | apply below_alloc | apply pw_below_drewN | apply below_drew1 | refine below_set ?_ GE129.out) | exact HB.out)) hb); clear BK129; clear HB; have BK129 := n0_; have HB := n1_; clear n0_ n1_; (try clear hb); (try clear hb2); (try clear hk); (try clear hi)) | ((with_reducible refine gate_callee (f := 66) rfl ?_); refine goesL_ (some 25) rfl rfl Try.func66 (by kernel_rfl) rfl #[.int .i64 a3] rfl (by (try simp only [List.map_toArray, List.map_cons, List.map_nil]); first | done | rfl | (simp only [List.length_drop, List.length_take]; rfl)) ?_; (with_reducible refine (ebbtideref12_Span.calls a3 t132 _ A9.out).mono ?_); rintro e w' ⟨rfl, ⟨nd, rfl⟩⟩; refine ⟨_, rfl, ?_⟩; have hcz18_0 : w17.cell? ⟨gb129, 0, none⟩ = some (.int .i64 a0_0) := (blk_cell BK129.out 0).trans rfl; have hcz18_1 : w17.cell? ⟨gb129, 1, none⟩ = some (.bool a0_1) := (blk_cell BK129.out 1).trans rfl; have hcz18_2 : w17.cell? ⟨gb129, 2, none⟩ = some (.slice A0_2 l0_2.length c0_2) := (blk_cell BK129.out 2).trans rfl; have hfz18_0 := blk_frozen BK129.out 0; have hfz18_1 := blk_frozen BK129.out 1; have hfz18_2 := blk_frozen BK129.out 2) | ((with_reducible refine gate_callee (f := 67) rfl ?_); refine goesL_ (some 31) rfl rfl Try.func67 (by kernel_rfl) rfl #[.agg #[.int .i64 a0_0, .bool a0_1, .slice A0_2 l0_2.length c0_2], .int .i64 a3] rfl (by (try simp only [List.map_toArray, List.map_cons, List.map_nil]); first | done | rfl | (simp only [List.length_drop, List.length_take]; rfl)) ?_; (with_reducible refine (ebbtideref15_Fits.calls k a0_0 a0_1 _ _ l0_2 a3 true _ ?side1 ?side2 A11.out).mono ?_); (case side1 => repeat (first | exact (Kd.C_below HR0_2.out (by repeat (first | (with_reducible first | exact HB.out | apply below_alloc | apply pw_below_drewN | apply below_drew1 | refine below_set ?_ GE129.out) | exact HB.out))) | (with_reducible refine Kd.C_alloc ?_ _) | (with_reducible refine Kd.C_drewN ?_ _) | (with_reducible refine Kd.C_drew ?_))); (case side2 => exact HC0_2.out); rintro e w19 ⟨rfl, hb⟩; refine ⟨_, rfl, ?_⟩; have n0_ := Aside0.mk (blk_below (g := gb129) (o := .cells #[.int .i64 a0_0, .bool a0_1, .slice A0_2 l0_2.length c0_2] 32 (0, 0)) (by (with_reducible repeat (first | refine blk_drewN ?_ _ | refine blk_drew ?_ | refine blk_alloc ?_ _)); exact BK129.out) hb); have n1_ := Aside0.mk (below_step (by repeat (first | (with_reducible first | exact HB.out | apply below_alloc | apply pw_below_drewN | apply below_drew1 | refine below_set ?_ GE129.out) | exact HB.out)) hb); clear BK129; clear HB; have BK129 := n0_; have HB := n1_; clear n0_ n1_; (try clear hb); (try clear hb2); (try clear hk); (try clear hi)))
     go_ret
     exact ⟨by first | rfl | (simp [errW_none, errW_some] <;> rfl) | (simp [*, errW_none, errW_some] <;> rfl), by repeat (first | (with_reducible first | exact HB.out | apply below_alloc | apply pw_below_drewN | apply below_drew1 | refine below_set ?_ GE129.out) | exact HB.out)⟩
    ·replace c12 := Bool.eq_false_iff.mpr c12
     subst c12
     have H1 : (some 2) = some r := by rw [if_neg (show ¬ (false = true) by decide)] at H; exact H
     clear H
     have H := H1
     clear H1
     obtain rfl := Option.some.inj H
     go_enter Try.func33, Try.ntmps33
     go_wp2_with (first | ((with_reducible refine gate_dst (N := 4) rfl ?_); refine box_event ?hg (N := 4) ?hd (cs := #[.int .i64 a0_0, .bool a0_1, .slice A0_2 l0_2.length c0_2]) (t := 32) ?hr ?_; (case hd => rfl); (case hg => rfl); (case hr => first | (go_simp; done) | (go_simp; rfl)); intro gb129 hg w20 hbox hb; have n0_ := Aside0.mk (below_step (by repeat (first | (with_reducible first | exact HB.out | apply below_alloc | apply pw_below_drewN | apply below_drew1) | exact HB.out)) hb); have n1_ := Aside0.mk (hbox); have n2_ := Aside0.mk ((by rw [hg]; exact (below_size (by repeat (first | (with_reducible first | exact HB.out | apply below_alloc | apply pw_below_drewN | apply below_drew1) | exact HB.out))) : w.heap.size ≤ gb129)); have n3_ := Aside0.mk ((by rw [hg]; exact (below_size (by repeat (first | (with_reducible first | exact HB.out | apply below_alloc | apply pw_below_drewN | apply below_drew1) | exact HB.out))) : w.heap.size ≤ gb129)); clear HB; have HB := n0_; have BK129 := n1_; have GW129 := n2_; have GE129 := n3_; clear n0_ n1_ n2_ n3_; clear hb hbox hg; have hcz21_0 : w20.cell? ⟨gb129, 0, none⟩ = some (.int .i64 a0_0) := (blk_cell BK129.out 0).trans rfl; have hcz21_1 : w20.cell? ⟨gb129, 1, none⟩ = some (.bool a0_1) := (blk_cell BK129.out 1).trans rfl; have hcz21_2 : w20.cell? ⟨gb129, 2, none⟩ = some (.slice A0_2 l0_2.length c0_2) := (blk_cell BK129.out 2).trans rfl; have hfz21_0 := blk_frozen BK129.out 0; have hfz21_1 := blk_frozen BK129.out 1; have hfz21_2 := blk_frozen BK129.out 2) | ((with_reducible refine gate_callee (f := 64) rfl ?_); refine goesL_ (some 13) rfl rfl Try.func64 (by kernel_rfl) rfl #[.agg #[.int .i64 a0_0, .bool a0_1, .slice A0_2 l0_2.length c0_2]] rfl (by (try simp only [List.map_toArray, List.map_cons, List.map_nil]); first | done | rfl | (simp only [List.length_drop, List.length_take]; rfl)) ?_; (with_reducible refine (ebbtideref05_Check.calls k a0_0 a0_1 _ _ l0_2 t130 _ ?side1 ?side2 A5.out).mono ?_); (case side1 => repeat (first | exact (Kd.C_below HR0_2.out HB.out) | (with_reducible refine Kd.C_alloc ?_ _) | (with_reducible refine Kd.C_drewN ?_ _) | (with_reducible refine Kd.C_drew ?_))); (case side2 => exact HC0_2.out); rintro e w22 ⟨rfl, hb⟩; refine ⟨_, rfl, ?_⟩; have n0_ := Aside0.mk (blk_below (g := gb129) (o := .cells #[.int .i64 a0_0, .bool a0_1, .slice A0_2 l0_2.length c0_2] 32 (0, 0)) (by (with_reducible repeat (first | refine blk_drewN ?_ _ | refine blk_drew ?_ | refine blk_alloc ?_ _)); exact BK129.out) hb); have n1_ := Aside0.mk (below_step (by repeat (first | (with_reducible first | exact HB.out | apply below_alloc | apply pw_below_drewN | apply below_drew1 | refine below_set ?_ GE129.out) | exact HB.out)) hb); clear BK129; clear HB; have BK129 := n0_; have HB := n1_; clear n0_ n1_; (try clear hb); (try clear hb2); (try clear hk); (try clear hi); have hcz23_0 : w22.cell? ⟨gb129, 0, none⟩ = some (.int .i64 a0_0) := (blk_cell BK129.out 0).trans rfl; have hcz23_1 : w22.cell? ⟨gb129, 1, none⟩ = some (.bool a0_1) := (blk_cell BK129.out 1).trans rfl; have hcz23_2 : w22.cell? ⟨gb129, 2, none⟩ = some (.slice A0_2 l0_2.length c0_2) := (blk_cell BK129.out 2).trans rfl; have hfz23_0 := blk_frozen BK129.out 0; have hfz23_1 := blk_frozen BK129.out 1; have hfz23_2 := blk_frozen BK129.out 2) | ((with_reducible refine gate_callee (f := 65) rfl ?_); refine goesL_ (some 20) rfl rfl Try.func65 (by kernel_rfl) rfl #[.agg #[.int .i64 a0_0, .bool a0_1, .slice A0_2 l0_2.length c0_2], .slice A1 l1.length c1, .slice A2 l2.length c2] rfl (by (try simp only [List.map_toArray, List.map_cons, List.map_nil]); first | done | rfl | (simp only [List.length_drop, List.length_take]; rfl)) ?_; (with_reducible refine (ebbtideref21_Groups.calls k a0_0 a0_1 _ _ l0_2 _ _ l1 _ _ l2 t131 _ ?side1 ?side2 ?side3 ?side4 ?side5 ?side6 A7.out).mono ?_); (case side1 => repeat (first | exact (Kd.C_below HR0_2.out HB.out) | (with_reducible refine Kd.C_alloc ?_ _) | (with_reducible refine Kd.C_drewN ?_ _) | (with_reducible refine Kd.C_drew ?_))); (case side2 => exact HC0_2.out); (case side3 => repeat (first | exact (Kd.C_below HR1.out HB.out) | (with_reducible refine Kd.C_alloc ?_ _) | (with_reducible refine Kd.C_drewN ?_ _) | (with_reducible refine Kd.C_drew ?_))); (case side4 => exact HC1.out); (case side5 => repeat (first | exact (Kd.C_below HR2.out HB.out) | (with_reducible refine Kd.C_alloc ?_ _) | (with_reducible refine Kd.C_drewN ?_ _) | (with_reducible refine Kd.C_drew ?_))); (case side6 => exact HC2.out); rintro e w24 ⟨rfl, hb⟩; refine ⟨_, rfl, ?_⟩; have n0_ := Aside0.mk (blk_below (g := gb129) (o := .cells #[.int .i64 a0_0, .bool a0_1, .slice A0_2 l0_2.length c0_2] 32 (0, 0)) (by (with_reducible repeat (first | refine blk_drewN ?_ _ | refine blk_drew ?_ | refine blk_alloc ?_ _)); exact BK129.out) hb); have n1_ := Aside0.mk (below_step (by repeat (first | (with_reducible first | exact HB.out | apply below_alloc | apply pw_below_drewN | apply below_drew1 | refine below_set ?_ GE129.out) | exact HB.out)) hb); clear BK129; clear HB; have BK129 := n0_; have HB := n1_; clear n0_ n1_; (try clear hb); (try clear hb2); (try clear hk); (try clear hi)) | ((with_reducible refine gate_callee (f := 66) rfl ?_); refine goesL_ (some 25) rfl rfl Try.func66 (by kernel_rfl) rfl #[.int .i64 a3] rfl (by (try simp only [List.map_toArray, List.map_cons, List.map_nil]); first | done | rfl | (simp only [List.length_drop, List.length_take]; rfl)) ?_; (with_reducible refine (ebbtideref12_Span.calls a3 t132 _ A9.out).mono ?_); rintro e w' ⟨rfl, ⟨nd, rfl⟩⟩; refine ⟨_, rfl, ?_⟩; have hcz25_0 : w24.cell? ⟨gb129, 0, none⟩ = some (.int .i64 a0_0) := (blk_cell BK129.out 0).trans rfl; have hcz25_1 : w24.cell? ⟨gb129, 1, none⟩ = some (.bool a0_1) := (blk_cell BK129.out 1).trans rfl; have hcz25_2 : w24.cell? ⟨gb129, 2, none⟩ = some (.slice A0_2 l0_2.length c0_2) := (blk_cell BK129.out 2).trans rfl; have hfz25_0 := blk_frozen BK129.out 0; have hfz25_1 := blk_frozen BK129.out 1; have hfz25_2 := blk_frozen BK129.out 2) | ((with_reducible refine gate_callee (f := 67) rfl ?_); refine goesL_ (some 31) rfl rfl Try.func67 (by kernel_rfl) rfl #[.agg #[.int .i64 a0_0, .bool a0_1, .slice A0_2 l0_2.length c0_2], .int .i64 a3] rfl (by (try simp only [List.map_toArray, List.map_cons, List.map_nil]); first | done | rfl | (simp only [List.length_drop, List.length_take]; rfl)) ?_; (with_reducible refine (ebbtideref15_Fits.calls k a0_0 a0_1 _ _ l0_2 a3 false _ ?side1 ?side2 A11.out).mono ?_); (case side1 => repeat (first | exact (Kd.C_below HR0_2.out (by repeat (first | (with_reducible first | exact HB.out | apply below_alloc | apply pw_below_drewN | apply below_drew1 | refine below_set ?_ GE129.out) | exact HB.out))) | (with_reducible refine Kd.C_alloc ?_ _) | (with_reducible refine Kd.C_drewN ?_ _) | (with_reducible refine Kd.C_drew ?_))); (case side2 => exact HC0_2.out); rintro e w26 ⟨rfl, hb⟩; refine ⟨_, rfl, ?_⟩; have n0_ := Aside0.mk (blk_below (g := gb129) (o := .cells #[.int .i64 a0_0, .bool a0_1, .slice A0_2 l0_2.length c0_2] 32 (0, 0)) (by (with_reducible repeat (first | refine blk_drewN ?_ _ | refine blk_drew ?_ | refine blk_alloc ?_ _)); exact BK129.out) hb); have n1_ := Aside0.mk (below_step (by repeat (first | (with_reducible first | exact HB.out | apply below_alloc | apply pw_below_drewN | apply below_drew1 | refine below_set ?_ GE129.out) | exact HB.out)) hb); clear BK129; clear HB; have BK129 := n0_; have HB := n1_; clear n0_ n1_; (try clear hb); (try clear hb2); (try clear hk); (try clear hi)))
     go_ret
     exact ⟨by first | rfl | (simp [errW_none, errW_some] <;> rfl) | (simp [*, errW_none, errW_some] <;> rfl), by repeat (first | (with_reducible first | exact HB.out | apply below_alloc | apply pw_below_drewN | apply below_drew1 | refine below_set ?_ GE129.out) | exact HB.out)⟩
   ·rw [if_neg c10] at H
    have c10b0 : (t132 == 0) = false := beq_eq_false_iff_ne.mpr c10
    have c10b1 : (t132 != 0) = true := bne_iff_ne.mpr c10
    obtain rfl := Option.some.inj H
    go_enter Try.func33, Try.ntmps33
    go_wp2_with (first | ((with_reducible refine gate_dst (N := 4) rfl ?_); refine box_event ?hg (N := 4) ?hd (cs := #[.int .i64 a0_0, .bool a0_1, .slice A0_2 l0_2.length c0_2]) (t := 32) ?hr ?_; (case hd => rfl); (case hg => rfl); (case hr => first | (go_simp; done) | (go_simp; rfl)); intro gb129 hg w27 hbox hb; have n0_ := Aside0.mk (below_step (by repeat (first | (with_reducible first | exact HB.out | apply below_alloc | apply pw_below_drewN | apply below_drew1) | exact HB.out)) hb); have n1_ := Aside0.mk (hbox); have n2_ := Aside0.mk ((by rw [hg]; exact (below_size (by repeat (first | (with_reducible first | exact HB.out | apply below_alloc | apply pw_below_drewN | apply below_drew1) | exact HB.out))) : w.heap.size ≤ gb129)); have n3_ := Aside0.mk ((by rw [hg]; exact (below_size (by repeat (first | (with_reducible first | exact HB.out | apply below_alloc | apply pw_below_drewN | apply below_drew1) | exact HB.out))) : w.heap.size ≤ gb129)); clear HB; have HB := n0_; have BK129 := n1_; have GW129 := n2_; have GE129 := n3_; clear n0_ n1_ n2_ n3_; clear hb hbox hg; have hcz28_0 : w27.cell? ⟨gb129, 0, none⟩ = some (.int .i64 a0_0) := (blk_cell BK129.out 0).trans rfl; have hcz28_1 : w27.cell? ⟨gb129, 1, none⟩ = some (.bool a0_1) := (blk_cell BK129.out 1).trans rfl; have hcz28_2 : w27.cell? ⟨gb129, 2, none⟩ = some (.slice A0_2 l0_2.length c0_2) := (blk_cell BK129.out 2).trans rfl; have hfz28_0 := blk_frozen BK129.out 0; have hfz28_1 := blk_frozen BK129.out 1; have hfz28_2 := blk_frozen BK129.out 2) | ((with_reducible refine gate_callee (f := 64) rfl ?_); refine goesL_ (some 13) rfl rfl Try.func64 (by kernel_rfl) rfl #[.agg #[.int .i64 a0_0, .bool a0_1, .slice A0_2 l0_2.length c0_2]] rfl (by (try simp only [List.map_toArray, List.map_cons, List.map_nil]); first | done | rfl | (simp only [List.length_drop, List.length_take]; rfl)) ?_; (with_reducible refine (ebbtideref05_Check.calls k a0_0 a0_1 _ _ l0_2 t130 _ ?side1 ?side2 A5.out).mono ?_); (case side1 => repeat (first | exact (Kd.C_below HR0_2.out HB.out) | (with_reducible refine Kd.C_alloc ?_ _) | (with_reducible refine Kd.C_drewN ?_ _) | (with_reducible refine Kd.C_drew ?_))); (case side2 => exact HC0_2.out); rintro e w29 ⟨rfl, hb⟩; refine ⟨_, rfl, ?_⟩; have n0_ := Aside0.mk (blk_below (g := gb129) (o := .cells #[.int .i64 a0_0, .bool a0_1, .slice A0_2 l0_2.length c0_2] 32 (0, 0)) (by (with_reducible repeat (first | refine blk_drewN ?_ _ | refine blk_drew ?_ | refine blk_alloc ?_ _)); exact BK129.out) hb); have n1_ := Aside0.mk (below_step (by repeat (first | (with_reducible first | exact HB.out | apply below_alloc | apply pw_below_drewN | apply below_drew1 | refine below_set ?_ GE129.out) | exact HB.out)) hb); clear BK129; clear HB; have BK129 := n0_; have HB := n1_; clear n0_ n1_; (try clear hb); (try clear hb2); (try clear hk); (try clear hi); have hcz30_0 : w29.cell? ⟨gb129, 0, none⟩ = some (.int .i64 a0_0) := (blk_cell BK129.out 0).trans rfl; have hcz30_1 : w29.cell? ⟨gb129, 1, none⟩ = some (.bool a0_1) := (blk_cell BK129.out 1).trans rfl; have hcz30_2 : w29.cell? ⟨gb129, 2, none⟩ = some (.slice A0_2 l0_2.length c0_2) := (blk_cell BK129.out 2).trans rfl; have hfz30_0 := blk_frozen BK129.out 0; have hfz30_1 := blk_frozen BK129.out 1; have hfz30_2 := blk_frozen BK129.out 2) | ((with_reducible refine gate_callee (f := 65) rfl ?_); refine goesL_ (some 20) rfl rfl Try.func65 (by kernel_rfl) rfl #[.agg #[.int .i64 a0_0, .bool a0_1, .slice A0_2 l0_2.length c0_2], .slice A1 l1.length c1, .slice A2 l2.length c2] rfl (by (try simp only [List.map_toArray, List.map_cons, List.map_nil]); first | done | rfl | (simp only [List.length_drop, List.length_take]; rfl)) ?_; (with_reducible refine (ebbtideref21_Groups.calls k a0_0 a0_1 _ _ l0_2 _ _ l1 _ _ l2 t131 _ ?side1 ?side2 ?side3 ?side4 ?side5 ?side6 A7.out).mono ?_); (case side1 => repeat (first | exact (Kd.C_below HR0_2.out HB.out) | (with_reducible refine Kd.C_alloc ?_ _) | (with_reducible refine Kd.C_drewN ?_ _) | (with_reducible refine Kd.C_drew ?_))); (case side2 => exact HC0_2.out); (case side3 => repeat (first | exact (Kd.C_below HR1.out HB.out) | (with_reducible refine Kd.C_alloc ?_ _) | (with_reducible refine Kd.C_drewN ?_ _) | (with_reducible refine Kd.C_drew ?_))); (case side4 => exact HC1.out); (case side5 => repeat (first | exact (Kd.C_below HR2.out HB.out) | (with_reducible refine Kd.C_alloc ?_ _) | (with_reducible refine Kd.C_drewN ?_ _) | (with_reducible refine Kd.C_drew ?_))); (case side6 => exact HC2.out); rintro e w31 ⟨rfl, hb⟩; refine ⟨_, rfl, ?_⟩; have n0_ := Aside0.mk (blk_below (g := gb129) (o := .cells #[.int .i64 a0_0, .bool a0_1, .slice A0_2 l0_2.length c0_2] 32 (0, 0)) (by (with_reducible repeat (first | refine blk_drewN ?_ _ | refine blk_drew ?_ | refine blk_alloc ?_ _)); exact BK129.out) hb); have n1_ := Aside0.mk (below_step (by repeat (first | (with_reducible first | exact HB.out | apply below_alloc | apply pw_below_drewN | apply below_drew1 | refine below_set ?_ GE129.out) | exact HB.out)) hb); clear BK129; clear HB; have BK129 := n0_; have HB := n1_; clear n0_ n1_; (try clear hb); (try clear hb2); (try clear hk); (try clear hi)) | ((with_reducible refine gate_callee (f := 66) rfl ?_); refine goesL_ (some 25) rfl rfl Try.func66 (by kernel_rfl) rfl #[.int .i64 a3] rfl (by (try simp only [List.map_toArray, List.map_cons, List.map_nil]); first | done | rfl | (simp only [List.length_drop, List.length_take]; rfl)) ?_; (with_reducible refine (ebbtideref12_Span.calls a3 t132 _ A9.out).mono ?_); rintro e w' ⟨rfl, ⟨nd, rfl⟩⟩; refine ⟨_, rfl, ?_⟩))
    go_ret
    exact ⟨by first | rfl | (simp [errW_none, errW_some] <;> rfl) | (simp [*, errW_none, errW_some] <;> rfl), by repeat (first | (with_reducible first | exact HB.out | apply below_alloc | apply pw_below_drewN | apply below_drew1 | refine below_set ?_ GE129.out) | exact HB.out)⟩
  ·rw [if_neg c8] at H
   have c8b0 : (t131 == 0) = false := beq_eq_false_iff_ne.mpr c8
   have c8b1 : (t131 != 0) = true := bne_iff_ne.mpr c8
   obtain rfl := Option.some.inj H
   go_enter Try.func33, Try.ntmps33
   go_wp2_with (first | ((with_reducible refine gate_dst (N := 4) rfl ?_); refine box_event ?hg (N := 4) ?hd (cs := #[.int .i64 a0_0, .bool a0_1, .slice A0_2 l0_2.length c0_2]) (t := 32) ?hr ?_; (case hd => rfl); (case hg => rfl); (case hr => first | (go_simp; done) | (go_simp; rfl)); intro gb129 hg w32 hbox hb; have n0_ := Aside0.mk (below_step (by repeat (first | (with_reducible first | exact HB.out | apply below_alloc | apply pw_below_drewN | apply below_drew1) | exact HB.out)) hb); have n1_ := Aside0.mk (hbox); have n2_ := Aside0.mk ((by rw [hg]; exact (below_size (by repeat (first | (with_reducible first | exact HB.out | apply below_alloc | apply pw_below_drewN | apply below_drew1) | exact HB.out))) : w.heap.size ≤ gb129)); have n3_ := Aside0.mk ((by rw [hg]; exact (below_size (by repeat (first | (with_reducible first | exact HB.out | apply below_alloc | apply pw_below_drewN | apply below_drew1) | exact HB.out))) : w.heap.size ≤ gb129)); clear HB; have HB := n0_; have BK129 := n1_; have GW129 := n2_; have GE129 := n3_; clear n0_ n1_ n2_ n3_; clear hb hbox hg; have hcz33_0 : w32.cell? ⟨gb129, 0, none⟩ = some (.int .i64 a0_0) := (blk_cell BK129.out 0).trans rfl; have hcz33_1 : w32.cell? ⟨gb129, 1, none⟩ = some (.bool a0_1) := (blk_cell BK129.out 1).trans rfl; have hcz33_2 : w32.cell? ⟨gb129, 2, none⟩ = some (.slice A0_2 l0_2.length c0_2) := (blk_cell BK129.out 2).trans rfl; have hfz33_0 := blk_frozen BK129.out 0; have hfz33_1 := blk_frozen BK129.out 1; have hfz33_2 := blk_frozen BK129.out 2) | ((with_reducible refine gate_callee (f := 64) rfl ?_); refine goesL_ (some 13) rfl rfl Try.func64 (by kernel_rfl) rfl #[.agg #[.int .i64 a0_0, .bool a0_1, .slice A0_2 l0_2.length c0_2]] rfl (by (try simp only [List.map_toArray, List.map_cons, List.map_nil]); first | done | rfl | (simp only [List.length_drop, List.length_take]; rfl)) ?_; (with_reducible refine (ebbtideref05_Check.calls k a0_0 a0_1 _ _ l0_2 t130 _ ?side1 ?side2 A5.out).mono ?_); (case side1 => repeat (first | exact (Kd.C_below HR0_2.out HB.out) | (with_reducible refine Kd.C_alloc ?_ _) | (with_reducible refine Kd.C_drewN ?_ _) | (with_reducible refine Kd.C_drew ?_))); (case side2 => exact HC0_2.out); rintro e w34 ⟨rfl, hb⟩; refine ⟨_, rfl, ?_⟩; have n0_ := Aside0.mk (blk_below (g := gb129) (o := .cells #[.int .i64 a0_0, .bool a0_1, .slice A0_2 l0_2.length c0_2] 32 (0, 0)) (by (with_reducible repeat (first | refine blk_drewN ?_ _ | refine blk_drew ?_ | refine blk_alloc ?_ _)); exact BK129.out) hb); have n1_ := Aside0.mk (below_step (by repeat (first | (with_reducible first | exact HB.out | apply below_alloc | apply pw_below_drewN | apply below_drew1 | refine below_set ?_ GE129.out) | exact HB.out)) hb); clear BK129; clear HB; have BK129 := n0_; have HB := n1_; clear n0_ n1_; (try clear hb); (try clear hb2); (try clear hk); (try clear hi); have hcz35_0 : w34.cell? ⟨gb129, 0, none⟩ = some (.int .i64 a0_0) := (blk_cell BK129.out 0).trans rfl; have hcz35_1 : w34.cell? ⟨gb129, 1, none⟩ = some (.bool a0_1) := (blk_cell BK129.out 1).trans rfl; have hcz35_2 : w34.cell? ⟨gb129, 2, none⟩ = some (.slice A0_2 l0_2.length c0_2) := (blk_cell BK129.out 2).trans rfl; have hfz35_0 := blk_frozen BK129.out 0; have hfz35_1 := blk_frozen BK129.out 1; have hfz35_2 := blk_frozen BK129.out 2) | ((with_reducible refine gate_callee (f := 65) rfl ?_); refine goesL_ (some 20) rfl rfl Try.func65 (by kernel_rfl) rfl #[.agg #[.int .i64 a0_0, .bool a0_1, .slice A0_2 l0_2.length c0_2], .slice A1 l1.length c1, .slice A2 l2.length c2] rfl (by (try simp only [List.map_toArray, List.map_cons, List.map_nil]); first | done | rfl | (simp only [List.length_drop, List.length_take]; rfl)) ?_; (with_reducible refine (ebbtideref21_Groups.calls k a0_0 a0_1 _ _ l0_2 _ _ l1 _ _ l2 t131 _ ?side1 ?side2 ?side3 ?side4 ?side5 ?side6 A7.out).mono ?_); (case side1 => repeat (first | exact (Kd.C_below HR0_2.out HB.out) | (with_reducible refine Kd.C_alloc ?_ _) | (with_reducible refine Kd.C_drewN ?_ _) | (with_reducible refine Kd.C_drew ?_))); (case side2 => exact HC0_2.out); (case side3 => repeat (first | exact (Kd.C_below HR1.out HB.out) | (with_reducible refine Kd.C_alloc ?_ _) | (with_reducible refine Kd.C_drewN ?_ _) | (with_reducible refine Kd.C_drew ?_))); (case side4 => exact HC1.out); (case side5 => repeat (first | exact (Kd.C_below HR2.out HB.out) | (with_reducible refine Kd.C_alloc ?_ _) | (with_reducible refine Kd.C_drewN ?_ _) | (with_reducible refine Kd.C_drew ?_))); (case side6 => exact HC2.out); rintro e w36 ⟨rfl, hb⟩; refine ⟨_, rfl, ?_⟩; have n0_ := Aside0.mk (blk_below (g := gb129) (o := .cells #[.int .i64 a0_0, .bool a0_1, .slice A0_2 l0_2.length c0_2] 32 (0, 0)) (by (with_reducible repeat (first | refine blk_drewN ?_ _ | refine blk_drew ?_ | refine blk_alloc ?_ _)); exact BK129.out) hb); have n1_ := Aside0.mk (below_step (by repeat (first | (with_reducible first | exact HB.out | apply below_alloc | apply pw_below_drewN | apply below_drew1 | refine below_set ?_ GE129.out) | exact HB.out)) hb); clear BK129; clear HB; have BK129 := n0_; have HB := n1_; clear n0_ n1_; (try clear hb); (try clear hb2); (try clear hk); (try clear hi)))
   go_ret
   exact ⟨by first | rfl | (simp [errW_none, errW_some] <;> rfl) | (simp [*, errW_none, errW_some] <;> rfl), by repeat (first | (with_reducible first | exact HB.out | apply below_alloc | apply pw_below_drewN | apply below_drew1 | refine below_set ?_ GE129.out) | exact HB.out)⟩
 ·rw [if_neg c6] at H
  have c6b0 : (t130 == 0) = false := beq_eq_false_iff_ne.mpr c6
  have c6b1 : (t130 != 0) = true := bne_iff_ne.mpr c6
  obtain rfl := Option.some.inj H
  go_enter Try.func33, Try.ntmps33
  go_wp2_with (first | ((with_reducible refine gate_dst (N := 4) rfl ?_); refine box_event ?hg (N := 4) ?hd (cs := #[.int .i64 a0_0, .bool a0_1, .slice A0_2 l0_2.length c0_2]) (t := 32) ?hr ?_; (case hd => rfl); (case hg => rfl); (case hr => first | (go_simp; done) | (go_simp; rfl)); intro gb129 hg w37 hbox hb; have n0_ := Aside0.mk (below_step (by repeat (first | (with_reducible first | exact HB.out | apply below_alloc | apply pw_below_drewN | apply below_drew1) | exact HB.out)) hb); have n1_ := Aside0.mk (hbox); have n2_ := Aside0.mk ((by rw [hg]; exact (below_size (by repeat (first | (with_reducible first | exact HB.out | apply below_alloc | apply pw_below_drewN | apply below_drew1) | exact HB.out))) : w.heap.size ≤ gb129)); have n3_ := Aside0.mk ((by rw [hg]; exact (below_size (by repeat (first | (with_reducible first | exact HB.out | apply below_alloc | apply pw_below_drewN | apply below_drew1) | exact HB.out))) : w.heap.size ≤ gb129)); clear HB; have HB := n0_; have BK129 := n1_; have GW129 := n2_; have GE129 := n3_; clear n0_ n1_ n2_ n3_; clear hb hbox hg; have hcz38_0 : w37.cell? ⟨gb129, 0, none⟩ = some (.int .i64 a0_0) := (blk_cell BK129.out 0).trans rfl; have hcz38_1 : w37.cell? ⟨gb129, 1, none⟩ = some (.bool a0_1) := (blk_cell BK129.out 1).trans rfl; have hcz38_2 : w37.cell? ⟨gb129, 2, none⟩ = some (.slice A0_2 l0_2.length c0_2) := (blk_cell BK129.out 2).trans rfl; have hfz38_0 := blk_frozen BK129.out 0; have hfz38_1 := blk_frozen BK129.out 1; have hfz38_2 := blk_frozen BK129.out 2) | ((with_reducible refine gate_callee (f := 64) rfl ?_); refine goesL_ (some 13) rfl rfl Try.func64 (by kernel_rfl) rfl #[.agg #[.int .i64 a0_0, .bool a0_1, .slice A0_2 l0_2.length c0_2]] rfl (by (try simp only [List.map_toArray, List.map_cons, List.map_nil]); first | done | rfl | (simp only [List.length_drop, List.length_take]; rfl)) ?_; (with_reducible refine (ebbtideref05_Check.calls k a0_0 a0_1 _ _ l0_2 t130 _ ?side1 ?side2 A5.out).mono ?_); (case side1 => repeat (first | exact (Kd.C_below HR0_2.out HB.out) | (with_reducible refine Kd.C_alloc ?_ _) | (with_reducible refine Kd.C_drewN ?_ _) | (with_reducible refine Kd.C_drew ?_))); (case side2 => exact HC0_2.out); rintro e w39 ⟨rfl, hb⟩; refine ⟨_, rfl, ?_⟩; have n0_ := Aside0.mk (blk_below (g := gb129) (o := .cells #[.int .i64 a0_0, .bool a0_1, .slice A0_2 l0_2.length c0_2] 32 (0, 0)) (by (with_reducible repeat (first | refine blk_drewN ?_ _ | refine blk_drew ?_ | refine blk_alloc ?_ _)); exact BK129.out) hb); have n1_ := Aside0.mk (below_step (by repeat (first | (with_reducible first | exact HB.out | apply below_alloc | apply pw_below_drewN | apply below_drew1 | refine below_set ?_ GE129.out) | exact HB.out)) hb); clear BK129; clear HB; have BK129 := n0_; have HB := n1_; clear n0_ n1_; (try clear hb); (try clear hb2); (try clear hk); (try clear hi)))
  go_ret
  exact ⟨by first | rfl | (simp [errW_none, errW_some] <;> rfl) | (simp [*, errW_none, errW_some] <;> rfl), by repeat (first | (with_reducible first | exact HB.out | apply below_alloc | apply pw_below_drewN | apply below_drew1 | refine below_set ?_ GE129.out) | exact HB.out)⟩
end Go.Proofs.Ytcgdloldkcmhnaa.PrintE
end
section

end
section
namespace Go.Proofs.Ytcgdloldkcmhnaa.H
open Go Go.RowKit Go.Proofs.Ytcgdloldkcmhnaa.PrintC Go.Proofs.Ytcgdloldkcmhnaa.PrintE Go.Proofs.YtcgdloldkcmhnaaW.PrintWords Go.Proofs.YtcgdloldkcmhnaaW.PrintLast Go.Proofs.YtcgdloldkcmhnaaW.PrintMore Go.Proofs.Ytcgdloldkcmhnaa.Flow
set_option linter.unusedVariables false
def arcV (n a b c d : Int) : Int := if a < 0 ∨ a ≥ n ∨ b < 0 ∨ b ≥ n ∨ c < 0 ∨ d < 0 then 51 else if c > 1048576 then 2 else if d > 1048576 then 2 else 0
theorem arc_p (k : Nat) (n a b c d : Int) : netfmt_arc.f (k + 1) n a b c d = some (arcV n a b c d) := by
 have jt : netfmt_arc.j0 (k + 1) true a b c d = some 51 := rfl
 have jf : netfmt_arc.j0 (k + 1) false a b c d = some (if c > 1048576 then 2 else if d > 1048576 then 2 else 0) := by
  simp only [netfmt_arc.j0]
  repeat' split
  all_goals first | rfl | contradiction
 unfold netfmt_arc.f arcV
 by_cases h1 : mn (mn (mn a b) c) d < 0
 ·rw [if_pos h1, jt, if_pos (by unfold mn at h1; omega)]
 ·rw [if_neg h1]
  by_cases h2 : mx a b ≥ n
  ·rw [decide_eq_true h2, jt, if_pos (by unfold mx at h2; omega)]
  ·rw [decide_eq_false h2, jf, if_neg (show ¬ (a < 0 ∨ a ≥ n ∨ b < 0 ∨ b ≥ n ∨ c < 0 ∨ d < 0) by unfold mn at h1; unfold mx at h2; omega)]
theorem arc_r (k : Nat) (n a b c d : Int) : ebbtideref05_Arc.f (k + 1) n a b c d = some (arcV n a b c d) := by
 have jt : ebbtideref05_Arc.j0 (k + 1) true a b c d = some 51 := rfl
 have jf : ebbtideref05_Arc.j0 (k + 1) false a b c d = some (if c > 1048576 then 2 else if d > 1048576 then 2 else 0) := by
  simp only [ebbtideref05_Arc.j0]
  repeat' split
  all_goals first | rfl | contradiction
 unfold ebbtideref05_Arc.f arcV
 by_cases h1 : a < 0
 ·rw [if_pos h1, jt, if_pos (.inl h1)]
 rw [if_neg h1]
 by_cases h2 : a ≥ n
 ·rw [if_pos h2, jt, if_pos (.inr (.inl h2))]
 rw [if_neg h2]
 by_cases h3 : b < 0
 ·rw [if_pos h3, jt, if_pos (.inr (.inr (.inl h3)))]
 rw [if_neg h3]
 by_cases h4 : b ≥ n
 ·rw [if_pos h4, jt, if_pos (.inr (.inr (.inr (.inl h4))))]
 rw [if_neg h4]
 by_cases h5 : c < 0
 ·rw [if_pos h5, jt, if_pos (.inr (.inr (.inr (.inr (.inl h5)))))]
 rw [if_neg h5]
 by_cases h6 : d < 0
 ·rw [decide_eq_true h6, jt, if_pos (.inr (.inr (.inr (.inr (.inr h6)))))]
 ·rw [decide_eq_false h6, jf, if_neg (show ¬ (a < 0 ∨ a ≥ n ∨ b < 0 ∨ b ≥ n ∨ c < 0 ∨ d < 0) by omega)]
def arcsV (n : Int) : List Arc → Int
 |[] => 0
 |x :: l => if arcV n x.f0 x.f1 x.f2 x.f3 = 0 then arcsV n l else arcV n x.f0 x.f1 x.f2 x.f3
theorem arcsV_cons (n : Int) (x : Arc) (l : List Arc) : arcsV n (x :: l) = if arcV n x.f0 x.f1 x.f2 x.f3 = 0 then arcsV n l else arcV n x.f0 x.f1 x.f2 x.f3 := rfl
theorem drop_rd {l : List Arc} {i : Nat} (h : i < l.length) : l.drop i = rd_T79 l (i : Int) :: l.drop (i + 1) := by
 rw [List.drop_eq_getElem_cons h]
 unfold rd_T79
 rw [Int.toNat_natCast, List.getD_eq_getElem?_getD, List.getElem?_eq_getElem h]
 rfl
theorem drop_rdG {l : List Grp} {i : Nat} (h : i < l.length) : l.drop i = rd_T44 l (i : Int) :: l.drop (i + 1) := by
 rw [List.drop_eq_getElem_cons h]
 unfold rd_T44
 rw [Int.toNat_natCast, List.getD_eq_getElem?_getD, List.getElem?_eq_getElem h]
 rfl
theorem w_nat (i : Nat) (h : i ≤ 1000000) : wrap64 ((i : Int) + 1) = ((i + 1 : Nat) : Int) := by
 unfold wrap64
 omega
theorem arcs_p {n : Int} {b : Bool} {l l2 : List Arc} (hl : l.length ≤ 200) : ∀ (d k i : Nat), i + d = l.length → d + 1 < k → netfmt_Check.l0 k l (l.length : Int) (i : Int) n b l2 = some (arcsV n (l.drop i))
 |0, k, i, hi, hk => by
  obtain ⟨k, rfl⟩ : ∃ m, k = m + 1 := ⟨k - 1, by omega⟩
  rw [netfmt_Check.l0, if_neg (by omega), List.drop_of_length_le (by omega)]
  rfl
 |d + 1, k, i, hi, hk => by
  obtain ⟨k, rfl⟩ : ∃ m, k = m + 1 + 1 := ⟨k - 2, by omega⟩
  rw [netfmt_Check.l0, if_pos (by omega), if_pos (by omega), if_pos (by omega), arc_p, Option.bind_some, w_nat i (by omega), arcs_p hl d (k + 1) (i + 1) (by omega) (by omega), drop_rd (i := i) (by omega), arcsV_cons]
  split <;> rfl
theorem arcs_r {n : Int} {b : Bool} {l : List Arc} (hl : l.length ≤ 200) : ∀ (d k i : Nat), i + d = l.length → d + 1 < k → ebbtideref05_Check.l0 k (i : Int) n b l = some (arcsV n (l.drop i))
 |0, k, i, hi, hk => by
  obtain ⟨k, rfl⟩ : ∃ m, k = m + 1 := ⟨k - 1, by omega⟩
  rw [ebbtideref05_Check.l0, if_neg (by omega), List.drop_of_length_le (by omega)]
  rfl
 |d + 1, k, i, hi, hk => by
  obtain ⟨k, rfl⟩ : ∃ m, k = m + 1 + 1 := ⟨k - 2, by omega⟩
  rw [ebbtideref05_Check.l0, if_pos (by omega), if_pos (by omega), arc_r, Option.bind_some, w_nat i (by omega), arcs_r hl d (k + 1) (i + 1) (by omega) (by omega), drop_rd (i := i) (by omega), arcsV_cons]
  split <;> rfl
def netV (n : Int) (l : List Arc) : Int := if n < 1 then 51 else if n > 50 then 2 else if (l.length : Int) > 200 then 2 else arcsV n l
theorem net_p {n : Int} {b : Bool} {l : List Arc} {k : Nat} (hk : 300 ≤ k) : netfmt_Check.f k n b l = some (netV n l) := by
 unfold netfmt_Check.f netfmt_nodes.f netV
 by_cases h1 : n < 1
 ·rw [if_pos h1, if_pos h1]; rfl
 rw [if_neg h1, if_neg h1]
 by_cases h2 : n > 50
 ·rw [if_pos h2, if_pos h2]; rfl
 rw [if_neg h2, if_neg h2, Option.bind_some, if_pos rfl]
 by_cases h3 : (l.length : Int) > 200
 ·rw [if_pos h3, if_pos h3]
 rw [if_neg h3, if_neg h3]
 exact arcs_p (by omega) l.length k 0 (by omega) (by omega)
theorem net_r {n : Int} {b : Bool} {l : List Arc} {k : Nat} (hk : 300 ≤ k) : ebbtideref05_Check.f k n b l = some (netV n l) := by
 unfold ebbtideref05_Check.f ebbtideref05_nodes.f netV
 by_cases h1 : n < 1
 ·rw [if_pos h1, if_pos h1]; rfl
 rw [if_neg h1, if_neg h1]
 by_cases h2 : n > 50
 ·rw [if_pos h2, if_pos h2]; rfl
 rw [if_neg h2, if_neg h2, Option.bind_some, if_pos rfl]
 by_cases h3 : (l.length : Int) > 200
 ·rw [if_pos h3, if_pos h3]
 rw [if_neg h3, if_neg h3]
 exact arcs_r (by omega) l.length k 0 (by omega) (by omega)
def grpV (n : Int) (A : List Grp) (g : Grp) : Int := if g.f0 < 0 ∨ n ≤ g.f0 ∨ g.f1 < 0 ∨ (A.any fun x => decide (x.f0 = g.f0)) = true then 210 else if 1048576 < g.f1 then 2 else 0
def grpsV (n : Int) : List Grp → List Grp → Int
 |_, [] => 0
 |A, g :: L => if grpV n A g = 0 then grpsV n (A ++ [g]) L else grpV n A g
theorem grpsV_append (n : Int) : ∀ (L M A : List Grp), grpsV n A (L ++ M) = if grpsV n A L = 0 then grpsV n (A ++ L) M else grpsV n A L
 |[], M, A => by
  show grpsV n A M = if (0 : Int) = 0 then grpsV n (A ++ []) M else 0
  rw [if_pos rfl, List.append_nil]
 |g :: L, M, A => by
  show (if grpV n A g = 0 then grpsV n (A ++ [g]) (L ++ M) else grpV n A g) = if (if grpV n A g = 0 then grpsV n (A ++ [g]) L else grpV n A g) = 0 then grpsV n (A ++ g :: L) M else if grpV n A g = 0 then grpsV n (A ++ [g]) L else grpV n A g
  by_cases h : grpV n A g = 0
  ·rw [if_pos h, if_pos h, grpsV_append n L M (A ++ [g]), List.append_assoc]
   rfl
  ·rw [if_neg h, if_neg h, if_neg h]
theorem th_is (n : Int) : ∀ (L A : List Grp), thF n (.map []) (putGs A) L = grpsV n A L
 |[], A => rfl
 |g :: L, A => by
  have e : takeC n (putGs A) (.map []) g = grpV n A g := by
   unfold takeC grpV
   rw [hasK_putGs, hasK_empty]
   simp
  show (if takeC n (putGs A) (.map []) g = 0 then thF n (.map []) (putG (putGs A) g) L else takeC n (putGs A) (.map []) g) = if grpV n A g = 0 then grpsV n (A ++ [g]) L else grpV n A g
  rw [e, ← putGs_snoc, th_is n L (A ++ [g])]
theorem tr_is (n : Int) (B : List Grp) : ∀ (L A : List Grp), trF n (putGs B) (putGs A) L = grpsV n (B ++ A) L
 |[], A => rfl
 |g :: L, A => by
  have e : takeC n (putGs B) (putGs A) g = grpV n (B ++ A) g := by
   unfold takeC grpV
   rw [hasK_putGs, hasK_putGs, List.any_append]
   simp only [Bool.or_eq_true]
  show (if takeC n (putGs B) (putGs A) g = 0 then trF n (putGs B) (putG (putGs A) g) L else takeC n (putGs B) (putGs A) g) = if grpV n (B ++ A) g = 0 then grpsV n (B ++ A ++ [g]) L else grpV n (B ++ A) g
  rw [e, ← putGs_snoc, tr_is n B L (A ++ [g]), List.append_assoc]
theorem groupsC_eq (n : Int) (p q : List Grp) : groupsC n p q = if p.length = 0 ∨ q.length = 0 then 210 else grpsV n [] (p ++ q) := by
 unfold groupsC
 split
 ·rfl
 ·rw [grpsV_append, show (DataW.map [] : DataW Unit) = putGs [] from rfl, show thF n (putGs []) (putGs []) p = grpsV n [] p from th_is n p [], tr_is n p q []]
  rw [List.nil_append, List.append_nil]
def ofV (v : Int) : List Grp → Int
 |[] => -1
 |g :: l => if g.f0 = v then g.f1 else ofV v l
theorem ofV_cons (v : Int) (g : Grp) (l : List Grp) : ofV v (g :: l) = if g.f0 = v then g.f1 else ofV v l := rfl
theorem of_go2 {l : List Grp} (hl : l.length ≤ 1000) (v : Int) : ∀ (d k i : Nat), i + d = l.length → d + 1 < k → ebbtideref21_Of.l0 k l v (i : Int) = some (ofV v (l.drop i))
 |0, k, i, hi, hk => by
  obtain ⟨k, rfl⟩ : ∃ z, k = z + 1 := ⟨k - 1, by omega⟩
  rw [ebbtideref21_Of.l0, if_neg (by omega), List.drop_of_length_le (by omega)]
  rfl
 |d + 1, k, i, hi, hk => by
  obtain ⟨k, rfl⟩ : ∃ z, k = z + 1 := ⟨k - 1, by omega⟩
  rw [ebbtideref21_Of.l0, if_pos (by omega), if_pos (by omega), w_nat i (by omega), of_go2 hl v d k (i + 1) (by omega) (by omega), drop_rdG (i := i) (by omega), ofV_cons]
  split <;> rfl
theorem of_is {l : List Grp} (hl : l.length ≤ 1000) (v : Int) {k : Nat} (hk : l.length + 1 < k) : ebbtideref21_Of.f k l v = some (ofV v l) := of_go2 hl v l.length k 0 (by omega) hk
theorem ofV_any (v : Int) : ∀ l : List Grp, (∀ g, g ∈ l → 0 ≤ g.f1) → (decide (ofV v l ≥ 0) = l.any fun x => decide (x.f0 = v))
 |[], _ => rfl
 |g :: l, h => by
  have ih := ofV_any v l (fun x hx => h x (List.mem_cons_of_mem _ hx))
  have h0 := h g (List.mem_cons_self ..)
  rw [List.any_cons, ← ih, ofV_cons]
  by_cases c : g.f0 = v
  ·rw [if_pos c, decide_eq_true c, decide_eq_true h0, Bool.true_or]
  ·rw [if_neg c, decide_eq_false c, Bool.false_or]
theorem grp_r {n : Int} {b : Bool} {l : List Arc} {A : List Grp} (hA : A.length ≤ 1000) (hp : ∀ g, g ∈ A → 0 ≤ g.f1) (g : Grp) {k : Nat} (hk : A.length + 1 < k) : ebbtideref21_group.f k n b l A g.f0 g.f1 = some (grpV n A g) := by
 obtain ⟨k, rfl⟩ : ∃ z, k = z + 1 := ⟨k - 1, by omega⟩
 have jt : ebbtideref21_group.j0 (k + 1) true g.f0 g.f1 = some 210 := rfl
 have jf : ebbtideref21_group.j0 (k + 1) false g.f0 g.f1 = some (if 1048576 < g.f1 then 2 else 0) := by
  simp only [ebbtideref21_group.j0]
  repeat' split
  all_goals first | rfl | contradiction | omega
 unfold ebbtideref21_group.f ebbtideref06_Node.f grpV
 rw [of_is hA g.f0 hk, ← ofV_any g.f0 A hp]
 by_cases h1 : g.f0 ≥ 0
 ·rw [if_pos h1, Option.bind_some]
  by_cases h2 : g.f0 < n
  ·rw [if_pos (decide_eq_true h2)]
   by_cases h3 : g.f1 < 0
   ·rw [if_pos h3, jt, if_pos (.inr (.inr (.inl h3)))]
   ·rw [if_neg h3, Option.bind_some]
    by_cases h4 : ofV g.f0 A ≥ 0
    ·rw [decide_eq_true h4, jt, if_pos (.inr (.inr (.inr rfl)))]
    ·rw [decide_eq_false h4, jf, if_neg (show ¬ (g.f0 < 0 ∨ n ≤ g.f0 ∨ g.f1 < 0 ∨ false = true) by
      rintro (h | h | h | h)
      ·omega
      ·omega
      ·omega
      ·cases h)]
  ·rw [if_neg (by simpa using h2), jt, if_pos (.inr (.inl (by omega)))]
 ·rw [if_neg h1, Option.bind_some, if_neg (by decide), jt, if_pos (.inl (by omega))]
theorem grps_r {n : Int} {b : Bool} {l : List Arc} {all : List Grp} (hl : all.length ≤ 200) : ∀ (d k i : Nat) (A : List Grp), i + d = all.length → A.length = i → (∀ g, g ∈ A → 0 ≤ g.f1) → d + 300 < k → ebbtideref21_Groups.l0 k A all (i : Int) n b l = some (grpsV n A (all.drop i))
 |0, k, i, A, hi, hA, hp, hk => by
  obtain ⟨k, rfl⟩ : ∃ z, k = z + 1 := ⟨k - 1, by omega⟩
  rw [ebbtideref21_Groups.l0, if_neg (by omega), List.drop_of_length_le (by omega)]
  rfl
 |d + 1, k, i, A, hi, hA, hp, hk => by
  obtain ⟨k, rfl⟩ : ∃ z, k = z + 1 := ⟨k - 1, by omega⟩
  rw [ebbtideref21_Groups.l0, if_pos (by omega), if_pos (by omega), grp_r (by omega) hp _ (by omega), Option.bind_some, if_pos (show A.length < 8796093022208 by omega), w_nat i (by omega), drop_rdG (i := i) (by omega)]
  show _ = some (if grpV n A (rd_T44 all (i : Int)) = 0 then grpsV n (A ++ [rd_T44 all (i : Int)]) (all.drop (i + 1)) else grpV n A (rd_T44 all (i : Int)))
  by_cases h0 : grpV n A (rd_T44 all (i : Int)) = 0
  ·rw [if_pos h0, if_pos h0]
   have hq : 0 ≤ (rd_T44 all (i : Int)).f1 := by
    unfold grpV at h0
    split at h0
    ·omega
    ·rename_i h
     omega
   exact grps_r hl d k (i + 1) (A ++ [rd_T44 all (i : Int)]) (by omega) (by rw [List.length_append, hA]; rfl) (fun g hg => by
    rcases List.mem_append.1 hg with hg | hg
    ·exact hp g hg
    ·obtain rfl := List.mem_singleton.1 hg
     exact hq) (by omega)
  ·rw [if_neg h0, if_neg h0]
theorem groups_r {n : Int} {b : Bool} {l : List Arc} {p q : List Grp} (hp : p.length ≤ 60) (hq : q.length ≤ 60) {k : Nat} (hk : 600 ≤ k) : ebbtideref21_Groups.f k n b l p q = some (groupsC n p q) := by
 obtain ⟨k, rfl⟩ : ∃ z, k = z + 1 := ⟨k - 1, by omega⟩
 have j (x : Bool) : ebbtideref21_Groups.j0 (k + 1) p q x n b l = some (if x = true then 210 else grpsV n [] (p ++ q)) := by
  rw [ebbtideref21_Groups.j0]
  cases x with
  |true => rfl
  |false =>
   rw [if_neg (show ¬ (false = true) by decide), if_pos (show ([] : List Grp).length + p.length < 8796093022208 by show 0 + p.length < _; omega), Option.bind_some, List.nil_append, if_pos (by omega), if_neg (show ¬ (false = true) by decide)]
   exact grps_r (by rw [List.length_append]; omega) (p ++ q).length k 0 [] (by omega) rfl (fun g hg => nomatch hg) (by rw [List.length_append]; omega)
 unfold ebbtideref21_Groups.f
 rw [groupsC_eq, j, j]
 by_cases h1 : p.length = 0
 ·rw [if_pos (by omega), if_pos rfl, if_pos (.inl h1)]
 rw [if_neg (by omega)]
 by_cases h2 : q.length = 0
 ·rw [if_pos (by simpa using h2), if_pos (.inr h2)]
 ·rw [if_neg (by simpa using h2), if_neg (by omega)]
def askedV (n : Int) (l : List Arc) (p q : List Grp) (h : Int) : Int :=
 if netV n l = 0 then (if groupsC n p q = 0 then (if h < 0 then 1 else if h > 1024 then 2 else if wrap64 (wrap64 (h + 1) * n) ≤ 4000 ∧ wrap64 (wrap64 (h + 1) * (l.length : Int)) ≤ 10000 then 0 else 2) else groupsC n p q) else netV n l
theorem asked_p {n : Int} {b : Bool} {l : List Arc} {p q : List Grp} {h : Int} {k : Nat} (hk : 300 ≤ k) : begunF k n b l p q h = some (askedV n l p q h) := by
 unfold begunF askedV expand_Fits.f span_Horizon.f
 rw [net_p hk, Option.bind_some]
 by_cases h1 : netV n l = 0
 case neg => rw [if_neg h1, if_neg h1]
 rw [if_pos h1, if_pos h1]
 by_cases h2 : groupsC n p q = 0
 case neg => rw [if_neg h2, if_neg h2]
 rw [if_pos h2, if_pos h2]
 by_cases h3 : h < 0
 ·rw [if_pos h3, if_pos h3]; rfl
 rw [if_neg h3, if_neg h3]
 by_cases h4 : h > 1024
 ·rw [if_pos h4, if_pos h4]; rfl
 rw [if_neg h4, if_neg h4, Option.bind_some, if_pos rfl, Option.bind_some, if_pos h1, Option.bind_some, if_pos rfl]
 by_cases h5 : wrap64 (wrap64 (h + 1) * n) ≤ 4000
 ·rw [if_pos h5, Option.bind_some]
  by_cases h6 : wrap64 (wrap64 (h + 1) * (l.length : Int)) ≤ 10000
  ·rw [if_pos (decide_eq_true h6), if_pos ⟨h5, h6⟩]
  ·rw [if_neg (by simpa using h6), if_neg (fun e => h6 e.2)]
 ·rw [if_neg h5, Option.bind_some, if_neg (by decide), if_neg (fun e => h5 e.1)]
theorem asked_r {n : Int} {b : Bool} {l : List Arc} {p q : List Grp} {h : Int} (hp : p.length ≤ 60) (hq : q.length ≤ 60) {k : Nat} (hk : 600 ≤ k) : ebbtideref21_Asked.f k n b l p q h = some (askedV n l p q h) := by
 unfold ebbtideref21_Asked.f askedV ebbtideref15_Fits.f ebbtideref12_Span.f
 rw [net_r (by omega), Option.bind_some]
 by_cases h1 : netV n l = 0
 case neg => rw [if_neg h1, if_neg h1]
 rw [if_pos h1, if_pos h1, groups_r hp hq hk, Option.bind_some]
 by_cases h2 : groupsC n p q = 0
 case neg => rw [if_neg h2, if_neg h2]
 rw [if_pos h2, if_pos h2]
 by_cases h3 : h < 0
 ·rw [if_pos h3, if_pos h3]; rfl
 rw [if_neg h3, if_neg h3]
 by_cases h4 : h > 1024
 ·rw [if_pos h4, if_pos h4]; rfl
 rw [if_neg h4, if_neg h4, Option.bind_some, if_pos rfl, Option.bind_some, if_pos h1, Option.bind_some, if_pos rfl]
 by_cases h5 : wrap64 (wrap64 (h + 1) * n) ≤ 4000
 ·rw [if_pos h5, Option.bind_some]
  by_cases h6 : wrap64 (wrap64 (h + 1) * (l.length : Int)) ≤ 10000
  ·rw [if_pos (decide_eq_true h6), if_pos ⟨h5, h6⟩]
  ·rw [if_neg (by simpa using h6), if_neg (fun e => h6 e.2)]
 ·rw [if_neg h5, Option.bind_some, if_neg (by decide), if_neg (fun e => h5 e.1)]
end Go.Proofs.Ytcgdloldkcmhnaa.H
end
section
namespace Go.Proofs.Ytcgdloldkcmhnaa.H
open Go Go.ChangeShapes Go.WideShapes Go.ChangeAt Go.RowKit Go.Deep Go.Joins Go.Proofs.Ytcgdloldkcmhnaa.PrintC Go.Proofs.Ytcgdloldkcmhnaa.PrintE Go.Proofs.YtcgdloldkcmhnaaW.PrintWords Go.Proofs.YtcgdloldkcmhnaaW.PrintLast
theorem ownK : ownKnob Try.prog.godebug = none := by kernel_rfl
theorem laidOutK : laidOutB Try.prog = true := by kernel_rfl
noncomputable def laidWorld (os : Os) : World := World.holding Try.prog os ⟨#[], #[], []⟩
theorem wf_range {n : Int} (h : (Lit.int .i64 n).wf = true) : -9223372036854775808 ≤ n ∧ n ≤ 9223372036854775807 := by
 simp only [Lit.wf, Bool.and_eq_true, decide_eq_true_eq] at h
 exact h
section
variable {Hh : Type} {enc : TypeId × Value → Hh} {W : World} {base : Nat} {spare : Nat → Bool} {held : Bool}
theorem one_int {n : Nat} {v : Value} {y : DataW Hh × List MemPlace} (h : DataW.trod enc Try.prog W base spare held n 3 [v] = some y) : ∃ k, v = .int .i64 k ∧ (Lit.int .i64 k).wf = true := by
 obtain ⟨k, hc, _, hw⟩ := DataW.trod_int Try.underlying3 h
 simp only [List.cons.injEq, and_true] at hc
 exact ⟨k, hc, hw⟩
theorem one_bool {n : Nat} {v : Value} {y : DataW Hh × List MemPlace} (h : DataW.trod enc Try.prog W base spare held n 4 [v] = some y) : ∃ b, v = .bool b := by
 obtain ⟨b, hc, _⟩ := DataW.trod_bool Try.underlying4 h
 simp only [List.cons.injEq, and_true] at hc
 exact ⟨b, hc⟩
theorem arc_cells : Try.prog.cellsOf 79 = 4 := by kernel_rfl
theorem grp_cells : Try.prog.cellsOf 44 = 2 := by kernel_rfl
theorem int_cells : Try.prog.cellsOf 3 = 1 := by kernel_rfl
theorem net_cells : Try.prog.cellsOf 32 = 3 := by kernel_rfl
set_option maxRecDepth 100000 in
theorem opened_arcc {n : Nat} {cs : List Value} {y : DataW Hh × List MemPlace} (h : DataW.trod enc Try.prog W base spare held n 79 cs = some y) :
  ∃ a : Arc, cs = [.int .i64 a.f0, .int .i64 a.f1, .int .i64 a.f2, .int .i64 a.f3] := by
 obtain ⟨y0, y1, y2, y3, m, _, hl, h0, h1, h2, h3⟩ := trod_struct4 Try.underlying79 h
 rw [arc_cells] at hl
 match cs, hl with
 |[c0, c1, c2, c3], _ =>
  simp only [int_cells] at h0 h1 h2 h3
  obtain ⟨k0, rfl, r0⟩ := one_int h0
  obtain ⟨k1, rfl, r1⟩ := one_int h1
  obtain ⟨k2, rfl, r2⟩ := one_int h2
  obtain ⟨k3, rfl, r3⟩ := one_int h3
  exact ⟨⟨k0, k1, k2, k3⟩, rfl⟩
set_option maxRecDepth 100000 in
theorem opened_grpc {n : Nat} {cs : List Value} {y : DataW Hh × List MemPlace} (h : DataW.trod enc Try.prog W base spare held n 44 cs = some y) :
  ∃ a : Grp, cs = [.int .i64 a.f0, .int .i64 a.f1] ∧ (Lit.int .i64 a.f0).wf = true ∧ (Lit.int .i64 a.f1).wf = true := by
 obtain ⟨y0, y1, m, _, hl, h0, h1⟩ := trod_struct2 Try.underlying44 h
 rw [grp_cells] at hl
 match cs, hl with
 |[c0, c1], _ =>
  simp only [int_cells] at h0 h1
  obtain ⟨k0, rfl, r0⟩ := one_int h0
  obtain ⟨k1, rfl, r1⟩ := one_int h1
  exact ⟨⟨k0, k1⟩, rfl, r0, r1⟩
theorem kc_none2 {α : Type} (d : Kd α) : Kd.C d W none ([] : List α).length [] := ⟨rfl, by simp, fun h => by simp at h⟩
set_option maxRecDepth 100000 in
theorem opened_arcs {n : Nat} {v : Value} {y : DataW Hh × List MemPlace} (h : DataW.trod enc Try.prog W base spare held n 30 [v] = some y) :
  ∃ (A : Option Addr) (c : Nat) (l : List Arc), v = .slice A l.length c ∧ l.length ≤ c ∧ Kd.C kArc W A l.length l := by
 rcases open_slice Try.underlying30 h with ⟨hcs, _⟩ | ⟨a, len, cap, m, n', D, Pl, hcs, hb, hl, hm, hmm, hx, hi⟩
 ·simp only [List.cons.injEq, and_true] at hcs
  subst hcs
  exact ⟨none, 0, [], rfl, Nat.le_refl _, kc_none2 _⟩
 ·simp only [List.cons.injEq, and_true] at hcs
  subst hcs
  have hlm : len ≤ m := by
   rw [hmm]
   split
   ·exact hl
   ·exact Nat.le_refl _
  have hq : ∀ i, ∃ s : Arc, i < len → ∀ j u, [Value.int .i64 s.f0, .int .i64 s.f1, .int .i64 s.f2, .int .i64 s.f3][j]? = some u → W.cell? (a.add (i * 4 + j)) = some u := by
   intro i
   by_cases hlt : i < len
   ·obtain ⟨cs', hc, ht⟩ := hi i (by omega)
    obtain ⟨s, rfl⟩ := opened_arcc ht
    rw [arc_cells] at hc
    obtain ⟨_, _, hat⟩ := World.cells?_some hc
    refine ⟨s, fun _ j u hu => ?_⟩
    have hj : j < 4 := (List.getElem?_eq_some_iff.1 hu).1
    have h4 := hat j hj
    rw [← Go.Deep.add_add, h4, hu]
   ·exact ⟨⟨0, 0, 0, 0⟩, fun h => absurd h hlt⟩
  obtain ⟨g, hg⟩ := Classical.axiomOfChoice hq
  have hml : len ≤ 9223372036854775807 := by unfold maxLen at hm; omega
  refine ⟨some a, cap, (List.range len).map g, by simp, by simpa using hl, ⟨by simp, by simpa using hml, fun _ => ⟨a, rfl, fun j p hj => ?_⟩⟩⟩
  have hj1 : j < len := by have := (List.getElem?_eq_some_iff.1 hj).1; simpa using this
  have hj2 : g j = p := by
   have := hj
   simp [hj1] at this
   exact this
  subst hj2
  exact ⟨_, rfl, k79_mk W (g j), fun i u hu => hg j hj1 i u hu⟩
set_option maxRecDepth 100000 in
theorem opened_grps {n : Nat} {v : Value} {y : DataW Hh × List MemPlace} (h : DataW.trod enc Try.prog W base spare held n 33 [v] = some y) :
  ∃ (A : Option Addr) (c : Nat) (l : List Grp), v = .slice A l.length c ∧ l.length ≤ c ∧ Kd.C kGrp W A l.length l ∧ GrpsWf l := by
 rcases open_slice Try.underlying33 h with ⟨hcs, _⟩ | ⟨a, len, cap, m, n', D, Pl, hcs, hb, hl, hm, hmm, hx, hi⟩
 ·simp only [List.cons.injEq, and_true] at hcs
  subst hcs
  exact ⟨none, 0, [], rfl, Nat.le_refl _, kc_none2 _, fun g hg => nomatch hg⟩
 ·simp only [List.cons.injEq, and_true] at hcs
  subst hcs
  have hlm : len ≤ m := by
   rw [hmm]
   split
   ·exact hl
   ·exact Nat.le_refl _
  have hq : ∀ i, ∃ s : Grp, i < len → ((Lit.int .i64 s.f0).wf = true ∧ (Lit.int .i64 s.f1).wf = true) ∧ ∀ j u, [Value.int .i64 s.f0, .int .i64 s.f1][j]? = some u → W.cell? (a.add (i * 2 + j)) = some u := by
   intro i
   by_cases hlt : i < len
   ·obtain ⟨cs', hc, ht⟩ := hi i (by omega)
    obtain ⟨s, rfl, hr⟩ := opened_grpc ht
    rw [grp_cells] at hc
    obtain ⟨_, _, hat⟩ := World.cells?_some hc
    refine ⟨s, fun _ => ⟨hr, fun j u hu => ?_⟩⟩
    have hj : j < 2 := (List.getElem?_eq_some_iff.1 hu).1
    have h4 := hat j hj
    rw [← Go.Deep.add_add, h4, hu]
   ·exact ⟨⟨0, 0⟩, fun h => absurd h hlt⟩
  obtain ⟨g, hg⟩ := Classical.axiomOfChoice hq
  have hml : len ≤ 9223372036854775807 := by unfold maxLen at hm; omega
  refine ⟨some a, cap, (List.range len).map g, by simp, by simpa using hl, ⟨by simp, by simpa using hml, fun _ => ⟨a, rfl, fun j p hj => ?_⟩⟩, ?_⟩
  ·have hj1 : j < len := by have := (List.getElem?_eq_some_iff.1 hj).1; simpa using this
   have hj2 : g j = p := by
    have := hj
    simp [hj1] at this
    exact this
   subst hj2
   exact ⟨_, rfl, k44_mk W (g j), fun i u hu => (hg j hj1).2 i u hu⟩
  ·intro s hs
   obtain ⟨i, hi2, rfl⟩ := List.mem_map.1 hs
   exact (hg i (List.mem_range.1 hi2)).1
set_option maxRecDepth 100000 in
theorem opened_net {r : Reach} {b0 : Nat} {v : Value} {d : DataW Hh} {p : List MemPlace} (hv : Value.okWide Try.prog W r b0 32 v) (h : DataW.Trod enc Try.prog W base spare held 32 v d p) :
  ∃ (n : Int) (b : Bool) (A : Option Addr) (c : Nat) (l : List Arc), v = .agg #[.int .i64 n, .bool b, .slice A l.length c] ∧ l.length ≤ c ∧ Kd.C kArc W A l.length l ∧ True := by
 obtain ⟨v0, v1, v2, y0, y1, y2, n, rfl, _, _, h0, h1, h2⟩ := open_agg3 Try.underlying32 (by kernel_rfl) net_cells hv h
 obtain ⟨k0, rfl, r0⟩ := one_int h0
 obtain ⟨b, rfl⟩ := one_bool h1
 obtain ⟨A, c, l, rfl, g1, g2⟩ := opened_arcs h2
 exact ⟨k0, b, A, c, l, rfl, g1, g2, trivial⟩
theorem opened_groups {d : DataW Hh} {p : List MemPlace} {a : Option Addr} {len cap : Nat} (h : DataW.Trod enc Try.prog W base spare held 33 (.slice a len cap) d p) :
  ∃ l : List Grp, len = l.length ∧ l.length ≤ cap ∧ Kd.C kGrp W a l.length l ∧ GrpsWf l := by
 obtain ⟨n, hn⟩ := h
 obtain ⟨A, c, l, e, g1, g2, g3⟩ := opened_grps hn
 injection e with e1 e2 e3
 subst e1 e2 e3
 exact ⟨l, rfl, g1, g2, g3⟩
end
end Go.Proofs.Ytcgdloldkcmhnaa.H
end
section
namespace Go.Proofs.Ytcgdloldkcmhnaa.H
open Go Go.RowKit Go.Proofs.Ytcgdloldkcmhnaa.PrintC Go.Proofs.YtcgdloldkcmhnaaW.PrintWords Go.Proofs.YtcgdloldkcmhnaaW.PrintLast Go.Proofs.YtcgdloldkcmhnaaW.PrintMore
set_option linter.unusedVariables false
set_option linter.unusedSimpArgs false
theorem mask32 (x : Int) : Go.bits .and .i64 x 4294967295 = x % 4294967296 := by
 have e : (BitVec.ofInt 64 4294967295).toNat = 2 ^ 32 - 1 := by decide
 show IntKind.i64.wrap (((BitVec.ofInt 64 x) &&& (BitVec.ofInt 64 4294967295)).toNat : Int) = _
 rw [BitVec.toNat_and, e, Nat.and_two_pow_sub_one_eq_mod, BitVec.toNat_ofInt]
 have h1 : ((x % (2 ^ 64 : Nat)).toNat % 2 ^ 32 : Nat) < 2 ^ 32 := Nat.mod_lt _ (by decide)
 have h2 : (((x % ((2 ^ 64 : Nat) : Int)).toNat % 2 ^ 32 : Nat) : Int) = x % 4294967296 := by
  rw [Int.natCast_emod, Int.toNat_of_nonneg (Int.emod_nonneg _ (by decide))]
  show x % 18446744073709551616 % 4294967296 = x % 4294967296
  omega
 rw [h2]
 exact IntWalk.i64_in _ (by omega)
def sumL : List Int → Int
 |[] => 0
 |x :: l => x + sumL l
theorem sumL_append : ∀ a b : List Int, sumL (a ++ b) = sumL a + sumL b
 |[], b => by rw [List.nil_append, sumL]; omega
 |x :: a, b => by rw [List.cons_append, sumL, sumL, sumL_append a b]; omega
theorem sumL_snoc (a : List Int) (x : Int) : sumL (a ++ [x]) = sumL a + x := by rw [sumL_append, sumL, sumL]; omega
def I64s (l : List Int) : Prop := ∀ x, x ∈ l → -9223372036854775808 ≤ x ∧ x ≤ 9223372036854775807
def halfH (l : List Int) : Int := sumL (l.map (· / 4294967296))
def halfL (l : List Int) : Int := sumL (l.map (· % 4294967296))
theorem half_snoc (a : List Int) (x : Int) : halfH (a ++ [x]) = halfH a + x / 4294967296 ∧ halfL (a ++ [x]) = halfL a + x % 4294967296 := by
 unfold halfH halfL
 rw [List.map_append, List.map_append]
 exact ⟨sumL_snoc _ _, sumL_snoc _ _⟩
theorem half_sum : ∀ l : List Int, halfH l * 4294967296 + halfL l = sumL l
 |[] => rfl
 |x :: l => by
  have := half_sum l
  unfold halfH halfL at this ⊢
  rw [List.map_cons, List.map_cons, sumL, sumL, sumL]
  omega
theorem half_bd : ∀ l : List Int, I64s l → -(l.length * 2147483648 : Int) ≤ halfH l ∧ halfH l ≤ l.length * 2147483648 ∧ 0 ≤ halfL l ∧ halfL l ≤ l.length * 4294967296
 |[], _ => by decide
 |x :: l, h => by
  have h1 := half_bd l (fun y hy => h y (List.mem_cons_of_mem _ hy))
  have h2 := h x (List.mem_cons_self ..)
  unfold halfH halfL at h1 ⊢
  rw [List.map_cons, List.map_cons, sumL, sumL, List.length_cons]
  omega
def fits (x : Int) : Bool := decide (-9223372036854775808 ≤ x ∧ x ≤ 9223372036854775807)
theorem take_snoc {l : List Int} {i : Nat} (h : i < l.length) : l.take (i + 1) = l.take i ++ [rd l (i : Int)] := by
 have e : rd l (i : Int) = l[i] := by
  unfold rd
  rw [Int.toNat_natCast, List.getD_eq_getElem?_getD, List.getElem?_eq_getElem h]
  rfl
 rw [List.take_add_one, List.getElem?_eq_getElem h, e]
 rfl
theorem rd_i64 {l : List Int} (h : I64s l) {i : Nat} (hi : i < l.length) : -9223372036854775808 ≤ rd l (i : Int) ∧ rd l (i : Int) ≤ 9223372036854775807 := by
 unfold rd
 rw [Int.toNat_natCast, List.getD_eq_getElem?_getD, List.getElem?_eq_getElem hi]
 exact h _ (List.getElem_mem hi)
def SumAt (l : List Int) (w : World) (e : Ending) (w' : World) : Prop := e = .returned (.tuple #[.int .i64 (if fits (sumL l) = true then sumL l else 0), .bool (fits (sumL l))]) ∧ Below w.heap.size w w'
set_option maxHeartbeats 4000000 in
set_option maxRecDepth 100000 in
theorem rsum_walk (A : Option Addr) (c : Nat) (l : List Int) (w : World) (hr : Kd.C (Kd.int .i64) w A l.length l) (hi : I64s l) (hl : l.length ≤ 1000000) :
  Calls Try.prog 100 #[.slice A l.length c] w (SumAt l w) := by
 have HR := Lib.hid hr
 have HI := Lib.hid hi
 clear hr hi
 go_enter Try.func100, Try.ntmps100
 go_wp2
 go_loopg [4, 5, 6] (l.length + 1) (fun k hv lv iv W => ∃ i : Nat, i ≤ l.length ∧ hv = .int .i64 (halfH (l.take i)) ∧ lv = .int .i64 (halfL (l.take i)) ∧ iv = .int .i64 i ∧ k = l.length + 1 - i ∧ Hid (Below w.heap.size w W))
 case atStart => exact ⟨0, Nat.zero_le _, rfl, rfl, rfl, rfl, Lib.hid (Below.refl _ _)⟩
 case round =>
  obtain ⟨i, hi, rfl, rfl, rfl, rfl, HB⟩ := hrel
  have hbd := half_bd (l.take i) (fun x hx => HI.out x (List.mem_of_mem_take hx))
  rw [List.length_take, Nat.min_eq_left hi] at hbd
  by_cases hlt : i < l.length
  ·have i0 : (0 : Int) ≤ (i : Int) := by omega
   have i1 : (i : Int) < (l.length : Int) := by omega
   obtain ⟨ae, eb, z0⟩ := Kd.at_int (Kd.C_below HR.out HB.out) (i : Int) i0 i1
   subst eb
   rw [Int.toNat_natCast] at z0
   have hx := rd_i64 HI.out hlt
   have hsn := half_snoc (l.take i) (rd l (i : Int))
   rw [← take_snoc hlt] at hsn
   have HSN := Lib.hid hsn
   clear hsn
   obtain ⟨x, hxe⟩ : ∃ x, x = rd l (i : Int) := ⟨_, rfl⟩
   rw [← hxe] at z0 hx
   have HXE := Lib.hid hxe
   clear hxe
   obtain ⟨H, hH⟩ : ∃ H, H = halfH (l.take i) := ⟨_, rfl⟩
   obtain ⟨L, hL⟩ : ∃ L, L = halfL (l.take i) := ⟨_, rfl⟩
   rw [← hH, ← hL] at hbd ⊢
   have HH := Lib.hid hH
   have HL := Lib.hid hL
   clear hH hL
   have e1 : x.fdiv 4294967296 = x / 4294967296 := Int.fdiv_eq_ediv_of_nonneg _ (by decide)
   have e2 : Go.bits .and .i64 x 4294967295 = x % 4294967296 := mask32 x
   have e3 : IntKind.i64.wrap (H + x / 4294967296) = H + x / 4294967296 := IntWalk.i64_in _ (by omega)
   have e4 : IntKind.i64.wrap (L + x % 4294967296) = L + x % 4294967296 := IntWalk.i64_in _ (by omega)
   go_wp2
   go_roundg (l.length - i)
   case measure => omega
   case rel => exact ⟨i + 1, by omega, by rw [HSN.out.1, ← HH.out, ← HXE.out], by rw [HSN.out.2, ← HL.out, ← HXE.out], by go_num, by omega, HB⟩
  ·have e : i = l.length := by omega
   subst e
   rw [List.take_length] at hbd ⊢
   have hs := half_sum l
   obtain ⟨T, hT⟩ : ∃ T, T = sumL l := ⟨_, rfl⟩
   rw [← hT] at hs
   have HTE := Lib.hid hT
   obtain ⟨H, hH⟩ : ∃ H, H = halfH l := ⟨_, rfl⟩
   obtain ⟨L, hL⟩ : ∃ L, L = halfL l := ⟨_, rfl⟩
   rw [← hH, ← hL] at hbd hs ⊢
   clear hH hL hT
   have e1 : L.fdiv 4294967296 = L / 4294967296 := Int.fdiv_eq_ediv_of_nonneg _ (by decide)
   have e2 : Go.bits .and .i64 L 4294967295 = L % 4294967296 := mask32 L
   have e3 : IntKind.i64.wrap (H + L / 4294967296) = H + L / 4294967296 := IntWalk.i64_in _ (by omega)
   obtain ⟨G, hG⟩ : ∃ G, G = H + L / 4294967296 := ⟨_, rfl⟩
   rw [← hG] at e3
   by_cases c1 : G < -2147483648
   ·have HF : Hid (fits T = false) := Lib.hid (by unfold fits; rw [decide_eq_false_iff_not]; omega)
    rw [hG] at e3 c1
    clear hs hbd
    go_wp2
    go_ret2
    unfold SumAt
    rw [← HTE.out, HF.out]
    exact ⟨rfl, HB.out⟩
   ·by_cases c2 : 2147483648 ≤ G
    ·have HF : Hid (fits T = false) := Lib.hid (by unfold fits; rw [decide_eq_false_iff_not]; omega)
     rw [hG] at e3 c1 c2
     clear hs hbd
     go_wp2
     go_ret2
     unfold SumAt
     rw [← HTE.out, HF.out]
     exact ⟨rfl, HB.out⟩
    ·have HF : Hid (fits T = true) := Lib.hid (by unfold fits; rw [decide_eq_true_eq]; omega)
     have e4 : IntKind.i64.wrap ((H + L / 4294967296) * 4294967296) = (H + L / 4294967296) * 4294967296 := IntWalk.i64_in _ (by omega)
     have e5 : IntKind.i64.wrap ((H + L / 4294967296) * 4294967296 + L % 4294967296) = T := by
      rw [show (H + L / 4294967296) * 4294967296 + L % 4294967296 = T by omega]
      exact IntWalk.i64_in _ (by omega)
     rw [hG] at e3 c1 c2
     clear hs hbd
     go_wp2
     go_ret2
     unfold SumAt
     rw [← HTE.out, HF.out]
     exact ⟨rfl, HB.out⟩
end Go.Proofs.Ytcgdloldkcmhnaa.H
end
section
namespace Go.Proofs.Ytcgdloldkcmhnaa.H
open Go Go.RowKit Go.Proofs.Ytcgdloldkcmhnaa.PrintC Go.Proofs.Ytcgdloldkcmhnaa.PrintE
abbrev Mv := S103
abbrev kMv := k103
def sameK (a b : Mv) : Bool := decide (a.f0 = b.f0 ∧ a.f1 = b.f1)
theorem sameK_iff {a b : Mv} : sameK a b = true ↔ a.f0 = b.f0 ∧ a.f1 = b.f1 := decide_eq_true_iff
theorem sameK_sym {a b : Mv} (h : sameK a b = true) : sameK b a = true := by rw [sameK_iff] at h ⊢; exact ⟨h.1.symm, h.2.symm⟩
def amt (l : List Mv) (x : Mv) : Int := sumL ((l.filter (sameK x)).map (·.f2))
theorem amt_same {l : List Mv} {x y : Mv} (h : sameK x y = true) : amt l x = amt l y := by
 have e : sameK x = sameK y := by
  rw [sameK_iff] at h
  funext z
  unfold sameK
  rw [h.1, h.2]
 unfold amt
 rw [e]
def mlt (a b : Mv) : Prop := a.f1 < b.f1 ∨ a.f1 = b.f1 ∧ a.f0 < b.f0
theorem mlt_trans {a b c : Mv} (h : mlt a b) (k : mlt b c) : mlt a c := by
 unfold mlt at *
 omega
theorem mlt_of {a b : Mv} (h : ¬ mlt a b) (k : sameK b a = false) : mlt b a := by
 unfold sameK at k
 rw [decide_eq_false_iff_not] at k
 unfold mlt at *
 omega
def mvAt (l : List Mv) (i : Nat) : Mv := rd_T103 l (i : Int)
theorem mvAt_mem {l : List Mv} {i : Nat} (h : i < l.length) : mvAt l i ∈ l := by
 unfold mvAt rd_T103
 rw [Int.toNat_natCast, List.getD_eq_getElem?_getD, List.getElem?_eq_getElem h]
 exact List.getElem_mem h
theorem mvAt_take {l : List Mv} {i : Nat} (h : i < l.length) : l.take (i + 1) = l.take i ++ [mvAt l i] := by
 have e : mvAt l i = l[i] := by
  unfold mvAt rd_T103
  rw [Int.toNat_natCast, List.getD_eq_getElem?_getD, List.getElem?_eq_getElem h]
  rfl
 rw [List.take_add_one, List.getElem?_eq_getElem h, e]
 rfl
theorem mem_take_at {l : List Mv} {x : Mv} : ∀ {i : Nat}, i ≤ l.length → x ∈ l.take i → ∃ k, k < i ∧ x = mvAt l k
 |0, _, h => by simp at h
 |i + 1, hi, h => by
  rw [mvAt_take (by omega), List.mem_append, List.mem_singleton] at h
  rcases h with h | h
  ·obtain ⟨k, hk, e⟩ := mem_take_at (by omega) h
   exact ⟨k, by omega, e⟩
  ·exact ⟨i, by omega, h⟩
theorem at_mem_take {l : List Mv} : ∀ {i k : Nat}, i ≤ l.length → k < i → mvAt l k ∈ l.take i
 |i + 1, k, hi, hk => by
  rw [mvAt_take (by omega), List.mem_append, List.mem_singleton]
  by_cases e : k = i
  ·rw [e]
   exact .inr rfl
  ·exact .inl (at_mem_take (by omega) (by omega))
structure MgI (l : List Mv) (i : Nat) (m : List Mv) : Prop where
 srt : m.Pairwise mlt
 am : ∀ y, y ∈ m → y.f2 = amt l y ∧ y.f2 ≠ 0 ∧ ∃ x, x ∈ l.take i ∧ sameK x y = true
 all : ∀ x, x ∈ l.take i → fits (amt l x) = true ∧ (amt l x ≠ 0 → ∃ y, y ∈ m ∧ sameK x y = true)
abbrev MgOf (l m : List Mv) : Prop := MgI l l.length m
theorem MgI.zero (l : List Mv) : MgI l 0 [] := ⟨List.Pairwise.nil, fun _ h => (nomatch h), fun _ h => by simp at h⟩
section
variable {l m : List Mv} {i : Nat}
theorem MgI.had (h : MgI l i m) (hi : i < l.length) {k : Nat} (hk : k < i) (e : sameK (mvAt l k) (mvAt l i) = true) : MgI l (i + 1) m where
 srt := h.srt
 am y hy := by
  obtain ⟨a, b, x, hx, c⟩ := h.am y hy
  exact ⟨a, b, x, by rw [mvAt_take hi]; exact List.mem_append_left _ hx, c⟩
 all x hx := by
  rw [mvAt_take hi, List.mem_append, List.mem_singleton] at hx
  rcases hx with hx | rfl
  ·exact h.all x hx
  ·obtain ⟨a, b⟩ := h.all (mvAt l k) (at_mem_take (by omega) hk)
   rw [amt_same e] at a b
   refine ⟨a, fun g => ?_⟩
   obtain ⟨y, hy, c⟩ := b g
   rw [sameK_iff] at e c
   exact ⟨y, hy, by rw [sameK_iff]; exact ⟨e.1.symm.trans c.1, e.2.symm.trans c.2⟩⟩
theorem MgI.none (h : MgI l i m) (hi : i < l.length) (e : amt l (mvAt l i) = 0) : MgI l (i + 1) m where
 srt := h.srt
 am y hy := by
  obtain ⟨a, b, x, hx, c⟩ := h.am y hy
  exact ⟨a, b, x, by rw [mvAt_take hi]; exact List.mem_append_left _ hx, c⟩
 all x hx := by
  rw [mvAt_take hi, List.mem_append, List.mem_singleton] at hx
  rcases hx with hx | rfl
  ·exact h.all x hx
  ·rw [e]
   exact ⟨rfl, fun g => absurd rfl g⟩
theorem MgI.ins {a b : List Mv} {X : Mv} (h : MgI l i (a ++ b)) (hi : i < l.length) (hn : ∀ k, k < i → sameK (mvAt l k) (mvAt l i) = false) (hX : X = ⟨(mvAt l i).f0, (mvAt l i).f1, amt l (mvAt l i)⟩) (hf : fits (amt l (mvAt l i)) = true) (h0 : amt l (mvAt l i) ≠ 0) (hb : ∀ y, y ∈ b → mlt X y) (ha : ∀ (a' : List Mv) (y : Mv), a = a' ++ [y] → ¬ mlt X y) : MgI l (i + 1) (a ++ X :: b) where
 srt := by
  have hd : ∀ y, y ∈ a ++ b → sameK y X = false := fun y hy => by
   obtain ⟨_, _, x, hx, c⟩ := h.am y hy
   obtain ⟨k, hk, rfl⟩ := mem_take_at (by omega) hx
   have := hn k hk
   cases e : sameK y X with
   |false => rfl
   |true =>
    rw [sameK_iff] at c e
    rw [hX] at e
    have : sameK (mvAt l k) (mvAt l i) = true := sameK_iff.2 ⟨c.1.trans e.1, c.2.trans e.2⟩
    rw [hn k hk] at this
    cases this
  have hs := List.pairwise_append.1 h.srt
  have hal : ∀ y, y ∈ a → mlt y X := by
   rcases List.eq_nil_or_concat a with rfl | ⟨a', z, e⟩
   ·exact fun y hy => nomatch hy
   ·rw [List.concat_eq_append] at e
    subst e
    have hz := mlt_of (ha a' z rfl) (hd z (by simp))
    intro y hy
    rw [List.mem_append, List.mem_singleton] at hy
    rcases hy with hy | rfl
    ·exact mlt_trans ((List.pairwise_append.1 hs.1).2.2 y hy z (List.mem_singleton.2 rfl)) hz
    ·exact hz
  refine List.pairwise_append.2 ⟨hs.1, List.pairwise_cons.2 ⟨hb, hs.2.1⟩, fun y hy z hz => ?_⟩
  rcases List.mem_cons.1 hz with rfl | hz
  ·exact hal y hy
  ·exact hs.2.2 y hy z hz
 am y hy := by
  have hy2 : y = X ∨ y ∈ a ++ b := by
   rw [List.mem_append, List.mem_cons] at hy
   rw [List.mem_append]
   rcases hy with hy | rfl | hy
   ·exact .inr (.inl hy)
   ·exact .inl rfl
   ·exact .inr (.inr hy)
  rcases hy2 with rfl | hy2
  ·have e : sameK (mvAt l i) y = true := by rw [hX]; exact sameK_iff.2 ⟨rfl, rfl⟩
   refine ⟨?_, ?_, mvAt l i, by rw [mvAt_take hi]; simp, e⟩
   ·rw [← amt_same e, hX]
   ·rw [hX]
    exact h0
  ·obtain ⟨p, q, x, hx, c⟩ := h.am y hy2
   exact ⟨p, q, x, by rw [mvAt_take hi]; exact List.mem_append_left _ hx, c⟩
 all x hx := by
  rw [mvAt_take hi, List.mem_append, List.mem_singleton] at hx
  rcases hx with hx | rfl
  ·obtain ⟨p, q⟩ := h.all x hx
   refine ⟨p, fun g => ?_⟩
   obtain ⟨y, hy, c⟩ := q g
   refine ⟨y, ?_, c⟩
   rw [List.mem_append] at hy
   rw [List.mem_append, List.mem_cons]
   rcases hy with hy | hy
   ·exact .inl hy
   ·exact .inr (.inr hy)
  ·exact ⟨hf, fun _ => ⟨X, by simp, by rw [hX]; exact sameK_iff.2 ⟨rfl, rfl⟩⟩⟩
end
end Go.Proofs.Ytcgdloldkcmhnaa.H
end
section
namespace Go.Proofs.Ytcgdloldkcmhnaa.H
open Go Go.ChangeShapes Go.WideShapes Go.ChangeAt Go.RowKit Go.Deep Go.Joins Go.Proofs.Ytcgdloldkcmhnaa.PrintC Go.Proofs.Ytcgdloldkcmhnaa.PrintE Go.Proofs.YtcgdloldkcmhnaaW.PrintWords Go.Proofs.YtcgdloldkcmhnaaW.PrintLast
def SlWf (l : List Slot) : Prop := ∀ g, g ∈ l → (Lit.int .i64 g.f0).wf = true ∧ (Lit.int .i64 g.f1).wf = true
def MvWf (l : List Mv) : Prop := ∀ g, g ∈ l → (Lit.int .i64 g.f2).wf = true
section
variable {Hh : Type} {enc : TypeId × Value → Hh} {W : World} {base : Nat} {spare : Nat → Bool} {held : Bool}
theorem sl_cells : Try.prog.cellsOf 88 = 2 := by kernel_rfl
theorem mv_cells : Try.prog.cellsOf 103 = 3 := by kernel_rfl
set_option maxRecDepth 100000 in
theorem opened_slc {n : Nat} {cs : List Value} {y : DataW Hh × List MemPlace} (h : DataW.trod enc Try.prog W base spare held n 88 cs = some y) :
  ∃ a : Slot, cs = [.int .i64 a.f0, .int .i64 a.f1] ∧ (Lit.int .i64 a.f0).wf = true ∧ (Lit.int .i64 a.f1).wf = true := by
 obtain ⟨y0, y1, m, _, hl, h0, h1⟩ := trod_struct2 Try.underlying88 h
 rw [sl_cells] at hl
 match cs, hl with
 |[c0, c1], _ =>
  simp only [int_cells] at h0 h1
  obtain ⟨k0, rfl, r0⟩ := one_int h0
  obtain ⟨k1, rfl, r1⟩ := one_int h1
  exact ⟨⟨k0, k1⟩, rfl, r0, r1⟩
set_option maxRecDepth 100000 in
theorem opened_sls {n : Nat} {v : Value} {y : DataW Hh × List MemPlace} (h : DataW.trod enc Try.prog W base spare held n 51 [v] = some y) :
  ∃ (A : Option Addr) (c : Nat) (l : List Slot), v = .slice A l.length c ∧ l.length ≤ c ∧ Kd.C kSlot W A l.length l ∧ SlWf l := by
 rcases open_slice Try.underlying51 h with ⟨hcs, _⟩ | ⟨a, len, cap, m, n', D, Pl, hcs, hb, hl, hm, hmm, hx, hi⟩
 ·simp only [List.cons.injEq, and_true] at hcs
  subst hcs
  exact ⟨none, 0, [], rfl, Nat.le_refl _, kc_none2 _, fun g hg => nomatch hg⟩
 ·simp only [List.cons.injEq, and_true] at hcs
  subst hcs
  have hlm : len ≤ m := by
   rw [hmm]
   split
   ·exact hl
   ·exact Nat.le_refl _
  have hq : ∀ i, ∃ s : Slot, i < len → ((Lit.int .i64 s.f0).wf = true ∧ (Lit.int .i64 s.f1).wf = true) ∧ ∀ j u, [Value.int .i64 s.f0, .int .i64 s.f1][j]? = some u → W.cell? (a.add (i * 2 + j)) = some u := by
   intro i
   by_cases hlt : i < len
   ·obtain ⟨cs', hc, ht⟩ := hi i (by omega)
    obtain ⟨s, rfl, hr⟩ := opened_slc ht
    rw [sl_cells] at hc
    obtain ⟨_, _, hat⟩ := World.cells?_some hc
    refine ⟨s, fun _ => ⟨hr, fun j u hu => ?_⟩⟩
    have hj : j < 2 := (List.getElem?_eq_some_iff.1 hu).1
    have h4 := hat j hj
    rw [← Go.Deep.add_add, h4, hu]
   ·exact ⟨⟨0, 0⟩, fun h => absurd h hlt⟩
  obtain ⟨g, hg⟩ := Classical.axiomOfChoice hq
  have hml : len ≤ 9223372036854775807 := by unfold maxLen at hm; omega
  refine ⟨some a, cap, (List.range len).map g, by simp, by simpa using hl, ⟨by simp, by simpa using hml, fun _ => ⟨a, rfl, fun j p hj => ?_⟩⟩, ?_⟩
  ·have hj1 : j < len := by have := (List.getElem?_eq_some_iff.1 hj).1; simpa using this
   have hj2 : g j = p := by
    have := hj
    simp [hj1] at this
    exact this
   subst hj2
   exact ⟨_, rfl, k88_mk W (g j), fun i u hu => (hg j hj1).2 i u hu⟩
  ·intro s hs
   obtain ⟨i, hi2, rfl⟩ := List.mem_map.1 hs
   exact (hg i (List.mem_range.1 hi2)).1
set_option maxRecDepth 100000 in
theorem opened_mvc {n : Nat} {cs : List Value} {y : DataW Hh × List MemPlace} (h : DataW.trod enc Try.prog W base spare held n 103 cs = some y) :
  ∃ a : Mv, cs = [.int .i64 a.f0, .int .i64 a.f1, .int .i64 a.f2] ∧ (Lit.int .i64 a.f2).wf = true := by
 obtain ⟨y0, y1, y2, m, _, hl, h0, h1, h2⟩ := trod_struct3 Try.underlying103 h
 rw [mv_cells] at hl
 match cs, hl with
 |[c0, c1, c2], _ =>
  simp only [int_cells] at h0 h1 h2
  obtain ⟨k0, rfl, r0⟩ := one_int h0
  obtain ⟨k1, rfl, r1⟩ := one_int h1
  obtain ⟨k2, rfl, r2⟩ := one_int h2
  exact ⟨⟨k0, k1, k2⟩, rfl, r2⟩
set_option maxRecDepth 100000 in
theorem opened_mvs {n : Nat} {v : Value} {y : DataW Hh × List MemPlace} (h : DataW.trod enc Try.prog W base spare held n 55 [v] = some y) :
  ∃ (A : Option Addr) (c : Nat) (l : List Mv), v = .slice A l.length c ∧ l.length ≤ c ∧ Kd.C kMv W A l.length l ∧ MvWf l := by
 rcases open_slice Try.underlying55 h with ⟨hcs, _⟩ | ⟨a, len, cap, m, n', D, Pl, hcs, hb, hl, hm, hmm, hx, hi⟩
 ·simp only [List.cons.injEq, and_true] at hcs
  subst hcs
  exact ⟨none, 0, [], rfl, Nat.le_refl _, kc_none2 _, fun g hg => nomatch hg⟩
 ·simp only [List.cons.injEq, and_true] at hcs
  subst hcs
  have hlm : len ≤ m := by
   rw [hmm]
   split
   ·exact hl
   ·exact Nat.le_refl _
  have hq : ∀ i, ∃ s : Mv, i < len → (Lit.int .i64 s.f2).wf = true ∧ ∀ j u, [Value.int .i64 s.f0, .int .i64 s.f1, .int .i64 s.f2][j]? = some u → W.cell? (a.add (i * 3 + j)) = some u := by
   intro i
   by_cases hlt : i < len
   ·obtain ⟨cs', hc, ht⟩ := hi i (by omega)
    obtain ⟨s, rfl, hr⟩ := opened_mvc ht
    rw [mv_cells] at hc
    obtain ⟨_, _, hat⟩ := World.cells?_some hc
    refine ⟨s, fun _ => ⟨hr, fun j u hu => ?_⟩⟩
    have hj : j < 3 := (List.getElem?_eq_some_iff.1 hu).1
    have h4 := hat j hj
    rw [← Go.Deep.add_add, h4, hu]
   ·exact ⟨⟨0, 0, 0⟩, fun h => absurd h hlt⟩
  obtain ⟨g, hg⟩ := Classical.axiomOfChoice hq
  have hml : len ≤ 9223372036854775807 := by unfold maxLen at hm; omega
  refine ⟨some a, cap, (List.range len).map g, by simp, by simpa using hl, ⟨by simp, by simpa using hml, fun _ => ⟨a, rfl, fun j p hj => ?_⟩⟩, ?_⟩
  ·have hj1 : j < len := by have := (List.getElem?_eq_some_iff.1 hj).1; simpa using this
   have hj2 : g j = p := by
    have := hj
    simp [hj1] at this
    exact this
   subst hj2
   exact ⟨_, rfl, k103_mk W (g j), fun i u hu => (hg j hj1).2 i u hu⟩
  ·intro s hs
   obtain ⟨i, hi2, rfl⟩ := List.mem_map.1 hs
   exact (hg i (List.mem_range.1 hi2)).1
theorem opened_moves {d : DataW Hh} {p : List MemPlace} {a : Option Addr} {len cap : Nat} (h : DataW.Trod enc Try.prog W base spare held 55 (.slice a len cap) d p) :
  ∃ l : List Mv, len = l.length ∧ l.length ≤ cap ∧ Kd.C kMv W a l.length l ∧ MvWf l := by
 obtain ⟨n, hn⟩ := h
 obtain ⟨A, c, l, e, g1, g2, g3⟩ := opened_mvs hn
 injection e with e1 e2 e3
 subst e1 e2 e3
 exact ⟨l, rfl, g1, g2, g3⟩
theorem opened_slots {d : DataW Hh} {p : List MemPlace} {a : Option Addr} {len cap : Nat} (h : DataW.Trod enc Try.prog W base spare held 51 (.slice a len cap) d p) :
  ∃ l : List Slot, len = l.length ∧ l.length ≤ cap ∧ Kd.C kSlot W a l.length l ∧ SlWf l := by
 obtain ⟨n, hn⟩ := h
 obtain ⟨A, c, l, e, g1, g2, g3⟩ := opened_sls hn
 injection e with e1 e2 e3
 subst e1 e2 e3
 exact ⟨l, rfl, g1, g2, g3⟩
end
end Go.Proofs.Ytcgdloldkcmhnaa.H
end
section
namespace Go.Proofs.Ytcgdloldkcmhnaa.H
open Go Go.RowKit Go.Proofs.Ytcgdloldkcmhnaa.PrintC Go.Proofs.Ytcgdloldkcmhnaa.PrintE Go.Proofs.YtcgdloldkcmhnaaW.PrintWords Go.Proofs.YtcgdloldkcmhnaaW.PrintLast Go.Proofs.YtcgdloldkcmhnaaW.PrintMore Go.Proofs.Ytcgdloldkcmhnaa.Flow
set_option linter.unusedVariables false
structure NetSm (m : Nat) (n : Int) (l : List Arc) : Prop where
 n2 : 2 ≤ n
 n5 : n ≤ 5
 ll : l.length ≤ m
 arc : ∀ x, x ∈ l → (0 ≤ x.f0 ∧ x.f0 < n) ∧ (0 ≤ x.f1 ∧ x.f1 < n) ∧ (0 ≤ x.f2 ∧ x.f2 ≤ 5) ∧ 0 ≤ x.f3 ∧ x.f3 ≤ 3
structure GI (n : Int) (p q : List Grp) : Prop where
 p0 : p ≠ []
 q0 : q ≠ []
 gp : ∀ g, g ∈ p → (0 ≤ g.f0 ∧ g.f0 < n) ∧ 0 ≤ g.f1 ∧ g.f1 ≤ 8
 gq : ∀ g, g ∈ q → (0 ≤ g.f0 ∧ g.f0 < n) ∧ 0 ≤ g.f1 ∧ g.f1 ≤ 8
 dp : (p.map fun g => g.f0).Nodup
 dq : (q.map fun g => g.f0).Nodup
 apart : ∀ g, g ∈ q → ∀ x, x ∈ p → x.f0 ≠ g.f0
theorem GI.ok {n : Int} {p q : List Grp} (h : GI n p q) : GroupsOk n p q :=
 ⟨h.p0, h.q0, fun g hg => ⟨(h.gp g hg).1, (h.gp g hg).2.1, by have := (h.gp g hg).2.2; omega⟩, fun g hg => ⟨(h.gq g hg).1, (h.gq g hg).2.1, by have := (h.gq g hg).2.2; omega⟩, h.dp, h.dq, h.apart⟩
theorem GI.swap {n : Int} {p q : List Grp} (h : GI n p q) : GI n q p := ⟨h.q0, h.p0, h.gq, h.gp, h.dq, h.dp, fun g hg x hx e => h.apart x hx g hg e.symm⟩
theorem GI.snoc {n : Int} {p q : List Grp} (h : GI n p q) {g : Grp} (hg : (0 ≤ g.f0 ∧ g.f0 < n) ∧ 0 ≤ g.f1 ∧ g.f1 ≤ 8) (h1 : ∀ x, x ∈ p → x.f0 ≠ g.f0) (h2 : ∀ x, x ∈ q → x.f0 ≠ g.f0) : GI n (p ++ [g]) q where
 p0 := by simp
 q0 := h.q0
 gp x hx := by
  rcases List.mem_append.1 hx with hx | hx
  ·exact h.gp x hx
  ·obtain rfl := List.mem_singleton.1 hx
   exact hg
 gq := h.gq
 dp := by
  rw [List.map_append, List.nodup_append]
  refine ⟨h.dp, by simp, fun a ha c hc => ?_⟩
  obtain ⟨x, hx, rfl⟩ := List.mem_map.1 ha
  have : c = g.f0 := by simpa using hc
  rw [this]
  exact h1 x hx
 dq := h.dq
 apart x hx y hy := by
  rcases List.mem_append.1 hy with hy | hy
  ·exact h.apart x hx y hy
  ·obtain rfl := List.mem_singleton.1 hy
   exact fun e => h2 x hx e.symm
theorem ask_of {m n h : Nat} {l : List Arc} {p q : List Grp} (hm : m ≤ 40) (hN : NetSm m n l) (hg : GI n p q) (hh : h ≤ 16) : AskOk n h l p q where
 net := ⟨by have := hN.n2; omega, by have := hN.n5; omega, by have := hN.ll; omega, fun j hj => by
  have := hN.arc _ (mem_arcAt hj)
  omega⟩
 grp := hg.ok
 hh := by omega
 hn := Nat.le_trans (Nat.mul_le_mul (show h + 1 ≤ 17 by omega) (show n ≤ 5 by have := hN.n5; omega)) (by decide)
 hl := Nat.le_trans (Nat.mul_le_mul (show h + 1 ≤ 17 by omega) (show l.length ≤ 40 by have := hN.ll; omega)) (by decide)
theorem bsr_first {holds : Nat → Bool} {top : Nat} (mono : ∀ a c, a ≤ c → c ≤ top → holds a = true → holds c = true) : ∀ (d lo hi : Nat), hi - lo ≤ d → lo ≤ hi → hi ≤ top → holds hi = true → (∀ k, k < lo → holds k = false) →
  holds (bsr holds lo hi) = true ∧ (∀ k, k < bsr holds lo hi → holds k = false) ∧ bsr holds lo hi ≤ hi
 |0, lo, hi, hd, hl, ht, hh, h0 => by
  rw [bsr_end (by omega)]
  have : lo = hi := by omega
  subst this
  exact ⟨hh, h0, Nat.le_refl _⟩
 |d + 1, lo, hi, hd, hl, ht, hh, h0 => by
  by_cases c : lo < hi
  ·cases cm : holds ((lo + hi) / 2) with
   |true =>
    rw [bsr_yes c cm]
    have := bsr_first mono d lo ((lo + hi) / 2) (by omega) (by omega) (by omega) cm h0
    exact ⟨this.1, this.2.1, by omega⟩
   |false =>
    rw [bsr_no c cm]
    refine bsr_first mono d ((lo + hi) / 2 + 1) hi (by omega) (by omega) ht hh (fun k hk => ?_)
    cases ck : holds k with
    |false => rfl
    |true =>
     rw [mono k ((lo + hi) / 2) (by omega) (by omega) ck] at cm
     cases cm
  ·rw [bsr_end c]
   have : lo = hi := by omega
   subst this
   exact ⟨hh, h0, Nat.le_refl _⟩
theorem AskOk.first {n h : Nat} {l : List Arc} {p q : List Grp} (a : AskOk n h l p q) (b : Bool) (he : mostV n h b l p q = totalV p) :
  mostV n (bsr (fun k => mostV n k b l p q == totalV p) 0 h) b l p q = totalV p ∧ (∀ k, k < bsr (fun k => mostV n k b l p q == totalV p) 0 h → mostV n k b l p q < totalV p) ∧ bsr (fun k => mostV n k b l p q == totalV p) 0 h ≤ h := by
 have hp := a.place
 obtain ⟨h1, h2, h3⟩ := bsr_first (holds := fun k => mostV n k b l p q == totalV p) (top := h) (fun x c hxc hc e => by
  have e : mostV n x b l p q = totalV p := by simpa using e
  have m1 := PlaceOk.mono_le b (hp.le hc) hxc
  have m2 := (hp.le hc).le_total b
  have : mostV n c b l p q = totalV p := by omega
  simpa using this) h 0 h (by omega) (by omega) (Nat.le_refl _) (by simpa using he) (fun k hk => by omega)
 refine ⟨by simpa using h1, fun k hk => ?_, h3⟩
 have m1 := (hp.le (show k ≤ h by omega)).le_total b
 have m2 : ¬ mostV n k b l p q = totalV p := by simpa using h2 k hk
 omega
end Go.Proofs.Ytcgdloldkcmhnaa.H
end
section
namespace Go.Proofs.Ytcgdloldkcmhnaa.H
open Go Go.RowKit Go.Proofs.Ytcgdloldkcmhnaa.PrintC Go.Proofs.Ytcgdloldkcmhnaa.PrintE Go.Proofs.YtcgdloldkcmhnaaW.PrintWords Go.Proofs.YtcgdloldkcmhnaaW.PrintLast Go.Proofs.YtcgdloldkcmhnaaW.PrintMore Go.Proofs.Ytcgdloldkcmhnaa.Flow
abbrev lineL : List Arc := [⟨0, 1, 2, 1⟩, ⟨1, 2, 2, 1⟩]
abbrev pL : List Grp := [⟨0, 3⟩]
abbrev qL : List Grp := [⟨2, 5⟩]
theorem line_sm : NetSm 6 (3 : Nat) lineL where
 n2 := by decide
 n5 := by decide
 ll := by decide
 arc x hx := by
  simp only [lineL, List.mem_cons, List.not_mem_nil, or_false] at hx
  rcases hx with rfl | rfl <;> decide
theorem line_gi : GI (3 : Nat) pL qL where
 p0 := by simp
 q0 := by simp
 gp g hg := by
  obtain rfl := List.mem_singleton.1 hg
  decide
 gq g hg := by
  obtain rfl := List.mem_singleton.1 hg
  decide
 dp := by simp
 dq := by simp
 apart g hg x hx := by
  obtain rfl := List.mem_singleton.1 hg
  obtain rfl := List.mem_singleton.1 hx
  decide
theorem line_ask {h : Nat} (hh : h ≤ 16) : AskOk 3 h lineL pL qL := ask_of (m := 6) (by omega) line_sm line_gi hh
theorem useL (x : Arc) : useOf qL x = !decide (x.f0 = 2) := by
 unfold useOf
 rw [hasK_putGs]
 simp [eq_comm]
theorem keepsL (v : Nat) : keepsOf false pL qL v = (decide ((v : Int) = 0) || decide ((v : Int) = 2)) := by
 unfold keepsOf
 rw [hasK_putGs, hasK_putGs]
 simp [eq_comm]
theorem useL_is : useOf qL = fun x => !decide (x.f0 = 2) := funext useL
theorem keepsL_is : keepsOf false pL qL = fun v : Nat => (decide ((v : Int) = 0) || decide ((v : Int) = 2)) := funext keepsL
theorem line2 : evArcs lineL (useOf qL) (keepsOf false pL qL) 3 2 9 10 pL qL = [⟨0, 4, 2, 0⟩, ⟨1, 5, 2, 0⟩, ⟨0, 3, 1099511627776, 0⟩, ⟨2, 5, 1099511627776, 0⟩, ⟨3, 7, 2, 0⟩, ⟨4, 8, 2, 0⟩, ⟨3, 6, 1099511627776, 0⟩, ⟨5, 8, 1099511627776, 0⟩, ⟨9, 0, 3, 0⟩, ⟨8, 10, 5, 0⟩] := by
 rw [useL_is, keepsL_is]
 rfl
theorem line3 : evArcs lineL (useOf qL) (keepsOf false pL qL) 3 3 12 13 pL qL = [⟨0, 4, 2, 0⟩, ⟨1, 5, 2, 0⟩, ⟨0, 3, 1099511627776, 0⟩, ⟨2, 5, 1099511627776, 0⟩, ⟨3, 7, 2, 0⟩, ⟨4, 8, 2, 0⟩, ⟨3, 6, 1099511627776, 0⟩, ⟨5, 8, 1099511627776, 0⟩, ⟨6, 10, 2, 0⟩, ⟨7, 11, 2, 0⟩, ⟨6, 9, 1099511627776, 0⟩, ⟨8, 11, 1099511627776, 0⟩, ⟨12, 0, 3, 0⟩, ⟨11, 13, 5, 0⟩] := by
 rw [useL_is, keepsL_is]
 rfl
theorem line_two : mostV 3 2 false lineL pL qL = 2 := by
 obtain ⟨⟨S, h1, h2, h3⟩, h4⟩ := ((line_ask (h := 2) (by decide)).place).cut false
 have u := h4 (fun v => decide (v = 9) || decide (v = 0) || decide (v = 3) || decide (v = 6) || decide (v = 7)) (by decide) (by decide)
 unfold evCut at u h3
 rw [show evArcs lineL (useOf qL) (keepsOf false pL qL) 3 2 ((2 + 1) * 3) ((2 + 1) * 3 + 1) pL qL = _ from line2] at u h3
 have u2 : cutL (fun v => decide (v = 9) || decide (v = 0) || decide (v = 3) || decide (v = 6) || decide (v = 7)) [⟨0, 4, 2, 0⟩, ⟨1, 5, 2, 0⟩, ⟨0, 3, 1099511627776, 0⟩, ⟨2, 5, 1099511627776, 0⟩, ⟨3, 7, 2, 0⟩, ⟨4, 8, 2, 0⟩, ⟨3, 6, 1099511627776, 0⟩, ⟨5, 8, 1099511627776, 0⟩, ⟨9, 0, 3, 0⟩, ⟨8, 10, 5, 0⟩] = 2 := by decide +kernel
 rw [u2] at u
 have h1' : S 9 = true := h1
 have h2' : S 10 = false := h2
 have lo : 2 ≤ cutL S [⟨0, 4, 2, 0⟩, ⟨1, 5, 2, 0⟩, ⟨0, 3, 1099511627776, 0⟩, ⟨2, 5, 1099511627776, 0⟩, ⟨3, 7, 2, 0⟩, ⟨4, 8, 2, 0⟩, ⟨3, 6, 1099511627776, 0⟩, ⟨5, 8, 1099511627776, 0⟩, ⟨9, 0, 3, 0⟩, ⟨8, 10, 5, 0⟩] := by
  simp only [cutL, cutA, h1', h2']
  generalize S 0 = x0
  generalize S 1 = x1
  generalize S 2 = x2
  generalize S 3 = x3
  generalize S 4 = x4
  generalize S 5 = x5
  generalize S 6 = x6
  generalize S 7 = x7
  generalize S 8 = x8
  revert x0 x1 x2 x3 x4 x5 x6 x7 x8
  decide +kernel
 omega
theorem line_three : mostV 3 3 false lineL pL qL = 3 := by
 have hp := (line_ask (h := 3) (by decide)).place
 obtain ⟨⟨S, h1, h2, h3⟩, -⟩ := hp.cut false
 have u := hp.le_total false
 have ut : totalV pL = 3 := by decide
 rw [ut] at u
 unfold evCut at h3
 rw [show evArcs lineL (useOf qL) (keepsOf false pL qL) 3 3 ((3 + 1) * 3) ((3 + 1) * 3 + 1) pL qL = _ from line3] at h3
 have h1' : S 12 = true := h1
 have h2' : S 13 = false := h2
 have lo : 3 ≤ cutL S [⟨0, 4, 2, 0⟩, ⟨1, 5, 2, 0⟩, ⟨0, 3, 1099511627776, 0⟩, ⟨2, 5, 1099511627776, 0⟩, ⟨3, 7, 2, 0⟩, ⟨4, 8, 2, 0⟩, ⟨3, 6, 1099511627776, 0⟩, ⟨5, 8, 1099511627776, 0⟩, ⟨6, 10, 2, 0⟩, ⟨7, 11, 2, 0⟩, ⟨6, 9, 1099511627776, 0⟩, ⟨8, 11, 1099511627776, 0⟩, ⟨12, 0, 3, 0⟩, ⟨11, 13, 5, 0⟩] := by
  simp only [cutL, cutA, h1', h2']
  generalize S 0 = x0
  generalize S 1 = x1
  generalize S 2 = x2
  generalize S 3 = x3
  generalize S 4 = x4
  generalize S 5 = x5
  generalize S 6 = x6
  generalize S 7 = x7
  generalize S 8 = x8
  generalize S 9 = x9
  generalize S 10 = x10
  generalize S 11 = x11
  revert x0 x1 x2 x3 x4 x5 x6 x7 x8 x9 x10 x11
  decide +kernel
 omega
theorem line_bad {k : Nat} (hk : 300 ≤ k) : evac_Most.f k 3 false lineL pL pL 2 = some (0, 210) := by
 have c1 := check_good (b := false) (line_ask (h := 2) (by decide)).net hk
 have c2 : groupsC 3 pL pL = 210 := by decide +kernel
 have ok : okG pL = true ∧ okG pL = true := ⟨(line_ask (h := 2) (by decide)).okp.1, (line_ask (h := 2) (by decide)).okp.1⟩
 have hb : begunF k 3 false lineL pL pL 2 = some 210 := by
  unfold begunF
  rw [show netfmt_Check.f k 3 false lineL = some 0 from c1, Option.bind_some, if_pos rfl, c2, if_neg (by decide)]
 unfold evac_Most.f
 rw [if_pos ok, hb, Option.bind_some, if_neg (by decide)]
theorem line_most : evac_Most.f 300 3 false lineL pL qL 2 = some (2, 0) := by
 have h2 := (line_ask (h := 2) (by decide)).most false (k := 300) (by decide)
 rw [line_two] at h2
 exact h2
theorem line_least : evac_Least.f 300 3 false lineL pL qL 9 = some (3, true, 0) := by
 have h9 := (line_ask (h := 9) (by decide)).least false (k := 300) (by decide)
 have hp9 := (line_ask (h := 9) (by decide)).place
 have t3 : totalV pL = 3 := by decide
 have e9 : mostV 3 9 false lineL pL qL = totalV pL := by
  have m1 := PlaceOk.mono_le (m := 3) (h := 9) false hp9 (by decide)
  have m2 := hp9.le_total false
  rw [line_three] at m1
  omega
 obtain ⟨f1, f2, f3⟩ := (line_ask (h := 9) (by decide)).first false e9
 have hb : bsr (fun k => mostV 3 k false lineL pL qL == totalV pL) 0 9 = 3 := by
  generalize bsr (fun k => mostV 3 k false lineL pL qL == totalV pL) 0 9 = z at f1 f2 f3
  by_cases c : z < 3
  ·have m1 := PlaceOk.mono_le (m := z) (h := 2) false (hp9.le (by decide)) (by omega)
   rw [line_two] at m1
   omega
  ·by_cases c2 : 3 < z
   ·have := f2 3 c2
    rw [line_three] at this
    omega
   ·omega
 rw [hb, if_pos (by simpa using e9), e9] at h9
 rw [show (some (3, true, 0) : Option (Int × Bool × Int)) = some (((3 : Nat) : Int), totalV pL == totalV pL, 0) by simp]
 exact h9
end Go.Proofs.Ytcgdloldkcmhnaa.H
end
section
namespace Go.Proofs.Ytcgdloldkcmhnaa.H
open Go Go.RowKit Go.Proofs.Ytcgdloldkcmhnaa.PrintC Go.Proofs.Ytcgdloldkcmhnaa.PrintE Go.Proofs.YtcgdloldkcmhnaaW.PrintWords Go.Proofs.YtcgdloldkcmhnaaW.PrintLast Go.Proofs.YtcgdloldkcmhnaaW.PrintMore Go.Proofs.Ytcgdloldkcmhnaa.Flow
set_option linter.unusedVariables false
set_option linter.unusedSimpArgs false
theorem arcs_blk {W : World} {g : Nat} {l : List Arc} (hl : l.length ≤ 100000) (h : W.heap[g]? = some (.cells (arcCells l).toArray 79 (0, 0))) : Kd.C kArc W (some ⟨g, 0, none⟩) l.length l := by
 refine ⟨rfl, by omega, fun _ => ⟨_, rfl, fun j p hj => ⟨[.int .i64 p.f0, .int .i64 p.f1, .int .i64 p.f2, .int .i64 p.f3], rfl, k79_mk _ p, fun i u hu => ?_⟩⟩⟩
 have h1 := arcCells_get l j p hj i u hu
 have h2 : W.cell? ⟨g, j * 4 + i, none⟩ = some u := by
  refine (blk_cell h (j * 4 + i)).trans ?_
  rw [List.getElem?_toArray]
  exact h1
 have h3 : (Addr.add ⟨g, 0, none⟩ (j * kArc.sz + i)) = ⟨g, j * 4 + i, none⟩ := by
  have : kArc.sz = 4 := rfl
  rw [this]
  unfold Addr.add
  split
  ·rename_i h4
   rw [h4]
  ·simp
 rw [h3]
 exact h2
theorem grp_blk {W : World} {g : Nat} {a b : Int} (h : W.heap[g]? = some (.cells #[.int .i64 a, .int .i64 b] 44 (0, 0))) : Kd.C kGrp W (some ⟨g, 0, none⟩) 1 [⟨a, b⟩] := by
 refine ⟨rfl, by simp, fun _ => ⟨_, rfl, fun j p hj => ?_⟩⟩
 have hj0 : j = 0 := by have := (List.getElem?_eq_some_iff.1 hj).1; simpa using this
 subst hj0
 have e : (⟨a, b⟩ : Grp) = p := by simpa using hj
 subst e
 refine ⟨[.int .i64 a, .int .i64 b], rfl, k44_mk _ ⟨a, b⟩, fun i u hu => ?_⟩
 match i, hu with
 |0, hu => exact (blk_cell h 0).trans hu
 |1, hu => exact (blk_cell h 1).trans hu
 |i + 2, hu => simp at hu
set_option maxHeartbeats 4000000 in
set_option maxRecDepth 100000 in
theorem line_walk (b : Bool) (w : World) : Calls Try.prog 34 #[.bool b] w fun e w' => ∃ g, e = .returned (.agg #[.int .i64 3, .bool b, .slice (some ⟨g, 0, none⟩) 2 2]) ∧ Kd.C kArc w' (some ⟨g, 0, none⟩) 2 lineL ∧ Below w.heap.size w w' := by
 have hu := Try.underlying32
 go_enter Try.func34, Try.ntmps34
 go_wp2
 refine bodyPost_ret (results_cell_row rfl _ _ w.heap.size 32 #[.int .i64 3, .bool b, .slice (some ⟨w.heap.size + 1, 0, none⟩) 2 2] (0, 0) _ rfl (blk_alloc (heap_alloc_new w _) _) hu rfl (by kernel_rfl)) rfl ?_
 exact ⟨_, rfl, arcs_blk (l := lineL) (by decide) (alloc_at (by simp)), below_alloc (below_alloc (Below.refl _ _) _) _⟩
theorem most_line {A Ap Aq : Option Addr} {w : World} (hA : Kd.C kArc w A 2 lineL) (hp : Kd.C kGrp w Ap 1 pL) (hq : Kd.C kGrp w Aq 1 qL) :
  Calls Try.prog 14 #[.agg #[.int .i64 3, .bool false, .slice A 2 2], .slice Ap 1 1, .slice Aq 1 1, .int .i64 2] w fun e w' => e = .returned (.tuple #[.int .i64 2, .int .i64 0]) ∧ Below w.heap.size w w' :=
 evac_Most.calls 300 3 false A 2 lineL Ap 1 pL Aq 1 qL 2 2 0 w hA (Nat.le_refl _) hp (Nat.le_refl _) hq (Nat.le_refl _) line_most
theorem least_line {A Ap Aq : Option Addr} {w : World} (hA : Kd.C kArc w A 2 lineL) (hp : Kd.C kGrp w Ap 1 pL) (hq : Kd.C kGrp w Aq 1 qL) :
  Calls Try.prog 11 #[.agg #[.int .i64 3, .bool false, .slice A 2 2], .slice Ap 1 1, .slice Aq 1 1, .int .i64 9] w fun e w' => e = .returned (.tuple #[.int .i64 3, .bool true, .int .i64 0]) ∧ Below w.heap.size w w' :=
 evac_Least.calls 300 3 false A 2 lineL Ap 1 pL Aq 1 qL 9 3 true 0 w hA (Nat.le_refl _) hp (Nat.le_refl _) hq (Nat.le_refl _) line_least
theorem bad_line {A Ap : Option Addr} {w : World} (hA : Kd.C kArc w A 2 lineL) (hp : Kd.C kGrp w Ap 1 pL) :
  Calls Try.prog 14 #[.agg #[.int .i64 3, .bool false, .slice A 2 2], .slice Ap 1 1, .slice Ap 1 1, .int .i64 2] w fun e w' => e = .returned (.tuple #[.int .i64 0, .int .i64 210]) ∧ Below w.heap.size w w' :=
 evac_Most.calls 300 3 false A 2 lineL Ap 1 pL Ap 1 pL 2 0 210 w hA (Nat.le_refl _) hp (Nat.le_refl _) hp (Nat.le_refl _) (line_bad (k := 300) (Nat.le_refl _))
set_option maxHeartbeats 4000000 in
set_option maxRecDepth 100000 in
theorem awake_walk (w : World) : Calls Try.prog 13 #[] w fun e w' => e = .returned (.bool true) ∧ Below w.heap.size w w' := by
 have hu := Try.underlying44
 have hu2 := Try.underlying33
 go_enter Try.func13, Try.ntmps13
 go_wp2_with (go_at_call 34; fail)
 have HP := Lib.hid (grp_blk (blk_alloc (heap_alloc_new w (.cells #[.int .i64 0, .int .i64 3] 44)) (.cells #[.int .i64 2, .int .i64 5] 44)))
 have HQ := Lib.hid (grp_blk (g := w.heap.size + 1) (alloc_at (W := w.alloc (.cells #[.int .i64 0, .int .i64 3] 44)) (o := .cells #[.int .i64 2, .int .i64 5] 44) (by simp)))
 have HB0 := Lib.hid (below_alloc (below_alloc (Below.refl w.heap.size w) (.cells #[.int .i64 0, .int .i64 3] 44)) (.cells #[.int .i64 2, .int .i64 5] 44))
 generalize ((w.alloc (.cells #[.int .i64 0, .int .i64 3] 44)).alloc (.cells #[.int .i64 2, .int .i64 5] 44)) = w1 at HP HQ HB0 ⊢
 have HB := Lib.hid (Below.refl w1.heap.size w1)
 go_wp2_with (first
  |(go_at_call 34; (with_reducible refine (line_walk false _).mono ?_); rintro e w2 ⟨g, rfl, hA, hb⟩; (try clear HA); have HA := Lib.hid hA; have HN := Lib.hid (below_step HB.out hb); clear HB; have HB := HN; clear HN hb hA)
  |(go_at_call 14; (with_reducible refine (most_line HA.out (Kd.C_below HP.out HB.out) (Kd.C_below HQ.out HB.out)).mono ?_); rintro e w2 ⟨rfl, hb⟩; have HN := Lib.hid (below_step HB.out hb); clear HB; have HB := HN; clear HN hb)
  |(go_at_call 11; (with_reducible refine (least_line HA.out (Kd.C_below HP.out HB.out) (Kd.C_below HQ.out HB.out)).mono ?_); rintro e w2 ⟨rfl, hb⟩; have HN := Lib.hid (below_step HB.out hb); clear HB; have HB := HN; clear HN hb)
  |(go_at_call 14; (with_reducible refine (bad_line HA.out (Kd.C_below HP.out HB.out)).mono ?_); rintro e w2 ⟨rfl, hb⟩; have HN := Lib.hid (below_step HB.out hb); clear HB; have HB := HN; clear HN hb))
 go_ret
 exact ⟨rfl, below_step HB0.out HB.out⟩
end Go.Proofs.Ytcgdloldkcmhnaa.H
end
section
namespace Go.Proofs.Ytcgdloldkcmhnaa.H
open Go Go.RowKit Go.Proofs.Ytcgdloldkcmhnaa.PrintC Go.Proofs.Ytcgdloldkcmhnaa.PrintE Go.Proofs.YtcgdloldkcmhnaaW.PrintWords Go.Proofs.YtcgdloldkcmhnaaW.PrintLast Go.Proofs.YtcgdloldkcmhnaaW.PrintMore Go.Proofs.Ytcgdloldkcmhnaa.Flow
set_option linter.unusedVariables false
set_option linter.unusedSimpArgs false
abbrev SetAs (W : World) (b c : Nat) (D : DataW Unit) : Prop := W.ownsMap Try.prog 88 unitElem b c D
def hasS (D : DataW Unit) (v z : Int) : Bool := Maps.has D (slotKey v z)
def putS (D : DataW Unit) (s : Slot) : DataW Unit := D.put (slotKey s.f0 s.f1) (.agg [])
def setD (X : List Slot) : DataW Unit := X.foldl putS (.map [])
abbrev Wf (x : Int) : Prop := (Lit.int .i64 x).wf = true
theorem infoUnit : (Try.prog.info? 139).map (fun i => (i.zero, i.size, i.bytes)) = some (some (.agg #[]), 0, 0) := by kernel_rfl
theorem unit_zero : ∀ w : World, (zeroValue 139).run Try.prog w = .ok (.agg #[]) w := by
 obtain ⟨i0, hi, hz0, -, -⟩ := info_parts infoUnit
 intro w
 simp [zeroValue, typeInfo, hi, hz0]
theorem look_set {W : World} {b c : Nat} {D : DataW Unit} (h : SetAs W b c D) {v z : Int} (hv : Wf v) (hz : Wf z) :
  (Instr.lookup 94 (.map (some b)) (.agg #[.int .i64 v, .int .i64 z]) true).run Try.prog W = .ok (.tuple #[.agg #[], .bool (hasS D v z)]) W := by
 obtain ⟨u, ps, hrun, hR⟩ := h.look_ok slotLaw Try.underlying94 (unit_zero W) unitElem_mk (slotKeyOf v z hv hz)
 obtain ⟨rfl, -⟩ := unitElem_inv hR
 exact hrun
theorem setAs_eq {W W1 : World} {b c : Nat} {D : DataW Unit} (h : SetAs W b c D) (e : W1.heap[b]? = W.heap[b]?) : SetAs W1 b c D := by
 obtain ⟨es, clock, hb, F, hs, hD⟩ := h
 exact ⟨es, clock, e.trans hb, F, hs, hD⟩
theorem setAs_below {W W1 : World} {b c : Nat} {D : DataW Unit} (h : SetAs W b c D) (hb : Below W.heap.size W W1) : SetAs W1 b c D := setAs_eq h (hb.block _ h.lt)
theorem min2_min (k k' : IntKind) (x y : Int) : Builtin.min2 (.int k x) (.int k' y) = pure (.int k (min x y)) := by
 rw [min2_int]
 have e : (if y < x then y else x) = min x y := by split <;> omega
 rw [e]
set_option maxHeartbeats 4000000 in
set_option maxRecDepth 100000 in
theorem has_walk (b c : Nat) (D : DataW Unit) (v z : Int) (R : Bool) (w : World) (h : SetAs w b c D) (hv : Wf v) (hz : Wf z) (hR : R = hasS D v z) :
  Calls Try.prog 50 #[.map (some b), .int .i64 v, .int .i64 z] w fun e w' => e = .returned (.bool R) ∧ Below w.heap.size w w' := by
 have hl := look_set h hv hz
 rw [← hR] at hl
 clear hR h
 go_enter Try.func50, Try.ntmps50
 go_wp2
 go_ret
 exact ⟨rfl, by repeat (first | exact Below.refl _ _ | apply below_alloc)⟩
theorem slot_take {X : List Slot} {i : Nat} (h : i < X.length) : X.take (i + 1) = X.take i ++ [rd_T88 X (i : Int)] := by
 have e : rd_T88 X (i : Int) = X[i] := by
  unfold rd_T88
  rw [Int.toNat_natCast, List.getD_eq_getElem?_getD, List.getElem?_eq_getElem h]
  rfl
 rw [List.take_add_one, List.getElem?_eq_getElem h, e]
 rfl
theorem setD_snoc (X : List Slot) (s : Slot) : setD (X ++ [s]) = putS (setD X) s := by
 unfold setD
 rw [List.foldl_append]
 rfl
def slotOk (n h : Int) (s : Slot) : Prop := 0 ≤ s.f0 ∧ 0 ≤ s.f1 ∧ s.f0 < n ∧ s.f1 ≤ h
attribute [local go_sem] min2_min min_two
def SetOfAt (n h : Int) (X : List Slot) (w : World) (e : Ending) (w' : World) : Prop := Below w.heap.size w w' ∧
 ((e = .returned (.tuple #[.map none, .bool false]) ∧ ∃ s, s ∈ X ∧ ¬ slotOk n h s) ∨ (∃ b : Nat, e = .returned (.tuple #[.map (some b), .bool true]) ∧ SetAs w' b X.length (setD X) ∧ ∀ s, s ∈ X → slotOk n h s))
set_option maxHeartbeats 4000000 in
set_option maxRecDepth 100000 in
theorem setof_walk (n h : Int) (A : Option Addr) (c : Nat) (X : List Slot) (w : World) (hr : Kd.C kSlot w A X.length X) (hl : X.length ≤ 1000000) (hn : n ≤ 1000000) (hh : h ≤ 1000000) :
  Calls Try.prog 45 #[.slice A X.length c, .int .i64 n, .int .i64 h] w (SetOfAt n h X w) := by
 have HR := Lib.hid hr
 have hu := Try.underlying88
 have hmm := @run_makeMap Try.prog
 clear hr
 go_enter Try.func45, Try.ntmps45
 go_wp2
 obtain ⟨w1, hw1⟩ : ∃ w1, w1 = w.alloc (.map #[] 0) := ⟨_, rfl⟩
 have HX : Hid (SetAs w1 w.heap.size 0 (setD []) ∧ Below w.heap.size w w1) := Lib.hid (by rw [hw1]; exact ⟨World.ownsMap_made _ _ _ _, below_alloc (Below.refl _ _) _⟩)
 rw [← hw1]
 clear hw1 hmm
 go_loopg [14] (X.length + 1) (fun k iv W => ∃ i : Nat, i ≤ X.length ∧ iv = .int .i64 i ∧ k = X.length + 1 - i ∧ Hid (SetAs W w.heap.size i (setD (X.take i)) ∧ Below w.heap.size w W ∧ ∀ s, s ∈ X.take i → slotOk n h s))
 case atStart => exact ⟨0, Nat.zero_le _, rfl, rfl, Lib.hid ⟨HX.out.1, HX.out.2, fun s hs => by simp at hs⟩⟩
 case round =>
  obtain ⟨i, hi, rfl, rfl, HL⟩ := hrel
  clear HX
  by_cases hlt : i < X.length
  ·have i0 : (0 : Int) ≤ (i : Int) := by omega
   have i1 : (i : Int) < (X.length : Int) := by omega
   obtain ⟨ad, ea, y0, y1⟩ := at_T88 (Kd.C_below HR.out HL.out.2.1) (i : Int) i0 i1
   subst ea
   rw [Int.toNat_natCast] at y0 y1
   have hst := slot_take hlt
   obtain ⟨s, hs⟩ : ∃ s, s = rd_T88 X (i : Int) := ⟨_, rfl⟩
   rw [← hs] at y0 y1 hst
   have HST := Lib.hid hst
   have HSM : Hid (s ∈ X) := Lib.hid (List.mem_of_mem_take (i := i + 1) (by rw [hst]; simp))
   clear hs hst
   obtain ⟨mn, hmn⟩ : ∃ mn, min s.f0 s.f1 = mn := ⟨_, rfl⟩
   have hc : (mn < 0 ∧ Hid (¬ slotOk n h s)) ∨ (¬ mn < 0 ∧ n ≤ s.f0 ∧ Hid (¬ slotOk n h s)) ∨ (¬ mn < 0 ∧ ¬ n ≤ s.f0 ∧ h < s.f1 ∧ Hid (¬ slotOk n h s)) ∨ (¬ mn < 0 ∧ ¬ n ≤ s.f0 ∧ ¬ h < s.f1 ∧ Hid (slotOk n h s)) := by
    unfold slotOk
    by_cases c1 : mn < 0
    ·exact .inl ⟨c1, Lib.hid (by omega)⟩
    ·by_cases c2 : n ≤ s.f0
     ·exact .inr (.inl ⟨c1, c2, Lib.hid (by omega)⟩)
     ·by_cases c3 : h < s.f1
      ·exact .inr (.inr (.inl ⟨c1, c2, c3, Lib.hid (by omega)⟩))
      ·exact .inr (.inr (.inr ⟨c1, c2, c3, Lib.hid (by omega)⟩))
   rcases hc with ⟨c1, HBD⟩ | ⟨c1, c2, HBD⟩ | ⟨c1, c2, c3, HBD⟩ | ⟨c1, c2, c3, HOK⟩
   iterate 3
    ·go_wp2
     go_ret2
     exact ⟨below_alloc HL.out.2.1 _, .inl ⟨rfl, s, HSM.out, HBD.out⟩⟩
   ·have HW : Hid (Wf s.f0 ∧ Wf s.f1) := Lib.hid (by
     have h9 := HOK.out
     unfold slotOk at h9
     exact ⟨Go.WalkArith.wf_i64 (by omega), Go.WalkArith.wf_i64 (by omega)⟩)
    go_wp2_with (at_mapUpdate; refine wpList_mapUpdate_own _ rfl _ _ _ 94 rfl 88 139 slotLaw Try.underlying94 _ w.heap.size i (setD (X.take i)) rfl (setAs_below HL.out.1 (by repeat (first | exact Below.refl _ _ | apply below_alloc))) (by unfold maxLen; omega) _ _ (slotKey s.f0 s.f1) rfl rfl (slotKeyOf s.f0 s.f1 HW.out.1 HW.out.2) _ [] unitElem_mk ?_; intro w2 ho hg; have HF := Lib.hid (And.intro ho (pw_below_grown (below_alloc HL.out.2.1 _) _ (below_alloc HL.out.2.1 _).size hg (fun k e => by injection e with e; omega))); clear ho hg)
    go_roundg (X.length - i)
    case measure => omega
    case rel => exact ⟨i + 1, by omega, by go_num, by omega, Lib.hid ⟨by rw [HST.out, setD_snoc]; exact HF.out.1, HF.out.2, fun s9 hs9 => by
     rw [HST.out, List.mem_append, List.mem_singleton] at hs9
     rcases hs9 with hs9 | rfl
     ·exact HL.out.2.2 s9 hs9
     ·exact HOK.out⟩⟩
  ·have e : i = X.length := by omega
   subst e
   have HF := HL.out
   rw [List.take_length] at HF
   have HF := Lib.hid HF
   go_wp2
   go_ret2
   exact ⟨HF.out.2.1, .inr ⟨_, rfl, HF.out.1, HF.out.2.2⟩⟩
end Go.Proofs.Ytcgdloldkcmhnaa.H
end
section
namespace Go.Proofs.Ytcgdloldkcmhnaa.H
open Go Go.RowKit Go.Proofs.Ytcgdloldkcmhnaa.PrintC Go.Proofs.Ytcgdloldkcmhnaa.PrintE Go.Proofs.YtcgdloldkcmhnaaW.PrintWords Go.Proofs.YtcgdloldkcmhnaaW.PrintLast Go.Proofs.YtcgdloldkcmhnaaW.PrintMore Go.Proofs.Ytcgdloldkcmhnaa.Flow
set_option linter.unusedVariables false
set_option linter.unusedSimpArgs false
theorem wf_in {x : Int} (h : -9223372036854775808 ≤ x ∧ x ≤ 9223372036854775807) : Wf x := WalkArith.wf_i64 h
def RisesAt (D : DataW Unit) (v : Int) (h : Nat) (w : World) (e : Ending) (w' : World) : Prop := Below w.heap.size w w' ∧ ((e = .returned (.bool true) ∧ ∀ z : Nat, z < h → hasS D v z = true → hasS D v ((z : Int) + 1) = true) ∨ (e = .returned (.bool false) ∧ ∃ z : Nat, z < h ∧ hasS D v z = true ∧ hasS D v ((z : Int) + 1) = false))
set_option maxHeartbeats 4000000 in
set_option maxRecDepth 100000 in
theorem rises_walk (b c : Nat) (D : DataW Unit) (v : Int) (h : Nat) (w : World) (hs : SetAs w b c D) (hv : Wf v) (hh : h ≤ 100000) :
  Calls Try.prog 47 #[.map (some b), .int .i64 v, .int .i64 h] w (RisesAt D v h w) := by
 have HS := Lib.hid hs
 have HV := Lib.hid hv
 clear hs hv
 go_enter Try.func47, Try.ntmps47
 go_wp2
 go_loopg [9] (h + 1) (fun k iv W => ∃ z : Nat, z ≤ h ∧ iv = .int .i64 z ∧ k = h + 1 - z ∧ Hid (Below w.heap.size w W ∧ ∀ z' : Nat, z' < z → hasS D v z' = true → hasS D v ((z' : Int) + 1) = true))
 case atStart => exact ⟨0, Nat.zero_le _, rfl, rfl, Lib.hid ⟨Below.refl _ _, fun z' hz => absurd hz (Nat.not_lt_zero _)⟩⟩
 case round =>
  obtain ⟨z, hz, rfl, rfl, HL⟩ := hrel
  by_cases hlt : z < h
  ·have hlt2 : (z : Int) < (h : Int) := by omega
   cases h1 : hasS D v z with
   |false =>
    have H1 := Lib.hid h1
    clear h1
    go_wp2_with (go_at_call 50; (with_reducible refine (has_walk b c D v z false _ ?s1 ?s2 ?s3 ?s4).mono ?_); (case s1 => exact setAs_below HS.out HL.out.1); (case s2 => exact HV.out); (case s3 => exact wf_in (by omega)); (case s4 => exact H1.out.symm); rintro e w2 ⟨rfl, hb⟩; have HB := Lib.hid (below_step HL.out.1 hb); clear hb)
    go_roundg (h - z)
    case measure => omega
    case rel => exact ⟨z + 1, by omega, by go_num, by omega, Lib.hid ⟨HB.out, fun z' hz' h9 => by
     rcases Nat.lt_or_eq_of_le (Nat.le_of_lt_succ hz') with g | rfl
     ·exact HL.out.2 z' g h9
     ·rw [H1.out] at h9
      cases h9⟩⟩
   |true =>
    cases h2 : hasS D v ((z : Int) + 1) with
    |true =>
     have H1 := Lib.hid (And.intro h1 h2)
     clear h1 h2
     go_wp2_with (first
      |(go_at_call 50; (with_reducible refine (has_walk b c D v z true _ ?s1 ?s2 ?s3 ?s4).mono ?_); (case s1 => exact setAs_below HS.out HL.out.1); (case s2 => exact HV.out); (case s3 => exact wf_in (by omega)); (case s4 => exact H1.out.1.symm); rintro e w2 ⟨rfl, hb⟩; have HB := Lib.hid (below_step HL.out.1 hb); clear hb)
      |(go_at_call 50; (with_reducible refine (has_walk b c D v ((z : Int) + 1) true _ ?s1 ?s2 ?s3 ?s4).mono ?_); (case s1 => exact setAs_below HS.out HB.out); (case s2 => exact HV.out); (case s3 => exact wf_in (by omega)); (case s4 => exact H1.out.2.symm); rintro e w3 ⟨rfl, hb⟩; have HB3 := Lib.hid (below_step HB.out hb); clear hb))
     go_roundg (h - z)
     case measure => omega
     case rel => exact ⟨z + 1, by omega, by go_num, by omega, Lib.hid ⟨HB3.out, fun z' hz' h9 => by
      rcases Nat.lt_or_eq_of_le (Nat.le_of_lt_succ hz') with g | rfl
      ·exact HL.out.2 z' g h9
      ·exact H1.out.2⟩⟩
    |false =>
     have H1 := Lib.hid (And.intro h1 h2)
     clear h1 h2
     go_wp2_with (first
      |(go_at_call 50; (with_reducible refine (has_walk b c D v z true _ ?s1 ?s2 ?s3 ?s4).mono ?_); (case s1 => exact setAs_below HS.out HL.out.1); (case s2 => exact HV.out); (case s3 => exact wf_in (by omega)); (case s4 => exact H1.out.1.symm); rintro e w2 ⟨rfl, hb⟩; have HB := Lib.hid (below_step HL.out.1 hb); clear hb)
      |(go_at_call 50; (with_reducible refine (has_walk b c D v ((z : Int) + 1) false _ ?s1 ?s2 ?s3 ?s4).mono ?_); (case s1 => exact setAs_below HS.out HB.out); (case s2 => exact HV.out); (case s3 => exact wf_in (by omega)); (case s4 => exact H1.out.2.symm); rintro e w3 ⟨rfl, hb⟩; have HB3 := Lib.hid (below_step HB.out hb); clear hb))
     go_ret
     exact ⟨HB3.out, .inr ⟨rfl, z, hlt, H1.out.1, H1.out.2⟩⟩
  ·have e : z = h := by omega
   subst e
   go_wp2
   go_ret
   exact ⟨HL.out.1, .inl ⟨rfl, HL.out.2⟩⟩
def tk1 (H : Int → Int → Bool) (x : Arc) (z : Nat) : Int := if H x.f0 z = true ∧ H x.f1 ((z : Int) + x.f3) = false then x.f2 else 0
def tkA (use : Arc → Bool) (H : Int → Int → Bool) (h : Nat) (x : Arc) : Int := if use x = true then sumN ((h : Int) + 1 - x.f3).toNat (tk1 H x) else 0
def takesV (use : Arc → Bool) (H : Int → Int → Bool) (h : Nat) (l : List Arc) : Int := sumN l.length (fun j => tkA use H h (arcAt l j))
def TakesAt (V : Int) (w : World) (e : Ending) (w' : World) : Prop := e = .returned (.int .i64 V) ∧ Below w.heap.size w w'
set_option maxHeartbeats 8000000 in
set_option maxRecDepth 100000 in
theorem takes_walk (n h : Nat) (bb : Bool) (A : Option Addr) (c : Nat) (l : List Arc) (gp : Nat) (use : Arc → Bool) (b cc : Nat) (D : DataW Unit) (w : World) (hn : NetIn n h l) (hc : ∀ i : Nat, i < l.length → 0 ≤ (arcAt l i).f2 ∧ (arcAt l i).f2 ≤ 1048576) (hh : h ≤ 1024) (hs : SetAs w b cc D) (hr : Kd.C kArc w A l.length l)
  (hU : ∀ x W, x ∈ l → Below w.heap.size w W → Calls Try.prog 49 #[.pointer (some ⟨gp, 0, none⟩), .agg #[.int .i64 x.f0, .int .i64 x.f1, .int .i64 x.f2, .int .i64 x.f3]] W fun e w' => e = .returned (.bool (use x)) ∧ Below W.heap.size W w') :
  Calls Try.prog 48 #[.map (some b), .agg #[.int .i64 n, .bool bb, .slice A l.length c], .int .i64 h, .func (.func 49) #[.pointer (some ⟨gp, 0, none⟩)] #[]] w (TakesAt (takesV use (hasS D) h l) w) := by
 have hu := Try.underlying32
 have hu3 := Try.underlying79
 have HN := Lib.hid hn
 have HCP := Lib.hid hc
 have HS := Lib.hid hs
 have HR := Lib.hid hr
 have HU := Lib.hid hU
 have hll := hn.ll
 have hn1 := hn.n1
 clear hn hc hs hr hU
 go_enter Try.func48, Try.ntmps48
 go_wp2
 obtain ⟨w1, hw1⟩ : ∃ w1, w1 = w.alloc (.cells #[.int .i64 n, .bool bb, .slice A l.length c] 32) := ⟨_, rfl⟩
 have HX : Hid (Below w.heap.size w w1) := Lib.hid (by rw [hw1]; exact below_alloc (Below.refl _ _) _)
 rw [← hw1]
 clear hw1
 go_loopg [9, 16] (l.length + 1) (fun k sv jv W => ∃ (j : Nat) (S : Int), j ≤ l.length ∧ sv = .int .i64 S ∧ jv = .int .i64 j ∧ k = l.length + 1 - j ∧ 0 ≤ S ∧ S ≤ (j : Int) * 1100000000 ∧ Hid (S = sumN j (fun j => tkA use (hasS D) h (arcAt l j)) ∧ Below w.heap.size w W))
 case atStart => exact ⟨0, 0, Nat.zero_le _, rfl, rfl, rfl, Int.le_refl _, by omega, Lib.hid ⟨rfl, HX.out⟩⟩
 case round =>
  obtain ⟨j, S, hj, rfl, rfl, rfl, s0, s1, HL⟩ := hrel
  clear HX
  by_cases hjl : j < l.length
  ·have j0 : (0 : Int) ≤ (j : Int) := by omega
   have j1 : (j : Int) < (l.length : Int) := by omega
   obtain ⟨ad, ea, y0, y1, y2, y3⟩ := at_T79 (Kd.C_below HR.out HL.out.2) (j : Int) j0 j1
   subst ea
   rw [Int.toNat_natCast] at y0 y1 y2 y3
   obtain ⟨x, hx⟩ : ∃ x, x = arcAt l j := ⟨_, rfl⟩
   have hx2 : rd_T79 l (j : Int) = x := by rw [hx]; rfl
   rw [hx2] at y0 y1 y2 y3
   have hen := HN.out.ends j hjl
   have hti := HN.out.time j hjl
   have hcp := HCP.out j hjl
   rw [← hx] at hen hti hcp
   have f0 := hen.1.1
   have f1 := hen.1.2
   have f2 := hen.2.1
   have f3 := hen.2.2
   have t0 := hti.1
   have t1 := hti.2
   have c0 := hcp.1
   have c1 := hcp.2
   have HXM : Hid (x ∈ l) := Lib.hid (by rw [hx]; exact mem_arcAt hjl)
   have HXE := Lib.hid hx
   clear hx hx2 hen hti hcp
   obtain ⟨u, hu9⟩ : ∃ u, use x = u := ⟨_, rfl⟩
   have HUX := Lib.hid hu9
   clear hu9
   go_wp2
   obtain ⟨w4, hw4⟩ : ∃ w4, w4 = wr.alloc (.cells #[.int .i64 x.f0, .int .i64 x.f1, .int .i64 x.f2, .int .i64 x.f3] 79) := ⟨_, rfl⟩
   have HG4 : Hid (w4.heap[wr.heap.size]? = some (.cells #[.int .i64 x.f0, .int .i64 x.f1, .int .i64 x.f2, .int .i64 x.f3] 79 (0, 0)) ∧ Below w.heap.size w w4) := Lib.hid (by rw [hw4]; exact ⟨heap_alloc_new _ _, below_alloc HL.out.2 _⟩)
   rw [← hw4]
   clear hw4 y0 y1 y2 y3
   generalize wr.heap.size = g at HG4 ⊢
   go_loopg [9, 12] (h + 3) (fun k sv zv W => ∃ (z : Nat) (s : Int), z ≤ h + 1 ∧ sv = .int .i64 s ∧ zv = .int .i64 z ∧ k = h + 3 - z ∧ 0 ≤ s ∧ s ≤ S + (z : Int) * 1048576 ∧ (z = 0 ∨ (u = true ∧ (z : Int) + x.f3 ≤ (h : Int) + 1)) ∧ Hid (s = S + sumN z (tk1 (hasS D) x) ∧ W.heap[g]? = some (.cells #[.int .i64 x.f0, .int .i64 x.f1, .int .i64 x.f2, .int .i64 x.f3] 79 (0, 0)) ∧ Below w.heap.size w W))
   case atStart => exact ⟨0, S, by omega, rfl, rfl, rfl, s0, by omega, .inl rfl, Lib.hid ⟨by rw [sumN]; omega, HG4.out.1, HG4.out.2⟩⟩
   case round =>
    obtain ⟨z, s, hz, rfl, rfl, rfl, r0, r1, hzu, HZ⟩ := hrel
    have HG := Lib.hid (And.intro HZ.out.2.1 HZ.out.2.2)
    have y0 : wr.cell? ⟨g, 0, none⟩ = some (.int .i64 x.f0) := (blk_cell HG.out.1 0).trans rfl; have y1 : wr.cell? ⟨g, 1, none⟩ = some (.int .i64 x.f1) := (blk_cell HG.out.1 1).trans rfl; have y2 : wr.cell? ⟨g, 2, none⟩ = some (.int .i64 x.f2) := (blk_cell HG.out.1 2).trans rfl; have y3 : wr.cell? ⟨g, 3, none⟩ = some (.int .i64 x.f3) := (blk_cell HG.out.1 3).trans rfl
    have e5 : IntKind.i64.wrap ((z : Int) + x.f3) = (z : Int) + x.f3 := IntWalk.i64_in _ (by omega)
    have e6 : IntKind.i64.wrap (s + x.f2) = s + x.f2 := IntWalk.i64_in _ (by omega)
    by_cases hzt : (z : Int) + x.f3 ≤ (h : Int)
    ·cases u with
     |false =>
      have hz0 : z = 0 := by
       rcases hzu with h9 | h9
       ·exact h9
       ·cases h9.1
      clear hzu
      go_wp2_with (first
       |(go_at_call 49; refine (HU.out x _ ?s1 ?s2).mono ?_; (case s1 => exact HXM.out); (case s2 => exact HG.out.2); rintro e w1 ⟨rfl, hb⟩; rw [HUX.out]; have HN9 := Lib.hid (And.intro (blk_below HG.out.1 hb) (below_step HG.out.2 hb)); clear HG y0 y1 y2 y3 hb; have HG := HN9; clear HN9; have y0 : w1.cell? ⟨g, 0, none⟩ = some (.int .i64 x.f0) := (blk_cell HG.out.1 0).trans rfl; have y1 : w1.cell? ⟨g, 1, none⟩ = some (.int .i64 x.f1) := (blk_cell HG.out.1 1).trans rfl; have y2 : w1.cell? ⟨g, 2, none⟩ = some (.int .i64 x.f2) := (blk_cell HG.out.1 2).trans rfl; have y3 : w1.cell? ⟨g, 3, none⟩ = some (.int .i64 x.f3) := (blk_cell HG.out.1 3).trans rfl))
      go_roundg (l.length - j)
      case measure => omega
      case rel => exact ⟨j + 1, s, by omega, rfl, by go_num, by omega, r0, by omega, Lib.hid ⟨by
       rw [sumN, ← HL.out.1, ← HXE.out]
       unfold tkA
       rw [HUX.out, if_neg (by decide), HZ.out.1, hz0]
       rfl, HG.out.2⟩⟩
     |true =>
      have hzu2 : Hid ((z : Int) + 1 + x.f3 ≤ (h : Int) + 1) := Lib.hid (by omega)
      clear hzu
      cases ha : hasS D x.f0 z with
      |false =>
       have HA := Lib.hid ha
       clear ha
       go_wp2_with (first
        |(go_at_call 49; refine (HU.out x _ ?s1 ?s2).mono ?_; (case s1 => exact HXM.out); (case s2 => exact HG.out.2); rintro e w1 ⟨rfl, hb⟩; rw [HUX.out]; have HN9 := Lib.hid (And.intro (blk_below HG.out.1 hb) (below_step HG.out.2 hb)); clear HG y0 y1 y2 y3 hb; have HG := HN9; clear HN9; have y0 : w1.cell? ⟨g, 0, none⟩ = some (.int .i64 x.f0) := (blk_cell HG.out.1 0).trans rfl; have y1 : w1.cell? ⟨g, 1, none⟩ = some (.int .i64 x.f1) := (blk_cell HG.out.1 1).trans rfl; have y2 : w1.cell? ⟨g, 2, none⟩ = some (.int .i64 x.f2) := (blk_cell HG.out.1 2).trans rfl; have y3 : w1.cell? ⟨g, 3, none⟩ = some (.int .i64 x.f3) := (blk_cell HG.out.1 3).trans rfl)
        |(go_at_call 50; (with_reducible refine (has_walk b cc D x.f0 z false _ ?s1 ?s2 ?s3 ?s4).mono ?_); (case s1 => exact setAs_below HS.out HG.out.2); (case s2 => exact wf_in (by omega)); (case s3 => exact wf_in (by omega)); (case s4 => exact HA.out.symm); rintro e w2 ⟨rfl, hb⟩; have HN9 := Lib.hid (And.intro (blk_below HG.out.1 hb) (below_step HG.out.2 hb)); clear HG y0 y1 y2 y3 hb; have HG := HN9; clear HN9; have y0 : w2.cell? ⟨g, 0, none⟩ = some (.int .i64 x.f0) := (blk_cell HG.out.1 0).trans rfl; have y1 : w2.cell? ⟨g, 1, none⟩ = some (.int .i64 x.f1) := (blk_cell HG.out.1 1).trans rfl; have y2 : w2.cell? ⟨g, 2, none⟩ = some (.int .i64 x.f2) := (blk_cell HG.out.1 2).trans rfl; have y3 : w2.cell? ⟨g, 3, none⟩ = some (.int .i64 x.f3) := (blk_cell HG.out.1 3).trans rfl))
       go_roundg (h + 2 - z)
       case measure => omega
       case rel => exact ⟨z + 1, s, by omega, rfl, by go_num, by omega, r0, by omega, .inr ⟨by first | rfl | trivial, by have := hzu2.out; omega⟩, Lib.hid ⟨by
        rw [sumN, HZ.out.1]
        unfold tk1
        rw [if_neg (fun e => by rw [HA.out] at e; cases e.1)]
        omega, HG.out.1, HG.out.2⟩⟩
      |true =>
       cases hb9 : hasS D x.f1 ((z : Int) + x.f3) with
       |true =>
        have HA := Lib.hid (And.intro ha hb9)
        clear ha hb9
        go_wp2_with (first
         |(go_at_call 49; refine (HU.out x _ ?s1 ?s2).mono ?_; (case s1 => exact HXM.out); (case s2 => exact HG.out.2); rintro e w1 ⟨rfl, hb⟩; rw [HUX.out]; have HN9 := Lib.hid (And.intro (blk_below HG.out.1 hb) (below_step HG.out.2 hb)); clear HG y0 y1 y2 y3 hb; have HG := HN9; clear HN9; have y0 : w1.cell? ⟨g, 0, none⟩ = some (.int .i64 x.f0) := (blk_cell HG.out.1 0).trans rfl; have y1 : w1.cell? ⟨g, 1, none⟩ = some (.int .i64 x.f1) := (blk_cell HG.out.1 1).trans rfl; have y2 : w1.cell? ⟨g, 2, none⟩ = some (.int .i64 x.f2) := (blk_cell HG.out.1 2).trans rfl; have y3 : w1.cell? ⟨g, 3, none⟩ = some (.int .i64 x.f3) := (blk_cell HG.out.1 3).trans rfl)
         |(go_at_call 50; (with_reducible refine (has_walk b cc D x.f0 z true _ ?s1 ?s2 ?s3 ?s4).mono ?_); (case s1 => exact setAs_below HS.out HG.out.2); (case s2 => exact wf_in (by omega)); (case s3 => exact wf_in (by omega)); (case s4 => exact HA.out.1.symm); rintro e w2 ⟨rfl, hb⟩; have HN9 := Lib.hid (And.intro (blk_below HG.out.1 hb) (below_step HG.out.2 hb)); clear HG y0 y1 y2 y3 hb; have HG := HN9; clear HN9; have y0 : w2.cell? ⟨g, 0, none⟩ = some (.int .i64 x.f0) := (blk_cell HG.out.1 0).trans rfl; have y1 : w2.cell? ⟨g, 1, none⟩ = some (.int .i64 x.f1) := (blk_cell HG.out.1 1).trans rfl; have y2 : w2.cell? ⟨g, 2, none⟩ = some (.int .i64 x.f2) := (blk_cell HG.out.1 2).trans rfl; have y3 : w2.cell? ⟨g, 3, none⟩ = some (.int .i64 x.f3) := (blk_cell HG.out.1 3).trans rfl)
         |(go_at_call 50; (with_reducible refine (has_walk b cc D x.f1 ((z : Int) + x.f3) true _ ?s1 ?s2 ?s3 ?s4).mono ?_); (case s1 => exact setAs_below HS.out HG.out.2); (case s2 => exact wf_in (by omega)); (case s3 => exact wf_in (by omega)); (case s4 => exact HA.out.2.symm); rintro e w2 ⟨rfl, hb⟩; have HN9 := Lib.hid (And.intro (blk_below HG.out.1 hb) (below_step HG.out.2 hb)); clear HG y0 y1 y2 y3 hb; have HG := HN9; clear HN9; have y0 : w2.cell? ⟨g, 0, none⟩ = some (.int .i64 x.f0) := (blk_cell HG.out.1 0).trans rfl; have y1 : w2.cell? ⟨g, 1, none⟩ = some (.int .i64 x.f1) := (blk_cell HG.out.1 1).trans rfl; have y2 : w2.cell? ⟨g, 2, none⟩ = some (.int .i64 x.f2) := (blk_cell HG.out.1 2).trans rfl; have y3 : w2.cell? ⟨g, 3, none⟩ = some (.int .i64 x.f3) := (blk_cell HG.out.1 3).trans rfl))
        go_roundg (h + 2 - z)
        case measure => omega
        case rel => exact ⟨z + 1, s, by omega, rfl, by go_num, by omega, r0, by omega, .inr ⟨by first | rfl | trivial, by have := hzu2.out; omega⟩, Lib.hid ⟨by
         rw [sumN, HZ.out.1]
         unfold tk1
         rw [if_neg (fun e => by rw [HA.out.2] at e; cases e.2)]
         omega, HG.out.1, HG.out.2⟩⟩
       |false =>
        have HA := Lib.hid (And.intro ha hb9)
        clear ha hb9
        go_wp2_with (first
         |(go_at_call 49; refine (HU.out x _ ?s1 ?s2).mono ?_; (case s1 => exact HXM.out); (case s2 => exact HG.out.2); rintro e w1 ⟨rfl, hb⟩; rw [HUX.out]; have HN9 := Lib.hid (And.intro (blk_below HG.out.1 hb) (below_step HG.out.2 hb)); clear HG y0 y1 y2 y3 hb; have HG := HN9; clear HN9; have y0 : w1.cell? ⟨g, 0, none⟩ = some (.int .i64 x.f0) := (blk_cell HG.out.1 0).trans rfl; have y1 : w1.cell? ⟨g, 1, none⟩ = some (.int .i64 x.f1) := (blk_cell HG.out.1 1).trans rfl; have y2 : w1.cell? ⟨g, 2, none⟩ = some (.int .i64 x.f2) := (blk_cell HG.out.1 2).trans rfl; have y3 : w1.cell? ⟨g, 3, none⟩ = some (.int .i64 x.f3) := (blk_cell HG.out.1 3).trans rfl)
         |(go_at_call 50; (with_reducible refine (has_walk b cc D x.f0 z true _ ?s1 ?s2 ?s3 ?s4).mono ?_); (case s1 => exact setAs_below HS.out HG.out.2); (case s2 => exact wf_in (by omega)); (case s3 => exact wf_in (by omega)); (case s4 => exact HA.out.1.symm); rintro e w2 ⟨rfl, hb⟩; have HN9 := Lib.hid (And.intro (blk_below HG.out.1 hb) (below_step HG.out.2 hb)); clear HG y0 y1 y2 y3 hb; have HG := HN9; clear HN9; have y0 : w2.cell? ⟨g, 0, none⟩ = some (.int .i64 x.f0) := (blk_cell HG.out.1 0).trans rfl; have y1 : w2.cell? ⟨g, 1, none⟩ = some (.int .i64 x.f1) := (blk_cell HG.out.1 1).trans rfl; have y2 : w2.cell? ⟨g, 2, none⟩ = some (.int .i64 x.f2) := (blk_cell HG.out.1 2).trans rfl; have y3 : w2.cell? ⟨g, 3, none⟩ = some (.int .i64 x.f3) := (blk_cell HG.out.1 3).trans rfl)
         |(go_at_call 50; (with_reducible refine (has_walk b cc D x.f1 ((z : Int) + x.f3) false _ ?s1 ?s2 ?s3 ?s4).mono ?_); (case s1 => exact setAs_below HS.out HG.out.2); (case s2 => exact wf_in (by omega)); (case s3 => exact wf_in (by omega)); (case s4 => exact HA.out.2.symm); rintro e w2 ⟨rfl, hb⟩; have HN9 := Lib.hid (And.intro (blk_below HG.out.1 hb) (below_step HG.out.2 hb)); clear HG y0 y1 y2 y3 hb; have HG := HN9; clear HN9; have y0 : w2.cell? ⟨g, 0, none⟩ = some (.int .i64 x.f0) := (blk_cell HG.out.1 0).trans rfl; have y1 : w2.cell? ⟨g, 1, none⟩ = some (.int .i64 x.f1) := (blk_cell HG.out.1 1).trans rfl; have y2 : w2.cell? ⟨g, 2, none⟩ = some (.int .i64 x.f2) := (blk_cell HG.out.1 2).trans rfl; have y3 : w2.cell? ⟨g, 3, none⟩ = some (.int .i64 x.f3) := (blk_cell HG.out.1 3).trans rfl))
        go_roundg (h + 2 - z)
        case measure => omega
        case rel => exact ⟨z + 1, s + x.f2, by omega, rfl, by go_num, by omega, by omega, by omega, .inr ⟨by first | rfl | trivial, by have := hzu2.out; omega⟩, Lib.hid ⟨by
         rw [sumN, HZ.out.1]
         unfold tk1
         rw [if_pos HA.out]
         omega, HG.out.1, HG.out.2⟩⟩
    ·go_wp2
     go_roundg (l.length - j)
     case measure => omega
     case rel => exact ⟨j + 1, s, by omega, rfl, by go_num, by omega, r0, by omega, Lib.hid ⟨by
      rw [sumN, ← HL.out.1, ← HXE.out]
      unfold tkA
      rw [HUX.out, HZ.out.1]
      cases u with
      |false =>
       rcases hzu with h9 | h9
       ·rw [h9, if_neg (by decide)]
        rfl
       ·cases h9.1
      |true =>
       rw [if_pos rfl, show ((h : Int) + 1 - x.f3).toNat = z by rcases hzu with h9 | h9 <;> omega], HG.out.2⟩⟩
  ·have e : j = l.length := by omega
   subst e
   go_wp2
   go_ret
   refine ⟨?_, HL.out.2⟩
   unfold takesV
   rw [← HL.out.1]
   rfl
end Go.Proofs.Ytcgdloldkcmhnaa.H
end
section
namespace Go.Proofs.Ytcgdloldkcmhnaa.H
open Go Go.RowKit Go.Proofs.Ytcgdloldkcmhnaa.PrintC Go.Proofs.Ytcgdloldkcmhnaa.PrintE Go.Proofs.YtcgdloldkcmhnaaW.PrintWords Go.Proofs.YtcgdloldkcmhnaaW.PrintLast Go.Proofs.YtcgdloldkcmhnaaW.PrintMore Go.Proofs.Ytcgdloldkcmhnaa.Flow
set_option linter.unusedVariables false
set_option linter.unusedSimpArgs false
theorem gS_append (t : Grp → Bool) : ∀ a b : List Grp, gS t (a ++ b) = gS t a + gS t b
 |[], b => by rw [List.nil_append, gS]; omega
 |x :: a, b => by rw [List.cons_append, gS, gS, gS_append t a b]; omega
theorem gS_take (t : Grp → Bool) {p : List Grp} {i : Nat} (h : i < p.length) : gS t (p.take (i + 1)) = gS t (p.take i) + (if t (rd_T44 p (i : Int)) = true then (rd_T44 p (i : Int)).f1 else 0) := by
 have e : rd_T44 p (i : Int) = p[i] := by
  unfold rd_T44
  rw [Int.toNat_natCast, List.getD_eq_getElem?_getD, List.getElem?_eq_getElem h]
  rfl
 rw [List.take_add_one, List.getElem?_eq_getElem h, e]
 show gS t (p.take i ++ [p[i]]) = _
 rw [gS_append, gS, gS]
 omega
def capV (h : Nat) (l : List Arc) (p q : List Grp) (H : Int → Int → Bool) : Int := takesV (useOf q) H h l + gS (fun g => !H g.f0 0) p + gS (fun g => H g.f0 h) q
def CapAt (n h : Nat) (b : Bool) (l : List Arc) (p q : List Grp) (X : List Slot) (w : World) (e : Ending) (w' : World) : Prop := Below w.heap.size w w' ∧
 ((e = .returned (.tuple #[.int .i64 0, .int .i64 180]) ∧ ∃ s, s ∈ X ∧ ¬ slotOk n h s) ∨
  ((∀ s, s ∈ X → slotOk n h s) ∧ ((e = .returned (.tuple #[.int .i64 0, .int .i64 181]) ∧ ∃ v z : Nat, v < n ∧ keepsOf b p q v = true ∧ z < h ∧ hasS (setD X) v z = true ∧ hasS (setD X) v ((z : Int) + 1) = false) ∨
  (e = .returned (.tuple #[.int .i64 (capV h l p q (hasS (setD X))), .int .i64 0]) ∧ ∀ v : Nat, v < n → keepsOf b p q v = true → ∀ z : Nat, z < h → hasS (setD X) v z = true → hasS (setD X) v ((z : Int) + 1) = true))))
theorem takes_bd {use : Arc → Bool} {H : Int → Int → Bool} {n h : Nat} {l : List Arc} (hn : NetIn n h l) (hh : h ≤ 1024) (hc : ∀ i : Nat, i < l.length → 0 ≤ (arcAt l i).f2 ∧ (arcAt l i).f2 ≤ 1048576) : ∀ j, j ≤ l.length → 0 ≤ sumN j (fun j => tkA use H h (arcAt l j)) ∧ sumN j (fun j => tkA use H h (arcAt l j)) ≤ (j : Int) * 1100000000
 |0, _ => by rw [sumN]; omega
 |j + 1, hj => by
  have ih := takes_bd (use := use) (H := H) hn hh hc j (by omega)
  rw [sumN]
  have h2 := hc j (by omega)
  have h3 := hn.time j (by omega)
  have h4 : ∀ z : Nat, 0 ≤ sumN z (tk1 H (arcAt l j)) ∧ sumN z (tk1 H (arcAt l j)) ≤ (z : Int) * 1048576 := fun z => by
   induction z with
   |zero => rw [sumN]; omega
   |succ z ih =>
    rw [sumN]
    have : 0 ≤ tk1 H (arcAt l j) z ∧ tk1 H (arcAt l j) z ≤ 1048576 := by
     unfold tk1
     split <;> omega
    omega
  have h5 : 0 ≤ tkA use H h (arcAt l j) ∧ tkA use H h (arcAt l j) ≤ 1100000000 := by
   unfold tkA
   split
   ·have := h4 ((h : Int) + 1 - (arcAt l j).f3).toNat
    omega
   ·omega
  omega
set_option maxHeartbeats 8000000 in
set_option maxRecDepth 100000 in
theorem cap_walk (n h : Nat) (b : Bool) (A : Option Addr) (c : Nat) (l : List Arc) (Ap : Option Addr) (cp : Nat) (p : List Grp) (Aq : Option Addr) (cq : Nat) (q : List Grp) (AX : Option Addr) (cX : Nat) (X : List Slot) (w : World) (hP : PlaceOk n h l p q) (hh : h ≤ 1024)
  (hBG : ∀ W, Below w.heap.size w W → Calls Try.prog 28 #[.agg #[.int .i64 n, .bool b, .slice A l.length c], .slice Ap p.length cp, .slice Aq q.length cq, .int .i64 h] W (BegunAt n b A c l Ap cp p Aq cq q 0 W))
  (hr : Kd.C kArc w A l.length l) (hp : Kd.C kGrp w Ap p.length p) (hq : Kd.C kGrp w Aq q.length q) (hX : Kd.C kSlot w AX X.length X) (hlX : X.length ≤ 1000000) :
  Calls Try.prog 23 #[.agg #[.int .i64 n, .bool b, .slice A l.length c], .slice Ap p.length cp, .slice Aq q.length cq, .int .i64 h, .slice AX X.length cX] w (CapAt n h b l p q X w) := by
 have HR := Lib.hid hr
 have HP := Lib.hid hp
 have HQ := Lib.hid hq
 have HXX := Lib.hid hX
 have HBG := Lib.hid hBG
 have HPO := Lib.hid hP
 have hn1 := hP.net.n1
 have hlp := hP.lp
 have hlq := hP.lq
 have hll := hP.net.ll
 have HW : Hid (∀ x, x ∈ l → Wf x.f0) := Lib.hid (fun x hx => by
  obtain ⟨i, hi, rfl⟩ := List.getElem_of_mem hx
  have h9 := (hP.net.ends i hi).1
  have h8 : arcAt l i = l[i] := by
   unfold arcAt rd_T79
   rw [Int.toNat_natCast, List.getD_eq_getElem?_getD, List.getElem?_eq_getElem hi]
   rfl
  rw [h8] at h9
  exact small_wf h9.1 (by omega))
 have hu := Try.underlying32
 have hu2 := Try.underlying44
 have hu3 := Try.underlying112
 clear hr hp hq hX hBG hP
 go_enter Try.func23, Try.ntmps23
 obtain ⟨w0, hw0⟩ : ∃ w0, w0 = w.alloc (.cells #[.int .i64 n, .bool b, .slice A l.length c] 32) := ⟨_, rfl⟩
 have HX0 : Hid (w0.heap[w.heap.size]? = some (.cells #[.int .i64 n, .bool b, .slice A l.length c] 32 (0, 0)) ∧ Below w.heap.size w w0) := Lib.hid (by rw [hw0]; exact ⟨heap_alloc_new _ _, below_alloc (Below.refl _ _) _⟩)
 go_wp2_with (first
  |(go_at_call 28; rw [← hw0]; (with_reducible refine (HBG.out _ ?s1).mono ?_); (case s1 => exact HX0.out.2); rintro e w1 ⟨hb, (⟨h9, _⟩ | ⟨_, gp, bh, br, rfl, hge, hPl⟩)⟩; (exact absurd rfl h9); have HM := Lib.hid (And.intro (blk_below HX0.out.1 hb) (below_step HX0.out.2 hb)); have HPL := Lib.hid hPl; have x0 : w1.cell? ⟨w.heap.size, 0, none⟩ = some (.int .i64 n) := (blk_cell HM.out.1 0).trans rfl; clear hb hge hPl HX0)
  |(go_at_call 45; go_loud ((with_reducible refine (setof_walk n h AX cX X _ ?s1 ?s2 ?s3 ?s4).mono ?_); (case s1 => exact Kd.C_below HXX.out HM.out.2); (case s2 => exact hlX); (case s3 => omega); (case s4 => omega); rintro e w3 ⟨hb, (⟨rfl, hbad⟩ | ⟨b9, rfl, hset, hok⟩)⟩; all_goals (have HM3 := Lib.hid (And.intro (blk_below HM.out.1 hb) (And.intro (below_step HM.out.2 hb) (HPL.out.below hb))); clear HM x0 hb; have x0 : w3.cell? ⟨w.heap.size, 0, none⟩ = some (.int .i64 n) := (blk_cell HM3.out.1 0).trans rfl))))
 ·go_ret2
  exact ⟨HM3.out.2.1, .inl ⟨rfl, hbad⟩⟩
 have HS := Lib.hid hset
 have HOK := Lib.hid hok
 clear hset hok HPL
 obtain ⟨D, hD⟩ : ∃ D, D = setD X := ⟨_, rfl⟩
 rw [← hD] at HS
 have HD := Lib.hid hD
 clear hD
 go_loopg [45] (n + 1) (fun k iv W => ∃ v : Nat, v ≤ n ∧ iv = .int .i64 v ∧ k = n + 1 - v ∧ Hid (Below w3.heap.size w3 W ∧ ∀ v' : Nat, v' < v → keepsOf b p q v' = true → ∀ z : Nat, z < h → hasS D v' z = true → hasS D v' ((z : Int) + 1) = true))
 case atStart => exact ⟨0, Nat.zero_le _, rfl, rfl, Lib.hid ⟨Below.refl _ _, fun v' hv => absurd hv (Nat.not_lt_zero _)⟩⟩
 case round =>
  obtain ⟨v, hv, rfl, rfl, HL⟩ := hrel
  clear x0
  by_cases hlt : v < n
  ·have hlt2 : (v : Int) < (n : Int) := by omega
   cases hkb : keepsOf b p q v with
   |false =>
    have HKB := Lib.hid hkb
    clear hkb
    go_wp2_with (go_at_call 46; (with_reducible refine (keeps_walk gp n b A l.length c Ap p.length cp Aq q.length cq bh br p.length q.length (putGs p) (putGs q) v _ ?s1 ?s2).mono ?_); (case s1 => exact HM3.out.2.2.below HL.out.1); (case s2 => exact small_wf (by omega) (by omega)); rintro e w4 ⟨rfl, rfl⟩; rw [show (b || (hasK (putGs p) (v : Int) || hasK (putGs q) (v : Int))) = false from HKB.out])
    go_roundg (n - v)
    case measure => omega
    case rel => exact ⟨v + 1, by omega, by go_num, by omega, Lib.hid ⟨HL.out.1, fun v' hv' hk' => by
     rcases Nat.lt_or_eq_of_le (Nat.le_of_lt_succ hv') with g | rfl
     ·exact HL.out.2 v' g hk'
     ·rw [HKB.out] at hk'
      cases hk'⟩⟩
   |true =>
    have HKB := Lib.hid hkb
    clear hkb
    go_wp2_with (first
     |(go_at_call 46; (with_reducible refine (keeps_walk gp n b A l.length c Ap p.length cp Aq q.length cq bh br p.length q.length (putGs p) (putGs q) v _ ?s1 ?s2).mono ?_); (case s1 => exact HM3.out.2.2.below HL.out.1); (case s2 => exact small_wf (by omega) (by omega)); rintro e w4 ⟨rfl, rfl⟩; rw [show (b || (hasK (putGs p) (v : Int) || hasK (putGs q) (v : Int))) = true from HKB.out])
     |(go_at_call 47; go_loud ((with_reducible refine (rises_walk b9 X.length D v h _ ?s1 ?s2 ?s3).mono ?_); (case s1 => exact setAs_below HS.out HL.out.1); (case s2 => exact small_wf (by omega) (by omega)); (case s3 => omega); rintro e w5 ⟨hb, (⟨rfl, hris⟩ | ⟨rfl, hris⟩)⟩; all_goals (have HB5 := Lib.hid (below_step HL.out.1 hb); have HRI := Lib.hid hris; clear hb hris))))
    ·go_roundg (n - v)
     case measure => omega
     case rel => exact ⟨v + 1, by omega, by go_num, by omega, Lib.hid ⟨HB5.out, fun v' hv' hk' => by
      rcases Nat.lt_or_eq_of_le (Nat.le_of_lt_succ hv') with g | rfl
      ·exact HL.out.2 v' g hk'
      ·exact HRI.out⟩⟩
    ·go_ret2
     obtain ⟨z, hz, hz1, hz2⟩ := HRI.out
     exact ⟨below_step HM3.out.2.1 HB5.out, .inr ⟨HOK.out, .inl ⟨rfl, v, z, hlt, HKB.out, hz, by rw [← HD.out]; exact hz1, by rw [← HD.out]; exact hz2⟩⟩⟩
  ·have e : v = n := by omega
   subst e
   have HKR := Lib.hid HL.out.2
   have HB := Lib.hid (And.intro HL.out.1 (below_step HM3.out.2.1 HL.out.1))
   clear HL
   have x0 : wr.cell? ⟨w.heap.size, 0, none⟩ = some (.int .i64 v) := (blk_cell (blk_below HM3.out.1 HB.out.1) 0).trans rfl
   have x1 : wr.cell? ⟨w.heap.size, 1, none⟩ = some (.bool b) := (blk_cell (blk_below HM3.out.1 HB.out.1) 1).trans rfl
   have x2 : wr.cell? ⟨w.heap.size, 2, none⟩ = some (.slice A l.length c) := (blk_cell (blk_below HM3.out.1 HB.out.1) 2).trans rfl
   obtain ⟨T, hT⟩ : ∃ T, T = takesV (useOf q) (hasS D) h l := ⟨_, rfl⟩
   have hTb : 0 ≤ T ∧ T ≤ 11000000000000 := by
    have := takes_bd (use := useOf q) (H := hasS D) HPO.out.net hh HPO.out.caps l.length (Nat.le_refl _)
    unfold takesV at hT
    rw [← hT] at this
    omega
   have HT := Lib.hid hT
   clear hT
   go_wp2_with (go_at_call 48; go_loud ((with_reducible refine (takes_walk v h b A c l gp (useOf q) b9 X.length D _ ?s1 ?s2 ?s3 ?s4 ?s5 ?s6).mono ?_); (case s1 => exact HPO.out.net); (case s2 => exact HPO.out.caps); (case s3 => exact hh); (case s4 => exact setAs_below HS.out HB.out.1); (case s5 => exact Kd.C_below HR.out HB.out.2); (case s6 => exact (fun x W hx hb => (use_walk gp v b A l.length c Ap p.length cp Aq q.length cq bh br p.length q.length (putGs p) (putGs q) x W ((HM3.out.2.2.below HB.out.1).below hb) (HW.out x hx)).mono (fun _ _ h9 => h9))); rintro e w6 ⟨rfl, hb⟩; rw [← HT.out]; have HB6 := Lib.hid (And.intro (below_step HB.out.1 hb) (below_step HB.out.2 hb)); clear HB x0 x1 x2 hb))
   go_loopg [17, 67] (p.length + 1) (fun k sv iv W => ∃ (i : Nat) (S : Int), i ≤ p.length ∧ sv = .int .i64 S ∧ iv = .int .i64 i ∧ k = p.length + 1 - i ∧ 0 ≤ S ∧ S ≤ 11000000000000 + (i : Int) * 1048576 ∧ Hid (S = T + gS (fun g => !hasS D g.f0 0) (p.take i) ∧ Below w3.heap.size w3 W ∧ Below w.heap.size w W))
   case atStart => exact ⟨0, T, Nat.zero_le _, rfl, rfl, rfl, hTb.1, by omega, Lib.hid ⟨by rw [List.take_zero, gS]; omega, HB6.out⟩⟩
   case round =>
    obtain ⟨i, S, hi, rfl, rfl, rfl, s0, s1, HL⟩ := hrel
    clear HB6
    by_cases hlt : i < p.length
    ·have i0 : (0 : Int) ≤ (i : Int) := by omega
     have i1 : (i : Int) < (p.length : Int) := by omega
     obtain ⟨ad, ea, y0, y1⟩ := at_T44 (Kd.C_below HP.out HL.out.2.2) (i : Int) i0 i1
     subst ea
     rw [Int.toNat_natCast] at y0 y1
     have hgt := gS_take (fun g => !hasS D g.f0 0) hlt
     obtain ⟨G, hG⟩ : ∃ G, G = rd_T44 p (i : Int) := ⟨_, rfl⟩
     have hgi := HPO.out.gp G (by rw [hG]; exact grp_mem hlt)
     rw [← hG] at y0 y1 hgt
     have g0 := hgi.1.1
     have g1 := hgi.1.2
     have g2 := hgi.2.1
     have g3 := hgi.2.2
     have HGT := Lib.hid hgt
     clear hG hgi hgt
     have e6 : IntKind.i64.wrap (S + G.f1) = S + G.f1 := IntWalk.i64_in _ (by omega)
     obtain ⟨R, hR⟩ : ∃ R, hasS D G.f0 0 = R := ⟨_, rfl⟩
     have HRR := Lib.hid hR
     clear hR
     have HH : Hid (∀ W, Below w3.heap.size w3 W → Calls Try.prog 50 #[.map (some b9), .int .i64 G.f0, .int .i64 0] W fun e w' => e = .returned (.bool R) ∧ Below W.heap.size W w') := Lib.hid (fun W hW => has_walk b9 X.length D G.f0 0 R W (setAs_below HS.out hW) (small_wf (by omega) (by omega)) (by decide) HRR.out.symm)
     cases R with
     |true =>
      go_wp2_with (go_at_call 50; refine (HH.out _ ?s1).mono ?_; (case s1 => exact below_alloc HL.out.2.1 _); rintro e w7 ⟨rfl, hb⟩; have HB7 := Lib.hid (And.intro (below_step (below_alloc HL.out.2.1 _) hb) (below_step (below_alloc HL.out.2.2 _) hb)); clear hb)
      go_roundg (p.length - i)
      case measure => omega
      case rel => exact ⟨i + 1, S, by omega, rfl, by go_num, by omega, s0, by omega, Lib.hid ⟨by rw [HGT.out, HL.out.1, HRR.out, if_neg (by decide)]; omega, HB7.out⟩⟩
     |false =>
      go_wp2_with (go_at_call 50; refine (HH.out _ ?s1).mono ?_; (case s1 => exact below_alloc HL.out.2.1 _); rintro e w7 ⟨rfl, hb⟩; have HB7 := Lib.hid (And.intro (below_step (below_alloc HL.out.2.1 _) hb) (below_step (below_alloc HL.out.2.2 _) hb)); have y1 : w7.cell? ⟨wr.heap.size, 1, none⟩ = some (.int .i64 G.f1) := (blk_cell (blk_below (heap_alloc_new wr (.cells #[.int .i64 G.f0, .int .i64 G.f1] 44)) hb) 1).trans rfl; clear hb)
      go_roundg (p.length - i)
      case measure => omega
      case rel => exact ⟨i + 1, S + G.f1, by omega, rfl, by go_num, by omega, by omega, by omega, Lib.hid ⟨by rw [HGT.out, HL.out.1, HRR.out, if_pos (by decide)]; omega, HB7.out⟩⟩
    ·have e : i = p.length := by omega
     subst e
     have HT2 : Hid (S = T + gS (fun g => !hasS D g.f0 0) p) := Lib.hid (by have := HL.out.1; rwa [List.take_length] at this)
     have HB6 := Lib.hid HL.out.2
     clear HL
     go_wp2
     go_loopg [17, 83] (q.length + 1) (fun k sv iv W => ∃ (i : Nat) (s : Int), i ≤ q.length ∧ sv = .int .i64 s ∧ iv = .int .i64 i ∧ k = q.length + 1 - i ∧ 0 ≤ s ∧ s ≤ 12100000000000 + (i : Int) * 1048576 ∧ Hid (s = S + gS (fun g => hasS D g.f0 h) (q.take i) ∧ Below w3.heap.size w3 W ∧ Below w.heap.size w W))
     case atStart => exact ⟨0, S, Nat.zero_le _, rfl, rfl, rfl, s0, by omega, Lib.hid ⟨by rw [List.take_zero, gS]; omega, HB6.out⟩⟩
     case round =>
      obtain ⟨i, s, hi, rfl, rfl, rfl, s0, s1, HL⟩ := hrel
      clear HB6
      by_cases hlt : i < q.length
      ·have i0 : (0 : Int) ≤ (i : Int) := by omega
       have i1 : (i : Int) < (q.length : Int) := by omega
       obtain ⟨ad, ea, y0, y1⟩ := at_T44 (Kd.C_below HQ.out HL.out.2.2) (i : Int) i0 i1
       subst ea
       rw [Int.toNat_natCast] at y0 y1
       have hgt := gS_take (fun g => hasS D g.f0 h) hlt
       obtain ⟨G, hG⟩ : ∃ G, G = rd_T44 q (i : Int) := ⟨_, rfl⟩
       have hgi := HPO.out.gq G (by rw [hG]; exact grp_mem hlt)
       rw [← hG] at y0 y1 hgt
       have g0 := hgi.1.1
       have g1 := hgi.1.2
       have g2 := hgi.2.1
       have g3 := hgi.2.2
       have HGT := Lib.hid hgt
       clear hG hgi hgt
       have e6 : IntKind.i64.wrap (s + G.f1) = s + G.f1 := IntWalk.i64_in _ (by omega)
       obtain ⟨R, hR⟩ : ∃ R, hasS D G.f0 h = R := ⟨_, rfl⟩
       have HRR := Lib.hid hR
       clear hR
       have HH : Hid (∀ W, Below w3.heap.size w3 W → Calls Try.prog 50 #[.map (some b9), .int .i64 G.f0, .int .i64 h] W fun e w' => e = .returned (.bool R) ∧ Below W.heap.size W w') := Lib.hid (fun W hW => has_walk b9 X.length D G.f0 h R W (setAs_below HS.out hW) (small_wf (by omega) (by omega)) (small_wf (by omega) (by omega)) HRR.out.symm)
       cases R with
       |false =>
        go_wp2_with (go_at_call 50; refine (HH.out _ ?s1).mono ?_; (case s1 => exact below_alloc HL.out.2.1 _); rintro e w7 ⟨rfl, hb⟩; have HB7 := Lib.hid (And.intro (below_step (below_alloc HL.out.2.1 _) hb) (below_step (below_alloc HL.out.2.2 _) hb)); clear hb)
        go_roundg (q.length - i)
        case measure => omega
        case rel => exact ⟨i + 1, s, by omega, rfl, by go_num, by omega, s0, by omega, Lib.hid ⟨by rw [HGT.out, HL.out.1, HRR.out, if_neg (by decide)]; omega, HB7.out⟩⟩
       |true =>
        go_wp2_with (go_at_call 50; refine (HH.out _ ?s1).mono ?_; (case s1 => exact below_alloc HL.out.2.1 _); rintro e w7 ⟨rfl, hb⟩; have HB7 := Lib.hid (And.intro (below_step (below_alloc HL.out.2.1 _) hb) (below_step (below_alloc HL.out.2.2 _) hb)); have y1 : w7.cell? ⟨wr.heap.size, 1, none⟩ = some (.int .i64 G.f1) := (blk_cell (blk_below (heap_alloc_new wr (.cells #[.int .i64 G.f0, .int .i64 G.f1] 44)) hb) 1).trans rfl; clear hb)
        go_roundg (q.length - i)
        case measure => omega
        case rel => exact ⟨i + 1, s + G.f1, by omega, rfl, by go_num, by omega, by omega, by omega, Lib.hid ⟨by rw [HGT.out, HL.out.1, HRR.out, if_pos (by decide)]; omega, HB7.out⟩⟩
      ·have e : i = q.length := by omega
       subst e
       go_wp2
       go_ret2
       have h9 := HL.out.1
       rw [List.take_length, HT2.out, HT.out] at h9
       refine ⟨HL.out.2.2, .inr ⟨HOK.out, .inr ⟨?_, ?_⟩⟩⟩
       ·rw [← HD.out]
        unfold capV
        rw [← h9]
        rfl
       ·rw [← HD.out]
        exact HKR.out
end Go.Proofs.Ytcgdloldkcmhnaa.H
end
section
namespace Go.Proofs.Ytcgdloldkcmhnaa.H
open Go Go.RowKit Go.Proofs.YtcgdloldkcmhnaaW.PrintWords Go.Proofs.YtcgdloldkcmhnaaW.PrintLast Go.Proofs.YtcgdloldkcmhnaaW.PrintMore
section
variable {P : Program} {md : Region.Mode} {ops : Array Oper} {Q : Exit → Act → World → Prop} {S : World → Prop} {ds : List Nat}
theorem sS (i : Nat) {oi : Oper} {fuel : Nat} {l : Array Bool} {a : Act} {w w1 : World} (h : wpAnyLast P md ops Q S ds fuel (l.setIfInBounds i true) a w1)
  (hi : ops[i]? = some oi := by exact rfl) (hN : oi.dst = none := by exact rfl) (hr : readyB md ops l (l.setIfInBounds i true) i = true := by kernel_rfl) (hd : i ∈ ds := by decide) (hw : Region.wanted oi (yielded ops a.tmps) = true := by rfl)
  (hrun : (execOp a.eval oi).run P w = .ok .skip w1 := by (go_simp; rfl)) : wpAnyLast P md ops Q S ds (fuel + 1) l a w :=
 last_ _ hi hN hr hd fun _ hK => skip_ hw hN hrun (hK.out _ _ h)
theorem wT {fuel : Nat} {l : Array Bool} {a : Act} {w : World} (T : Bool × List (List Nat × List Nat)) (h : Hid (rtab md ops = T) → wpAnyLast P md ops Q S ds fuel l a w) (hT : rtab md ops = T := by kernel_rfl) : wpAnyLast P md ops Q S ds fuel l a w := h (Lib.hid hT)
theorem qP (n : Nat) {t : Tmp} {oi : Oper} {v : Value} {fuel : Nat} {l : Array Bool} {a a' : Act} {w : World} {T : Bool × List (List Nat × List Nat)} (hT : Hid (rtab md ops = T)) (h : wpAnyLast P md ops Q S ds fuel (l.setIfInBounds (n - (fuel + 1)) true) a' w) (hi : ops[n - (fuel + 1)]? = some oi := by exact rfl) (hN : oi.dst = some t := by exact rfl) (hc : anyT T l.toList (l.setIfInBounds (n - (fuel + 1)) true).toList (n - (fuel + 1)) = true := by kernel_rfl)
  (hQ : ∀ c a w, Q (.panic c) (a.put oi.dst v) w → Q (.panic c) a w := by exact fun _ _ _ h => h) (hy : Yields P ops oi v a := by first | (refine Or.inl ⟨by rfl, ?_⟩; intro w'; go_simp; with_reducible rfl) | exact Or.inr ⟨by rfl, rfl⟩)
  (ha : a.put (some t) v = a' := by (simp only [Act.put, List.setIfInBounds_toArray, List.set_cons_zero, List.set_cons_succ]; rfl)) : wpAnyLast P md ops Q S ds (fuel + 1) l a w := pure_ _ hi hN (any_of hT.out hc) hQ hy ha h
theorem qT (n : Nat) {t : Tmp} {oi : Oper} {v : Value} {fuel : Nat} {l : Array Bool} {a a' : Act} {w : World} {T : Bool × List (List Nat × List Nat)} (hT : Hid (rtab md ops = T)) (hS : S w) (h : wpAnyLast P md ops Q S ds fuel (l.setIfInBounds (n - (fuel + 1)) true) a' w) (hi : ops[n - (fuel + 1)]? = some oi := by exact rfl) (hN : oi.dst = some t := by exact rfl) (hc : takeT T ds l.toList (l.setIfInBounds (n - (fuel + 1)) true).toList (n - (fuel + 1)) = true := by kernel_rfl)
  (hQ : ∀ c a w, Q (.panic c) (a.put oi.dst v) w → Q (.panic c) a w := by exact fun _ _ _ h => h) (hy : YieldsIf P ops S oi v a := by (refine Or.inl ⟨by rfl, ?_⟩; intro w' hs'; (repeat (rcases hs' with ⟨_, hs'⟩)); go_simp; with_reducible rfl))
  (ha : a.put (some t) v = a' := by (simp only [Act.put, List.setIfInBounds_toArray, List.set_cons_zero, List.set_cons_succ]; rfl)) : wpAnyLast P md ops Q S ds (fuel + 1) l a w := take_ _ hi hN (take_of hT.out hc) hQ hy hS ha h
end
section
variable {P : Program} {ops : Array Oper} {Q : Exit → Act → World → Prop}
theorem gA {o : Oper} {rest : List Oper} {a : Act} {w0 W : World} {base : Nat} {α : Type} {d : Kd α} {T t : TypeId} {cs : α → List Value} (hk : AppK P d T t cs) {s x : Operand} {Ao : Option Addr} {co : Nat} (xs : List α) (p : α)
  (HO : d.R t W base (fun _ => True) (.slice Ao xs.length co) xs) (HB : Below base w0 W) (hbase : base ≤ W.heap.size) (hl : xs.length ≤ 1000000)
  (h : ∀ A1 c1 w1, d.R t w1 base (fun _ => True) (.slice A1 (xs.length + 1) c1) (xs ++ [p]) → Below base w0 w1 → W.grownBy w1 (Value.slice Ao xs.length co).ownBlock → wpList P ops Q rest (a.put o.dst (.slice A1 (xs.length + 1) c1)) w1)
  (hgd : o.guard = none := by exact rfl) (ho : o.op = .call { callee := .builtin .append, args := #[s, x], argTypes := #[T, T] } := by exact rfl) (hs : a.eval s = .slice Ao xs.length co := by exact rfl) (hx : a.eval x = .slice (some ⟨W.heap.size, 0, none⟩) 1 1 := by first | exact rfl | (simp; done) | (simp; rfl)) :
  wpList P ops Q (o :: rest) a (W.alloc (.cells (cs p).toArray t)) := by
 obtain ⟨z, bytes, h1, h2, h3, h4⟩ := hk.info
 refine Kd.R_append d (w0 := w0) base hgd s x T t z bytes ho hk.und h1 h2 hk.pos h3 _ xs p (cs p) (fun _ => True) (fun _ => False) hs hx (hk.made _ _ _ p) (fun _ hk => hk.elim) (fun _ _ => trivial) HO HB hbase (Nat.le_trans (Nat.mul_le_mul (Nat.succ_le_succ hl) h4) (by decide)) ?_
 intro v1 w1 o1 b1 g1 _
 obtain ⟨A1, c1, e1⟩ := Kd.R_slice o1
 rw [List.length_append] at e1
 subst e1
 exact h A1 c1 w1 o1 b1 g1
end
end Go.Proofs.Ytcgdloldkcmhnaa.H
end
