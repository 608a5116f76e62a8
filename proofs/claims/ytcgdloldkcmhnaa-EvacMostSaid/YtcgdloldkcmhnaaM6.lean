/- Texts of this proof, joined; what the statement doesn't need is left out. -/
import Derived.Test.YtcgdloldkcmhnaaM5
section
namespace Go.Proofs.Ytcgdloldkcmhnaa.H
open Go Go.RowKit Go.Proofs.Ytcgdloldkcmhnaa.PrintC Go.Proofs.Ytcgdloldkcmhnaa.PrintE Go.Proofs.YtcgdloldkcmhnaaW.PrintWords Go.Proofs.YtcgdloldkcmhnaaW.PrintLast Go.Proofs.YtcgdloldkcmhnaaW.PrintMore Go.Proofs.Ytcgdloldkcmhnaa.Flow
set_option linter.unusedVariables false
set_option linter.unusedSimpArgs false
abbrev OkAt (w : World) (e : Ending) (w' : World) : Prop := e = .returned (.int .i64 0) ∧ Below w.heap.size w w'
theorem rspan_walk (h : Nat) (w : World) (hh : h ≤ 1024) : Calls Try.prog 66 #[.int .i64 h] w (OkAt w) := by
  have d1 : ¬ (h : Int) < 0 := by omega
  have d2 : (h : Int) ≤ 1024 := by omega
  go_enter Try.func66, Try.ntmps66
  go_wp2
  go_ret
  exact ⟨rfl, Below.refl _ _⟩
set_option maxRecDepth 100000 in
set_option maxHeartbeats 4000000 in
theorem rarc_walk (n : Int) (x : Arc) (w : World) (h : (0 ≤ x.f0 ∧ x.f0 < n) ∧ (0 ≤ x.f1 ∧ x.f1 < n) ∧ (0 ≤ x.f2 ∧ x.f2 ≤ 1048576) ∧ 0 ≤ x.f3 ∧ x.f3 ≤ 1048576) :
    Calls Try.prog 86 #[.int .i64 n, .agg #[.int .i64 x.f0, .int .i64 x.f1, .int .i64 x.f2, .int .i64 x.f3]] w (OkAt w) := by
  have d1 : decide (x.f0 < 0) = false := decide_eq_false (by omega)
  have d2 : decide (n ≤ x.f0) = false := decide_eq_false (by omega)
  have d3 : decide (x.f1 < 0) = false := decide_eq_false (by omega)
  have d4 : decide (n ≤ x.f1) = false := decide_eq_false (by omega)
  have d5 : decide (x.f2 < 0) = false := decide_eq_false (by omega)
  have d6 : decide (x.f3 < 0) = false := decide_eq_false (by omega)
  have d7 : decide (1048576 < x.f2) = false := decide_eq_false (by omega)
  have d8 : decide (1048576 < x.f3) = false := decide_eq_false (by omega)
  clear h
  have hu2 := Try.underlying79
  go_enter Try.func86, Try.ntmps86
  go_wp2
  go_ret
  exact ⟨rfl, below_alloc (Below.refl _ _) _⟩
set_option maxRecDepth 100000 in
set_option maxHeartbeats 4000000 in
theorem rcheck_walk (n : Nat) (b : Bool) (A : Option Addr) (c : Nat) (l : List Arc) (w : World) (hg : NetGood n l) (hr : Kd.C kArc w A l.length l) :
    Calls Try.prog 64 #[.agg #[.int .i64 n, .bool b, .slice A l.length c]] w (OkAt w) := by
  have hu := Try.underlying32
  have hu2 := Try.underlying79
  have HR := Lib.hid hr
  have HG := Lib.hid hg.arc
  have d1 : ¬ (n : Int) < 1 := by have := hg.n0; omega
  have d2 : ¬ 50 < (n : Int) := by have := hg.n1; omega
  have d3 : ¬ 200 < (l.length : Int) := by have := hg.ll; omega
  have hll := hg.ll
  clear hg hr
  go_enter Try.func64, Try.ntmps64
  obtain ⟨w1, hw1⟩ : ∃ w1, w1 = w.alloc (.cells #[.int .i64 n, .bool b, .slice A l.length c] 32) := ⟨_, rfl⟩
  have HX : Hid (w1.heap[w.heap.size]? = some (.cells #[.int .i64 n, .bool b, .slice A l.length c] 32 (0, 0)) ∧ Below w.heap.size w w1) := Lib.hid (by rw [hw1]; exact ⟨heap_alloc_new _ _, below_alloc (Below.refl _ _) _⟩)
  go_wp2
  rw [← hw1]
  clear hw1
  go_loopg [4] (l.length + 1) (fun k iv W => ∃ i : Nat, i ≤ l.length ∧ iv = .int .i64 i ∧ k = l.length + 1 - i ∧ Hid (W.heap[w.heap.size]? = some (.cells #[.int .i64 n, .bool b, .slice A l.length c] 32 (0, 0)) ∧ Below w.heap.size w W))
  case atStart => exact ⟨0, Nat.zero_le _, rfl, rfl, HX⟩
  case round =>
    obtain ⟨i, hi, rfl, rfl, HL⟩ := hrel
    clear HX
    have q2 : wr.cell? ⟨w.heap.size, 2, none⟩ = some (.slice A l.length c) := (blk_cell HL.out.1 2).trans rfl
    by_cases d4 : i < l.length
    · have i0 : (0 : Int) ≤ (i : Int) := by omega
      have i1 : (i : Int) < (l.length : Int) := by omega
      have HXG := Lib.hid (HG.out i d4)
      go_wp2
      clear q2
      obtain ⟨ad, ea, y0, y1, y2, y3⟩ := at_T79 (Kd.C_drew (Kd.C_below HR.out HL.out.2)) (i : Int) i0 i1
      subst ea
      rw [Int.toNat_natCast] at y0 y1 y2 y3
      obtain ⟨x, hx⟩ : ∃ x, x = arcAt l i := ⟨_, rfl⟩
      have hx2 : rd_T79 l (i : Int) = x := by rw [hx]; rfl
      rw [hx2] at y0 y1 y2 y3
      rw [← hx] at HXG
      clear hx hx2
      have x0 : wr.drew.cell? ⟨w.heap.size, 0, none⟩ = some (.int .i64 n) := (blk_cell (blk_drew HL.out.1) 0).trans rfl
      have x2 : wr.drew.cell? ⟨w.heap.size, 2, none⟩ = some (.slice (some ad) l.length c) := (blk_cell (blk_drew HL.out.1) 2).trans rfl
      have HX1 := Lib.hid (And.intro (blk_drew HL.out.1) (below_drew1 HL.out.2))
      refine stepS (S := fun w' => w'.cell? ⟨w.heap.size, 0, none⟩ = some (.int .i64 n) ∧ w'.cell? ⟨w.heap.size, 2, none⟩ = some (.slice (some ad) l.length c) ∧ w'.cell? (ad.add (i * 4)) = some (.int .i64 x.f0) ∧ w'.cell? ⟨(ad.add (i * 4)).block, (ad.add (i * 4)).off + 1, none⟩ = some (.int .i64 x.f1) ∧ w'.cell? ⟨(ad.add (i * 4)).block, (ad.add (i * 4)).off + 2, none⟩ = some (.int .i64 x.f2) ∧ w'.cell? ⟨(ad.add (i * 4)).block, (ad.add (i * 4)).off + 3, none⟩ = some (.int .i64 x.f3)) (ds := [7]) 9 (by kernel_rfl) rfl ⟨x0, x2, y0, y1, y2, y3⟩ (fun hHeld => ?_)
      generalize wr.drew = wd at HX1 hHeld x0 x2 y0 y1 y2 y3 ⊢
      repeat (first
        | (refine stepP 9 (N := some _) (v := ?_) (a' := ?_) rfl rfl (by kernel_rfl) (fun _ _ _ h => h) (Or.inl ⟨by rfl, ?_⟩) ?_ ?_
           rotate_left
           · (intro w'; go_simp; with_reducible rfl)
           rotate_left
           · (simp only [Act.put, List.setIfInBounds_toArray, List.set_cons_zero, List.set_cons_succ]; rfl))
        | (refine stepT 9 (N := some _) (v := ?_) (a' := ?_) rfl rfl (by kernel_rfl) (fun _ _ _ h => h) (Or.inl ⟨by rfl, ?_⟩) hHeld ?_ ?_
           rotate_left
           · (rintro w' ⟨s0, s1, s2, s3, s4, s5⟩; go_simp; with_reducible rfl)
           rotate_left
           · (simp only [Act.put, List.setIfInBounds_toArray, List.set_cons_zero, List.set_cons_succ]; rfl)))
      refine stepL 9 (N := some 30) rfl rfl (by kernel_rfl) (by decide) (fun K hK => ?_)
      refine goes_ Try.func86 (by kernel_rfl) rfl #[.int .i64 n, .agg #[.int .i64 x.f0, .int .i64 x.f1, .int .i64 x.f2, .int .i64 x.f3]] (by rfl) rfl rfl (by (try simp only [List.map_toArray, List.map_cons, List.map_nil]); rfl) ?_
      refine (rarc_walk n x _ HXG.out).mono ?_
      rintro e w5 ⟨rfl, hb⟩
      refine ⟨_, rfl, ?_⟩
      have HX2 := Lib.hid (And.intro (blk_below HX1.out.1 hb) (below_step HX1.out.2 hb))
      refine hK.out _ _ ?_
      clear hK K hHeld hb HX1 x0 x2 y0 y1 y2 y3
      refine norm_ (a' := ?_) ?_ ?_
      rotate_left
      · (show Act.put _ (some 30) _ = _; simp only [Act.put, List.setIfInBounds_toArray, List.set_cons_zero, List.set_cons_succ]; rfl)
      refine stepP 9 (N := some _) (v := ?_) (a' := ?_) rfl rfl (by kernel_rfl) (fun _ _ _ h => h) (Or.inl ⟨by rfl, ?_⟩) ?_ ?_
      rotate_left
      · (intro w'; go_simp; with_reducible rfl)
      rotate_left
      · (simp only [Act.put, List.setIfInBounds_toArray, List.set_cons_zero, List.set_cons_succ]; rfl)
      refine done_ (by kernel_rfl) ?_
      go_wp2
      go_roundg (l.length - i)
      case measure => omega
      case rel => exact ⟨i + 1, by omega, by go_num, by omega, HX2⟩
    · have d5 : ¬ (i : Int) < (l.length : Int) := by omega
      go_wp2
      go_ret
      exact ⟨rfl, HL.out.2⟩
set_option maxRecDepth 100000 in
theorem rnode_walk (n : Int) (b : Bool) (vl : Value) (v : Int) (w : World) (h : 0 ≤ v ∧ v < n) :
    Calls Try.prog 102 #[.agg #[.int .i64 n, .bool b, vl], .int .i64 v] w fun e w' => e = .returned (.bool true) ∧ Below w.heap.size w w' := by
  have hu := Try.underlying32
  have d1 : decide (0 ≤ v) = true := decide_eq_true h.1
  have d2 : decide (v < n) = true := decide_eq_true h.2
  clear h
  go_enter Try.func102, Try.ntmps102
  go_wp2
  go_ret
  exact ⟨rfl, below_alloc (Below.refl _ _) _⟩
set_option maxRecDepth 100000 in
set_option maxHeartbeats 4000000 in
theorem rgroup_walk (n : Int) (b : Bool) (vl : Value) (A : Option Addr) (c : Nat) (L : List Grp) (m : Nat) (hm : L.length = m) (g : Grp) (w : World) (hr : Kd.C kGrp w A L.length L) (hl : m ≤ 1000000) (h1 : 0 ≤ g.f0 ∧ g.f0 < n) (h2 : 0 ≤ g.f1 ∧ g.f1 ≤ 1048576) (h3 : gOf g.f0 L < 0) :
    Calls Try.prog 87 #[.agg #[.int .i64 n, .bool b, vl], .slice A m c, .agg #[.int .i64 g.f0, .int .i64 g.f1]] w (OkAt w) := by
  have hu := Try.underlying32
  have hu3 := Try.underlying44
  have HR := Lib.hid hr
  obtain ⟨y, hy⟩ : ∃ y, y = gOf g.f0 L := ⟨_, rfl⟩
  rw [← hy] at h3
  have HY := Lib.hid hy
  have d1 : decide (0 ≤ g.f0) = true := decide_eq_true h1.1
  have d2 : decide (g.f0 < n) = true := decide_eq_true h1.2
  have d3 : decide (g.f1 < 0) = false := decide_eq_false (by omega)
  have d4 : decide (0 ≤ y) = false := decide_eq_false (by omega)
  have d5 : ¬ 1048576 < g.f1 := by omega
  have HM := Lib.hid hm
  clear hr hy h1 h2 hm
  go_enter Try.func87, Try.ntmps87
  obtain ⟨w1, hw1⟩ : ∃ w1, w1 = (w.alloc (.cells #[.int .i64 n, .bool b, vl] 32)).alloc (.cells #[.int .i64 g.f0, .int .i64 g.f1] 44) := ⟨_, rfl⟩
  have HB0 : Hid (Below w.heap.size w w1) := Lib.hid (by rw [hw1]; exact below_alloc (below_alloc (Below.refl _ _) _) _)
  have v0 : w1.cell? ⟨w.heap.size + 1, 0, none⟩ = some (.int .i64 g.f0) := by rw [hw1]; exact (blk_cell (alloc_at (by rw [alloc_size])) 0).trans rfl
  have v1 : w1.cell? ⟨w.heap.size + 1, 1, none⟩ = some (.int .i64 g.f1) := by rw [hw1]; exact (blk_cell (alloc_at (by rw [alloc_size])) 1).trans rfl
  go_wp2_with (first
    | (go_at_call 102; rw [← hw1]; go_loud ((with_reducible refine (rnode_walk n b vl _ _ ?s1).mono ?_); (case s1 => exact ⟨of_decide_eq_true d1, of_decide_eq_true d2⟩); rintro e w2 ⟨rfl, hb⟩; have HB1 := Lib.hid (below_step HB0.out hb); have u0 := pw_cell_below hb v0; have u1 := pw_cell_below hb v1; clear hb))
    | (go_at_call 27; go_loud ((with_reducible refine (rof_walk m A c L _ _ ?s1 ?s2 ?s3).mono ?_); (case s1 => exact HM.out); (case s2 => exact Kd.C_below HR.out HB1.out); (case s3 => exact hl); rintro e w3 ⟨rfl, hb⟩; rw [← HY.out]; have HB2 := Lib.hid (below_step HB1.out hb); have t1 := pw_cell_below hb u1; clear hb)))
  go_ret
  exact ⟨rfl, HB2.out⟩
theorem infoGp : (Try.prog.info? 44).map (fun i => (i.zero, i.size, i.bytes)) = some (some (.agg #[.int .i64 0, .int .i64 0]), 2, 16) := by kernel_rfl
theorem take_sn {l : List Grp} {i : Nat} (h : i < l.length) : l.take (i + 1) = l.take i ++ [rd_T44 l (i : Int)] := by
  have e : rd_T44 l (i : Int) = l[i] := by
    unfold rd_T44
    rw [Int.toNat_natCast, List.getD_eq_getElem?_getD, List.getElem?_eq_getElem h]
    rfl
  rw [List.take_add_one, List.getElem?_eq_getElem h, e]
  rfl
theorem snoc_tk {l : List Grp} {g : Grp} {i m : Nat} (hm : l.length = m) (h : i < m) : (l.take i ++ [g]).length = i + 1 := by
  rw [List.length_append, List.length_take, List.length_singleton]
  omega
theorem gOf_none (v : Int) : ∀ {l : List Grp}, (∀ g, g ∈ l → g.f0 ≠ v) → gOf v l < 0
  | [], _ => by unfold gOf; decide
  | g :: l, h => by
    unfold gOf
    rw [if_neg (h g (List.mem_cons_self ..))]
    exact gOf_none v (fun x hx => h x (List.mem_cons_of_mem _ hx))
theorem grp_ahead {n : Int} {p q : List Grp} (h : GroupsOk n p q) {i : Nat} (hi : i < (p ++ q).length) : ((0 ≤ (rd_T44 (p ++ q) (i : Int)).f0 ∧ (rd_T44 (p ++ q) (i : Int)).f0 < n) ∧ 0 ≤ (rd_T44 (p ++ q) (i : Int)).f1 ∧ (rd_T44 (p ++ q) (i : Int)).f1 ≤ 1048576) ∧ gOf (rd_T44 (p ++ q) (i : Int)).f0 ((p ++ q).take i) < 0 := by
  have e : rd_T44 (p ++ q) (i : Int) = (p ++ q)[i] := by
    unfold rd_T44
    rw [Int.toNat_natCast, List.getD_eq_getElem?_getD, List.getElem?_eq_getElem hi]
    rfl
  rw [e]
  have hm := List.getElem_mem hi
  refine ⟨(List.mem_append.1 hm).elim (h.gp _) (h.gq _), gOf_none _ (fun g hg e2 => ?_)⟩
  have hnd : ((p ++ q).map fun g => g.f0).Nodup := by
    rw [List.map_append, List.nodup_append]
    refine ⟨h.dp, h.dq, fun a ha c hc => ?_⟩
    obtain ⟨x, hx, rfl⟩ := List.mem_map.1 ha
    obtain ⟨y, hy, rfl⟩ := List.mem_map.1 hc
    exact h.apart y hy x hx
  obtain ⟨j, hj, rfl⟩ := List.getElem_of_mem hg
  rw [List.length_take] at hj
  rw [List.getElem_take] at e2
  have h1 : ((p ++ q).map fun g => g.f0)[j]'(by rw [List.length_map]; omega) = ((p ++ q).map fun g => g.f0)[i]'(by rw [List.length_map]; omega) := by rw [List.getElem_map, List.getElem_map, e2]
  have h2 := (List.getElem_inj hnd).1 h1
  omega
set_option maxRecDepth 100000 in
set_option maxHeartbeats 4000000 in
theorem rgroups_walk (n : Int) (b : Bool) (vl : Value) (Ap : Option Addr) (cp : Nat) (p : List Grp) (Aq : Option Addr) (cq : Nat) (q : List Grp) (w : World) (h : GroupsOk n p q) (hp : Kd.C kGrp w Ap p.length p) (hq : Kd.C kGrp w Aq q.length q) (lp : p.length ≤ 1000) (lq : q.length ≤ 1000) :
    Calls Try.prog 65 #[.agg #[.int .i64 n, .bool b, vl], .slice Ap p.length cp, .slice Aq q.length cq] w (OkAt w) := by
  have hu := Try.underlying32
  have hu3 := Try.underlying44
  have HP := Lib.hid hp
  have HQ := Lib.hid hq
  have HG := Lib.hid h
  have p1 : p.length ≠ 0 := fun e => h.p0 (List.length_eq_zero_iff.1 e)
  have q1 : q.length ≠ 0 := fun e => h.q0 (List.length_eq_zero_iff.1 e)
  have p0 : ((p.length : Int) == 0) = false := by rw [beq_eq_false_iff_ne]; omega
  have q0 : ((q.length : Int) == 0) = false := by rw [beq_eq_false_iff_ne]; omega
  clear hp hq h p1 q1
  go_enter Try.func65, Try.ntmps65
  obtain ⟨w1, hw1⟩ : ∃ w1, w1 = w.alloc (.cells #[.int .i64 n, .bool b, vl] 32) := ⟨_, rfl⟩
  have HX : Hid (w1.heap[w.heap.size]? = some (.cells #[.int .i64 n, .bool b, vl] 32 (0, 0)) ∧ Below w.heap.size w w1) := Lib.hid (by rw [hw1]; exact ⟨heap_alloc_new _ _, below_alloc (Below.refl _ _) _⟩)
  go_wp2_with (first
    | ((with_reducible refine gate_builtin (b := .append) (xs := #[.tmp 19, .tmp 20]) rfl ?_); (try (refine gate_guard (by rfl) ?_; dsimp only)); at_builtin; rw [← hw1]; go_loud (refine Kd.R_append_rows kGrp (w0 := w) w.heap.size rfl (.tmp 19) (.tmp 20) 33 44 (.agg #[.int .i64 0, .int .i64 0]) 16 rfl Try.underlying33 infoGp rfl (by decide) (by decide) (.slice none 0 0) ([] : List Grp) p _ _ _ (fun _ => True) (fun _ => False) rfl rfl ?aO ?aR (fun _ _ h => h) (fun _ h => h.elim) ?aF ?aB ?aS ?aL ?_); (case aR => exact Kd.C_below HP.out HX.out.2); (case aB => exact HX.out.2); (case aF => exact fun _ _ => trivial); (case aO => exact Kd.R_nil _ _ _ _ _); (case aS => exact (HX.out.2).size); (case aL => show (0 + p.length) * 16 ≤ 140737488355328; omega); go_loud ((intro v1 w2 ho hb hg hat; rw [List.nil_append] at ho; have HX2 := Lib.hid (And.intro (blk_grown HX.out.1 hg (Kd.R_ne (Kd.R_nil kGrp 44 _ w.heap.size (fun _ => True)) HX.out.1 (by decide))) (And.intro hb ho)); obtain ⟨A1, c1, rfl⟩ := Kd.R_slice ho; clear ho hb hg hat)))
    | ((with_reducible refine gate_builtin (b := .append) (xs := #[.tmp 22, .tmp 23]) rfl ?_); (try (refine gate_guard (by rfl) ?_; dsimp only)); at_builtin; go_loud (refine Kd.R_append_rows kGrp (w0 := w) w.heap.size rfl (.tmp 22) (.tmp 23) 33 44 (.agg #[.int .i64 0, .int .i64 0]) 16 rfl Try.underlying33 infoGp rfl (by decide) (by decide) (.slice A1 p.length c1) (p) q _ _ _ (fun _ => True) (fun _ => False) rfl rfl ?aO ?aR (fun _ _ h => h) (fun _ h => h.elim) ?aF ?aB ?aS ?aL ?_); (case aR => exact Kd.C_below HQ.out HX2.out.2.1); (case aB => exact HX2.out.2.1); (case aF => exact fun _ _ => trivial); (case aO => exact HX2.out.2.2); (case aS => exact (HX2.out.2.1).size); (case aL => show (p.length + q.length) * 16 ≤ 140737488355328; omega); go_loud ((intro v1 w3 ho hb hg hat; have HX3 := Lib.hid (And.intro (blk_grown HX2.out.1 hg (Kd.R_ne HX2.out.2.2 HX2.out.1 (by decide))) (And.intro hb ho)); obtain ⟨A2, c2, rfl⟩ := Kd.R_slice ho; clear ho hb hg hat))))
  obtain ⟨L, hL⟩ : ∃ L, L = p ++ q := ⟨_, rfl⟩
  obtain ⟨m, hm⟩ : ∃ m : Nat, m = p.length + q.length := ⟨_, rfl⟩
  have hLm : L.length = m := by rw [hL, hm, List.length_append]
  have HGA : Hid (∀ i : Nat, i < L.length → ((0 ≤ (rd_T44 L (i : Int)).f0 ∧ (rd_T44 L (i : Int)).f0 < n) ∧ 0 ≤ (rd_T44 L (i : Int)).f1 ∧ (rd_T44 L (i : Int)).f1 ≤ 1048576) ∧ gOf (rd_T44 L (i : Int)).f0 (L.take i) < 0) := Lib.hid (by rw [hL]; exact fun i hi => grp_ahead HG.out hi)
  have HX4 : Hid (w3.heap[w.heap.size]? = some (.cells #[.int .i64 n, .bool b, vl] 32 (0, 0)) ∧ Below w.heap.size w w3 ∧ Kd.C kGrp w3 A2 L.length L) := Lib.hid ⟨HX3.out.1, HX3.out.2.1, by rw [hL]; exact (Kd.R_reads' HX3.out.2.2).2.2⟩
  have hmb : m ≤ 2000 := by omega
  have HLM := Lib.hid hLm
  rw [← hm]
  clear hL hm hLm HX HX2 HX3 HG HP HQ hw1 p0 q0 lp lq w1 w2
  go_loopg [7, 9] (m + 1) (fun k ov iv W => ∃ (i : Nat) (A3 : Option Addr) (c3 : Nat), i ≤ m ∧ ov = .slice A3 i c3 ∧ iv = .int .i64 i ∧ k = m + 1 - i ∧ Hid (Kd.R kGrp 44 W w3.heap.size (fun _ => True) (.slice A3 i c3) (L.take i) ∧ Below w3.heap.size w3 W))
  case atStart => exact ⟨0, none, 0, Nat.zero_le _, rfl, rfl, rfl, Lib.hid ⟨Kd.R_nil _ _ _ _ _, Below.refl _ _⟩⟩
  case round =>
    obtain ⟨i, A3, c3, hi, rfl, rfl, rfl, HL⟩ := hrel
    by_cases d4 : i < m
    · have i0 : (0 : Int) ≤ (i : Int) := by omega
      have i1 : (i : Int) < (m : Int) := by omega
      have HXG := Lib.hid (HGA.out i (by rw [HLM.out]; exact d4))
      have HTK := Lib.hid (take_sn (l := L) (i := i) (by rw [HLM.out]; exact d4))
      go_wp2
      obtain ⟨ad, ea, y0, y1⟩ := at_T44 (Kd.C_drew (Kd.C_below HX4.out.2.2 HL.out.2)) (i : Int) i0 (by rw [HLM.out]; exact i1)
      obtain ⟨g, hg⟩ : ∃ g, g = rd_T44 L (i : Int) := ⟨_, rfl⟩
      have ZF : Hid (∀ W, Below w3.heap.size w3 W → W.cell? (ad.add (i * 2)) = some (.int .i64 g.f0) ∧ W.cell? ⟨(ad.add (i * 2)).block, (ad.add (i * 2)).off + 1, none⟩ = some (.int .i64 g.f1)) := Lib.hid (fun W hW => by
        obtain ⟨ad2, ea2, z0, z1⟩ := at_T44 (Kd.C_below HX4.out.2.2 hW) (i : Int) i0 (by rw [HLM.out]; exact i1)
        rw [ea] at ea2
        injection ea2 with ea2
        subst ea2
        rw [Int.toNat_natCast, ← hg] at z0 z1
        exact ⟨z0, z1⟩)
      subst ea
      rw [Int.toNat_natCast] at y0 y1
      rw [← hg] at y0 y1 HXG HTK
      clear hg
      have hbx := blk_drew (blk_below HX4.out.1 HL.out.2)
      have x0 : wr.drew.cell? ⟨w.heap.size, 0, none⟩ = some (.int .i64 n) := (blk_cell hbx 0).trans rfl
      have x1 : wr.drew.cell? ⟨w.heap.size, 1, none⟩ = some (.bool b) := (blk_cell hbx 1).trans rfl
      have x2 : wr.drew.cell? ⟨w.heap.size, 2, none⟩ = some vl := (blk_cell hbx 2).trans rfl
      have HX1 := Lib.hid (And.intro (Kd.R_drew HL.out.1) (below_drew1 HL.out.2))
      clear hbx
      refine stepS (S := fun w' => w'.cell? ⟨w.heap.size, 0, none⟩ = some (.int .i64 n) ∧ w'.cell? ⟨w.heap.size, 1, none⟩ = some (.bool b) ∧ w'.cell? ⟨w.heap.size, 2, none⟩ = some vl ∧ w'.cell? (ad.add (i * 2)) = some (.int .i64 g.f0) ∧ w'.cell? ⟨(ad.add (i * 2)).block, (ad.add (i * 2)).off + 1, none⟩ = some (.int .i64 g.f1)) (ds := [6]) 8 (by kernel_rfl) rfl ⟨x0, x1, x2, y0, y1⟩ (fun hHeld => ?_)
      generalize wr.drew = wd at HX1 hHeld x0 x1 x2 y0 y1 ⊢
      repeat (first
        | (refine stepP 8 (N := some _) (v := ?_) (a' := ?_) rfl rfl (by kernel_rfl) (fun _ _ _ h => h) (Or.inl ⟨by rfl, ?_⟩) ?_ ?_
           rotate_left
           · (intro w'; go_simp; with_reducible rfl)
           rotate_left
           · (simp only [Act.put, List.setIfInBounds_toArray, List.set_cons_zero, List.set_cons_succ]; rfl))
        | (refine stepT 8 (N := some _) (v := ?_) (a' := ?_) rfl rfl (by kernel_rfl) (fun _ _ _ h => h) (Or.inl ⟨by rfl, ?_⟩) hHeld ?_ ?_
           rotate_left
           · (rintro w' ⟨s0, s1, s2, s3, s4⟩; go_simp; with_reducible rfl)
           rotate_left
           · (simp only [Act.put, List.setIfInBounds_toArray, List.set_cons_zero, List.set_cons_succ]; rfl)))
      refine stepL 8 (N := some 37) rfl rfl (by kernel_rfl) (by decide) (fun K hK => ?_)
      refine goes_ Try.func87 (by kernel_rfl) rfl #[.agg #[.int .i64 n, .bool b, vl], .slice A3 i c3, .agg #[.int .i64 g.f0, .int .i64 g.f1]] (by rfl) rfl rfl (by (try simp only [List.map_toArray, List.map_cons, List.map_nil]); rfl) ?_
      have hti : (L.take i).length = i := by rw [List.length_take, HLM.out]; omega
      have hrc := (Kd.R_reads' (show Kd.R kGrp 44 wd w3.heap.size (fun _ => True) (.slice A3 (L.take i).length c3) (L.take i) by rw [hti]; exact HX1.out.1)).2.2
      refine (rgroup_walk n b vl A3 c3 (L.take i) i hti g _ hrc (by omega) HXG.out.1.1 HXG.out.1.2 HXG.out.2).mono ?_
      rintro e w5 ⟨rfl, hb⟩
      refine ⟨_, rfl, ?_⟩
      have HX5 := Lib.hid (And.intro (Kd.R_below HX1.out.1 hb) (below_step HX1.out.2 hb))
      have z0 := (ZF.out _ HX5.out.2).1
      have z1 := (ZF.out _ HX5.out.2).2
      refine hK.out _ _ ?_
      clear hK K hHeld hb HX1 x0 x1 x2 y0 y1 hrc hti
      refine norm_ (a' := ?_) ?_ ?_
      rotate_left
      · (show Act.put _ (some 37) _ = _; simp only [Act.put, List.setIfInBounds_toArray, List.set_cons_zero, List.set_cons_succ]; rfl)
      refine stepP 8 (N := some _) (v := ?_) (a' := ?_) rfl rfl (by kernel_rfl) (fun _ _ _ h => h) (Or.inl ⟨by rfl, ?_⟩) ?_ ?_
      rotate_left
      · (intro w'; go_simp; with_reducible rfl)
      rotate_left
      · (simp only [Act.put, List.setIfInBounds_toArray, List.set_cons_zero, List.set_cons_succ]; rfl)
      refine done_ (by kernel_rfl) ?_
      go_wp2_with ((with_reducible refine gate_dst (N := 47) rfl ?_); go_loud (refine Kd.R_append kGrp (w0 := w3) w3.heap.size rfl (.tmp 41) (.tmp 46) 33 44 (.agg #[.int .i64 0, .int .i64 0]) 16 rfl Try.underlying33 infoGp rfl (by decide) (by decide) (.slice A3 i c3) (L.take i) g [.int .i64 g.f0, .int .i64 g.f1] (fun _ => True) (fun _ => False) rfl ?aX ?aP (fun _ hk => hk.elim) ?aF ?aO ?aB ?aS ?aL ?_); (case aX => first | rfl | (simp; done) | (simp; rfl)); (case aP => exact k44_mkM _ _ _ g); (case aF => exact fun _ _ => trivial); (case aO => exact HX5.out.1); (case aB => exact HX5.out.2); (case aS => exact HX5.out.2.size); (case aL => rw [List.length_take]; omega); go_loud ((intro v1 w9 ho hb hg hat; obtain ⟨A9, c9, e9⟩ := Kd.R_slice ho; rw [snoc_tk (l := L) (i := i) HLM.out d4] at e9; subst e9; have HX9 := Lib.hid (And.intro ho hb); clear ho hb hg hat)))
      go_roundg (m - i)
      case measure => omega
      case rel => exact ⟨i + 1, A9, c9, by omega, rfl, by go_num, by omega, Lib.hid ⟨by rw [HTK.out]; exact HX9.out.1, HX9.out.2⟩⟩
    · have d5 : ¬ (i : Int) < (m : Int) := by omega
      go_wp2
      go_ret
      exact ⟨rfl, below_step HX4.out.2.1 HL.out.2⟩
set_option maxRecDepth 100000 in
set_option maxHeartbeats 4000000 in
theorem rfits_walk (n h : Nat) (b : Bool) (A : Option Addr) (c : Nat) (l : List Arc) (w : World) (hg : NetGood n l) (hr : Kd.C kArc w A l.length l) (hh : h ≤ 1024) (h1 : (h + 1) * n ≤ 4000) (h2 : (h + 1) * l.length ≤ 10000) :
    Calls Try.prog 67 #[.agg #[.int .i64 n, .bool b, .slice A l.length c], .int .i64 h] w fun e w' => e = .returned (.bool true) ∧ Below w.heap.size w w' := by
  have hu := Try.underlying32
  have HR := Lib.hid hr
  have HG := Lib.hid hg
  have hll := hg.ll
  have hn1 := hg.n1
  obtain ⟨x, hx⟩ : ∃ x : Nat, x = (h + 1) * n := ⟨_, rfl⟩
  obtain ⟨y, hy⟩ : ∃ y : Nat, y = (h + 1) * l.length := ⟨_, rfl⟩
  rw [← hx] at h1
  rw [← hy] at h2
  have e0 : IntKind.i64.wrap ((h : Int) + 1) = (h : Int) + 1 := IntWalk.i64_in _ (by omega)
  have e1 : IntKind.i64.wrap (((h : Int) + 1) * (n : Int)) = (x : Int) := by
    have h8 : ((h : Int) + 1) * (n : Int) = (x : Int) := by rw [hx, Int.natCast_mul]; rfl
    rw [h8]
    exact IntWalk.i64_in _ (by omega)
  have e2 : IntKind.i64.wrap (((h : Int) + 1) * (l.length : Int)) = (y : Int) := by
    have h8 : ((h : Int) + 1) * (l.length : Int) = (y : Int) := by rw [hy, Int.natCast_mul]; rfl
    rw [h8]
    exact IntWalk.i64_in _ (by omega)
  have d1 : decide ((x : Int) ≤ 4000) = true := decide_eq_true (by omega)
  have d2 : decide ((y : Int) ≤ 10000) = true := decide_eq_true (by omega)
  clear hr hg hx hy h1 h2
  go_enter Try.func67, Try.ntmps67
  obtain ⟨w1, hw1⟩ : ∃ w1, w1 = w.alloc (.cells #[.int .i64 n, .bool b, .slice A l.length c] 32) := ⟨_, rfl⟩
  have HX : Hid (w1.heap[w.heap.size]? = some (.cells #[.int .i64 n, .bool b, .slice A l.length c] 32 (0, 0)) ∧ Below w.heap.size w w1) := Lib.hid (by rw [hw1]; exact ⟨heap_alloc_new _ _, below_alloc (Below.refl _ _) _⟩)
  go_wp2_with (first
    | (go_at_call 64; rw [← hw1]; go_loud ((with_reducible refine (rcheck_walk n b A c l _ ?s1 ?s2).mono ?_); (case s1 => exact HG.out); (case s2 => exact Kd.C_below HR.out HX.out.2); rintro e w2 ⟨rfl, hb⟩; have HX2 := Lib.hid (And.intro (blk_below HX.out.1 hb) (below_step HX.out.2 hb)); clear hb))
    | (go_at_call 66; go_loud ((with_reducible refine (rspan_walk h _ ?s1).mono ?_); (case s1 => exact hh); rintro e w3 ⟨rfl, hb⟩; have HX3 := Lib.hid (And.intro (blk_below HX2.out.1 hb) (below_step HX2.out.2 hb)); have x0 : w3.cell? ⟨w.heap.size, 0, none⟩ = some (.int .i64 n) := (blk_cell HX3.out.1 0).trans rfl; have x2 : w3.cell? ⟨w.heap.size, 2, none⟩ = some (.slice A l.length c) := (blk_cell HX3.out.1 2).trans rfl; clear hb)))
  go_ret
  exact ⟨rfl, HX3.out.2⟩
set_option maxRecDepth 100000 in
set_option maxHeartbeats 4000000 in
theorem rasked_walk (n h : Nat) (b : Bool) (A : Option Addr) (c : Nat) (l : List Arc) (Ap : Option Addr) (cp : Nat) (p : List Grp) (Aq : Option Addr) (cq : Nat) (q : List Grp) (w : World) (a : AskOk n h l p q) (hr : Kd.C kArc w A l.length l) (hp : Kd.C kGrp w Ap p.length p) (hq : Kd.C kGrp w Aq q.length q) :
    Calls Try.prog 33 #[.agg #[.int .i64 n, .bool b, .slice A l.length c], .slice Ap p.length cp, .slice Aq q.length cq, .int .i64 h] w (OkAt w) := by
  have hu := Try.underlying32
  have HA := Lib.hid a
  have HR := Lib.hid hr
  have HP := Lib.hid hp
  have HQ := Lib.hid hq
  clear a hr hp hq
  go_enter Try.func33, Try.ntmps33
  obtain ⟨w1, hw1⟩ : ∃ w1, w1 = w.alloc (.cells #[.int .i64 n, .bool b, .slice A l.length c] 32) := ⟨_, rfl⟩
  have HX : Hid (w1.heap[w.heap.size]? = some (.cells #[.int .i64 n, .bool b, .slice A l.length c] 32 (0, 0)) ∧ Below w.heap.size w w1) := Lib.hid (by rw [hw1]; exact ⟨heap_alloc_new _ _, below_alloc (Below.refl _ _) _⟩)
  go_wp2_with (first
    | (go_at_call 64; rw [← hw1]; go_loud ((with_reducible refine (rcheck_walk n b A c l _ ?s1 ?s2).mono ?_); (case s1 => exact HA.out.net); (case s2 => exact Kd.C_below HR.out HX.out.2); rintro e w2 ⟨rfl, hb⟩; have HX2 := Lib.hid (And.intro (blk_below HX.out.1 hb) (below_step HX.out.2 hb)); have x0 : w2.cell? ⟨w.heap.size, 0, none⟩ = some (.int .i64 n) := (blk_cell HX2.out.1 0).trans rfl; have x1 : w2.cell? ⟨w.heap.size, 1, none⟩ = some (.bool b) := (blk_cell HX2.out.1 1).trans rfl; have x2 : w2.cell? ⟨w.heap.size, 2, none⟩ = some (.slice A l.length c) := (blk_cell HX2.out.1 2).trans rfl; clear hb))
    | (go_at_call 65; go_loud ((with_reducible refine (rgroups_walk n b (.slice A l.length c) Ap cp p Aq cq q _ ?s1 ?s2 ?s3 ?s4 ?s5).mono ?_); (case s1 => exact HA.out.grp); (case s2 => exact Kd.C_below HP.out HX2.out.2); (case s3 => exact Kd.C_below HQ.out HX2.out.2); (case s4 => exact HA.out.place.lp); (case s5 => exact HA.out.place.lq); rintro e w3 ⟨rfl, hb⟩; have HX3 := Lib.hid (And.intro (blk_below HX2.out.1 hb) (below_step HX2.out.2 hb)); clear hb))
    | (go_at_call 66; go_loud ((with_reducible refine (rspan_walk h _ ?s1).mono ?_); (case s1 => exact HA.out.hh); rintro e w4 ⟨rfl, hb⟩; have HX4 := Lib.hid (And.intro (blk_below HX3.out.1 hb) (below_step HX3.out.2 hb)); have z0 : w4.cell? ⟨w.heap.size, 0, none⟩ = some (.int .i64 n) := (blk_cell HX4.out.1 0).trans rfl; have z1 : w4.cell? ⟨w.heap.size, 1, none⟩ = some (.bool b) := (blk_cell HX4.out.1 1).trans rfl; have z2 : w4.cell? ⟨w.heap.size, 2, none⟩ = some (.slice A l.length c) := (blk_cell HX4.out.1 2).trans rfl; clear hb))
    | (go_at_call 67; go_loud ((with_reducible refine (rfits_walk n h b A c l _ ?s1 ?s2 ?s3 ?s4 ?s5).mono ?_); (case s1 => exact HA.out.net); (case s2 => exact Kd.C_below HR.out HX4.out.2); (case s3 => exact HA.out.hh); (case s4 => exact HA.out.hn); (case s5 => exact HA.out.hl); rintro e w5 ⟨rfl, hb⟩; have HX5 := Lib.hid (below_step HX4.out.2 hb); clear hb)))
  go_ret
  exact ⟨rfl, HX5.out⟩
end Go.Proofs.Ytcgdloldkcmhnaa.H
end
section
namespace Go.Proofs.Ytcgdloldkcmhnaa.H
open Go Go.RowKit Go.Proofs.Ytcgdloldkcmhnaa.PrintC Go.Proofs.Ytcgdloldkcmhnaa.PrintE Go.Proofs.YtcgdloldkcmhnaaW.PrintWords Go.Proofs.YtcgdloldkcmhnaaW.PrintLast Go.Proofs.YtcgdloldkcmhnaaW.PrintMore Go.Proofs.Ytcgdloldkcmhnaa.Flow
set_option linter.unusedVariables false
set_option linter.unusedSimpArgs false
structure BdI (w : World) (xs : Array Value) (v : Value) (L : List Arc) (W : World) : Prop where
  bx : W.heap[w.heap.size]? = some (.cells xs 32 (0, 0))
  rx : W.heap[w.heap.size + 1]? = some (.cells #[.int .i64 0, .bool false, .slice none 0 0] 32 (0, 0))
  ar : Kd.R kArc 79 W w.heap.size (fun _ => True) v L
  low : Below w.heap.size w W
section
variable {w W W1 : World} {xs : Array Value} {v v2 : Value} {L L2 : List Arc}
theorem BdI.below (h : BdI w xs v L W) (hb : Below W.heap.size W W1) : BdI w xs v L W1 := ⟨blk_below h.bx hb, blk_below h.rx hb, Kd.R_below h.ar hb, below_step h.low hb⟩
theorem BdI.grow (h : BdI w xs v L W) (hg : W.grownBy W1 v.ownBlock) (ho : Kd.R kArc 79 W1 w.heap.size (fun _ => True) v2 L2) (hb : Below w.heap.size w W1) : BdI w xs v2 L2 W1 :=
  ⟨blk_grown h.bx hg (Kd.R_ne h.ar h.bx (by decide)), blk_grown h.rx hg (Kd.R_ne h.ar h.rx (by decide)), ho, hb⟩
end
theorem bW_stay (keeps : Nat → Bool) {n h : Int} {a : Nat} {s : BSt} (hah : ¬ (a : Int) < h) : ∀ v, bW keeps n h a s v = s
  | 0 => rfl
  | v + 1 => by
    rw [bW]
    rw [if_neg (fun e => hah e.1)]
    exact bW_stay keeps hah v
def BuildAt (M : Nat) (E : List Arc) (w : World) (e : Ending) (w' : World) : Prop := ∃ (A1 : Option Addr) (c1 : Nat), e = .returned (.agg #[.int .i64 M, .bool false, .slice A1 E.length c1]) ∧ Kd.C kArc w' A1 E.length E ∧ Below w.heap.size w w'
theorem snoc_len (L : List Arc) (x : Arc) : (L ++ [x]).length = L.length + 1 := by rw [List.length_append]; rfl
theorem drop_take (p : List Grp) {i : Nat} (h : i < p.length) : p.take (i + 1) = p.take i ++ [rd_T44 p (i : Int)] := by
  have e : rd_T44 p (i : Int) = p[i] := by
    unfold rd_T44
    rw [Int.toNat_natCast, List.getD_eq_getElem?_getD, List.getElem?_eq_getElem h]
    rfl
  rw [List.take_add_one, List.getElem?_eq_getElem h, e]
  rfl
set_option maxHeartbeats 8000000 in
set_option maxRecDepth 100000 in
theorem build_walk (n h N N1 M : Nat) (b : Bool) (A : Option Addr) (c : Nat) (l : List Arc) (Ap : Option Addr) (cp : Nat) (p : List Grp) (Aq : Option Addr) (cq : Nat) (q : List Grp) (E : List Arc) (w : World) (hn : NetIn n h l) (hr : Kd.C kArc w A l.length l) (hp : Kd.C kGrp w Ap p.length p) (hq : Kd.C kGrp w Aq q.length q) (gp : GrpsIn n p) (gq : GrpsIn n q) (lp : p.length ≤ 1000) (lq : q.length ≤ 1000) (hN : N = (h + 1) * n) (hN1 : N1 = N + 1) (hM : M = N + 2) (hE : E = evArcs l (useOf q) (keepsOf b p q) n h N N1 p q) :
    Calls Try.prog 37 #[.agg #[.int .i64 n, .bool b, .slice A l.length c], .slice Ap p.length cp, .slice Aq q.length cq, .int .i64 h] w (BuildAt M E w) := by
  have HN := Lib.hid hn
  have HR := Lib.hid hr
  have HP := Lib.hid hp
  have HQ := Lib.hid hq
  have HGP := Lib.hid gp
  have HGQ := Lib.hid gq
  have HE := Lib.hid hE
  have HN1 := Lib.hid hN1
  have HM := Lib.hid hM
  have hn1 := hn.n1
  have hn0 := hn.n0
  have hh1 := hn.h1
  have hll := hn.ll
  have hNb := hn.hn
  rw [← hN] at hNb
  have e1 : IntKind.i64.wrap ((h : Int) + 1) = (h : Int) + 1 := IntWalk.i64_in _ (by omega)
  have e2 : IntKind.i64.wrap (((h : Int) + 1) * (n : Int)) = (N : Int) := by
    have h8 : ((h : Int) + 1) * (n : Int) = (N : Int) := by rw [hN, Int.natCast_mul]; rfl
    rw [h8]
    exact IntWalk.i64_in _ (by omega)
  obtain ⟨mh, hmh⟩ : ∃ mh : Int, mh = (h : Int) * (n : Int) := ⟨_, rfl⟩
  have hmb : 0 ≤ mh ∧ mh ≤ (N : Int) := by
    have h8 : ((h : Int) + 1) * (n : Int) = (N : Int) := by rw [hN, Int.natCast_mul]; rfl
    rw [Int.add_mul, Int.one_mul, ← hmh] at h8
    have h9 := Int.mul_nonneg (show (0 : Int) ≤ h by omega) (show (0 : Int) ≤ n by omega)
    rw [← hmh] at h9
    omega
  have e3 : IntKind.i64.wrap ((h : Int) * (n : Int)) = mh := by rw [← hmh]; exact IntWalk.i64_in _ (by omega)
  have HMH := Lib.hid hmh
  clear hn hr hp hq gp gq hE hN1 hM hN hmh
  have hu := Try.underlying32
  have hu2 := Try.underlying79
  have hu3 := Try.underlying44
  go_enter Try.func37, Try.ntmps37
  obtain ⟨w1, hw1⟩ : ∃ w1, w1 = (w.alloc (.cells #[.int .i64 n, .bool b, .slice A l.length c] 32)).alloc (.cells #[.int .i64 0, .bool false, .slice none 0 0] 32) := ⟨_, rfl⟩
  have HI : Hid (BdI w #[.int .i64 n, .bool b, .slice A l.length c] (.slice none 0 0) [] w1) := Lib.hid (by
    rw [hw1]
    exact ⟨blk_alloc (heap_alloc_new _ _) _, alloc_at (by rw [alloc_size]), Kd.R_nil _ _ _ _ _, below_alloc (below_alloc (Below.refl _ _) _) _⟩)
  go_wp2
  rw [← hw1]
  clear hw1
  go_loopg [9, 11] (h + 2) (fun k ov cv W => ∃ (a : Nat) (Ao : Option Addr) (co : Nat) (L : List Arc), a ≤ h + 1 ∧ ov = .slice Ao L.length co ∧ cv = .int .i64 a ∧ k = h + 2 - a ∧ Hid (L = (bA l (useOf q) (keepsOf b p q) n h a).arcs ∧ BdI w #[.int .i64 n, .bool b, .slice A l.length c] (.slice Ao L.length co) L W))
  case atStart => exact ⟨0, none, 0, [], Nat.zero_le _, rfl, rfl, rfl, Lib.hid ⟨rfl, HI.out⟩⟩
  case round =>
    obtain ⟨a, Ao, co, L, ha, rfl, rfl, rfl, HL⟩ := hrel
    clear HI
    by_cases hlt : a ≤ h
    · have hlt2 : (a : Int) ≤ (h : Int) := by omega
      obtain ⟨m0, hm0⟩ : ∃ m0 : Int, m0 = (a : Int) * (n : Int) := ⟨_, rfl⟩
      have hmb0 : 0 ≤ m0 ∧ m0 ≤ 4000000 := by
        have h9 := mul_bd (a := (a : Int)) (n := (n : Int)) (A := 4000) (N := 1000) (by omega) (by omega) (by omega) (by omega)
        rw [← hm0] at h9
        omega
      have f0 : IntKind.i64.wrap ((a : Int) * (n : Int)) = m0 := by rw [← hm0]; exact IntWalk.i64_in _ (by omega)
      obtain ⟨m1, hm1⟩ : ∃ m1 : Int, m1 = ((a : Int) + 1) * (n : Int) := ⟨_, rfl⟩
      have hmb1 : 0 ≤ m1 ∧ m1 ≤ 5000000 := by
        have h9 := mul_bd (a := (a : Int) + 1) (n := (n : Int)) (A := 5000) (N := 1000) (by omega) (by omega) (by omega) (by omega)
        rw [← hm1] at h9
        omega
      have f1 : IntKind.i64.wrap (((a : Int) + 1) * (n : Int)) = m1 := by rw [← hm1]; exact IntWalk.i64_in _ (by omega)
      have HM0 := Lib.hid (And.intro hm0 hm1)
      clear hm0 hm1
      have x0 : wr.cell? ⟨w.heap.size, 0, none⟩ = some (.int .i64 n) := (blk_cell HL.out.2.bx 0).trans rfl
      have x2 : wr.cell? ⟨w.heap.size, 2, none⟩ = some (.slice A l.length c) := (blk_cell HL.out.2.bx 2).trans rfl
      have HLb : Hid (L.length ≤ a * (l.length + n)) := Lib.hid (by rw [HL.out.1]; exact (bA_le l (useOf q) (keepsOf b p q) n h a).1)
      have HS0 := Lib.hid HL.out.1
      go_wp2
      go_loopg [9, 12] (l.length + 1) (fun k ov iv W => ∃ (j : Nat) (Ao : Option Addr) (co : Nat) (L : List Arc), j ≤ l.length ∧ ov = .slice Ao L.length co ∧ iv = .int .i64 j ∧ k = l.length + 1 - j ∧ Hid (L = (bM l (useOf q) n h a (bA l (useOf q) (keepsOf b p q) n h a) j).arcs ∧ BdI w #[.int .i64 n, .bool b, .slice A l.length c] (.slice Ao L.length co) L W))
      case atStart => exact ⟨0, Ao, co, L, Nat.zero_le _, rfl, rfl, rfl, Lib.hid ⟨HL.out.1, HL.out.2⟩⟩
      case round =>
        clear HL HLb HS0 x0 x2 Ao co L
        obtain ⟨j, Ao, co, L, hj, rfl, rfl, rfl, HL⟩ := hrel
        have HSL : Hid (L.length ≤ 14000) := Lib.hid (by
          have h7 := (bM_le l (useOf q) n h a (bA_le l (useOf q) (keepsOf b p q) n h a) j).1
          have h8 := HN.out.room hlt
          rw [← HL.out.1] at h7
          omega)
        have x0 : wr.cell? ⟨w.heap.size, 0, none⟩ = some (.int .i64 n) := (blk_cell HL.out.2.bx 0).trans rfl
        have x2 : wr.cell? ⟨w.heap.size, 2, none⟩ = some (.slice A l.length c) := (blk_cell HL.out.2.bx 2).trans rfl
        by_cases hjl : j < l.length
        · obtain ⟨ad, ea, y0, y1, y2, y3⟩ := at_T79 (Kd.C_below HR.out HL.out.2.low) (j : Int) (by omega) (by omega)
          subst ea
          rw [Int.toNat_natCast] at y0 y1 y2 y3
          obtain ⟨x, hx⟩ : ∃ x, x = arcAt l j := ⟨_, rfl⟩
          have hx2 : rd_T79 l (j : Int) = x := by rw [hx]; rfl
          rw [hx2] at y0 y1 y2 y3
          have j0 : (0 : Int) ≤ (j : Int) := by omega
          have j1 : (j : Int) < (l.length : Int) := by omega
          have hti := HN.out.time j hjl
          rw [← hx] at hti
          have hti0 := hti.1
          have hti1 := hti.2
          have hen := HN.out.ends j hjl
          rw [← hx] at hen
          have hf0 : 0 ≤ x.f0 := hen.1.1
          have hf1 : x.f0 ≤ 1000 := by omega
          have hf2 : 0 ≤ x.f1 := hen.2.1
          have hf3 : x.f1 ≤ 1000 := by omega
          have HX := Lib.hid hx
          clear hx hx2 hti hen
          have HUQ : Hid (gOf x.f0 q < 0 ↔ useOf q x = true) := Lib.hid (by
            unfold useOf
            rw [gOf_neg x.f0 (fun g hg => (HGQ.out g hg).2.1)]
            cases hasK (putGs q) x.f0 <;> simp)
          by_cases htm : (a : Int) + x.f3 ≤ (h : Int)
          · have htd : decide ((a : Int) + x.f3 ≤ (h : Int)) = true := by simpa using htm
            obtain ⟨m2, hm2⟩ : ∃ m2 : Int, m2 = ((a : Int) + x.f3) * (n : Int) := ⟨_, rfl⟩
            have hmb2 : 0 ≤ m2 ∧ m2 ≤ 4000000 := by
              have h9 := mul_bd (a := (a : Int) + x.f3) (n := (n : Int)) (A := 4000) (N := 1000) (by omega) (by omega) (by omega) (by omega)
              rw [← hm2] at h9
              omega
            have f2 : IntKind.i64.wrap (((a : Int) + x.f3) * (n : Int)) = m2 := by rw [← hm2]; exact IntWalk.i64_in _ (by omega)
            have HM2 := Lib.hid hm2
            clear hm2
            obtain ⟨y, hy⟩ : ∃ y, y = gOf x.f0 q := ⟨_, rfl⟩
            have HY := Lib.hid hy
            clear hy
            by_cases hyn : y < 0
            · have HUX : Hid (useOf q x = true) := Lib.hid (HUQ.out.1 (by rw [← HY.out]; exact hyn))
              go_wp2_with (first
                | (go_at_call 27; go_loud ((with_reducible refine (rof_walk q.length Aq cq q _ _ ?s1 ?s2 ?s3).mono ?_); (case s1 => rfl); (case s2 => exact Kd.C_below HQ.out (below_step HL.out.2.low (below_alloc (Below.refl _ _) _))); (case s3 => omega); rintro e w2 ⟨rfl, hb⟩; rw [← HY.out]; have HI1 := Lib.hid (HL.out.2.below (below_step (below_alloc (Below.refl _ _) _) hb)); have HXX := Lib.hid (blk_below (heap_alloc_new wr (.cells #[.int .i64 x.f0, .int .i64 x.f1, .int .i64 x.f2, .int .i64 x.f3] 79)) hb); have v0 : w2.cell? ⟨wr.heap.size, 0, none⟩ = some (.int .i64 x.f0) := (blk_cell HXX.out 0).trans rfl; have v1 : w2.cell? ⟨wr.heap.size, 1, none⟩ = some (.int .i64 x.f1) := (blk_cell HXX.out 1).trans rfl; have v2 : w2.cell? ⟨wr.heap.size, 2, none⟩ = some (.int .i64 x.f2) := (blk_cell HXX.out 2).trans rfl; have v3 : w2.cell? ⟨wr.heap.size, 3, none⟩ = some (.int .i64 x.f3) := (blk_cell HXX.out 3).trans rfl; clear hb))
                | ((with_reducible refine gate_dst (N := 69) rfl ?_); go_loud (refine Kd.R_append kArc (w0 := w) w.heap.size rfl (.tmp 49) (.tmp 68) 30 79 (.agg #[.int .i64 0, .int .i64 0, .int .i64 0, .int .i64 0]) 32 rfl Try.underlying30 infoArc rfl (by decide) (by decide) (.slice Ao L.length co) L ⟨m0 + x.f0, m2 + x.f1, x.f2, 0⟩ [.int .i64 (m0 + x.f0), .int .i64 (m2 + x.f1), .int .i64 (x.f2), .int .i64 (0)] (fun _ => True) (fun _ => False) rfl ?aX ?aP (fun _ hk => hk.elim) ?aF ?aO ?aB ?aS ?aL ?_); (case aX => first | rfl | (simp; done) | (simp; rfl)); (case aP => exact k79_mkM _ _ _ (⟨m0 + x.f0, m2 + x.f1, x.f2, 0⟩ : Arc)); (case aF => exact fun _ _ => trivial); (case aO => exact HI1.out.ar); (case aB => exact HI1.out.low); (case aS => exact HI1.out.low.size); (case aL => have := HSL.out; omega); go_loud ((intro v1 w9 ho hb hg hat; obtain ⟨A9, c9, e9⟩ := Kd.R_slice ho; rw [snoc_len] at e9; subst e9; have HI9 := Lib.hid (HI1.out.grow hg ho hb); clear ho hb hg hat))))
              go_roundg (l.length - j)
              case measure => omega
              case rel =>
                refine ⟨j + 1, A9, c9, L ++ [⟨m0 + x.f0, m2 + x.f1, x.f2, 0⟩], by omega, by rw [snoc_len], by go_num, by omega, Lib.hid ⟨?_, by rw [snoc_len]; exact HI9.out⟩⟩
                rw [bM]
                rw [← HX.out, if_pos ⟨htm, HUX.out⟩]
                show L ++ [⟨m0 + x.f0, m2 + x.f1, x.f2, 0⟩] = (bM l (useOf q) n h a (bA l (useOf q) (keepsOf b p q) n h a) j).arcs ++ [⟨(a : Int) * n + x.f0, ((a : Int) + x.f3) * n + x.f1, x.f2, 0⟩]
                rw [HM2.out, HM0.out.1, ← HL.out.1]
            · have hyd : decide (y < 0) = false := decide_eq_false hyn
              have HUX : Hid (useOf q x = false) := Lib.hid (by
                cases h9 : useOf q x
                · rfl
                · exact absurd (HUQ.out.2 h9) (by rw [← HY.out]; exact hyn))
              go_wp2_with ((go_at_call 27; go_loud ((with_reducible refine (rof_walk q.length Aq cq q _ _ ?s1 ?s2 ?s3).mono ?_); (case s1 => rfl); (case s2 => exact Kd.C_below HQ.out (below_step HL.out.2.low (below_alloc (Below.refl _ _) _))); (case s3 => omega); rintro e w2 ⟨rfl, hb⟩; rw [← HY.out]; have HI1 := Lib.hid (HL.out.2.below (below_step (below_alloc (Below.refl _ _) _) hb)); have HXX := Lib.hid (blk_below (heap_alloc_new wr (.cells #[.int .i64 x.f0, .int .i64 x.f1, .int .i64 x.f2, .int .i64 x.f3] 79)) hb); have v0 : w2.cell? ⟨wr.heap.size, 0, none⟩ = some (.int .i64 x.f0) := (blk_cell HXX.out 0).trans rfl; have v1 : w2.cell? ⟨wr.heap.size, 1, none⟩ = some (.int .i64 x.f1) := (blk_cell HXX.out 1).trans rfl; have v2 : w2.cell? ⟨wr.heap.size, 2, none⟩ = some (.int .i64 x.f2) := (blk_cell HXX.out 2).trans rfl; have v3 : w2.cell? ⟨wr.heap.size, 3, none⟩ = some (.int .i64 x.f3) := (blk_cell HXX.out 3).trans rfl; clear hb)))
              go_roundg (l.length - j)
              case measure => omega
              case rel =>
                refine ⟨j + 1, Ao, co, L, by omega, rfl, by go_num, by omega, Lib.hid ⟨?_, HI1.out⟩⟩
                rw [bM]
                rw [← HX.out, if_neg (fun e => by have := HUX.out; rw [e.2] at this; cases this)]
                exact HL.out.1
          · have htd : decide ((a : Int) + x.f3 ≤ (h : Int)) = false := by simpa using htm
            go_wp2
            go_roundg (l.length - j)
            case measure => omega
            case rel =>
              refine ⟨j + 1, Ao, co, L, by omega, rfl, by go_num, by omega, Lib.hid ⟨?_, HL.out.2.below (below_alloc (Below.refl _ _) _)⟩⟩
              rw [bM]
              rw [← HX.out, if_neg (fun e => by have := e.1; omega)]
              exact HL.out.1
        · have hj2 : ¬ (j : Int) < (l.length : Int) := by omega
          have e : j = l.length := by omega
          have HJ := Lib.hid e
          clear e
          go_wp2
          go_loopg [9, 14] (n + 1) (fun k ov iv W => ∃ (u : Nat) (Ao : Option Addr) (co : Nat) (L : List Arc), u ≤ n ∧ ov = .slice Ao L.length co ∧ iv = .int .i64 u ∧ k = n + 1 - u ∧ Hid (L = (bW (keepsOf b p q) n h a (bM l (useOf q) n h a (bA l (useOf q) (keepsOf b p q) n h a) l.length) u).arcs ∧ BdI w #[.int .i64 n, .bool b, .slice A l.length c] (.slice Ao L.length co) L W))
          case atStart => exact ⟨0, Ao, co, L, Nat.zero_le _, rfl, rfl, rfl, Lib.hid ⟨by rw [HL.out.1, HJ.out]; rfl, HL.out.2⟩⟩
          case round =>
            clear HL HSL x0 x2 HJ hj2
            obtain ⟨u, Ao, co, L, hu9, rfl, rfl, rfl, HL⟩ := hrel
            have HSL : Hid (L.length ≤ 14000) := Lib.hid (by
              have h7 := (bW_le (keepsOf b p q) n h a (bM_le l (useOf q) n h a (bA_le l (useOf q) (keepsOf b p q) n h a) l.length) u).1
              have h8 := HN.out.room hlt
              rw [← HL.out.1] at h7
              omega)
            have x0 : wr.cell? ⟨w.heap.size, 0, none⟩ = some (.int .i64 n) := (blk_cell HL.out.2.bx 0).trans rfl
            have x1 : wr.cell? ⟨w.heap.size, 1, none⟩ = some (.bool b) := (blk_cell HL.out.2.bx 1).trans rfl
            have x2 : wr.cell? ⟨w.heap.size, 2, none⟩ = some (.slice A l.length c) := (blk_cell HL.out.2.bx 2).trans rfl
            by_cases hul : u < n
            · have hul2 : (u : Int) < (n : Int) := by omega
              have hul3 : 0 ≤ (u : Int) ∧ (u : Int) ≤ 1000 := by omega
              by_cases hah : (a : Int) < (h : Int)
              · have hahd : decide ((a : Int) < (h : Int)) = true := by simpa using hah
                cases hkx : keepsOf b p q u with
                | true =>
                  have HKX := Lib.hid hkx
                  clear hkx
                  go_wp2_with (first
                    | (go_at_call 44; go_loud ((with_reducible refine (rkeeps_walk n b (.slice A l.length c) Ap cp p Aq cq q _ _ ?s1 ?s2 ?s3 ?s4 ?s5 ?s6).mono ?_); (case s1 => exact Kd.C_below HP.out HL.out.2.low); (case s2 => exact Kd.C_below HQ.out HL.out.2.low); (case s3 => omega); (case s4 => omega); (case s5 => exact fun g hg => (HGP.out g hg).2.1); (case s6 => exact fun g hg => (HGQ.out g hg).2.1); rintro e w2 ⟨rfl, hb⟩; rw [show (b || (hasK (putGs p) (u : Int) || hasK (putGs q) (u : Int))) = true from HKX.out]; have HI1 := Lib.hid (HL.out.2.below hb); clear hb))
                    | ((with_reducible refine gate_dst (N := 99) rfl ?_); go_loud (refine Kd.R_append kArc (w0 := w) w.heap.size rfl (.tmp 85) (.tmp 98) 30 79 (.agg #[.int .i64 0, .int .i64 0, .int .i64 0, .int .i64 0]) 32 rfl Try.underlying30 infoArc rfl (by decide) (by decide) (.slice Ao L.length co) L ⟨m0 + (u : Int), m1 + (u : Int), 1099511627776, 0⟩ [.int .i64 (m0 + (u : Int)), .int .i64 (m1 + (u : Int)), .int .i64 (1099511627776), .int .i64 (0)] (fun _ => True) (fun _ => False) rfl ?aX ?aP (fun _ hk => hk.elim) ?aF ?aO ?aB ?aS ?aL ?_); (case aX => first | rfl | (simp; done) | (simp; rfl)); (case aP => exact k79_mkM _ _ _ (⟨m0 + (u : Int), m1 + (u : Int), 1099511627776, 0⟩ : Arc)); (case aF => exact fun _ _ => trivial); (case aO => exact HI1.out.ar); (case aB => exact HI1.out.low); (case aS => exact HI1.out.low.size); (case aL => have := HSL.out; omega); go_loud ((intro v1 w9 ho hb hg hat; obtain ⟨A9, c9, e9⟩ := Kd.R_slice ho; rw [snoc_len] at e9; subst e9; have HI9 := Lib.hid (HI1.out.grow hg ho hb); clear ho hb hg hat))))
                  go_roundg (n - u)
                  case measure => omega
                  case rel =>
                    refine ⟨u + 1, A9, c9, L ++ [⟨m0 + (u : Int), m1 + (u : Int), 1099511627776, 0⟩], by omega, by rw [snoc_len], by go_num, by omega, Lib.hid ⟨?_, by rw [snoc_len]; exact HI9.out⟩⟩
                    rw [bW]
                    rw [if_pos ⟨hah, HKX.out⟩]
                    show L ++ [⟨m0 + (u : Int), m1 + (u : Int), 1099511627776, 0⟩] = (bW (keepsOf b p q) n h a (bM l (useOf q) n h a (bA l (useOf q) (keepsOf b p q) n h a) l.length) u).arcs ++ [⟨(a : Int) * n + u, ((a : Int) + 1) * n + u, 1099511627776, 0⟩]
                    rw [HM0.out.1, HM0.out.2, ← HL.out.1]
                | false =>
                  have HKX := Lib.hid hkx
                  clear hkx
                  go_wp2_with (go_at_call 44; go_loud ((with_reducible refine (rkeeps_walk n b (.slice A l.length c) Ap cp p Aq cq q _ _ ?s1 ?s2 ?s3 ?s4 ?s5 ?s6).mono ?_); (case s1 => exact Kd.C_below HP.out HL.out.2.low); (case s2 => exact Kd.C_below HQ.out HL.out.2.low); (case s3 => omega); (case s4 => omega); (case s5 => exact fun g hg => (HGP.out g hg).2.1); (case s6 => exact fun g hg => (HGQ.out g hg).2.1); rintro e w2 ⟨rfl, hb⟩; rw [show (b || (hasK (putGs p) (u : Int) || hasK (putGs q) (u : Int))) = false from HKX.out]; have HI1 := Lib.hid (HL.out.2.below hb); clear hb))
                  go_roundg (n - u)
                  case measure => omega
                  case rel =>
                    refine ⟨u + 1, Ao, co, L, by omega, rfl, by go_num, by omega, Lib.hid ⟨?_, HI1.out⟩⟩
                    rw [bW]
                    rw [if_neg (fun e => by have := HKX.out; rw [e.2] at this; cases this)]
                    exact HL.out.1
              · have hahd : decide ((a : Int) < (h : Int)) = false := by simpa using hah
                go_wp2
                go_roundg (h + 2 - (a + 1))
                case measure => omega
                case rel =>
                  refine ⟨a + 1, Ao, co, L, by omega, rfl, by go_num, by omega, Lib.hid ⟨?_, HL.out.2⟩⟩
                  rw [HL.out.1, bA, bW_stay _ (show ¬ (a : Int) < (h : Int) by omega), bW_stay _ (show ¬ (a : Int) < (h : Int) by omega)]
            · have hul2 : ¬ (u : Int) < (n : Int) := by omega
              have e : u = n := by omega
              have HU := Lib.hid e
              clear e
              go_wp2
              go_roundg (h + 2 - (a + 1))
              case measure => omega
              case rel =>
                refine ⟨a + 1, Ao, co, L, by omega, rfl, by go_num, by omega, Lib.hid ⟨?_, HL.out.2⟩⟩
                rw [HL.out.1, bA, HU.out]
    · have hlt2 : ¬ (a : Int) ≤ (h : Int) := by omega
      have e : a = h + 1 := by omega
      have HA := Lib.hid e
      clear e
      go_wp2
      go_loopg [9, 15] (p.length + 1) (fun k ov iv W => ∃ (i : Nat) (Ao : Option Addr) (co : Nat) (L : List Arc), i ≤ p.length ∧ ov = .slice Ao L.length co ∧ iv = .int .i64 i ∧ k = p.length + 1 - i ∧ Hid (L = (bA l (useOf q) (keepsOf b p q) n h (h + 1)).arcs ++ pArcs N (p.take i) ∧ BdI w #[.int .i64 n, .bool b, .slice A l.length c] (.slice Ao L.length co) L W))
      case atStart => exact ⟨0, Ao, co, L, Nat.zero_le _, rfl, rfl, rfl, Lib.hid ⟨by rw [HL.out.1, HA.out]; simp [pArcs], HL.out.2⟩⟩
      case round =>
        clear HL HA hlt2
        obtain ⟨i, Ao, co, L, hi, rfl, rfl, rfl, HL⟩ := hrel
        have HSL : Hid (L.length ≤ 16000) := Lib.hid (by
          rw [HL.out.1, List.length_append]
          unfold pArcs
          rw [List.length_map, List.length_take]
          have h1 := (bA_le l (useOf q) (keepsOf b p q) n h (h + 1)).1
          have h2 := HN.out.hn
          have h3 := HN.out.hl
          rw [Nat.mul_add] at h1
          omega)
        by_cases hil : i < p.length
        · have i0 : (0 : Int) ≤ (i : Int) := by omega
          have i1 : (i : Int) < (p.length : Int) := by omega
          obtain ⟨ad, ea, y0, y1⟩ := at_T44 (Kd.C_drew (Kd.C_below HP.out HL.out.2.low)) (i : Int) i0 i1
          subst ea
          rw [Int.toNat_natCast] at y0 y1
          have HTK := Lib.hid (drop_take p hil)
          obtain ⟨g, hg⟩ : ∃ g, g = rd_T44 p (i : Int) := ⟨_, rfl⟩
          rw [← hg] at HTK y0 y1
          clear hg
          have HI1 := Lib.hid (HL.out.2.below (below_drew1 (Below.refl _ wr)))
          go_wp2
          refine stepS (S := fun w' => w'.cell? (ad.add (i * 2)) = some (.int .i64 g.f0) ∧ w'.cell? ⟨(ad.add (i * 2)).block, (ad.add (i * 2)).off + 1, none⟩ = some (.int .i64 g.f1)) (ds := [17]) 19 (by kernel_rfl) rfl ⟨y0, y1⟩ (fun hHeld => ?_)
          generalize wr.drew = wd at HI1 hHeld y0 y1 ⊢
          repeat (first
            | (refine stepP 19 (N := some _) (v := ?_) (a' := ?_) rfl rfl (by kernel_rfl) (fun _ _ _ h => h) (Or.inl ⟨by rfl, ?_⟩) ?_ ?_
               rotate_left
               · (intro w'; go_simp; with_reducible rfl)
               rotate_left
               · (simp only [Act.put, List.setIfInBounds_toArray, List.set_cons_zero, List.set_cons_succ]; rfl))
            | (refine stepT 19 (N := some _) (v := ?_) (a' := ?_) rfl rfl (by kernel_rfl) (fun _ _ _ h => h) (Or.inl ⟨by rfl, ?_⟩) hHeld ?_ ?_
               rotate_left
               · (rintro w' ⟨s0, s1⟩; go_simp; with_reducible rfl)
               rotate_left
               · (simp only [Act.put, List.setIfInBounds_toArray, List.set_cons_zero, List.set_cons_succ]; rfl)))
          refine stepE 19 (N := some 122) rfl rfl (by kernel_rfl) (by decide) (fun K hK => ?_)
          refine value_ (w1 := ?_) (v := ?_) (by rfl) rfl ?_ ?_
          rotate_left 2
          · go_simp
            constructor
            · rfl
            · rfl
          refine hK.out _ _ ⟨pw_cell_below (below_alloc (Below.refl _ _) _) hHeld.1, pw_cell_below (below_alloc (Below.refl _ _) _) hHeld.2⟩ (fun hHeld => ?_)
          clear hK K
          refine norm_ (a' := ?_) ?_ ?_
          rotate_left
          · (show Act.put _ (some 122) _ = _; simp only [Act.put, List.setIfInBounds_toArray, List.set_cons_zero, List.set_cons_succ]; rfl)
          refine stepL 19 (N := some 123) rfl rfl (by kernel_rfl) (by decide) (fun K hK => ?_)
          (repeat rw [drew_of_alloc])
          refine Kd.R_append_step kArc (w0 := w) w.heap.size (by rfl) (.tmp 106) (.tmp 122) 30 79 (.agg #[.int .i64 0, .int .i64 0, .int .i64 0, .int .i64 0]) 32 (by rfl) Try.underlying30 infoArc rfl (by decide) (by decide) (.slice Ao L.length co) L ⟨(N : Int), g.f0, g.f1, 0⟩ [.int .i64 ((N : Int)), .int .i64 (g.f0), .int .i64 (g.f1), .int .i64 (0)] (fun _ => True) (fun _ => False) (by rfl) (by rfl) (k79_mkM _ _ _ (⟨(N : Int), g.f0, g.f1, 0⟩ : Arc)) (fun _ hk => hk.elim) (fun _ _ => trivial) ?aO ?aB ?aS (by have := HSL.out; omega) ?_
          case aO => exact HI1.out.ar
          case aB => exact HI1.out.low
          case aS => exact HI1.out.low.size
          intro v1 w9 ho hb hg hat
          obtain ⟨A9, c9, e9⟩ := Kd.R_slice ho
          rw [snoc_len] at e9
          subst e9
          have HI9 := Lib.hid (HI1.out.grow hg ho hb)
          clear ho hb hg hat HI1 hHeld
          refine hK.out _ _ ?_
          clear hK K
          refine norm_ (a' := ?_) ?_ ?_
          rotate_left
          · (show Act.put _ (some 123) _ = _; simp only [Act.put, List.setIfInBounds_toArray, List.set_cons_zero, List.set_cons_succ]; rfl)
          refine stepP 19 (N := some _) (v := ?_) (a' := ?_) rfl rfl (by kernel_rfl) (fun _ _ _ h => h) (Or.inl ⟨by rfl, ?_⟩) ?_ ?_
          rotate_left
          · (intro w'; go_simp; with_reducible rfl)
          rotate_left
          · (simp only [Act.put, List.setIfInBounds_toArray, List.set_cons_zero, List.set_cons_succ]; rfl)
          refine done_ (by kernel_rfl) ?_
          go_wp2
          go_roundg (p.length - i)
          case measure => omega
          case rel =>
            refine ⟨i + 1, A9, c9, L ++ [⟨(N : Int), g.f0, g.f1, 0⟩], by omega, by rw [snoc_len], by go_num, by omega, Lib.hid ⟨?_, by rw [snoc_len]; exact HI9.out⟩⟩
            rw [HTK.out, pArcs_snoc, ← List.append_assoc, ← HL.out.1]
        · have hil2 : ¬ (i : Int) < (p.length : Int) := by omega
          have e : i = p.length := by omega
          have HA := Lib.hid e
          clear e
          go_wp2
          go_loopg [9, 16] (q.length + 1) (fun k ov iv W => ∃ (i : Nat) (Ao : Option Addr) (co : Nat) (L : List Arc), i ≤ q.length ∧ ov = .slice Ao L.length co ∧ iv = .int .i64 i ∧ k = q.length + 1 - i ∧ Hid (L = (bA l (useOf q) (keepsOf b p q) n h (h + 1)).arcs ++ pArcs N p ++ qArcs N1 n h (q.take i) ∧ BdI w #[.int .i64 n, .bool b, .slice A l.length c] (.slice Ao L.length co) L W))
          case atStart => exact ⟨0, Ao, co, L, Nat.zero_le _, rfl, rfl, rfl, Lib.hid ⟨by rw [HL.out.1, HA.out, List.take_length]; simp [qArcs], HL.out.2⟩⟩
          case round =>
            clear HL HA HSL hil2
            obtain ⟨i, Ao, co, L, hi, rfl, rfl, rfl, HL⟩ := hrel
            have HSL : Hid (L.length ≤ 16000) := Lib.hid (by
              rw [HL.out.1, List.length_append, List.length_append]
              unfold pArcs qArcs
              rw [List.length_map, List.length_map, List.length_take]
              have h1 := (bA_le l (useOf q) (keepsOf b p q) n h (h + 1)).1
              have h2 := HN.out.hn
              have h3 := HN.out.hl
              rw [Nat.mul_add] at h1
              omega)
            by_cases hil : i < q.length
            · have i0 : (0 : Int) ≤ (i : Int) := by omega
              have i1 : (i : Int) < (q.length : Int) := by omega
              obtain ⟨ad, ea, y0, y1⟩ := at_T44 (Kd.C_drew (Kd.C_below HQ.out HL.out.2.low)) (i : Int) i0 i1
              subst ea
              rw [Int.toNat_natCast] at y0 y1
              have HTK := Lib.hid (drop_take q hil)
              obtain ⟨g, hg⟩ : ∃ g, g = rd_T44 q (i : Int) := ⟨_, rfl⟩
              have hgb := HGQ.out g (by rw [hg]; unfold rd_T44; rw [Int.toNat_natCast, List.getD_eq_getElem?_getD, List.getElem?_eq_getElem hil]; exact List.getElem_mem hil)
              rw [← hg] at HTK y0 y1
              have hgb0 : 0 ≤ g.f0 := hgb.1.1
              have hgb1 : g.f0 ≤ 1000 := by have := hgb.1.2; omega
              clear hg hgb
              have e8 : IntKind.i64.wrap (mh + g.f0) = mh + g.f0 := IntWalk.i64_in _ (by omega)
              have e9 : IntKind.i64.wrap ((N : Int) + 1) = (N1 : Int) := by
                rw [HN1.out]
                exact IntWalk.i64_in _ (by omega)
              have HI1 := Lib.hid (HL.out.2.below (below_drew1 (Below.refl _ wr)))
              go_wp2
              refine stepS (S := fun w' => w'.cell? (ad.add (i * 2)) = some (.int .i64 g.f0) ∧ w'.cell? ⟨(ad.add (i * 2)).block, (ad.add (i * 2)).off + 1, none⟩ = some (.int .i64 g.f1)) (ds := [22]) 24 (by kernel_rfl) rfl ⟨y0, y1⟩ (fun hHeld => ?_)
              generalize wr.drew = wd at HI1 hHeld y0 y1 ⊢
              repeat (first
                | (refine stepP 24 (N := some _) (v := ?_) (a' := ?_) rfl rfl (by kernel_rfl) (fun _ _ _ h => h) (Or.inl ⟨by rfl, ?_⟩) ?_ ?_
                   rotate_left
                   · (intro w'; go_simp; with_reducible rfl)
                   rotate_left
                   · (simp only [Act.put, List.setIfInBounds_toArray, List.set_cons_zero, List.set_cons_succ]; rfl))
                | (refine stepT 24 (N := some _) (v := ?_) (a' := ?_) rfl rfl (by kernel_rfl) (fun _ _ _ h => h) (Or.inl ⟨by rfl, ?_⟩) hHeld ?_ ?_
                   rotate_left
                   · (rintro w' ⟨s0, s1⟩; go_simp; with_reducible rfl)
                   rotate_left
                   · (simp only [Act.put, List.setIfInBounds_toArray, List.set_cons_zero, List.set_cons_succ]; rfl)))
              refine stepE 24 (N := some 151) rfl rfl (by kernel_rfl) (by decide) (fun K hK => ?_)
              refine value_ (w1 := ?_) (v := ?_) (by rfl) rfl ?_ ?_
              rotate_left 2
              · go_simp
                constructor
                · rfl
                · rfl
              refine hK.out _ _ ⟨pw_cell_below (below_alloc (Below.refl _ _) _) hHeld.1, pw_cell_below (below_alloc (Below.refl _ _) _) hHeld.2⟩ (fun hHeld => ?_)
              clear hK K
              refine norm_ (a' := ?_) ?_ ?_
              rotate_left
              · (show Act.put _ (some 151) _ = _; simp only [Act.put, List.setIfInBounds_toArray, List.set_cons_zero, List.set_cons_succ]; rfl)
              refine stepL 24 (N := some 152) rfl rfl (by kernel_rfl) (by decide) (fun K hK => ?_)
              (repeat rw [drew_of_alloc])
              refine Kd.R_append_step kArc (w0 := w) w.heap.size (by rfl) (.tmp 130) (.tmp 151) 30 79 (.agg #[.int .i64 0, .int .i64 0, .int .i64 0, .int .i64 0]) 32 (by rfl) Try.underlying30 infoArc rfl (by decide) (by decide) (.slice Ao L.length co) L ⟨mh + g.f0, (N1 : Int), g.f1, 0⟩ [.int .i64 (mh + g.f0), .int .i64 ((N1 : Int)), .int .i64 (g.f1), .int .i64 (0)] (fun _ => True) (fun _ => False) (by rfl) (by rfl) (k79_mkM _ _ _ (⟨mh + g.f0, (N1 : Int), g.f1, 0⟩ : Arc)) (fun _ hk => hk.elim) (fun _ _ => trivial) ?aO ?aB ?aS (by have := HSL.out; omega) ?_
              case aO => exact HI1.out.ar
              case aB => exact HI1.out.low
              case aS => exact HI1.out.low.size
              intro v1 w9 ho hb hg hat
              obtain ⟨A9, c9, e9⟩ := Kd.R_slice ho
              rw [snoc_len] at e9
              subst e9
              have HI9 := Lib.hid (HI1.out.grow hg ho hb)
              clear ho hb hg hat HI1 hHeld
              refine hK.out _ _ ?_
              clear hK K
              refine norm_ (a' := ?_) ?_ ?_
              rotate_left
              · (show Act.put _ (some 152) _ = _; simp only [Act.put, List.setIfInBounds_toArray, List.set_cons_zero, List.set_cons_succ]; rfl)
              refine stepP 24 (N := some _) (v := ?_) (a' := ?_) rfl rfl (by kernel_rfl) (fun _ _ _ h => h) (Or.inl ⟨by rfl, ?_⟩) ?_ ?_
              rotate_left
              · (intro w'; go_simp; with_reducible rfl)
              rotate_left
              · (simp only [Act.put, List.setIfInBounds_toArray, List.set_cons_zero, List.set_cons_succ]; rfl)
              refine done_ (by kernel_rfl) ?_
              go_wp2
              go_roundg (q.length - i)
              case measure => omega
              case rel =>
                refine ⟨i + 1, A9, c9, L ++ [⟨mh + g.f0, (N1 : Int), g.f1, 0⟩], by omega, by rw [snoc_len], by go_num, by omega, Lib.hid ⟨?_, by rw [snoc_len]; exact HI9.out⟩⟩
                rw [HTK.out, qArcs_snoc, ← List.append_assoc, ← HL.out.1, ← HMH.out]
            · have hil2 : ¬ (i : Int) < (q.length : Int) := by omega
              have e : i = q.length := by omega
              have HA := Lib.hid e
              clear e
              have rx := HL.out.2.rx
              have z0 : wr.cell? ⟨w.heap.size + 1, 0, none⟩ = some (.int .i64 0) := (blk_cell rx 0).trans rfl
              have z1 : wr.cell? ⟨w.heap.size + 1, 1, none⟩ = some (.bool false) := (blk_cell rx 1).trans rfl
              have z2 : wr.cell? ⟨w.heap.size + 1, 2, none⟩ = some (.slice none 0 0) := (blk_cell rx 2).trans rfl
              have fz0 := blk_frozen rx 0
              have fz1 := blk_frozen rx 1
              have fz2 := blk_frozen rx 2
              go_wp2
              have r0 := blk_put (cs := #[.int .i64 0, .bool false, .slice none 0 0]) rx 0 (.int .i64 ((N : Int) + 2)) rfl
              have r1 := blk_put (cs := #[.int .i64 ((N : Int) + 2), .bool false, .slice none 0 0]) r0 1 (.bool false) rfl
              have r2 := blk_put (cs := #[.int .i64 ((N : Int) + 2), .bool false, .slice none 0 0]) r1 2 (.slice Ao L.length co) rfl
              refine bodyPost_ret (results_cell_row rfl _ _ (w.heap.size + 1) 32 #[.int .i64 ((N : Int) + 2), .bool false, .slice Ao L.length co] (0, 0) _ rfl r2 hu rfl (by kernel_rfl)) rfl ?_
              have hL : L = E := by rw [HL.out.1, HA.out, List.take_length, HE.out]; rfl
              have hR := Kd.R_set (Kd.R_set (Kd.R_set HL.out.2.ar rx (by decide) 0 (.int .i64 ((N : Int) + 2))) r0 (by decide) 1 (.bool false)) r1 (by decide) 2 (.slice Ao L.length co)
              refine ⟨Ao, co, by rw [← hL, HM.out]; rfl, by rw [← hL]; exact (Kd.R_reads' hR).2.2, below_set (below_set (below_set HL.out.2.low (Nat.le_succ _)) (Nat.le_succ _)) (Nat.le_succ _)⟩
end Go.Proofs.Ytcgdloldkcmhnaa.H
end
section
namespace Go.Proofs.Ytcgdloldkcmhnaa.H
open Go Go.RowKit Go.Proofs.Ytcgdloldkcmhnaa.PrintC Go.Proofs.YtcgdloldkcmhnaaW.PrintWords Go.Proofs.YtcgdloldkcmhnaaW.PrintLast Go.Proofs.YtcgdloldkcmhnaaW.PrintMore Go.Proofs.Ytcgdloldkcmhnaa.Flow
set_option linter.unusedVariables false
set_option linter.unusedSimpArgs false
def lv1 (l : List Arc) (f : List Int) (v : Int) (i : Nat) : Int := (if frOf l i = v then dOf f i else 0) - (if toOf l i = v then dOf f i else 0)
theorem lv_is (l : List Arc) (f : List Int) (v : Int) : leaves l.length (frOf l) (toOf l) (dOf f) v = sumN l.length (lv1 l f v) := rfl
set_option maxHeartbeats 4000000 in
set_option maxRecDepth 100000 in
theorem leaves_walk (M : Nat) (n : Int) (b : Bool) (A : Option Addr) (c : Nat) (l : List Arc) (Af : Option Addr) (cf : Nat) (f : List Int) (v : Int) (w : World) (hn : NetOk M l) (hf : FlowOk l f) (hr : Kd.C k79 w A l.length l) (hF : Kd.C (Kd.int .i64) w Af f.length f) :
    Calls Try.prog 39 #[.agg #[.int .i64 n, .bool b, .slice A l.length c], .slice Af f.length cf, .int .i64 v] w fun e w' => e = .returned (.int .i64 (leaves l.length (frOf l) (toOf l) (dOf f) v)) ∧ Below w.heap.size w w' := by
  have hu := Try.underlying32
  have hu3 := Try.underlying79
  have HR := Lib.hid hr
  have HF := Lib.hid hF
  have HLEN := Lib.hid hf.len
  have hll := hn.ll
  rw [lv_is]
  clear hr hF
  go_enter Try.func39, Try.ntmps39
  obtain ⟨w1, hw1⟩ : ∃ w1, w1 = w.alloc (.cells #[.int .i64 n, .bool b, .slice A l.length c] 32) := ⟨_, rfl⟩
  have HX : Hid (w1.heap[w.heap.size]? = some (.cells #[.int .i64 n, .bool b, .slice A l.length c] 32 (0, 0)) ∧ Below w.heap.size w w1) := Lib.hid (by rw [hw1]; exact ⟨heap_alloc_new _ _, below_alloc (Below.refl _ _) _⟩)
  go_wp2
  rw [← hw1]
  clear hw1
  rw [HLEN.out]
  go_loopg [7, 8] l.length (fun k kv iv W => ∃ (i : Nat) (z : Int), i ≤ l.length ∧ kv = .int .i64 z ∧ iv = .int .i64 i ∧ k = l.length - i ∧ (-(i * 1099511627776 : Int) ≤ z ∧ z ≤ i * 1099511627776) ∧ Hid (W.heap[w.heap.size]? = some (.cells #[.int .i64 n, .bool b, .slice A l.length c] 32 (0, 0)) ∧ Below w.heap.size w W ∧ z = sumN i (lv1 l f v)))
  case atStart => exact ⟨0, 0, Nat.zero_le _, rfl, rfl, rfl, by omega, Lib.hid ⟨HX.out.1, HX.out.2, rfl⟩⟩
  case round =>
    obtain ⟨i, z, hi, rfl, rfl, rfl, hz, HL⟩ := hrel
    clear HX
    by_cases d1 : i < l.length
    · have i0 : (0 : Int) ≤ (i : Int) := by omega
      have i1 : (i : Int) < (l.length : Int) := by omega
      have hcap := (hn.caps (i : Int) i0 i1)
      have hfw := (hf.wit (i : Int) i0 i1)
      obtain ⟨ad, ea, y0, y1, y2, y3⟩ := at_T79 (Kd.C_below HR.out HL.out.2.1) (i : Int) i0 i1
      subst ea
      obtain ⟨ae, eb, z0⟩ := Kd.at_int (Kd.C_below HF.out HL.out.2.1) (i : Int) i0 (by rw [HLEN.out]; exact i1)
      subst eb
      rw [Int.toNat_natCast] at y0 y1 z0
      obtain ⟨fv, hfv⟩ : ∃ fv, fv = rd f (i : Int) := ⟨_, rfl⟩
      obtain ⟨p, hp⟩ : ∃ p, p = (rd_T79 l (i : Int)).f0 := ⟨_, rfl⟩
      obtain ⟨q, hq⟩ : ∃ q, q = (rd_T79 l (i : Int)).f1 := ⟨_, rfl⟩
      rw [← hfv] at z0 hfw
      rw [← hp] at y0
      rw [← hq] at y1
      have f0 : 0 ≤ fv ∧ fv ≤ 1099511627776 := by omega
      have x2 : wr.cell? ⟨w.heap.size, 2, none⟩ = some (.slice (some ad) l.length c) := (blk_cell HL.out.1 2).trans rfl
      have G : Hid (lv1 l f v i = (if p = v then fv else 0) - (if q = v then fv else 0)) := Lib.hid (by unfold lv1 frOf toOf dOf arcAt; rw [← hp, ← hq, ← hfv])
      clear y2 y3 hcap hfw hfv hp hq
      by_cases ca : p = v
      · by_cases cb : q = v
        · have t1 : (p == v) = true := beq_iff_eq.2 ca
          have t2 : (q == v) = true := beq_iff_eq.2 cb
          have G2 := Lib.hid (show lv1 l f v i = fv - fv by rw [G.out, if_pos ca, if_pos cb])
          clear ca cb
          go_wp2
          go_roundg (l.length - (i + 1))
          case measure => omega
          case rel => exact ⟨i + 1, ((z + fv) - fv), by omega, by first | rfl | go_num, by go_num, by omega, by have := hz; constructor <;> omega, Lib.hid ⟨HL.out.1, HL.out.2.1, by rw [sumN, ← HL.out.2.2, G2.out]; omega⟩⟩
        · have t1 : (p == v) = true := beq_iff_eq.2 ca
          have t2 : (q == v) = false := beq_eq_false_iff_ne.2 cb
          have G2 := Lib.hid (show lv1 l f v i = fv - 0 by rw [G.out, if_pos ca, if_neg cb])
          clear ca cb
          go_wp2
          go_roundg (l.length - (i + 1))
          case measure => omega
          case rel => exact ⟨i + 1, (z + fv), by omega, by first | rfl | go_num, by go_num, by omega, by have := hz; constructor <;> omega, Lib.hid ⟨HL.out.1, HL.out.2.1, by rw [sumN, ← HL.out.2.2, G2.out]; omega⟩⟩
      · by_cases cb : q = v
        · have t1 : (p == v) = false := beq_eq_false_iff_ne.2 ca
          have t2 : (q == v) = true := beq_iff_eq.2 cb
          have G2 := Lib.hid (show lv1 l f v i = 0 - fv by rw [G.out, if_neg ca, if_pos cb])
          clear ca cb
          go_wp2
          go_roundg (l.length - (i + 1))
          case measure => omega
          case rel => exact ⟨i + 1, (z - fv), by omega, by first | rfl | go_num, by go_num, by omega, by have := hz; constructor <;> omega, Lib.hid ⟨HL.out.1, HL.out.2.1, by rw [sumN, ← HL.out.2.2, G2.out]; omega⟩⟩
        · have t1 : (p == v) = false := beq_eq_false_iff_ne.2 ca
          have t2 : (q == v) = false := beq_eq_false_iff_ne.2 cb
          have G2 := Lib.hid (show lv1 l f v i = 0 - 0 by rw [G.out, if_neg ca, if_neg cb])
          clear ca cb
          go_wp2
          go_roundg (l.length - (i + 1))
          case measure => omega
          case rel => exact ⟨i + 1, z, by omega, by first | rfl | go_num, by go_num, by omega, by have := hz; constructor <;> omega, Lib.hid ⟨HL.out.1, HL.out.2.1, by rw [sumN, ← HL.out.2.2, G2.out]; omega⟩⟩
    · have e : i = l.length := by omega
      have d2 : ¬ (i : Int) < (l.length : Int) := by omega
      have HE := Lib.hid e
      clear e
      go_wp2
      go_ret
      exact ⟨by rw [HL.out.2.2, HE.out]; rfl, HL.out.2.1⟩
end Go.Proofs.Ytcgdloldkcmhnaa.H
end
section
namespace Go.Proofs.Ytcgdloldkcmhnaa.H
open Go Go.RowKit Go.Proofs.Ytcgdloldkcmhnaa.PrintC Go.Proofs.Ytcgdloldkcmhnaa.PrintE Go.Proofs.YtcgdloldkcmhnaaW.PrintWords Go.Proofs.YtcgdloldkcmhnaaW.PrintLast Go.Proofs.YtcgdloldkcmhnaaW.PrintMore Go.Proofs.Ytcgdloldkcmhnaa.Flow
set_option linter.unusedVariables false
set_option linter.unusedSimpArgs false
theorem best_at (M s t : Nat) (sv tv : Int) (hsv : sv = s) (htv : tv = t) (n : Int) (b : Bool) (A : Option Addr) (c : Nat) (l : List Arc) (w : World) (hn : NetOk M l) (hcap : ∀ i : Int, 0 ≤ i → i < l.length → 0 ≤ (rd_T79 l i).f2) (hs : s < M) (ht : t < M) (hst : s ≠ t) (hr : Kd.C k79 w A l.length l) :
    Calls Try.prog 38 #[.agg #[.int .i64 n, .bool b, .slice A l.length c], .int .i64 sv, .int .i64 tv] w (BestAt l M s t w) := by
  subst hsv htv
  exact best_walk M s t n b A c l w hn hcap hs ht hst hr
theorem leaves_at (M N : Nat) (v : Int) (hv : v = N) (n : Int) (b : Bool) (A : Option Addr) (c : Nat) (l : List Arc) (Af : Option Addr) (cf : Nat) (f : List Int) (V : Int) (hV : V = leaves l.length (frOf l) (toOf l) (dOf f) N) (w : World) (hn : NetOk M l) (hf : FlowOk l f) (hr : Kd.C k79 w A l.length l) (hF : Kd.C (Kd.int .i64) w Af f.length f) :
    Calls Try.prog 39 #[.agg #[.int .i64 n, .bool b, .slice A l.length c], .slice Af f.length cf, .int .i64 v] w fun e w' => e = .returned (.int .i64 V) ∧ Below w.heap.size w w' := by
  subst hv hV
  exact leaves_walk M n b A c l Af cf f N w hn hf hr hF
set_option maxHeartbeats 4000000 in
set_option maxRecDepth 100000 in
theorem rmost_walk (n h : Nat) (b : Bool) (A : Option Addr) (c : Nat) (l : List Arc) (Ap : Option Addr) (cp : Nat) (p : List Grp) (Aq : Option Addr) (cq : Nat) (q : List Grp) (V : Int) (hV : V = mostV n h b l p q) (w : World) (a : AskOk n h l p q) (hr : Kd.C kArc w A l.length l) (hp : Kd.C kGrp w Ap p.length p) (hq : Kd.C kGrp w Aq q.length q) :
    Calls Try.prog 18 #[.agg #[.int .i64 n, .bool b, .slice A l.length c], .slice Ap p.length cp, .slice Aq q.length cq, .int .i64 h] w fun e w' => e = .returned (.tuple #[.int .i64 V, .int .i64 0]) ∧ Below w.heap.size w w' := by
  have hu := Try.underlying32
  have HA := Lib.hid a
  have HR := Lib.hid hr
  have HP := Lib.hid hp
  have HQ := Lib.hid hq
  have HPL := Lib.hid a.place
  obtain ⟨N, hN⟩ : ∃ N : Nat, N = (h + 1) * n := ⟨_, rfl⟩
  obtain ⟨M, hM⟩ : ∃ M : Nat, M = N + 2 := ⟨_, rfl⟩
  obtain ⟨E, hE⟩ : ∃ E, E = evArcs l (useOf q) (keepsOf b p q) n h N (N + 1) p q := ⟨_, rfl⟩
  have HNO : Hid (NetOk M E ∧ (∀ i : Int, 0 ≤ i → i < E.length → 0 ≤ (rd_T79 E i).f2) ∧ (∀ x, x ∈ E → ArcOk M x) ∧ mostV n h b l p q = mfVal E M N (N + 1)) := Lib.hid (by
    subst hN hM hE
    exact ⟨(a.place.netOk b).1, (a.place.netOk b).2, a.place.arcs b, rfl⟩)
  have hNb : N ≤ 4000 := by rw [hN]; exact a.hn
  have HN := Lib.hid hN
  have HM := Lib.hid hM
  have HE := Lib.hid hE
  have HV := Lib.hid hV
  have e1 : (M : Int) - 2 = (N : Int) := by omega
  have e2 : (M : Int) - 1 = ((N + 1 : Nat) : Int) := by omega
  have HE1 := Lib.hid e1
  have HE2 := Lib.hid e2
  have hMb : M ≤ 5000 := by omega
  have hM2 : 2 ≤ M := by omega
  clear a hr hp hq hN hM hE hV e1 e2
  go_enter Try.func18, Try.ntmps18
  obtain ⟨w1, hw1⟩ : ∃ w1, w1 = w.alloc (.cells #[.int .i64 n, .bool b, .slice A l.length c] 32) := ⟨_, rfl⟩
  have HX : Hid (w1.heap[w.heap.size]? = some (.cells #[.int .i64 n, .bool b, .slice A l.length c] 32 (0, 0)) ∧ Below w.heap.size w w1) := Lib.hid (by rw [hw1]; exact ⟨heap_alloc_new _ _, below_alloc (Below.refl _ _) _⟩)
  go_wp2_with (first
    | (go_at_call 33; rw [← hw1]; go_loud ((with_reducible refine (rasked_walk n h b A c l Ap cp p Aq cq q _ ?s1 ?s2 ?s3 ?s4).mono ?_); (case s1 => exact HA.out); (case s2 => exact Kd.C_below HR.out HX.out.2); (case s3 => exact Kd.C_below HP.out HX.out.2); (case s4 => exact Kd.C_below HQ.out HX.out.2); rintro e w2 ⟨rfl, hb⟩; have HX2 := Lib.hid (And.intro (blk_below HX.out.1 hb) (below_step HX.out.2 hb)); have x0 : w2.cell? ⟨w.heap.size, 0, none⟩ = some (.int .i64 n) := (blk_cell HX2.out.1 0).trans rfl; have x1 : w2.cell? ⟨w.heap.size, 1, none⟩ = some (.bool b) := (blk_cell HX2.out.1 1).trans rfl; have x2 : w2.cell? ⟨w.heap.size, 2, none⟩ = some (.slice A l.length c) := (blk_cell HX2.out.1 2).trans rfl; clear hb))
    | (go_at_call 37; go_loud ((with_reducible refine (build_walk n h N (N + 1) M b A c l Ap cp p Aq cq q E _ ?s1 ?s2 ?s3 ?s4 ?s5 ?s6 ?s7 ?s8 ?s9 ?s10 ?s11 ?s12).mono ?_); (case s1 => exact HPL.out.net); (case s2 => exact Kd.C_below HR.out HX2.out.2); (case s3 => exact Kd.C_below HP.out HX2.out.2); (case s4 => exact Kd.C_below HQ.out HX2.out.2); (case s5 => exact HPL.out.gp); (case s6 => exact HPL.out.gq); (case s7 => exact HPL.out.lp); (case s8 => exact HPL.out.lq); (case s9 => exact HN.out); (case s10 => rfl); (case s11 => exact HM.out); (case s12 => exact HE.out); rintro e w3 ⟨A3, c3, rfl, hr3, hb⟩; have HX3 := Lib.hid (And.intro hr3 (below_step HX2.out.2 hb)); clear hr3 hb))
    | (go_at_call 38; go_loud ((with_reducible refine (best_at M N (N + 1) _ _ ?s1 ?s2 (M : Int) false A3 c3 E _ ?s3 ?s4 ?s5 ?s6 ?s7 ?s8).mono ?_); (case s1 => exact HE1.out); (case s2 => exact HE2.out); (case s3 => exact HNO.out.1); (case s4 => exact HNO.out.2.1); (case s5 => have := HM.out; omega); (case s6 => have := HM.out; omega); (case s7 => omega); (case s8 => exact Kd.C_below HX3.out.1 (below_alloc (Below.refl _ _) _)); rintro e w4 ⟨f, A4, c4, S, rfl, hf1, hf2, hf3, hb⟩; have HF := Lib.hid (And.intro hf1 (And.intro hf2 hf3)); have HX4 := Lib.hid (And.intro (blk_below (heap_alloc_new w3 (.cells #[.int .i64 M, .bool false, .slice A3 E.length c3] 32)) hb) (And.intro (below_step (below_alloc HX3.out.2 (.cells #[.int .i64 M, .bool false, .slice A3 E.length c3] 32)) hb) (Kd.C_below HX3.out.1 (below_step (below_alloc (Below.refl w3.heap.size w3) (.cells #[.int .i64 M, .bool false, .slice A3 E.length c3] 32)) hb)))); have y0 : w4.cell? ⟨w3.heap.size, 0, none⟩ = some (.int .i64 M) := (blk_cell HX4.out.1 0).trans rfl; have y1 : w4.cell? ⟨w3.heap.size, 1, none⟩ = some (.bool false) := (blk_cell HX4.out.1 1).trans rfl; have y2 : w4.cell? ⟨w3.heap.size, 2, none⟩ = some (.slice A3 E.length c3) := (blk_cell HX4.out.1 2).trans rfl; clear hf1 hf2 hf3 hb))
    | (go_at_call 39; go_loud ((with_reducible refine (leaves_at M N _ ?s1 (M : Int) false A3 c3 E A4 c4 f V ?s2 _ ?s3 ?s4 ?s5 ?s6).mono ?_); (case s1 => exact HE1.out); (case s2 => rw [HV.out, HNO.out.2.2.2]; exact mfVal_eq HNO.out.2.2.1 (by have := HM.out; omega) HF.out.2.1 HF.out.2.2); (case s3 => exact HNO.out.1); (case s4 => exact HF.out.2.1); (case s5 => exact HX4.out.2.2); (case s6 => exact HF.out.1); rintro e w5 ⟨rfl, hb⟩; have HX5 := Lib.hid (below_step HX4.out.2.1 hb); clear hb)))
  go_ret2
  exact ⟨rfl, HX5.out⟩
end Go.Proofs.Ytcgdloldkcmhnaa.H
end
section
namespace Go.Proofs.Ytcgdloldkcmhnaa.H
open Go Go.RowKit Go.Proofs.YtcgdloldkcmhnaaW.PrintWords Go.Proofs.YtcgdloldkcmhnaaW.PrintLast Go.Proofs.YtcgdloldkcmhnaaW.PrintMore
section
variable {P : Program} {md : Region.Mode} {ops : Array Oper} {Q : Exit → Act → World → Prop} {S : World → Prop} {ds : List Nat}
theorem rP (n : Nat) {t : Tmp} {oi : Oper} {v : Value} {fuel : Nat} {l : Array Bool} {a a' : Act} {w : World} (h : wpAnyLast P md ops Q S ds fuel (l.setIfInBounds (n - (fuel + 1)) true) a' w) (hi : ops[n - (fuel + 1)]? = some oi := by exact rfl) (hN : oi.dst = some t := by exact rfl) (hc : anyB md ops l (l.setIfInBounds (n - (fuel + 1)) true) (n - (fuel + 1)) = true := by kernel_rfl)
    (hQ : ∀ c a w, Q (.panic c) (a.put oi.dst v) w → Q (.panic c) a w := by exact fun _ _ _ h => h) (hy : Yields P ops oi v a := by first | (refine Or.inl ⟨by rfl, ?_⟩; intro w'; go_simp; with_reducible rfl) | exact Or.inr ⟨by rfl, rfl⟩)
    (ha : a.put (some t) v = a' := by (simp only [Act.put, List.setIfInBounds_toArray, List.set_cons_zero, List.set_cons_succ]; rfl)) : wpAnyLast P md ops Q S ds (fuel + 1) l a w := pure_ _ hi hN hc hQ hy ha h
theorem rT (n : Nat) {t : Tmp} {oi : Oper} {v : Value} {fuel : Nat} {l : Array Bool} {a a' : Act} {w : World} (hS : S w) (h : wpAnyLast P md ops Q S ds fuel (l.setIfInBounds (n - (fuel + 1)) true) a' w) (hi : ops[n - (fuel + 1)]? = some oi := by exact rfl) (hN : oi.dst = some t := by exact rfl) (hc : takeB md ops ds l (l.setIfInBounds (n - (fuel + 1)) true) (n - (fuel + 1)) = true := by kernel_rfl)
    (hQ : ∀ c a w, Q (.panic c) (a.put oi.dst v) w → Q (.panic c) a w := by exact fun _ _ _ h => h) (hy : YieldsIf P ops S oi v a := by (refine Or.inl ⟨by rfl, ?_⟩; intro w' hs'; (repeat (rcases hs' with ⟨_, hs'⟩)); go_simp; with_reducible rfl))
    (ha : a.put (some t) v = a' := by (simp only [Act.put, List.setIfInBounds_toArray, List.set_cons_zero, List.set_cons_succ]; rfl)) : wpAnyLast P md ops Q S ds (fuel + 1) l a w := take_ _ hi hN hc hQ hy hS ha h
theorem sN {fuel : Nat} {l : Array Bool} {a a' : Act} {w : World} (h : wpAnyLast P md ops Q S ds fuel l a' w) (ha : a = a' := by (show Act.put _ _ _ = _; simp only [Act.put, List.setIfInBounds_toArray, List.set_cons_zero, List.set_cons_succ]; rfl)) : wpAnyLast P md ops Q S ds fuel l a w := norm_ ha h
theorem sB (i : Nat) {t : Tmp} {oi : Oper} {v : Value} {fuel : Nat} {l : Array Bool} {a a' : Act} {w w1 : World} (hS : S w) (h : S w1 → wpAnyLast P md ops Q S ds fuel (l.setIfInBounds i true) a' w1)
    (hi : ops[i]? = some oi := by exact rfl) (hN : oi.dst = some t := by exact rfl) (hr : readyB md ops l (l.setIfInBounds i true) i = true := by kernel_rfl) (hd : i ∉ ds := by decide) (hw : Region.wanted oi (yielded ops a.tmps) = true := by rfl)
    (hrun : (execOp a.eval oi).run P w = .ok (.value v) w1 := by (go_simp; constructor; rfl; rfl)) (ha : a.put (some t) v = a' := by (simp only [Act.put, List.setIfInBounds_toArray, List.set_cons_zero, List.set_cons_succ]; rfl))
    (hS1 : S w → S w1 := by (intro hs'; repeat' (first | exact pw_cell_below (below_alloc (Below.refl _ _) _) (by first | exact hs' | exact hs'.1 | exact hs'.2 | exact hs'.2.1 | exact hs'.2.2 | exact hs'.2.2.1 | exact hs'.2.2.2) | constructor))) : wpAnyLast P md ops Q S ds (fuel + 1) l a w := by
  subst ha
  exact one_ _ hi hN hr hd fun K hK => value_ hw hN hrun (hK.out _ _ (hS1 hS) h)
structure AppK (P : Program) {α : Type} (d : Kd α) (T t : TypeId) (cs : α → List Value) : Prop where
  und : P.underlying T = some (.slice t)
  info : ∃ (z : Value) (bytes : Nat), (P.info? t).map (fun i => (i.zero, i.size, i.bytes)) = some (some z, d.sz, bytes) ∧ z.cells.size = d.sz ∧ 0 < bytes ∧ bytes ≤ 64
  pos : 0 < d.sz
  made : ∀ (w : World) (base : Nat) (ok : Nat → Prop) (x : α), d.M w base ok x (cs x)
theorem sA (i : Nat) {tn : Tmp} {oi : Oper} {fuel : Nat} {l : Array Bool} {a : Act} {w0 W : World} {base : Nat} {α : Type} {d : Kd α} {T t : TypeId} {cs : α → List Value} (hk : AppK P d T t cs) {s x : Operand} {Ao : Option Addr} {co : Nat} (xs : List α) (p : α)
    (HO : d.R t W base (fun _ => True) (.slice Ao xs.length co) xs) (HB : Below base w0 W) (hbase : base ≤ W.heap.size) (hl : xs.length ≤ 1000000)
    (h : ∀ A1 c1 w1, d.R t w1 base (fun _ => True) (.slice A1 (xs.length + 1) c1) (xs ++ [p]) → Below base w0 w1 → W.grownBy w1 (Value.slice Ao xs.length co).ownBlock → wpAnyLast P md ops Q S ds fuel (l.setIfInBounds i true) (a.put (some tn) (.slice A1 (xs.length + 1) c1)) w1)
    (hi : ops[i]? = some oi := by exact rfl) (hN : oi.dst = some tn := by exact rfl) (hr : readyB md ops l (l.setIfInBounds i true) i = true := by kernel_rfl) (hd : i ∈ ds := by decide) (hw : Region.wanted oi (yielded ops a.tmps) = true := by rfl)
    (ho : oi.op = .call { callee := .builtin .append, args := #[s, x], argTypes := #[T, T] } := by exact rfl) (hs : a.eval s = .slice Ao xs.length co := by exact rfl) (hx : a.eval x = .slice (some ⟨W.heap.size, 0, none⟩) 1 1 := by exact rfl) :
    wpAnyLast P md ops Q S ds (fuel + 1) l a (W.alloc (.cells (cs p).toArray t)) := by
  obtain ⟨z, bytes, h1, h2, h3, h4⟩ := hk.info
  refine last_ _ hi hN hr hd fun K hK => ?_
  rw [← hN]
  refine Kd.R_append_step d (w0 := w0) base hw s x T t z bytes ho hk.und h1 h2 hk.pos h3 _ xs p (cs p) (fun _ => True) (fun _ => False) hs hx (hk.made _ _ _ p) (fun _ hk => hk.elim) (fun _ _ => trivial) HO HB hbase (Nat.le_trans (Nat.mul_le_mul (Nat.succ_le_succ hl) h4) (by decide)) ?_
  intro v1 w1 o1 b1 g1 _
  obtain ⟨A1, c1, e1⟩ := Kd.R_slice o1
  rw [List.length_append] at e1
  subst e1
  exact hK.out _ _ (by rw [hN]; exact h A1 c1 w1 o1 b1 g1)
end
end Go.Proofs.Ytcgdloldkcmhnaa.H
end
section
namespace Go.Proofs.Ytcgdloldkcmhnaa.H
open Go Go.RowKit Go.Proofs.Ytcgdloldkcmhnaa.PrintC Go.Proofs.Ytcgdloldkcmhnaa.PrintE Go.Proofs.YtcgdloldkcmhnaaW.PrintWords Go.Proofs.YtcgdloldkcmhnaaW.PrintLast Go.Proofs.YtcgdloldkcmhnaaW.PrintMore Go.Proofs.Ytcgdloldkcmhnaa.Flow
set_option linter.unusedVariables false
set_option linter.unusedSimpArgs false
theorem appSlot : AppK Try.prog kSlot 51 88 (fun x => [.int .i64 x.f0, .int .i64 x.f1]) := ⟨Try.underlying51, ⟨_, 16, infoSlot, rfl, by decide, by decide⟩, by decide, k88_mkM⟩
def RSlotsAt (X : List Slot) (w : World) (e : Ending) (w' : World) : Prop := ∃ (Ao : Option Addr) (co : Nat), e = .returned (.slice Ao X.length co) ∧ Kd.R kSlot 88 w' w.heap.size (fun _ => True) (.slice Ao X.length co) X ∧ Below w.heap.size w w'
set_option maxHeartbeats 4000000 in
set_option maxRecDepth 100000 in
theorem rslots_walk (n h N N1 M : Nat) (b b2 : Bool) (A : Option Addr) (c k : Nat) (A3 : Option Addr) (c3 : Nat) (E : List Arc) (Af : Option Addr) (cf : Nat) (f : List Int) (T : Int → Bool) (w : World) (hn0 : 0 < n) (hnb : n ≤ 4000) (hhb : h ≤ 4000) (hN : N = (h + 1) * n) (hM : M = N + 2) (hNb : N ≤ 4000) (hE : NetOk M E) (hf : FlowOk E f) (ht : Top E.length (frOf E) (toOf E) M N N1 (capOf E) (dOf f) T) (hr : Kd.C kArc w A3 E.length E) (hF : Kd.C (Kd.int .i64) w Af f.length f) :
    Calls Try.prog 41 #[.agg #[.int .i64 n, .bool b, .slice A k c], .int .i64 h, .agg #[.int .i64 M, .bool b2, .slice A3 E.length c3], .slice Af f.length cf] w (RSlotsAt (cutOf n E M N N1) w) := by
  have hu := Try.underlying32
  have hu2 := Try.underlying88
  have HR := Lib.hid hr
  have HF := Lib.hid hF
  have HE := Lib.hid hE
  have HFO := Lib.hid hf
  have HT := Lib.hid ht
  have hll := hE.ll
  obtain ⟨D, hD⟩ : ∃ D, D = cutD E M N N1 := ⟨_, rfl⟩
  have HD : Hid (∀ u : Nat, u < N → (0 ≤ rd D (u : Int) ↔ InAll E M N N1 u)) := Lib.hid (by rw [hD]; exact fun u hu => cutD_iff hu)
  have HC : Hid (cutOf n E M N N1 = slotsOf n D N) := Lib.hid (by rw [hD]; rfl)
  have e1 : IntKind.i64.wrap ((h : Int) + 1) = (h : Int) + 1 := IntWalk.i64_in _ (by omega)
  have e2 : IntKind.i64.wrap (((h : Int) + 1) * (n : Int)) = (N : Int) := by
    have h8 : ((h : Int) + 1) * (n : Int) = (N : Int) := by rw [hN, Int.natCast_mul]; rfl
    rw [h8]
    exact IntWalk.i64_in _ (by omega)
  have e3 : (M : Int) - 2 = (N : Int) := by omega
  have HE3 := Lib.hid e3
  have HM := Lib.hid hM
  have hMb : M ≤ 5000 := by omega
  have hM2 : 2 ≤ M := by omega
  clear hr hF hE hf ht hN hM e3 hD
  go_enter Try.func41, Try.ntmps41
  obtain ⟨w1, hw1⟩ : ∃ w1, w1 = (w.alloc (.cells #[.int .i64 n, .bool b, .slice A k c] 32)).alloc (.cells #[.int .i64 M, .bool b2, .slice A3 E.length c3] 32) := ⟨_, rfl⟩
  have HX : Hid (w1.heap[w.heap.size]? = some (.cells #[.int .i64 n, .bool b, .slice A k c] 32 (0, 0)) ∧ w1.heap[w.heap.size + 1]? = some (.cells #[.int .i64 M, .bool b2, .slice A3 E.length c3] 32 (0, 0)) ∧ Below w.heap.size w w1) := Lib.hid (by
    rw [hw1]
    exact ⟨blk_alloc (heap_alloc_new _ _) _, alloc_at (by rw [alloc_size]), below_alloc (below_alloc (Below.refl _ _) _) _⟩)
  go_wp2_with (go_at_call 72; rw [← hw1]; go_loud ((with_reducible refine (rsteps_walk M _ b2 A3 c3 E Af cf f _ ?s1 ?s2 ?s3 ?s4).mono ?_); (case s1 => exact HE.out); (case s2 => exact HFO.out); (case s3 => exact Kd.C_below HR.out HX.out.2.2); (case s4 => exact Kd.C_below HF.out HX.out.2.2); rintro e w3 ⟨L, As, cs, rfl, hL, hst, hb⟩; have HX3 := Lib.hid (And.intro (blk_below HX.out.1 hb) (And.intro (blk_below HX.out.2.1 hb) (And.intro (below_step HX.out.2.2 hb) (Kd.R_reads' hL).2.2))); have HST := Lib.hid hst; clear hb hL hst HX))
  go_loopg [9, 11] (N + 1) (fun k ov iv W => ∃ (i : Nat) (Ao : Option Addr) (co : Nat), i ≤ N ∧ ov = .slice Ao (slotsOf n D i).length co ∧ iv = .int .i64 i ∧ k = N + 1 - i ∧ Hid (Kd.R kSlot 88 W w3.heap.size (fun _ => True) (.slice Ao (slotsOf n D i).length co) (slotsOf n D i) ∧ Below w3.heap.size w3 W))
  case atStart => exact ⟨0, none, 0, Nat.zero_le _, rfl, rfl, rfl, Lib.hid ⟨Kd.R_nil _ _ _ _ _, Below.refl _ _⟩⟩
  case round =>
    obtain ⟨i, Ao, co, hi, rfl, rfl, rfl, HL⟩ := hrel
    have HB := Lib.hid (below_step HX3.out.2.2.1 HL.out.2)
    have x0 : wr.cell? ⟨w.heap.size, 0, none⟩ = some (.int .i64 n) := (blk_cell (blk_below HX3.out.1 HL.out.2) 0).trans rfl
    have y0 : wr.cell? ⟨w.heap.size + 1, 0, none⟩ = some (.int .i64 M) := (blk_cell (blk_below HX3.out.2.1 HL.out.2) 0).trans rfl
    have y1 : wr.cell? ⟨w.heap.size + 1, 1, none⟩ = some (.bool b2) := (blk_cell (blk_below HX3.out.2.1 HL.out.2) 1).trans rfl
    have y2 : wr.cell? ⟨w.heap.size + 1, 2, none⟩ = some (.slice A3 E.length c3) := (blk_cell (blk_below HX3.out.2.1 HL.out.2) 2).trans rfl
    by_cases hlt : i < N
    · have hlt2 : (i : Int) < (N : Int) := by omega
      by_cases hin : InAll E M N N1 i
      · have HIN := Lib.hid hin
        clear hin
        go_wp2_with (go_at_call 71; go_loud ((with_reducible refine (way_walk _ b2 A3 c3 E _ _ As cs L M _ ?s1 ?s2 ?s3 ?s4 ?s5 ?s6 ?s7).mono ?_); (case s1 => exact Kd.C_below HR.out HB.out); (case s2 => exact Kd.C_below HX3.out.2.2.2 HL.out.2); (case s3 => exact (fun x hx => by have h9 := (HST.out.1 x).1 hx; exact ⟨h9.1, tgt_ok HE.out h9.1.1 h9.1.2⟩)); (case s4 => omega); (case s5 => have := HE3.out; omega); (case s6 => omega); (case s7 => have := HST.out.2; omega); rw [HE3.out]; rintro e w4 ⟨hb, (⟨_, hno⟩ | ⟨way, Aw, cw, d, rfl, hrw, hwp, hwl⟩)⟩; (exact absurd HIN.out (noway_in HFO.out HT.out HST.out hno)); have HB4 := Lib.hid (below_step HL.out.2 hb); have HO := Lib.hid (Kd.R_below HL.out.1 hb); have x9 : w4.cell? ⟨w.heap.size, 0, none⟩ = some (.int .i64 n) := pw_cell_below hb x0; clear hb hrw hwp hwl))
        have hnz : ¬ n = 0 := by omega
        have n9 : (1 : Int) ≤ (n : Int) := by omega
        have e7 : IntKind.i64.wrap ((i : Int) / (n : Int)) = (i : Int) / (n : Int) := by
          have h8 : (i : Int) / (n : Int) = ((i / n : Nat) : Int) := rfl
          have h7 : i / n ≤ i := Nat.div_le_self _ _
          rw [h8]
          generalize i / n = q at h7
          exact IntWalk.i64_in _ (by omega)
        have er : (i : Int).tmod (n : Int) = (i : Int) % (n : Int) := rfl
        have HLE := Lib.hid (slotsOf_len n D i)
        refine stepS (S := fun w' => w'.cell? ⟨w.heap.size, 0, none⟩ = some (.int .i64 n)) (ds := [11]) 13 (by kernel_rfl) rfl x9 (fun hHeld => ?_)
        have HO9 := Lib.hid (And.intro (Kd.R_drew HO.out) (below_drew1 HB4.out))
        generalize w4.drew = wd at HO9 hHeld ⊢
        repeat (first | refine rP 13 ?_ | refine rT 13 hHeld ?_)
        refine sB 10 hHeld (fun hHeld => ?_)
        refine sA 11 appSlot (slotsOf n D i) ⟨(i : Int) % (n : Int), (i : Int) / (n : Int)⟩ HO9.out.1 HO9.out.2 HO9.out.2.size (by have := HLE.out; omega) (fun A1 c1 w9 ho hb hg => ?_)
        refine sN ?_
        refine rP 13 ?_
        refine done_ (by kernel_rfl) ?_
        have hs9 : slotsOf n D (i + 1) = slotsOf n D i ++ [⟨(i : Int) % (n : Int), (i : Int) / (n : Int)⟩] := by
          rw [slotsOf, if_pos ((HD.out i hlt).2 HIN.out)]
        have hl9 : (slotsOf n D (i + 1)).length = (slotsOf n D i).length + 1 := by rw [hs9, List.length_append]; rfl
        rw [← hs9, ← hl9] at ho
        rw [← hl9]
        have HF9 := Lib.hid (And.intro ho hb)
        clear ho hb hg hs9 er e7 hl9
        go_wp2
        go_roundg (N - i)
        case measure => omega
        case rel => exact ⟨i + 1, A1, c1, by omega, rfl, by go_num, by omega, HF9⟩
      · have HIN := Lib.hid hin
        clear hin
        go_wp2_with (go_at_call 71; go_loud ((with_reducible refine (way_walk _ b2 A3 c3 E _ _ As cs L M _ ?s1 ?s2 ?s3 ?s4 ?s5 ?s6 ?s7).mono ?_); (case s1 => exact Kd.C_below HR.out HB.out); (case s2 => exact Kd.C_below HX3.out.2.2.2 HL.out.2); (case s3 => exact (fun x hx => by have h9 := (HST.out.1 x).1 hx; exact ⟨h9.1, tgt_ok HE.out h9.1.1 h9.1.2⟩)); (case s4 => omega); (case s5 => have := HE3.out; omega); (case s6 => omega); (case s7 => have := HST.out.2; omega); rw [HE3.out]; rintro e w4 ⟨hb, (⟨rfl, hno⟩ | ⟨way, Aw, cw, d, rfl, hrw, hwp, hwl⟩)⟩; rotate_left; (exact absurd (way_in HE.out (by have := HM.out; omega) HT.out HST.out hwp) HIN.out); have HB4 := Lib.hid (below_step HL.out.2 hb); have HO := Lib.hid (Kd.R_below HL.out.1 hb); clear hb hno))
        have hs9 : slotsOf n D (i + 1) = slotsOf n D i := by
          rw [slotsOf, if_neg (fun e => HIN.out ((HD.out i hlt).1 e)), List.append_nil]
        have HS9 := Lib.hid hs9
        clear hs9
        go_roundg (N - i)
        case measure => omega
        case rel => exact ⟨i + 1, Ao, co, by omega, by rw [HS9.out], by go_num, by omega, by rw [HS9.out]; exact Lib.hid ⟨HO.out, HB4.out⟩⟩
    · have hlt2 : ¬ (i : Int) < (N : Int) := by omega
      have e : i = N := by omega
      subst e
      go_wp2
      go_ret
      rw [RSlotsAt, HC.out]
      exact ⟨_, _, rfl, Kd.R_lower HL.out.1 HX3.out.2.2.1.size, HB.out⟩
end Go.Proofs.Ytcgdloldkcmhnaa.H
end
