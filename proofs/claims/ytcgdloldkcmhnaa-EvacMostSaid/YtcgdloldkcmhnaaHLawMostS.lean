/- The reference's cut, lists of slots compared, and the law EvacMost, walked. -/
import Derived.Test.YtcgdloldkcmhnaaM6
namespace Go.Proofs.Ytcgdloldkcmhnaa.H
open Go Go.RowKit Go.Proofs.Ytcgdloldkcmhnaa.PrintC Go.Proofs.Ytcgdloldkcmhnaa.PrintE Go.Proofs.YtcgdloldkcmhnaaW.PrintWords Go.Proofs.YtcgdloldkcmhnaaW.PrintLast Go.Proofs.YtcgdloldkcmhnaaW.PrintMore Go.Proofs.Ytcgdloldkcmhnaa.Flow
set_option linter.unusedVariables false
set_option linter.unusedSimpArgs false
set_option maxHeartbeats 4000000 in
set_option maxRecDepth 100000 in
theorem rcut_walk (n h : Nat) (b : Bool) (A : Option Addr) (c : Nat) (l : List Arc) (Ap : Option Addr) (cp : Nat) (p : List Grp) (Aq : Option Addr) (cq : Nat) (q : List Grp) (X : List Slot) (hX : X = cutV n h b l p q) (w : World) (a : AskOk n h l p q) (hr : Kd.C kArc w A l.length l) (hp : Kd.C kGrp w Ap p.length p) (hq : Kd.C kGrp w Aq q.length q) :
    Calls Try.prog 20 #[.agg #[.int .i64 n, .bool b, .slice A l.length c], .slice Ap p.length cp, .slice Aq q.length cq, .int .i64 h] w (CutAt X 0 w) := by
  have hu := Try.underlying32
  have HA := Lib.hid a
  have HR := Lib.hid hr
  have HP := Lib.hid hp
  have HQ := Lib.hid hq
  have HPL := Lib.hid a.place
  obtain ⟨N, hN⟩ : ∃ N : Nat, N = (h + 1) * n := ⟨_, rfl⟩
  obtain ⟨M, hM⟩ : ∃ M : Nat, M = N + 2 := ⟨_, rfl⟩
  obtain ⟨E, hE⟩ : ∃ E, E = evArcs l (useOf q) (keepsOf b p q) n h N (N + 1) p q := ⟨_, rfl⟩
  have HNO : Hid (NetOk M E ∧ (∀ i : Int, 0 ≤ i → i < E.length → 0 ≤ (rd_T79 E i).f2) ∧ cutV n h b l p q = cutOf n E M N (N + 1)) := Lib.hid (by
    subst hN hM hE
    exact ⟨(a.place.netOk b).1, (a.place.netOk b).2, rfl⟩)
  have hNb : N ≤ 4000 := by rw [hN]; exact a.hn
  have HN := Lib.hid hN
  have HM := Lib.hid hM
  have HE := Lib.hid hE
  have HV := Lib.hid hX
  have e1 : (M : Int) - 2 = (N : Int) := by omega
  have e2 : (M : Int) - 1 = ((N + 1 : Nat) : Int) := by omega
  have HE1 := Lib.hid e1
  have HE2 := Lib.hid e2
  have hMb : M ≤ 5000 := by omega
  have hM2 : 2 ≤ M := by omega
  clear a hr hp hq hN hM hE hX e1 e2
  go_enter Try.func20, Try.ntmps20
  obtain ⟨w1, hw1⟩ : ∃ w1, w1 = w.alloc (.cells #[.int .i64 n, .bool b, .slice A l.length c] 32) := ⟨_, rfl⟩
  have HX : Hid (w1.heap[w.heap.size]? = some (.cells #[.int .i64 n, .bool b, .slice A l.length c] 32 (0, 0)) ∧ Below w.heap.size w w1) := Lib.hid (by rw [hw1]; exact ⟨heap_alloc_new _ _, below_alloc (Below.refl _ _) _⟩)
  go_wp2_with (first
    | (go_at_call 33; rw [← hw1]; go_loud ((with_reducible refine (rasked_walk n h b A c l Ap cp p Aq cq q _ ?s1 ?s2 ?s3 ?s4).mono ?_); (case s1 => exact HA.out); (case s2 => exact Kd.C_below HR.out HX.out.2); (case s3 => exact Kd.C_below HP.out HX.out.2); (case s4 => exact Kd.C_below HQ.out HX.out.2); rintro e w2 ⟨rfl, hb⟩; have HX2 := Lib.hid (And.intro (blk_below HX.out.1 hb) (below_step HX.out.2 hb)); have x0 : w2.cell? ⟨w.heap.size, 0, none⟩ = some (.int .i64 n) := (blk_cell HX2.out.1 0).trans rfl; have x1 : w2.cell? ⟨w.heap.size, 1, none⟩ = some (.bool b) := (blk_cell HX2.out.1 1).trans rfl; have x2 : w2.cell? ⟨w.heap.size, 2, none⟩ = some (.slice A l.length c) := (blk_cell HX2.out.1 2).trans rfl; clear hb))
    | (go_at_call 37; go_loud ((with_reducible refine (build_walk n h N (N + 1) M b A c l Ap cp p Aq cq q E _ ?s1 ?s2 ?s3 ?s4 ?s5 ?s6 ?s7 ?s8 ?s9 ?s10 ?s11 ?s12).mono ?_); (case s1 => exact HPL.out.net); (case s2 => exact Kd.C_below HR.out HX2.out.2); (case s3 => exact Kd.C_below HP.out HX2.out.2); (case s4 => exact Kd.C_below HQ.out HX2.out.2); (case s5 => exact HPL.out.gp); (case s6 => exact HPL.out.gq); (case s7 => exact HPL.out.lp); (case s8 => exact HPL.out.lq); (case s9 => exact HN.out); (case s10 => rfl); (case s11 => exact HM.out); (case s12 => exact HE.out); rintro e w3 ⟨A3, c3, rfl, hr3, hb⟩; have HX3 := Lib.hid (And.intro hr3 (And.intro (below_step HX2.out.2 hb) (blk_below HX2.out.1 hb))); clear hr3 hb))
    | (go_at_call 38; go_loud ((with_reducible refine (best_at M N (N + 1) _ _ ?s1 ?s2 (M : Int) false A3 c3 E _ ?s3 ?s4 ?s5 ?s6 ?s7 ?s8).mono ?_); (case s1 => exact HE1.out); (case s2 => exact HE2.out); (case s3 => exact HNO.out.1); (case s4 => exact HNO.out.2.1); (case s5 => have := HM.out; omega); (case s6 => have := HM.out; omega); (case s7 => omega); (case s8 => exact Kd.C_below HX3.out.1 (below_alloc (Below.refl _ _) _)); rintro e w4 ⟨f, A4, c4, S, rfl, hf1, hf2, hf3, hb⟩; have HF := Lib.hid (And.intro hf1 (And.intro hf2 hf3)); have hb9 := below_step (below_alloc (Below.refl w3.heap.size w3) (.cells #[.int .i64 M, .bool false, .slice A3 E.length c3] 32)) hb; have HX4 := Lib.hid (And.intro (blk_below (heap_alloc_new w3 (.cells #[.int .i64 M, .bool false, .slice A3 E.length c3] 32)) hb) (And.intro (below_step HX3.out.2.1 hb9) (And.intro (Kd.C_below HX3.out.1 hb9) (blk_below HX3.out.2.2 hb9)))); have y0 : w4.cell? ⟨w3.heap.size, 0, none⟩ = some (.int .i64 M) := (blk_cell HX4.out.1 0).trans rfl; have y1 : w4.cell? ⟨w3.heap.size, 1, none⟩ = some (.bool false) := (blk_cell HX4.out.1 1).trans rfl; have y2 : w4.cell? ⟨w3.heap.size, 2, none⟩ = some (.slice A3 E.length c3) := (blk_cell HX4.out.1 2).trans rfl; clear x0 x1 x2; have x0 : w4.cell? ⟨w.heap.size, 0, none⟩ = some (.int .i64 n) := (blk_cell HX4.out.2.2.2 0).trans rfl; have x1 : w4.cell? ⟨w.heap.size, 1, none⟩ = some (.bool b) := (blk_cell HX4.out.2.2.2 1).trans rfl; have x2 : w4.cell? ⟨w.heap.size, 2, none⟩ = some (.slice A l.length c) := (blk_cell HX4.out.2.2.2 2).trans rfl; clear hf1 hf2 hf3 hb hb9))
    | (go_at_call 41; go_loud ((with_reducible refine (rslots_walk n h N (N + 1) M b false A c l.length A3 c3 E A4 c4 f S _ ?s1 ?s2 ?s3 ?s4 ?s5 ?s6 ?s7 ?s8 ?s9 ?s10 ?s11).mono ?_); (case s1 => exact HPL.out.net.n0); (case s2 => have := HPL.out.net.n1; omega); (case s3 => have := HPL.out.net.h1; omega); (case s4 => exact HN.out); (case s5 => exact HM.out); (case s6 => omega); (case s7 => exact HNO.out.1); (case s8 => exact HF.out.2.1); (case s9 => exact HF.out.2.2); (case s10 => exact HX4.out.2.2.1); (case s11 => exact HF.out.1); rintro e w5 ⟨Ao, co, rfl, ho, hb⟩; have HO := Lib.hid (And.intro ho (below_step HX4.out.2.1 hb)); clear ho hb)))
  go_ret2
  exact ⟨_, rfl, by rw [HV.out, HNO.out.2.2]; exact Kd.R_lower HO.out.1 HX4.out.2.1.size, HO.out.2⟩
set_option maxHeartbeats 4000000 in
set_option maxRecDepth 100000 in
theorem sameslots_walk (A1 A2 : Option Addr) (c1 c2 : Nat) (X : List Slot) (w : World) (h1 : Kd.C kSlot w A1 X.length X) (h2 : Kd.C kSlot w A2 X.length X) (hl : X.length ≤ 1000000) :
    Calls Try.prog 21 #[.slice A1 X.length c1, .slice A2 X.length c2] w fun e w' => e = .returned (.bool true) ∧ Below w.heap.size w w' := by
  have H1 := Lib.hid h1
  have H2 := Lib.hid h2
  have hu2 := Try.underlying88
  clear h1 h2
  go_enter Try.func21, Try.ntmps21
  go_wp2
  go_loopg [5] (X.length + 1) (fun k iv W => ∃ i : Nat, i ≤ X.length ∧ iv = .int .i64 i ∧ k = X.length + 1 - i ∧ Hid (Below w.heap.size w W))
  case atStart => exact ⟨0, Nat.zero_le _, rfl, rfl, Lib.hid (Below.refl _ _)⟩
  case round =>
    obtain ⟨i, hi, rfl, rfl, HB⟩ := hrel
    by_cases hlt : i < X.length
    · have i0 : (0 : Int) ≤ (i : Int) := by omega
      have i1 : (i : Int) < (X.length : Int) := by omega
      obtain ⟨a1, e1, y0, y1⟩ := at_T88 (Kd.C_drew (Kd.C_below H1.out HB.out)) (i : Int) i0 i1
      obtain ⟨a2, e2, z0, z1⟩ := at_T88 (Kd.C_drew (Kd.C_below H2.out HB.out)) (i : Int) i0 i1
      subst e1 e2
      rw [Int.toNat_natCast] at y0 y1 z0 z1
      obtain ⟨s, hs⟩ : ∃ s, s = rd_T88 X (i : Int) := ⟨_, rfl⟩
      rw [← hs] at y0 y1 z0 z1
      clear hs
      go_wp2
      refine stepS (S := fun w' => w'.cell? (a1.add (i * 2)) = some (.int .i64 s.f0) ∧ w'.cell? ⟨(a1.add (i * 2)).block, (a1.add (i * 2)).off + 1, none⟩ = some (.int .i64 s.f1) ∧ w'.cell? (a2.add (i * 2)) = some (.int .i64 s.f0) ∧ w'.cell? ⟨(a2.add (i * 2)).block, (a2.add (i * 2)).off + 1, none⟩ = some (.int .i64 s.f1)) (ds := []) 9 (by kernel_rfl) rfl ⟨y0, y1, z0, z1⟩ (fun hHeld => ?_)
      have HB9 := Lib.hid (below_drew1 HB.out)
      generalize wr.drew = wd at HB9 hHeld ⊢
      repeat (first | refine rP 9 ?_ | refine rT 9 hHeld ?_)
      refine done_ (by kernel_rfl) ?_
      go_wp2
      go_roundg (X.length - i)
      case measure => omega
      case rel => exact ⟨i + 1, by omega, by go_num, by omega, HB9⟩
    · have e : i = X.length := by omega
      subst e
      go_wp2
      go_ret
      exact ⟨rfl, HB.out⟩
theorem AskOk.cut {n h : Nat} {l : List Arc} {p q : List Grp} (a : AskOk n h l p q) (b : Bool) {k : Nat} (hk : 300 ≤ k) : evac_Cut.f k n b l p q h = some (cutV n h b l p q, 0) := by
  unfold evac_Cut.f
  rw [if_pos a.okp, a.begun b hk]
  rfl
theorem cutV_len (n h : Nat) (b : Bool) (l : List Arc) (p q : List Grp) : (cutV n h b l p q).length ≤ (h + 1) * n := slotsOf_len _ _ _
section
variable {a0 : Int} {a1 : Bool} {l2 : List CBit} {a3 a4 a5 : Int} {l6 l7 : List Int} {l8 : List CBit3} {l9 : List Int} {A2 : Option Addr} {c2 : Nat} {A6 : Option Addr} {c6 : Nat} {A7 : Option Addr} {c7 : Nat} {A8 : Option Addr} {c8 : Nat} {A9 : Option Addr} {c9 : Nat} {w : World} {v : Value}
set_option maxHeartbeats 4000000 in
set_option maxRecDepth 100000 in
theorem most21_walk (o : CaseAt w v a0 a1 l2 a3 a4 a5 l6 l7 l8 l9 A2 c2 A6 c6 A7 c7 A8 c8 A9 c9) :
    Calls Try.prog 7 #[.agg (caseCells a0 a1 l2 a3 a4 a5 l6 l7 l8 l9 A2 c2 A6 c6 A7 c7 A8 c8 A9 c9)] w fun e w' => e = .returned (.bool true) ∧ Below w.heap.size w w' := by
  have HO := Lib.hid o
  have hu := Try.underlying32
  have hu2 := Try.underlying29
  clear o
  go_enter Try.func7, Try.ntmps7
  go_wp2_with (go_at_call 10; have hb1 := below_alloc (Below.refl w.heap.size w) (.cells (caseCells a0 a1 l2 a3 a4 a5 l6 l7 l8 l9 A2 c2 A6 c6 A7 c7 A8 c8 A9 c9) 29); (with_reducible refine (read_at 6 6 rfl (by decide) (HO.out.below hb1)).mono ?_); rintro e w2 ⟨n, h, b, l, p, q, A, c, Ap, cp, Aq, cq, rfl, hA, hc, hp, hcp, hq, hcq, hN, hg, hh, hb⟩; have HB2 := Lib.hid (below_step hb1 hb); have HA := Lib.hid hA; have HP := Lib.hid hp; have HQ := Lib.hid hq; have HC := Lib.hid (And.intro hc (And.intro hcp hcq)); have HK := Lib.hid (ask_of (m := 6) (by decide) hN hg (show h ≤ 16 by omega)); clear hb1 hb hA hc hp hcp hq hcq hN hg hh)
  obtain ⟨V, hV⟩ : ∃ V, V = mostV n h b l p q := ⟨_, rfl⟩
  obtain ⟨X, hX⟩ : ∃ X, X = cutV n h b l p q := ⟨_, rfl⟩
  have F1 := Lib.hid (HK.out.most b (k := 1500) (by decide))
  have F2 := Lib.hid (HK.out.cut b (k := 1500) (by decide))
  rw [← hV] at F1
  rw [← hX] at F2
  have HXL : Hid (X.length ≤ 1000000) := Lib.hid (by rw [hX]; have := cutV_len n h b l p q; have := HK.out.hn; omega)
  have HV := Lib.hid hV
  have HX := Lib.hid hX
  clear hV hX
  obtain ⟨w3, hw3⟩ : ∃ w3, w3 = w2.alloc (.cells #[.int .i64 n, .bool b, .slice A l.length c] 32) := ⟨_, rfl⟩
  have HX3 : Hid (w3.heap[w2.heap.size]? = some (.cells #[.int .i64 n, .bool b, .slice A l.length c] 32 (0, 0)) ∧ Below w2.heap.size w2 w3) := Lib.hid (by rw [hw3]; exact ⟨heap_alloc_new _ _, below_alloc (Below.refl _ _) _⟩)
  have t1 : (V == V) = true := by simp
  have t2 : (V != V) = false := by simp
  go_wp2_with (first
    | (go_at_call 14; rw [← hw3]; go_loud ((with_reducible refine (evac_Most.calls 1500 n b A c l Ap cp p Aq cq q h V 0 _ ?s1 HC.out.1 ?s2 HC.out.2.1 ?s3 HC.out.2.2 F1.out).mono ?_); (case s1 => exact Kd.C_below HA.out HX3.out.2); (case s2 => exact Kd.C_below HP.out HX3.out.2); (case s3 => exact Kd.C_below HQ.out HX3.out.2); rintro e w4 ⟨rfl, hb⟩; have HX4 := Lib.hid (And.intro (blk_below HX3.out.1 hb) (below_step HX3.out.2 hb)); have x0 : w4.cell? ⟨w2.heap.size, 0, none⟩ = some (.int .i64 n) := (blk_cell HX4.out.1 0).trans rfl; have x1 : w4.cell? ⟨w2.heap.size, 1, none⟩ = some (.bool b) := (blk_cell HX4.out.1 1).trans rfl; have x2 : w4.cell? ⟨w2.heap.size, 2, none⟩ = some (.slice A l.length c) := (blk_cell HX4.out.1 2).trans rfl; clear hb))
    | (go_at_call 18; go_loud ((with_reducible refine (rmost_walk n h b A c l Ap cp p Aq cq q V HV.out _ HK.out ?s1 ?s2 ?s3).mono ?_); (case s1 => exact Kd.C_below HA.out HX4.out.2); (case s2 => exact Kd.C_below HP.out HX4.out.2); (case s3 => exact Kd.C_below HQ.out HX4.out.2); rintro e w5 ⟨rfl, hb⟩; have HX5 := Lib.hid (And.intro (blk_below HX4.out.1 hb) (below_step HX4.out.2 hb)); clear x0 x1 x2; have x0 : w5.cell? ⟨w2.heap.size, 0, none⟩ = some (.int .i64 n) := (blk_cell HX5.out.1 0).trans rfl; have x1 : w5.cell? ⟨w2.heap.size, 1, none⟩ = some (.bool b) := (blk_cell HX5.out.1 1).trans rfl; have x2 : w5.cell? ⟨w2.heap.size, 2, none⟩ = some (.slice A l.length c) := (blk_cell HX5.out.1 2).trans rfl; clear hb))
    | (go_at_call 19; go_loud ((with_reducible refine (evac_Cut.calls 1500 n b A c l Ap cp p Aq cq q h X 0 _ ?s1 HC.out.1 ?s2 HC.out.2.1 ?s3 HC.out.2.2 F2.out).mono ?_); (case s1 => exact Kd.C_below HA.out HX5.out.2); (case s2 => exact Kd.C_below HP.out HX5.out.2); (case s3 => exact Kd.C_below HQ.out HX5.out.2); rintro e w6 ⟨v6, rfl, ho6, hb⟩; obtain ⟨A6', c6', rfl⟩ := Kd.R_slice ho6; have HO6 := Lib.hid (Kd.R_reads' ho6).2.2; have HX6 := Lib.hid (And.intro (blk_below HX5.out.1 hb) (below_step HX5.out.2 hb)); clear x0 x1 x2; have x0 : w6.cell? ⟨w2.heap.size, 0, none⟩ = some (.int .i64 n) := (blk_cell HX6.out.1 0).trans rfl; have x1 : w6.cell? ⟨w2.heap.size, 1, none⟩ = some (.bool b) := (blk_cell HX6.out.1 1).trans rfl; have x2 : w6.cell? ⟨w2.heap.size, 2, none⟩ = some (.slice A l.length c) := (blk_cell HX6.out.1 2).trans rfl; clear hb ho6))
    | (go_at_call 20; go_loud ((with_reducible refine (rcut_walk n h b A c l Ap cp p Aq cq q X HX.out _ HK.out ?s1 ?s2 ?s3).mono ?_); (case s1 => exact Kd.C_below HA.out HX6.out.2); (case s2 => exact Kd.C_below HP.out HX6.out.2); (case s3 => exact Kd.C_below HQ.out HX6.out.2); rintro e w7 ⟨v7, rfl, ho7, hb⟩; obtain ⟨A7', c7', rfl⟩ := Kd.R_slice ho7; have HO7 := Lib.hid (And.intro (Kd.R_reads' ho7).2.2 (Kd.C_below HO6.out hb)); have HX7 := Lib.hid (below_step HX6.out.2 hb); clear hb ho7))
    | (go_at_call 13; (with_reducible refine (awake_walk _).mono ?_); rintro e w8 ⟨rfl, hb⟩; have HX8 := Lib.hid (And.intro (below_step HX7.out hb) (And.intro (Kd.C_below HO7.out.1 hb) (Kd.C_below HO7.out.2 hb))); clear hb)
    | (go_at_call 21; go_loud ((with_reducible refine (sameslots_walk _ _ _ _ X _ ?s1 ?s2 ?s3).mono ?_); (case s1 => exact HX8.out.2.2); (case s2 => exact HX8.out.2.1); (case s3 => exact HXL.out); rintro e w9 ⟨rfl, hb⟩; have HX9 := Lib.hid (below_step HX8.out.1 hb); clear hb)))
  go_ret
  exact ⟨rfl, below_step HB2.out HX9.out⟩
end
end Go.Proofs.Ytcgdloldkcmhnaa.H
