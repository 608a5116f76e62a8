/- The law EvacPlans, walked. -/
import Derived.Test.YtcgdloldkcmhnaaGreatP6
namespace Go.Proofs.YtcgdloldkcmhnaaGreat.H
open Go Go.RowKit Go.Proofs.YtcgdloldkcmhnaaGreat.PrintC Go.Proofs.YtcgdloldkcmhnaaGreat.PrintE Go.Proofs.YtcgdloldkcmhnaaGreatW.PrintWords Go.Proofs.YtcgdloldkcmhnaaGreatW.PrintLast Go.Proofs.YtcgdloldkcmhnaaGreatW.PrintMore Go.Proofs.YtcgdloldkcmhnaaGreat.Flow
set_option linter.unusedVariables false
set_option linter.unusedSimpArgs false
set_option maxHeartbeats 4000000 in
set_option maxRecDepth 100000 in
theorem samemoves_walk (A1 A2 : Option Addr) (c1 c2 : Nat) (X : List Mv) (w : World) (h1 : Kd.C kMv w A1 X.length X) (h2 : Kd.C kMv w A2 X.length X) (hl : X.length ≤ 1000000) :
  Calls Tryz.prog 13 #[.slice A1 X.length c1, .slice A2 X.length c2] w fun e w' => e = .returned (.bool true) ∧ Below w.heap.size w w' := by
 have H1 := Lib.hid h1
 have H2 := Lib.hid h2
 have hu2 := Tryz.underlying76
 clear h1 h2
 go_enter Tryz.func13, Tryz.ntmps13
 go_wp2
 go_loopg [5] (X.length + 1) (fun k iv W => ∃ i : Nat, i ≤ X.length ∧ iv = .int .i64 i ∧ k = X.length + 1 - i ∧ Hid (Below w.heap.size w W))
 case atStart => exact ⟨0, Nat.zero_le _, rfl, rfl, Lib.hid (Below.refl _ _)⟩
 case round =>
  obtain ⟨i, hi, rfl, rfl, HB⟩ := hrel
  by_cases hlt : i < X.length
  ·have i0 : (0 : Int) ≤ (i : Int) := by omega
   have i1 : (i : Int) < (X.length : Int) := by omega
   obtain ⟨a1, e1, y0, y1, y2⟩ := at_T76 (Kd.C_drew (Kd.C_below H1.out HB.out)) (i : Int) i0 i1
   obtain ⟨a2, e2, z0, z1, z2⟩ := at_T76 (Kd.C_drew (Kd.C_below H2.out HB.out)) (i : Int) i0 i1
   subst e1 e2
   rw [Int.toNat_natCast] at y0 y1 y2 z0 z1 z2
   obtain ⟨s, hs⟩ : ∃ s, s = rd_T76 X (i : Int) := ⟨_, rfl⟩
   rw [← hs] at y0 y1 y2 z0 z1 z2
   clear hs
   go_wp2
   refine stepS (S := fun w' => w'.cell? (a1.add (i * 3)) = some (.int .i64 s.f0) ∧ w'.cell? ⟨(a1.add (i * 3)).block, (a1.add (i * 3)).off + 1, none⟩ = some (.int .i64 s.f1) ∧ w'.cell? ⟨(a1.add (i * 3)).block, (a1.add (i * 3)).off + 2, none⟩ = some (.int .i64 s.f2) ∧ w'.cell? (a2.add (i * 3)) = some (.int .i64 s.f0) ∧ w'.cell? ⟨(a2.add (i * 3)).block, (a2.add (i * 3)).off + 1, none⟩ = some (.int .i64 s.f1) ∧ w'.cell? ⟨(a2.add (i * 3)).block, (a2.add (i * 3)).off + 2, none⟩ = some (.int .i64 s.f2)) (ds := []) 9 (by kernel_rfl) rfl ⟨y0, y1, y2, z0, z1, z2⟩ (fun hHeld => ?_)
   have HB9 := Lib.hid (below_drew1 HB.out)
   generalize wr.drew = wd at HB9 hHeld ⊢
   repeat (first | refine rP 9 ?_ | refine rT 9 hHeld ?_)
   refine done_ (by kernel_rfl) ?_
   go_wp2
   go_roundg (X.length - i)
   case measure => omega
   case rel => exact ⟨i + 1, by omega, by go_num, by omega, HB9⟩
  ·have e : i = X.length := by omega
   subst e
   go_wp2
   go_ret
   exact ⟨rfl, HB.out⟩
/-- What Plan tells is a plan for the reference. -/
theorem chk_told {n h : Nat} {b : Bool} {l : List Arc} {p q : List Grp} {m : List Mv} {V : Int} (hV : V = mostV n h b l p q) (P : PlanP n h b l p q m) {w w' : World} {e : Ending} (k : ChkAt n h b l p q m w e w') : e = .returned (.tuple #[.int .i64 V, .int .i64 0]) ∧ Below w.heap.size w w' := by
 obtain ⟨hb, h1⟩ := k
 refine ⟨?_, hb⟩
 rcases h1 with ⟨k9, -, -, rfl, h2⟩ | ⟨m2, hP, rfl⟩
 ·exfalso
  rcases h2 with (⟨-, x, hx, hf⟩ | ⟨-, m2, hm2, x, hx, hf⟩) | ⟨-, m2, hm2, -, v, z, hv, hz, hbad⟩
  ·have := (P.mg.all x (by rw [List.take_length]; exact hx)).1
   rw [hf] at this
   cases this
  ·rw [hm2.eq P.mg] at hx
   rw [P.ok x hx] at hf
   cases hf
  ·rw [hm2.eq P.mg] at hbad
   exact P.st v z hv hz hbad
 ·rw [hP.1.eq P.mg, P.val, ← hV]
theorem mvs_told {n h : Nat} {b : Bool} {l : List Arc} {p q : List Grp} {m : List Mv} (P : PlanP n h b l p q m) {w w' : World} {e : Ending} (k : MovesAt m w e w') : ∃ (A1 : Option Addr) (c1 : Nat), e = .returned (.tuple #[.slice A1 m.length c1, .int .i64 0]) ∧ Kd.C kMv w' A1 m.length m ∧ Below w.heap.size w w' := by
 obtain ⟨hb, (⟨rfl, x, hx, hf⟩ | ⟨m2, A1, c1, rfl, hR, hm2, -⟩)⟩ := k
 ·have := (P.mg.all x (by rw [List.take_length]; exact hx)).1
  rw [hf] at this
  cases this
 ·obtain rfl := hm2.eq P.mg
  exact ⟨A1, c1, rfl, (Kd.R_reads' hR).2.2, hb⟩
section
variable {a0 : Int} {a1 : Bool} {l2 : List CBit} {a3 a4 a5 : Int} {l6 l7 : List Int} {l8 : List CBit3} {l9 : List Int} {A2 : Option Addr} {c2 : Nat} {A6 : Option Addr} {c6 : Nat} {A7 : Option Addr} {c7 : Nat} {A8 : Option Addr} {c8 : Nat} {A9 : Option Addr} {c9 : Nat} {w : World} {v : Value}
set_option maxHeartbeats 8000000 in
set_option maxRecDepth 100000 in
theorem plans_walk (o : CaseAt w v a0 a1 l2 a3 a4 a5 l6 l7 l8 l9 A2 c2 A6 c6 A7 c7 A8 c8 A9 c9) :
  Calls Tryz.prog 3 #[.agg (caseCells a0 a1 l2 a3 a4 a5 l6 l7 l8 l9 A2 c2 A6 c6 A7 c7 A8 c8 A9 c9)] w fun e w' => e = .returned (.bool true) ∧ Below w.heap.size w w' := by
 have HO := Lib.hid o
 have hu := Tryz.underlying33
 have hu2 := Tryz.underlying29
 clear o
 go_enter Tryz.func3, Tryz.ntmps3
 go_wp2_with (first
  |(go_at_call 7; (with_reducible refine (awake_walk _).mono ?_); rintro e w1 ⟨rfl, hb⟩; have HB1 := Lib.hid (below_step (below_alloc (Below.refl w.heap.size w) (.cells (caseCells a0 a1 l2 a3 a4 a5 l6 l7 l8 l9 A2 c2 A6 c6 A7 c7 A8 c8 A9 c9) 29)) hb); have HX1 := Lib.hid (blk_below (heap_alloc_new w (.cells (caseCells a0 a1 l2 a3 a4 a5 l6 l7 l8 l9 A2 c2 A6 c6 A7 c7 A8 c8 A9 c9) 29)) hb); have x0 := (blk_cell HX1.out 0).trans rfl; have x1 := (blk_cell HX1.out 1).trans rfl; have x2 := (blk_cell HX1.out 2).trans rfl; have x3 := (blk_cell HX1.out 3).trans rfl; have x4 := (blk_cell HX1.out 4).trans rfl; have x5 := (blk_cell HX1.out 5).trans rfl; have x6 := (blk_cell HX1.out 6).trans rfl; have x7 := (blk_cell HX1.out 7).trans rfl; have x8 := (blk_cell HX1.out 8).trans rfl; have x9 := (blk_cell HX1.out 9).trans rfl; clear hb)
  |(go_at_call 8; go_loud ((with_reducible refine (read_at 8 8 rfl (by decide) (HO.out.below HB1.out)).mono ?_); rintro e w2 ⟨n, h, b, l, p, q, A, c, Ap, cp, Aq, cq, rfl, hA, hc, hp, hcp, hq, hcq, hN, hg, hh, hb⟩; have HB2 := Lib.hid (below_step HB1.out hb); have HA := Lib.hid hA; have HP := Lib.hid hp; have HQ := Lib.hid hq; have HC := Lib.hid (And.intro hc (And.intro hcp hcq)); have HK := Lib.hid (ask_of (m := 8) (by decide) hN hg (show h ≤ 16 by omega)); clear x0 x1 x2 x3 x4 x5 x6 x7 x8 x9 hb hA hc hp hcp hq hcq hN hg hh)))
 obtain ⟨V, hV⟩ : ∃ V, V = mostV n h b l p q := ⟨_, rfl⟩
 have F1 := Lib.hid (HK.out.most b (k := 1500) (by decide))
 rw [← hV] at F1
 have HV := Lib.hid hV
 clear hV
 obtain ⟨w3, hw3⟩ : ∃ w3, w3 = w2.alloc (.cells #[.int .i64 n, .bool b, .slice A l.length c] 33) := ⟨_, rfl⟩
 have HX3 : Hid (w3.heap[w2.heap.size]? = some (.cells #[.int .i64 n, .bool b, .slice A l.length c] 33 (0, 0)) ∧ Below w2.heap.size w2 w3) := Lib.hid (by rw [hw3]; exact ⟨heap_alloc_new _ _, below_alloc (Below.refl _ _) _⟩)
 have t1 : (V == V) = true := by simp
 have t2 : (V != V) = false := by simp
 go_wp2_with (first
  |(go_at_call 9; rw [← hw3]; go_loud ((with_reducible refine (evac_Most.calls 1500 n b A c l Ap cp p Aq cq q h V 0 _ ?s1 HC.out.1 ?s2 HC.out.2.1 ?s3 HC.out.2.2 F1.out).mono ?_); (case s1 => exact Kd.C_below HA.out HX3.out.2); (case s2 => exact Kd.C_below HP.out HX3.out.2); (case s3 => exact Kd.C_below HQ.out HX3.out.2); rintro e w4 ⟨rfl, hb⟩; have HX4 := Lib.hid (And.intro (blk_below HX3.out.1 hb) (below_step HX3.out.2 hb)); have x0 : w4.cell? ⟨w2.heap.size, 0, none⟩ = some (.int .i64 n) := (blk_cell HX4.out.1 0).trans rfl; have x1 : w4.cell? ⟨w2.heap.size, 1, none⟩ = some (.bool b) := (blk_cell HX4.out.1 1).trans rfl; have x2 : w4.cell? ⟨w2.heap.size, 2, none⟩ = some (.slice A l.length c) := (blk_cell HX4.out.1 2).trans rfl; clear hb))
  |(go_at_call 10; go_loud ((with_reducible refine (plan_walk n h b A c l Ap cp p Aq cq q _ HK.out ?s1 HC.out.1 ?s2 ?s3).mono ?_); (case s1 => exact Kd.C_below HA.out HX4.out.2); (case s2 => exact Kd.C_below HP.out HX4.out.2); (case s3 => exact Kd.C_below HQ.out HX4.out.2); rintro e w5 ⟨hb, m, A5, c5, rfl, hR, hPl⟩; have HX5 := Lib.hid (And.intro (blk_below HX4.out.1 hb) (below_step HX4.out.2 hb)); have HM := Lib.hid (Kd.R_reads' hR).2.2; have HPL := Lib.hid hPl; clear x0 x1 x2; have x0 : w5.cell? ⟨w2.heap.size, 0, none⟩ = some (.int .i64 n) := (blk_cell HX5.out.1 0).trans rfl; have x1 : w5.cell? ⟨w2.heap.size, 1, none⟩ = some (.bool b) := (blk_cell HX5.out.1 1).trans rfl; have x2 : w5.cell? ⟨w2.heap.size, 2, none⟩ = some (.slice A l.length c) := (blk_cell HX5.out.1 2).trans rfl; clear hb hR hPl))
  |(go_at_call 11; go_loud ((with_reducible refine (rplan_walk n h b A c l Ap cp p Aq cq q A5 c5 m _ HK.out ?s1 ?s2 ?s3 HM.out HPL.out.f2 HPL.out.len).mono ?_); (case s1 => exact Kd.C_below HA.out HX5.out.2); (case s2 => exact Kd.C_below HP.out HX5.out.2); (case s3 => exact Kd.C_below HQ.out HX5.out.2); intro e w6 hchk; obtain ⟨rfl, hb⟩ := chk_told HV.out HPL.out hchk; have HX6 := Lib.hid (And.intro (below_step HX5.out.2 hb) (Kd.C_below HM.out hb)); clear hb hchk x0 x1 x2))
  |(go_at_call 12; go_loud ((with_reducible refine (rmoves_walk A5 c5 m _ HX6.out.2 HPL.out.f2 HPL.out.len).mono ?_); intro e w7 hmv; obtain ⟨A7, c7', rfl, hm7, hb⟩ := mvs_told HPL.out hmv; have HX7 := Lib.hid (And.intro (below_step HX6.out.1 hb) (And.intro (Kd.C_below HX6.out.2 hb) hm7)); clear hb hmv hm7))
  |(go_at_call 13; go_loud ((with_reducible refine (samemoves_walk _ _ _ _ m _ HX7.out.2.1 HX7.out.2.2 ?s3).mono ?_); (case s3 => exact Nat.le_trans HPL.out.len (by decide)); rintro e w8 ⟨rfl, hb⟩; have HX8 := Lib.hid (below_step HX7.out.1 hb); clear hb)))
 go_ret
 exact ⟨rfl, below_step HB2.out HX8.out⟩
end
end Go.Proofs.YtcgdloldkcmhnaaGreat.H
