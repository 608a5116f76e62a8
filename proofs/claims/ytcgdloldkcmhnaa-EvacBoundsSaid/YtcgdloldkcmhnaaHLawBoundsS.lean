/- The law EvacBounds, walked. -/
import Derived.Test.YtcgdloldkcmhnaaB6
namespace Go.Proofs.Ytcgdloldkcmhnaa.H
open Go Go.RowKit Go.Proofs.Ytcgdloldkcmhnaa.PrintC Go.Proofs.Ytcgdloldkcmhnaa.PrintE Go.Proofs.YtcgdloldkcmhnaaW.PrintWords Go.Proofs.YtcgdloldkcmhnaaW.PrintLast Go.Proofs.YtcgdloldkcmhnaaW.PrintMore Go.Proofs.Ytcgdloldkcmhnaa.Flow
set_option linter.unusedVariables false
set_option linter.unusedSimpArgs false
def Risen (n h : Nat) (b : Bool) (p q : List Grp) (H : Int → Int → Bool) : Prop := ∀ v : Nat, v < n → keepsOf b p q v = true → ∀ z : Nat, z < h → H v z = true → H v ((z : Int) + 1) = true
theorem ChkAt.sum {n h : Nat} {b : Bool} {l : List Arc} {p q : List Grp} {L : List Mv} {w w' : World} {e : Ending} (a : AskOk n h l p q) (k : ChkAt n h b l p q L w e w') : ∃ V E : Int, e = .returned (.tuple #[.int .i64 V, .int .i64 E]) ∧ Below w.heap.size w w' ∧ (((E == 0) = false ∧ (E != 0) = true) ∨ ((E == 0) = true ∧ (E != 0) = false ∧ ∀ H, Risen n h b p q H → V ≤ capV h l p q H)) := by
 obtain ⟨hb, (⟨k9, d0, d1, rfl, -⟩ | ⟨m, hP, rfl⟩)⟩ := k
 ·exact ⟨_, _, rfl, hb, .inl ⟨d0, d1⟩⟩
 ·exact ⟨_, _, rfl, hb, .inr ⟨rfl, rfl, fun H hr => plan_le a hP hr⟩⟩
theorem CSl.wf {n h : Nat} {keeps : Nat → Bool} {tv : Nat → Int} {Z V : Nat} {X : List Slot} (k : CSl n h keeps tv Z V X) (hn : n ≤ 1000) (hh : h ≤ 4000) : SlotsWf X := fun s hs => by
 have := k.ok s hs
 unfold slotOk at this
 exact ⟨wf_in (by omega), wf_in (by omega)⟩
theorem CSl.risen {n h : Nat} {b : Bool} {p q : List Grp} {tv : Nat → Int} {X : List Slot} (k : CSl n h (keepsOf b p q) tv (h + 1) 0 X) (hn : n ≤ 1000) (hh : h ≤ 4000) : Risen n h b p q (hasS (setD X)) := fun v hv hk z hz c => by
 have hw := k.wf hn hh
 rw [hasS_setD hw (wf_in (by omega)) (wf_in (by omega))] at c ⊢
 have e1 := k.ke v z hv (.inl (by omega)) hk
 have e2 := k.ke v (z + 1) hv (.inl (by omega)) hk
 rw [Int.natCast_add] at e2
 rw [e1] at c
 have := of_decide_eq_true c
 rw [show ((z : Int) + 1) = (z : Int) + ((1 : Nat) : Int) from rfl, e2]
 exact decide_eq_true (by omega)
theorem CapAt.good {n h : Nat} {b : Bool} {l : List Arc} {p q : List Grp} {X : List Slot} {w w' : World} {e : Ending} {tv : Nat → Int} (k : CapAt n h b l p q X w e w') (c : CSl n h (keepsOf b p q) tv (h + 1) 0 X) (hn : n ≤ 1000) (hh : h ≤ 4000) : e = .returned (.tuple #[.int .i64 (capV h l p q (hasS (setD X))), .int .i64 0]) ∧ Below w.heap.size w w' := by
 obtain ⟨hb, (⟨_, s, hs, hn9⟩ | ⟨_, (⟨_, v, z, hv, hk, hz, c1, c2⟩ | ⟨rfl, _⟩)⟩)⟩ := k
 ·exact absurd (c.ok s hs) hn9
 ·have := c.risen hn hh v hv hk z hz c1
  rw [c2] at this
  cases this
 ·exact ⟨rfl, hb⟩
theorem RCapAt.told {n h : Nat} {b : Bool} {l : List Arc} {p q : List Grp} {X : List Slot} {w w' : World} {e : Ending} {V : Int} (k : RCapAt n h b l p q X w e w') (hpl : PlaceOk n h l p q) (hh : h ≤ 1024) (hX : X = cutV n h b l p q) (hV : V = mostV n h b l p q) : e = .returned (.tuple #[.int .i64 V, .int .i64 0]) ∧ Below w.heap.size w w' := by
 obtain ⟨t1, t2, t3⟩ := cut_told (b := b) hpl hh
 rw [← hX, ← hV] at t3
 rw [← hX] at t1 t2
 obtain ⟨hb, (⟨_, s, hs, hn9⟩ | ⟨_, (⟨_, v, z, hv, hk, hz, c1, c2⟩ | ⟨rfl, _⟩)⟩)⟩ := k
 ·exact absurd (t1 s hs) hn9
 ·have := t2 v hv hk z hz c1
  rw [c2] at this
  cases this
 ·rw [t3]
  exact ⟨rfl, hb⟩
theorem AskOk.cutB {n h : Nat} {l : List Arc} {p q : List Grp} (a : AskOk n h l p q) (b : Bool) {k : Nat} (hk : 300 ≤ k) : evac_Cut.f k n b l p q h = some (cutV n h b l p q, 0) := by
 unfold evac_Cut.f
 rw [if_pos a.okp, a.begun b hk]
 rfl
section
variable {a0 : Int} {a1 : Bool} {l2 : List CBit} {a3 a4 a5 : Int} {l6 l7 : List Int} {l8 : List CBit3} {l9 : List Int} {A2 : Option Addr} {c2 : Nat} {A6 : Option Addr} {c6 : Nat} {A7 : Option Addr} {c7 : Nat} {A8 : Option Addr} {c8 : Nat} {A9 : Option Addr} {c9 : Nat} {w : World} {v : Value}
/-- The case's cells and the network's, in the memory. -/
def Two (g g2 : Nat) (cs ns : Array Value) (W : World) : Prop := W.heap[g]? = some (.cells cs 29 (0, 0)) ∧ W.heap[g2]? = some (.cells ns 32 (0, 0))
theorem Two.below {g g2 : Nat} {cs ns : Array Value} {W W1 : World} (h : Two g g2 cs ns W) (hb : Below W.heap.size W W1) : Two g g2 cs ns W1 := ⟨blk_below h.1 hb, blk_below h.2 hb⟩
theorem Two.drew {g g2 : Nat} {cs ns : Array Value} {W : World} (h : Two g g2 cs ns W) : Two g g2 cs ns W.drew := ⟨blk_drew h.1, blk_drew h.2⟩
set_option maxHeartbeats 8000000 in
set_option maxRecDepth 100000 in
theorem bounds_walk (o : CaseAt w v a0 a1 l2 a3 a4 a5 l6 l7 l8 l9 A2 c2 A6 c6 A7 c7 A8 c8 A9 c9) :
  Calls Try.prog 9 #[.agg (caseCells a0 a1 l2 a3 a4 a5 l6 l7 l8 l9 A2 c2 A6 c6 A7 c7 A8 c8 A9 c9)] w fun e w' => e = .returned (.bool true) ∧ Below w.heap.size w w' := by
 have HO := Lib.hid o
 have hu := Try.underlying32
 have hu2 := Try.underlying29
 clear o
 go_enter Try.func9, Try.ntmps9
 go_wp2_with (first
  |(go_at_call 13; (with_reducible refine (awake_walk _).mono ?_); rintro e w1 ⟨rfl, hb⟩; have HB1 := Lib.hid (below_step (below_alloc (Below.refl w.heap.size w) (.cells (caseCells a0 a1 l2 a3 a4 a5 l6 l7 l8 l9 A2 c2 A6 c6 A7 c7 A8 c8 A9 c9) 29)) hb); have HX1 := Lib.hid (blk_below (heap_alloc_new w (.cells (caseCells a0 a1 l2 a3 a4 a5 l6 l7 l8 l9 A2 c2 A6 c6 A7 c7 A8 c8 A9 c9) 29)) hb); have x0 := (blk_cell HX1.out 0).trans rfl; have x1 := (blk_cell HX1.out 1).trans rfl; have x2 := (blk_cell HX1.out 2).trans rfl; have x3 := (blk_cell HX1.out 3).trans rfl; have x4 := (blk_cell HX1.out 4).trans rfl; have x5 := (blk_cell HX1.out 5).trans rfl; have x6 := (blk_cell HX1.out 6).trans rfl; have x7 := (blk_cell HX1.out 7).trans rfl; have x8 := (blk_cell HX1.out 8).trans rfl; have x9 := (blk_cell HX1.out 9).trans rfl; clear hb)
  |(go_at_call 10; go_loud ((with_reducible refine (read_at 8 8 rfl (by decide) (HO.out.below HB1.out)).mono ?_); rintro e w2 ⟨n, h, b, l, p, q, A, c, Ap, cp, Aq, cq, rfl, hA, hc, hp, hcp, hq, hcq, hN, hg, hh, hb⟩; have HB2 := Lib.hid (below_step HB1.out hb); have HX2 := Lib.hid (blk_below HX1.out hb); have HA := Lib.hid hA; have HP := Lib.hid hp; have HQ := Lib.hid hq; have HC := Lib.hid (And.intro hc (And.intro hcp hcq)); have HK := Lib.hid (ask_of (m := 8) (by decide) hN hg (show h ≤ 16 by omega)); have hh7 : h ≤ 16 := (by omega); clear x0 x1 x2 x3 x4 x5 x6 x7 x8 x9 hb hA hc hp hcp hq hcq hN hg hh)))
 have hn1 := HK.out.place.net.n1
 have hll := HK.out.place.net.ll
 have hlp := HK.out.place.lp
 have hlq := HK.out.place.lq
 obtain ⟨w3, hw3⟩ : ∃ w3, w3 = w2.alloc (.cells #[.int .i64 n, .bool b, .slice A l.length c] 32) := ⟨_, rfl⟩
 have HT : Hid (Two w.heap.size w2.heap.size (caseCells a0 a1 l2 a3 a4 a5 l6 l7 l8 l9 A2 c2 A6 c6 A7 c7 A8 c8 A9 c9) #[.int .i64 n, .bool b, .slice A l.length c] w3 ∧ Below w.heap.size w w3 ∧ Below w2.heap.size w2 w3) := Lib.hid (by
  rw [hw3]
  exact ⟨⟨blk_alloc HX2.out _, heap_alloc_new _ _⟩, below_alloc HB2.out _, below_alloc (Below.refl _ _) _⟩)
 rw [← hw3]
 clear hw3 HX1 HX2
 obtain ⟨V, hV⟩ : ∃ V, V = mostV n h b l p q := ⟨_, rfl⟩
 obtain ⟨Y, hY⟩ : ∃ Y, Y = cutV n h b l p q := ⟨_, rfl⟩
 have F1 := Lib.hid (HK.out.most b (k := 1500) (by decide))
 have F2 := Lib.hid (HK.out.cutB b (k := 1500) (by decide))
 rw [← hV] at F1
 rw [← hY] at F2
 have hYl : Y.length ≤ 1000000 := by
  rw [hY]
  have h1 : (cutV n h b l p q).length ≤ (h + 1) * n := slotsOf_len _ _ _
  have h2 := HK.out.hn
  omega
 have HV := Lib.hid hV
 have HY := Lib.hid hY
 have HH7 := Lib.hid hh7
 clear hV hY
 refine stepS (S := fun w' => w'.cell? ⟨w.heap.size, 0, none⟩ = some (.int .u8 a0) ∧ w'.cell? ⟨w.heap.size, 1, none⟩ = some (.bool a1) ∧ w'.cell? ⟨w.heap.size, 2, none⟩ = some (.slice A2 l2.length c2) ∧ w'.cell? ⟨w.heap.size, 3, none⟩ = some (.int .u8 a3) ∧ w'.cell? ⟨w.heap.size, 4, none⟩ = some (.int .u8 a4) ∧ w'.cell? ⟨w.heap.size, 5, none⟩ = some (.int .u8 a5) ∧ w'.cell? ⟨w.heap.size, 6, none⟩ = some (.slice A6 l6.length c6) ∧ w'.cell? ⟨w.heap.size, 7, none⟩ = some (.slice A7 l7.length c7) ∧ w'.cell? ⟨w.heap.size, 8, none⟩ = some (.slice A8 l8.length c8) ∧ w'.cell? ⟨w.heap.size, 9, none⟩ = some (.slice A9 l9.length c9) ∧ w'.cell? ⟨w2.heap.size, 0, none⟩ = some (.int .i64 n) ∧ w'.cell? ⟨w2.heap.size, 1, none⟩ = some (.bool b) ∧ w'.cell? ⟨w2.heap.size, 2, none⟩ = some (.slice A l.length c)) (ds := [8]) 14 (by kernel_rfl) rfl ⟨(blk_cell (HT.out.1.drew.1) 0).trans rfl, (blk_cell (HT.out.1.drew.1) 1).trans rfl, (blk_cell (HT.out.1.drew.1) 2).trans rfl, (blk_cell (HT.out.1.drew.1) 3).trans rfl, (blk_cell (HT.out.1.drew.1) 4).trans rfl, (blk_cell (HT.out.1.drew.1) 5).trans rfl, (blk_cell (HT.out.1.drew.1) 6).trans rfl, (blk_cell (HT.out.1.drew.1) 7).trans rfl, (blk_cell (HT.out.1.drew.1) 8).trans rfl, (blk_cell (HT.out.1.drew.1) 9).trans rfl, (blk_cell (HT.out.1.drew.2) 0).trans rfl, (blk_cell (HT.out.1.drew.2) 1).trans rfl, (blk_cell (HT.out.1.drew.2) 2).trans rfl⟩ (fun hHeld => ?_)
 have HN9 := Lib.hid (And.intro (HT.out.1.drew) (And.intro (below_drew1 HT.out.2.1) (below_drew1 HT.out.2.2)))
 clear HT
 have HT := HN9
 clear HN9
 generalize w3.drew = wa at HT hHeld ⊢
 repeat (first | refine rP 14 ?_ | refine rT 14 hHeld ?_)
 refine sC 7 Try.func24 #[.agg (caseCells a0 a1 l2 a3 a4 a5 l6 l7 l8 l9 A2 c2 A6 c6 A7 c7 A8 c8 A9 c9), .agg #[.int .i64 n, .bool b, .slice A l.length c], .int .i64 h] (cmoves_walk (HO.out.below HT.out.2.1) n b A c l.length h (by omega) (by omega)) ?_
 rintro e w5 ⟨L, A1, c1, rfl, ho, hlen, hi64, hb⟩
 have HN9 := Lib.hid (And.intro (HT.out.1.below hb) (And.intro (below_step HT.out.2.1 hb) (below_step HT.out.2.2 hb))); clear HT; have HT := HN9; clear HN9
 refine ⟨_, rfl, ⟨(blk_cell (HT.out.1.1) 0).trans rfl, (blk_cell (HT.out.1.1) 1).trans rfl, (blk_cell (HT.out.1.1) 2).trans rfl, (blk_cell (HT.out.1.1) 3).trans rfl, (blk_cell (HT.out.1.1) 4).trans rfl, (blk_cell (HT.out.1.1) 5).trans rfl, (blk_cell (HT.out.1.1) 6).trans rfl, (blk_cell (HT.out.1.1) 7).trans rfl, (blk_cell (HT.out.1.1) 8).trans rfl, (blk_cell (HT.out.1.1) 9).trans rfl, (blk_cell (HT.out.1.2) 0).trans rfl, (blk_cell (HT.out.1.2) 1).trans rfl, (blk_cell (HT.out.1.2) 2).trans rfl⟩, fun hHeld => ?_⟩
 refine sN ?_
 have HL := Lib.hid (And.intro (Kd.R_reads' ho).2.2 hi64)
 clear ho hi64 hb
 refine sCL 8 Try.func22 #[.agg #[.int .i64 n, .bool b, .slice A l.length c], .slice Ap p.length cp, .slice Aq q.length cq, .int .i64 h, .slice A1 L.length c1] (rplan_walk n h b A c l Ap cp p Aq cq q A1 c1 L _ HK.out (Kd.C_below HA.out HT.out.2.2) (Kd.C_below HP.out HT.out.2.2) (Kd.C_below HQ.out HT.out.2.2) HL.out.1 HL.out.2 (by omega)) ?_
 rintro e w6 hchk
 obtain ⟨V0, E0, rfl, hb, hres⟩ := hchk.sum HK.out
 have HN9 := Lib.hid (And.intro (HT.out.1.below hb) (And.intro (below_step HT.out.2.1 hb) (below_step HT.out.2.2 hb))); clear HT; have HT := HN9; clear HN9
 refine ⟨_, rfl, ?_⟩
 refine sN ?_
 have HRS := Lib.hid hres
 clear hchk hres hb hHeld
 repeat refine rP 14 ?_
 refine done_ (by kernel_rfl) ?_
 go_wp2
 refine stepS (S := fun w' => w'.cell? ⟨w.heap.size, 0, none⟩ = some (.int .u8 a0) ∧ w'.cell? ⟨w.heap.size, 1, none⟩ = some (.bool a1) ∧ w'.cell? ⟨w.heap.size, 2, none⟩ = some (.slice A2 l2.length c2) ∧ w'.cell? ⟨w.heap.size, 3, none⟩ = some (.int .u8 a3) ∧ w'.cell? ⟨w.heap.size, 4, none⟩ = some (.int .u8 a4) ∧ w'.cell? ⟨w.heap.size, 5, none⟩ = some (.int .u8 a5) ∧ w'.cell? ⟨w.heap.size, 6, none⟩ = some (.slice A6 l6.length c6) ∧ w'.cell? ⟨w.heap.size, 7, none⟩ = some (.slice A7 l7.length c7) ∧ w'.cell? ⟨w.heap.size, 8, none⟩ = some (.slice A8 l8.length c8) ∧ w'.cell? ⟨w.heap.size, 9, none⟩ = some (.slice A9 l9.length c9) ∧ w'.cell? ⟨w2.heap.size, 0, none⟩ = some (.int .i64 n) ∧ w'.cell? ⟨w2.heap.size, 1, none⟩ = some (.bool b) ∧ w'.cell? ⟨w2.heap.size, 2, none⟩ = some (.slice A l.length c)) (ds := [10]) 16 (by kernel_rfl) rfl ⟨(blk_cell (HT.out.1.drew.1) 0).trans rfl, (blk_cell (HT.out.1.drew.1) 1).trans rfl, (blk_cell (HT.out.1.drew.1) 2).trans rfl, (blk_cell (HT.out.1.drew.1) 3).trans rfl, (blk_cell (HT.out.1.drew.1) 4).trans rfl, (blk_cell (HT.out.1.drew.1) 5).trans rfl, (blk_cell (HT.out.1.drew.1) 6).trans rfl, (blk_cell (HT.out.1.drew.1) 7).trans rfl, (blk_cell (HT.out.1.drew.1) 8).trans rfl, (blk_cell (HT.out.1.drew.1) 9).trans rfl, (blk_cell (HT.out.1.drew.2) 0).trans rfl, (blk_cell (HT.out.1.drew.2) 1).trans rfl, (blk_cell (HT.out.1.drew.2) 2).trans rfl⟩ (fun hHeld => ?_)
 have HN9 := Lib.hid (And.intro (HT.out.1.drew) (And.intro (below_drew1 HT.out.2.1) (below_drew1 HT.out.2.2)))
 clear HT
 have HT := HN9
 clear HN9
 generalize w6.drew = wb at HT hHeld ⊢
 repeat (first | refine rP 16 ?_ | refine rT 16 hHeld ?_)
 refine sC 9 Try.func25 #[.agg (caseCells a0 a1 l2 a3 a4 a5 l6 l7 l8 l9 A2 c2 A6 c6 A7 c7 A8 c8 A9 c9), .agg #[.int .i64 n, .bool b, .slice A l.length c], .slice Ap p.length cp, .slice Aq q.length cq, .int .i64 h] (cslots_walk (HO.out.below HT.out.2.1) n h b A c l.length Ap cp p Aq cq q (Kd.C_below HP.out HT.out.2.2) (Kd.C_below HQ.out HT.out.2.2) (fun g hg => (HK.out.place.gp g hg).2.1) (fun g hg => (HK.out.place.gq g hg).2.1) hlp hlq hn1 (by omega) HK.out.hn) ?_
 rintro e w7 ⟨X, tv, A1', c1', rfl, ho, hcs, hb⟩
 have HN9 := Lib.hid (And.intro (HT.out.1.below hb) (And.intro (below_step HT.out.2.1 hb) (below_step HT.out.2.2 hb))); clear HT; have HT := HN9; clear HN9
 refine ⟨_, rfl, ⟨(blk_cell (HT.out.1.1) 0).trans rfl, (blk_cell (HT.out.1.1) 1).trans rfl, (blk_cell (HT.out.1.1) 2).trans rfl, (blk_cell (HT.out.1.1) 3).trans rfl, (blk_cell (HT.out.1.1) 4).trans rfl, (blk_cell (HT.out.1.1) 5).trans rfl, (blk_cell (HT.out.1.1) 6).trans rfl, (blk_cell (HT.out.1.1) 7).trans rfl, (blk_cell (HT.out.1.1) 8).trans rfl, (blk_cell (HT.out.1.1) 9).trans rfl, (blk_cell (HT.out.1.2) 0).trans rfl, (blk_cell (HT.out.1.2) 1).trans rfl, (blk_cell (HT.out.1.2) 2).trans rfl⟩, fun hHeld => ?_⟩
 refine sN ?_
 have HX := Lib.hid (And.intro (Kd.R_reads' ho).2.2 hcs)
 have hXl : X.length ≤ 1000000 := by
  have h1 := hcs.le
  have h2 := HK.out.hn
  omega
 clear ho hcs hb
 refine sCL 10 Try.func23 #[.agg #[.int .i64 n, .bool b, .slice A l.length c], .slice Ap p.length cp, .slice Aq q.length cq, .int .i64 h, .slice A1' X.length c1'] (cap_walk n h b A c l Ap cp p Aq cq q A1' c1' X _ HK.out.place (by omega) (fun W hW => begun_walk 1500 n b A c l Ap cp p Aq cq q h 0 W (Kd.C_below (Kd.C_below HA.out HT.out.2.2) hW) HC.out.1 (Kd.C_below (Kd.C_below HP.out HT.out.2.2) hW) (Kd.C_below (Kd.C_below HQ.out HT.out.2.2) hW) (okG_wf HK.out.okp.1).1 (okG_wf HK.out.okp.2).1 (okG_wf HK.out.okp.1).2 (okG_wf HK.out.okp.2).2 (HK.out.begun b (by decide))) (Kd.C_below HA.out HT.out.2.2) (Kd.C_below HP.out HT.out.2.2) (Kd.C_below HQ.out HT.out.2.2) HX.out.1 hXl) ?_
 rintro e w8 hcap
 obtain ⟨rfl, hb⟩ := hcap.good HX.out.2 hn1 (by omega)
 have HN9 := Lib.hid (And.intro (HT.out.1.below hb) (And.intro (below_step HT.out.2.1 hb) (below_step HT.out.2.2 hb))); clear HT; have HT := HN9; clear HN9
 refine ⟨_, rfl, ?_⟩
 obtain ⟨K, hK⟩ : ∃ K, K = capV h l p q (hasS (setD X)) := ⟨_, rfl⟩
 rw [← hK]
 refine sN ?_
 have HRI := Lib.hid (HX.out.2.risen hn1 (by omega))
 have HKE := Lib.hid hK
 have hVK : ¬ K < V := by
  have := most_le_cap (b := b) HK.out.place HRI.out
  rw [← HV.out, ← hK] at this
  omega
 clear hcap hb hHeld hK
 repeat refine rP 16 ?_
 refine done_ (by kernel_rfl) ?_
 have y0 : w8.cell? ⟨w2.heap.size, 0, none⟩ = some (.int .i64 n) := (blk_cell HT.out.1.2 0).trans rfl; have y1 : w8.cell? ⟨w2.heap.size, 1, none⟩ = some (.bool b) := (blk_cell HT.out.1.2 1).trans rfl; have y2 : w8.cell? ⟨w2.heap.size, 2, none⟩ = some (.slice A l.length c) := (blk_cell HT.out.1.2 2).trans rfl
 have HRT := Lib.hid (cut_told (b := b) HK.out.place (show h ≤ 1024 by omega))
 have HV0 : Hid (V0 ≤ K ∧ V0 ≤ V ∨ ((E0 == 0) = false ∧ (E0 != 0) = true)) := Lib.hid (by
  rcases HRS.out with h1 | ⟨_, _, h1⟩
  ·exact .inr h1
  ·refine .inl ⟨?_, ?_⟩
   ·rw [HKE.out]; exact h1 _ HRI.out
   ·have h2 := h1 _ HRT.out.2.1
    rw [HRT.out.2.2, ← HV.out] at h2
    exact h2)
 have hE : ((E0 == 0) = false ∧ (E0 != 0) = true) ∨ ((E0 == 0) = true ∧ (E0 != 0) = false ∧ V0 ≤ K ∧ V0 ≤ V) := by
  rcases HRS.out with h1 | ⟨h1, h2, _⟩
  ·exact .inl h1
  ·rcases HV0.out with h3 | h3
   ·exact .inr ⟨h1, h2, h3⟩
   ·exact .inl h3
 have t1 : (V == V) = true := by simp
 have t2 : (V != V) = false := by simp
 rcases hE with ⟨g1, g2⟩ | ⟨g1, g2, g3, g4⟩
 all_goals
  go_wp2_with (first
   |(go_at_call 14; go_loud ((with_reducible refine (evac_Most.calls 1500 n b A c l Ap cp p Aq cq q h V 0 _ ?s1 HC.out.1 ?s2 HC.out.2.1 ?s3 HC.out.2.2 F1.out).mono ?_); (case s1 => exact Kd.C_below HA.out HT.out.2.2); (case s2 => exact Kd.C_below HP.out HT.out.2.2); (case s3 => exact Kd.C_below HQ.out HT.out.2.2); rintro e w9 ⟨rfl, hb⟩; have HN9 := Lib.hid (And.intro (HT.out.1.below hb) (And.intro (below_step HT.out.2.1 hb) (below_step HT.out.2.2 hb))); clear HT; have HT := HN9; clear HN9; clear y0 y1 y2 hb; have y0 : w9.cell? ⟨w2.heap.size, 0, none⟩ = some (.int .i64 n) := (blk_cell HT.out.1.2 0).trans rfl; have y1 : w9.cell? ⟨w2.heap.size, 1, none⟩ = some (.bool b) := (blk_cell HT.out.1.2 1).trans rfl; have y2 : w9.cell? ⟨w2.heap.size, 2, none⟩ = some (.slice A l.length c) := (blk_cell HT.out.1.2 2).trans rfl))
   |(go_at_call 19; go_loud ((with_reducible refine (evac_Cut.calls 1500 n b A c l Ap cp p Aq cq q h Y 0 _ ?s1 HC.out.1 ?s2 HC.out.2.1 ?s3 HC.out.2.2 F2.out).mono ?_); (case s1 => exact Kd.C_below HA.out HT.out.2.2); (case s2 => exact Kd.C_below HP.out HT.out.2.2); (case s3 => exact Kd.C_below HQ.out HT.out.2.2); rintro e wc ⟨v6, rfl, ho6, hb⟩; obtain ⟨A6', c6', rfl⟩ := Kd.R_slice ho6; have HO6 := Lib.hid (Kd.R_reads' ho6).2.2; have HN9 := Lib.hid (And.intro (HT.out.1.below hb) (And.intro (below_step HT.out.2.1 hb) (below_step HT.out.2.2 hb))); clear HT; have HT := HN9; clear HN9; clear y0 y1 y2 hb ho6; have y0 : wc.cell? ⟨w2.heap.size, 0, none⟩ = some (.int .i64 n) := (blk_cell HT.out.1.2 0).trans rfl; have y1 : wc.cell? ⟨w2.heap.size, 1, none⟩ = some (.bool b) := (blk_cell HT.out.1.2 1).trans rfl; have y2 : wc.cell? ⟨w2.heap.size, 2, none⟩ = some (.slice A l.length c) := (blk_cell HT.out.1.2 2).trans rfl))
   |(go_at_call 26; go_loud ((with_reducible refine (rcap_walk n h b A c l Ap cp p Aq cq q A6' c6' Y _ HK.out ?s1 ?s2 ?s3 ?s4 hYl).mono ?_); (case s1 => exact Kd.C_below HA.out HT.out.2.2); (case s2 => exact Kd.C_below HP.out HT.out.2.2); (case s3 => exact Kd.C_below HQ.out HT.out.2.2); (case s4 => exact HO6.out); rintro e wd hrc; obtain ⟨rfl, hb⟩ := hrc.told HK.out.place (show h ≤ 1024 from (by have := HH7.out; omega)) HY.out HV.out; have HN9 := Lib.hid (And.intro (HT.out.1.below hb) (And.intro (below_step HT.out.2.1 hb) (below_step HT.out.2.2 hb))); clear HT; have HT := HN9; clear HN9; clear y0 y1 y2 hb hrc)))
  go_ret
  exact ⟨rfl, HT.out.2.1⟩
end
end Go.Proofs.Ytcgdloldkcmhnaa.H
