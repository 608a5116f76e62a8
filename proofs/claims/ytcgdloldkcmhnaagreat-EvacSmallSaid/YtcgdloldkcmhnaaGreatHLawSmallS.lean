/- The law EvacSmall, walked. -/
import Derived.Test.YtcgdloldkcmhnaaGreatM6
set_option maxHeartbeats 8000000
set_option maxRecDepth 100000
namespace Go.Proofs.YtcgdloldkcmhnaaGreat.H
open Go Go.RowKit Go.Proofs.YtcgdloldkcmhnaaGreat.PrintC Go.Proofs.YtcgdloldkcmhnaaGreat.PrintE Go.Proofs.YtcgdloldkcmhnaaGreatW.PrintWords Go.Proofs.YtcgdloldkcmhnaaGreatW.PrintLast Go.Proofs.YtcgdloldkcmhnaaGreatW.PrintMore Go.Proofs.YtcgdloldkcmhnaaGreat.Flow
set_option linter.unusedVariables false
set_option linter.unusedSimpArgs false
theorem CSl.wf {n h : Nat} {keeps : Nat → Bool} {tv : Nat → Int} {Z V : Nat} {X : List z3p} (k : CSl n h keeps tv Z V X) (hn : n ≤ 1000) (hh : h ≤ 4000) : y0o X := fun s hs => by
 have := k.ok s hs
 unfold z1y at this
 exact ⟨z0o (by omega) (by omega), z0o (by omega) (by omega)⟩
/-- What Capacity answers of slots that rise. -/
theorem x2w.rise {n h : Nat} {b : Bool} {l : List Arc} {p q : List Grp} {X : List z3p} {w w' : World} {e : Ending} {tv : Nat → Int} (k : x2w n h b l p q X w e w') (c : CSl n h (d9 b p q) tv (h + 1) 0 X) (hn : n ≤ 1000) (hh : h ≤ 4000) : e = .returned (.tuple #[.int .i64 (x1y h l p q (z3w (y0p X))), .int .i64 0]) ∧ Below w.heap.size w w' := by
 obtain ⟨hb, (⟨_, s, hs, hn9⟩ | ⟨_, (⟨_, v, z, hv, hk, hz, c1, c2⟩ | ⟨rfl, _⟩)⟩)⟩ := k
 ·exact absurd (c.ok s hs) hn9
 ·have hw := c.wf hn hh
  rw [y1i hw (z0o (by omega) (by omega)) (z0o (by omega) (by omega))] at c1 c2
  have e1 := c.ke v z hv (.inl (by omega)) hk
  have e2 := c.ke v (z + 1) hv (.inl (by omega)) hk
  rw [Int.natCast_add] at e2
  rw [e1] at c1
  rw [show ((z : Int) + 1) = (z : Int) + ((1 : Nat) : Int) from rfl, e2] at c2
  have h1 := of_decide_eq_true c1
  have h2 := of_decide_eq_false c2
  omega
 ·exact ⟨rfl, hb⟩
section
variable {a0 : Int} {a1 : Bool} {l2 : List y93} {a3 a4 a5 : Int} {l6 l7 : List Int} {l8 : List y18} {l9 : List Int} {A2 : Option Addr} {c2 : Nat} {A6 : Option Addr} {c6 : Nat} {A7 : Option Addr} {c7 : Nat} {A8 : Option Addr} {c8 : Nat} {A9 : Option Addr} {c9 : Nat} {w : World} {v : Value}
theorem small_walk (o : z69 w v a0 a1 l2 a3 a4 a5 l6 l7 l8 l9 A2 c2 A6 c6 A7 c7 A8 c8 A9 c9) :
  Calls Tryz.prog 6 #[.agg (z1g a0 a1 l2 a3 a4 a5 l6 l7 l8 l9 A2 c2 A6 c6 A7 c7 A8 c8 A9 c9)] w fun e w' => e = .returned (.bool true) ∧ Below w.heap.size w w' := by
 have HO := zh o
 have hu := Tryz.underlying33
 have hu2 := Tryz.underlying29
 clear o
 go_enter Tryz.func6, Tryz.ntmps6
 obtain ⟨w1, hw1⟩ : ∃ w1, w1 = w.alloc (.cells (z1g a0 a1 l2 a3 a4 a5 l6 l7 l8 l9 A2 c2 A6 c6 A7 c7 A8 c8 A9 c9) 29) := ⟨_, rfl⟩
 have HB1 : Hid (Below w.heap.size w w1) := zh (by rw [hw1]; exact y8 (Below.refl _ _) _)
 have HX1 : Hid (w1.heap[w.heap.size]? = some (.cells (z1g a0 a1 l2 a3 a4 a5 l6 l7 l8 l9 A2 c2 A6 c6 A7 c7 A8 c8 A9 c9) 29 (0, 0))) := zh (by rw [hw1]; exact heap_alloc_new _ _)
 go_wp2_with (go_at_call 8; rw [← hw1]; go_loud ((with_reducible refine (x35 8 8 rfl (by decide) (HO.out.below HB1.out)).mono ?_); rintro e w2 ⟨n, h, b, l, p, q, A, c, Ap, cp, Aq, cq, rfl, hA, hc, hp, hcp, hq, hcq, hN, hg, hh, hb⟩; have HB2 := zh (v6 HB1.out hb); have HX2 := zh (j5 HX1.out hb); have HA := zh hA; have HP := zh hp; have HQ := zh hq; have HC := zh (And.intro hc (And.intro hcp hcq)); have HK := zh (x3k (m := 8) (by decide) hN hg (show h ≤ 16 by omega)); have hh7 : h ≤ 16 := (by omega); clear hb hA hc hp hcp hq hcq hN hg hh))
 have hn1 := HK.out.place.net.n1
 have hll := HK.out.place.net.ll
 have hlp := HK.out.place.lp
 have hlq := HK.out.place.lq
 obtain ⟨w3, hw3⟩ : ∃ w3, w3 = w2.alloc (.cells #[.int .i64 n, .bool b, .slice A l.length c] 33) := ⟨_, rfl⟩
 have HT : Hid (Two w.heap.size w2.heap.size (z1g a0 a1 l2 a3 a4 a5 l6 l7 l8 l9 A2 c2 A6 c6 A7 c7 A8 c8 A9 c9) #[.int .i64 n, .bool b, .slice A l.length c] w3 ∧ Below w.heap.size w w3 ∧ Below w2.heap.size w2 w3) := zh (by
  rw [hw3]
  exact ⟨⟨j9 HX2.out _, heap_alloc_new _ _⟩, y8 HB2.out _, y8 (Below.refl _ _) _⟩)
 rw [← hw3]
 clear hw3 HX1 HX2
 have HH7 := zh hh7
 refine z1u (S := fun w' => w'.cell? ⟨w.heap.size, 0, none⟩ = some (.int .u8 a0) ∧ w'.cell? ⟨w.heap.size, 1, none⟩ = some (.bool a1) ∧ w'.cell? ⟨w.heap.size, 2, none⟩ = some (.slice A2 l2.length c2) ∧ w'.cell? ⟨w.heap.size, 3, none⟩ = some (.int .u8 a3) ∧ w'.cell? ⟨w.heap.size, 4, none⟩ = some (.int .u8 a4) ∧ w'.cell? ⟨w.heap.size, 5, none⟩ = some (.int .u8 a5) ∧ w'.cell? ⟨w.heap.size, 6, none⟩ = some (.slice A6 l6.length c6) ∧ w'.cell? ⟨w.heap.size, 7, none⟩ = some (.slice A7 l7.length c7) ∧ w'.cell? ⟨w.heap.size, 8, none⟩ = some (.slice A8 l8.length c8) ∧ w'.cell? ⟨w.heap.size, 9, none⟩ = some (.slice A9 l9.length c9) ∧ w'.cell? ⟨w2.heap.size, 0, none⟩ = some (.int .i64 n) ∧ w'.cell? ⟨w2.heap.size, 1, none⟩ = some (.bool b) ∧ w'.cell? ⟨w2.heap.size, 2, none⟩ = some (.slice A l.length c)) (ds := [9]) 12 (by kernel_rfl) rfl ⟨(y7 (HT.out.1.drew.1) 0).trans rfl, (y7 (HT.out.1.drew.1) 1).trans rfl, (y7 (HT.out.1.drew.1) 2).trans rfl, (y7 (HT.out.1.drew.1) 3).trans rfl, (y7 (HT.out.1.drew.1) 4).trans rfl, (y7 (HT.out.1.drew.1) 5).trans rfl, (y7 (HT.out.1.drew.1) 6).trans rfl, (y7 (HT.out.1.drew.1) 7).trans rfl, (y7 (HT.out.1.drew.1) 8).trans rfl, (y7 (HT.out.1.drew.1) 9).trans rfl, (y7 (HT.out.1.drew.2) 0).trans rfl, (y7 (HT.out.1.drew.2) 1).trans rfl, (y7 (HT.out.1.drew.2) 2).trans rfl⟩ (fun hHeld => ?_)
 have HN9 := zh (And.intro (HT.out.1.drew) (And.intro (q6 HT.out.2.1) (q6 HT.out.2.2)))
 clear HT
 have HT := HN9
 clear HN9
 generalize w3.drew = wa at HT hHeld ⊢
 refine sT 0 hHeld ?_
 refine sT 1 hHeld ?_
 refine sP 2 ?_
 refine sT 4 hHeld ?_
 refine sT 5 hHeld ?_
 refine sP 6 ?_
 refine sP 7 ?_
 refine sP 8 ?_
 refine sC 3 Tryz.func20 #[.agg (z1g a0 a1 l2 a3 a4 a5 l6 l7 l8 l9 A2 c2 A6 c6 A7 c7 A8 c8 A9 c9), .agg #[.int .i64 n, .bool b, .slice A l.length c], .int .i64 h] (y3i (HO.out.below HT.out.2.1) n b A c l.length h (by omega) (by omega)) ?_
 rintro e w5 ⟨L, A1, c1, rfl, ho, hlen, hi64, hwf, hb⟩
 have HN9 := zh (And.intro (HT.out.1.below hb) (And.intro (v6 HT.out.2.1 hb) (v6 HT.out.2.2 hb))); clear HT; have HT := HN9; clear HN9
 refine ⟨_, rfl, ⟨(y7 (HT.out.1.1) 0).trans rfl, (y7 (HT.out.1.1) 1).trans rfl, (y7 (HT.out.1.1) 2).trans rfl, (y7 (HT.out.1.1) 3).trans rfl, (y7 (HT.out.1.1) 4).trans rfl, (y7 (HT.out.1.1) 5).trans rfl, (y7 (HT.out.1.1) 6).trans rfl, (y7 (HT.out.1.1) 7).trans rfl, (y7 (HT.out.1.1) 8).trans rfl, (y7 (HT.out.1.1) 9).trans rfl, (y7 (HT.out.1.2) 0).trans rfl, (y7 (HT.out.1.2) 1).trans rfl, (y7 (HT.out.1.2) 2).trans rfl⟩, fun hHeld => ?_⟩
 refine sN ?_
 have HL := zh (And.intro (Kd.R_reads' ho).2.2 (And.intro hi64 hwf))
 clear ho hi64 hwf hb
 refine sCL 9 Tryz.func21 #[.agg (z1g a0 a1 l2 a3 a4 a5 l6 l7 l8 l9 A2 c2 A6 c6 A7 c7 A8 c8 A9 c9), .agg #[.int .i64 n, .bool b, .slice A l.length c], .slice Ap p.length cp, .slice Aq q.length cq, .int .i64 h] (y3e (HO.out.below HT.out.2.1) n h b A c l.length Ap cp p Aq cq q (Kd.C_below HP.out HT.out.2.2) (Kd.C_below HQ.out HT.out.2.2) (fun g hg => (HK.out.place.gp g hg).2.1) (fun g hg => (HK.out.place.gq g hg).2.1) hlp hlq hn1 (by omega) HK.out.hn) ?_
 rintro e w7 ⟨X, tv, A1', c1', rfl, ho, hcs, hb⟩
 have HN9 := zh (And.intro (HT.out.1.below hb) (And.intro (v6 HT.out.2.1 hb) (v6 HT.out.2.2 hb))); clear HT; have HT := HN9; clear HN9
 refine ⟨_, rfl, ?_⟩
 refine sN ?_
 have HX := zh (And.intro (Kd.R_reads' ho).2.2 hcs)
 have HL7 := zh (Kd.C_below HL.out.1 hb)
 have hXl : X.length ≤ 1000000 := by
  have h1 := hcs.le
  have h2 := HK.out.hn
  omega
 clear ho hcs hb hHeld
 refine sP 10 ?_
 refine sP 11 ?_
 refine z1e (by kernel_rfl) ?_
 obtain ⟨V, E, hchk⟩ := x4t n h b l p q L
 have HCK := zh hchk
 obtain ⟨K, hK⟩ : ∃ K, K = x1y h l p q (z3w (y0p X)) := ⟨_, rfl⟩
 have HKE := zh hK
 clear hchk hK
 have HBG : Hid (∀ W, Below w2.heap.size w2 W → Calls Tryz.prog 25 #[.agg #[.int .i64 n, .bool b, .slice A l.length c], .slice Ap p.length cp, .slice Aq q.length cq, .int .i64 h] W (z5z n b A c l Ap cp p Aq cq q 0 W)) := zh (fun W hW => z5b 1500 n b A c l Ap cp p Aq cq q h 0 W (Kd.C_below HA.out hW) HC.out.1 (Kd.C_below HP.out hW) (Kd.C_below HQ.out hW) (z5f HK.out.okp.1).1 (z5f HK.out.okp.2).1 (z5f HK.out.okp.1).2 (z5f HK.out.okp.2).2 (HK.out.begun b (by decide)))
 have HC1 : Hid (∀ W, Below w7.heap.size w7 W → Below w2.heap.size w2 W → Calls Tryz.prog 17 #[.agg #[.int .i64 n, .bool b, .slice A l.length c], .slice Ap p.length cp, .slice Aq q.length cq, .int .i64 h, .slice A1 L.length c1] W fun e w' => e = .returned (.tuple #[.int .i64 V, .int .i64 E]) ∧ Below W.heap.size W w') := zh (fun W hW h2 => (y6j n h b A c l Ap cp p Aq cq q A1 c1 L W HK.out (fun W1 h1 => HBG.out W1 (v6 h2 h1)) (Kd.C_below HA.out h2) (Kd.C_below HP.out h2) (Kd.C_below HQ.out h2) (Kd.C_below HL7.out hW) HL.out.2.2 HL.out.2.1 (by omega)).mono (fun e w' k => HCK.out _ _ _ k))
 have HC2 : Hid (∀ W, Below w7.heap.size w7 W → Below w2.heap.size w2 W → Calls Tryz.prog 11 #[.agg #[.int .i64 n, .bool b, .slice A l.length c], .slice Ap p.length cp, .slice Aq q.length cq, .int .i64 h, .slice A1 L.length c1] W fun e w' => e = .returned (.tuple #[.int .i64 V, .int .i64 E]) ∧ Below W.heap.size W w') := zh (fun W hW h2 => (y5n n h b A c l Ap cp p Aq cq q A1 c1 L W HK.out (Kd.C_below HA.out h2) (Kd.C_below HP.out h2) (Kd.C_below HQ.out h2) (Kd.C_below HL7.out hW) HL.out.2.1 (by omega)).mono (fun e w' k => HCK.out _ _ _ k))
 have HC3 : Hid (∀ W, Below w7.heap.size w7 W → Below w2.heap.size w2 W → Calls Tryz.prog 18 #[.agg #[.int .i64 n, .bool b, .slice A l.length c], .slice Ap p.length cp, .slice Aq q.length cq, .int .i64 h, .slice A1' X.length c1'] W fun e w' => e = .returned (.tuple #[.int .i64 K, .int .i64 0]) ∧ Below W.heap.size W w') := zh (fun W hW h2 => (x1x n h b A c l Ap cp p Aq cq q A1' c1' X W HK.out.place (by omega) (fun W1 h1 => HBG.out W1 (v6 h2 h1)) (Kd.C_below HA.out h2) (Kd.C_below HP.out h2) (Kd.C_below HQ.out h2) (Kd.C_below HX.out.1 hW) hXl).mono (fun e w' k => by rw [HKE.out]; exact k.rise HX.out.2 hn1 (by have := HH7.out; omega)))
 have HC4 : Hid (∀ W, Below w7.heap.size w7 W → Below w2.heap.size w2 W → Calls Tryz.prog 19 #[.agg #[.int .i64 n, .bool b, .slice A l.length c], .slice Ap p.length cp, .slice Aq q.length cq, .int .i64 h, .slice A1' X.length c1'] W fun e w' => e = .returned (.tuple #[.int .i64 K, .int .i64 0]) ∧ Below W.heap.size W w') := zh (fun W hW h2 => (y7v n h b A c l Ap cp p Aq cq q A1' c1' X W HK.out (Kd.C_below HA.out h2) (Kd.C_below HP.out h2) (Kd.C_below HQ.out h2) (Kd.C_below HX.out.1 hW) hXl).mono (fun e w' k => by rw [HKE.out]; exact (x0m HK.out.place (by have := HH7.out; omega) (HX.out.2.wf hn1 (by have := HH7.out; omega)) k).rise HX.out.2 hn1 (by have := HH7.out; omega)))
 have HU := zh (Below.refl w7.heap.size w7)
 have y0 : w7.cell? ⟨w2.heap.size, 0, none⟩ = some (.int .i64 n) := (y7 HT.out.1.2 0).trans rfl; have y1 : w7.cell? ⟨w2.heap.size, 1, none⟩ = some (.bool b) := (y7 HT.out.1.2 1).trans rfl; have y2 : w7.cell? ⟨w2.heap.size, 2, none⟩ = some (.slice A l.length c) := (y7 HT.out.1.2 2).trans rfl
 go_wp2_with (first
  |(go_at_call 17; go_loud ((with_reducible refine (HC1.out _ ?s1 ?s2).mono ?_); (case s1 => exact HU.out); (case s2 => exact HT.out.2.2); rintro e w9 ⟨rfl, hb⟩; have HU9 := zh (v6 HU.out hb); clear HU; have HU := HU9; clear HU9; have HN9 := zh (And.intro (HT.out.1.below hb) (And.intro (v6 HT.out.2.1 hb) (v6 HT.out.2.2 hb))); clear HT; have HT := HN9; clear HN9; clear y0 y1 y2 hb; have y0 : w9.cell? ⟨w2.heap.size, 0, none⟩ = some (.int .i64 n) := (y7 HT.out.1.2 0).trans rfl; have y1 : w9.cell? ⟨w2.heap.size, 1, none⟩ = some (.bool b) := (y7 HT.out.1.2 1).trans rfl; have y2 : w9.cell? ⟨w2.heap.size, 2, none⟩ = some (.slice A l.length c) := (y7 HT.out.1.2 2).trans rfl))
  |(go_at_call 11; go_loud ((with_reducible refine (HC2.out _ ?s1 ?s2).mono ?_); (case s1 => exact HU.out); (case s2 => exact HT.out.2.2); rintro e w9 ⟨rfl, hb⟩; have HU9 := zh (v6 HU.out hb); clear HU; have HU := HU9; clear HU9; have HN9 := zh (And.intro (HT.out.1.below hb) (And.intro (v6 HT.out.2.1 hb) (v6 HT.out.2.2 hb))); clear HT; have HT := HN9; clear HN9; clear y0 y1 y2 hb; have y0 : w9.cell? ⟨w2.heap.size, 0, none⟩ = some (.int .i64 n) := (y7 HT.out.1.2 0).trans rfl; have y1 : w9.cell? ⟨w2.heap.size, 1, none⟩ = some (.bool b) := (y7 HT.out.1.2 1).trans rfl; have y2 : w9.cell? ⟨w2.heap.size, 2, none⟩ = some (.slice A l.length c) := (y7 HT.out.1.2 2).trans rfl))
  |(go_at_call 18; go_loud ((with_reducible refine (HC3.out _ ?s1 ?s2).mono ?_); (case s1 => exact HU.out); (case s2 => exact HT.out.2.2); rintro e w9 ⟨rfl, hb⟩; have HU9 := zh (v6 HU.out hb); clear HU; have HU := HU9; clear HU9; have HN9 := zh (And.intro (HT.out.1.below hb) (And.intro (v6 HT.out.2.1 hb) (v6 HT.out.2.2 hb))); clear HT; have HT := HN9; clear HN9; clear y0 y1 y2 hb; have y0 : w9.cell? ⟨w2.heap.size, 0, none⟩ = some (.int .i64 n) := (y7 HT.out.1.2 0).trans rfl; have y1 : w9.cell? ⟨w2.heap.size, 1, none⟩ = some (.bool b) := (y7 HT.out.1.2 1).trans rfl; have y2 : w9.cell? ⟨w2.heap.size, 2, none⟩ = some (.slice A l.length c) := (y7 HT.out.1.2 2).trans rfl))
  |(go_at_call 19; go_loud ((with_reducible refine (HC4.out _ ?s1 ?s2).mono ?_); (case s1 => exact HU.out); (case s2 => exact HT.out.2.2); rintro e w9 ⟨rfl, hb⟩; have HU9 := zh (v6 HU.out hb); clear HU; have HU := HU9; clear HU9; have HN9 := zh (And.intro (HT.out.1.below hb) (And.intro (v6 HT.out.2.1 hb) (v6 HT.out.2.2 hb))); clear HT; have HT := HN9; clear HN9; clear y0 y1 y2 hb; have y0 : w9.cell? ⟨w2.heap.size, 0, none⟩ = some (.int .i64 n) := (y7 HT.out.1.2 0).trans rfl; have y1 : w9.cell? ⟨w2.heap.size, 1, none⟩ = some (.bool b) := (y7 HT.out.1.2 1).trans rfl; have y2 : w9.cell? ⟨w2.heap.size, 2, none⟩ = some (.slice A l.length c) := (y7 HT.out.1.2 2).trans rfl))
  |(go_at_call 7; (with_reducible refine (y6s _).mono ?_); rintro e w9 ⟨rfl, hb⟩; have HN9 := zh (And.intro (HT.out.1.below hb) (And.intro (v6 HT.out.2.1 hb) (v6 HT.out.2.2 hb))); clear HT; have HT := HN9; clear HN9; clear y0 y1 y2 hb))
 go_ret
 exact ⟨rfl, HT.out.2.1⟩
end
end Go.Proofs.YtcgdloldkcmhnaaGreat.H
