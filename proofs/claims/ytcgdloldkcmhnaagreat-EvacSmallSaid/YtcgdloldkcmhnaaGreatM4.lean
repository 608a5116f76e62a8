/- Texts of this proof, joined; what the statement doesn't need is left out. -/
import Derived.Test.YtcgdloldkcmhnaaGreatM3
set_option maxHeartbeats 8000000
set_option maxRecDepth 100000
section
namespace Go.Proofs.YtcgdloldkcmhnaaGreat.H
open Go Go.RowKit Go.Proofs.YtcgdloldkcmhnaaGreat.PrintC Go.Proofs.YtcgdloldkcmhnaaGreatW.PrintWords Go.Proofs.YtcgdloldkcmhnaaGreatW.PrintLast Go.Proofs.YtcgdloldkcmhnaaGreatW.PrintMore Go.Proofs.YtcgdloldkcmhnaaGreat.Flow
theorem y6q (n h : Nat) (b : Bool) (A : Option Addr) (c : Nat) (l : List Arc) (gp : Nat) (use : Arc → Bool) (keeps : Nat → Bool) (w : World) (hn : z4g n h l) (hlc : l.length ≤ c) (hr : Kd.C z3l w A l.length l)
  (hU : ∀ x W, x ∈ l → Below w.heap.size w W → Calls Tryz.prog 50 #[.pointer (some ⟨gp, 0, none⟩), .agg #[.int .i64 x.f0, .int .i64 x.f1, .int .i64 x.f2, .int .i64 x.f3]] W fun e w' => e = .returned (.bool (use x)) ∧ Below W.heap.size W w')
  (hK : ∀ (v : Nat) W, v < n → Below w.heap.size w W → Calls Tryz.prog 47 #[.pointer (some ⟨gp, 0, none⟩), .int .i64 v] W fun e w' => e = .returned (.bool (keeps v)) ∧ Below W.heap.size W w') :
  Calls Tryz.prog 60 #[.agg #[.int .i64 n, .bool b, .slice A l.length c], .int .i64 h, .func (.func 50) #[.pointer (some ⟨gp, 0, none⟩)] #[], .func (.func 47) #[.pointer (some ⟨gp, 0, none⟩)] #[]] w fun e w' => ∃ (gg : Nat), e = .returned (.pointer (some ⟨gg, 0, none⟩)) ∧ ∃ (v : Value) (B : MB), GrI w gg (((h + 1) * n : Nat) + 2 : Nat) n v (bA l use keeps n h (h + 1)).arcs B (bA l use keeps n h (h + 1)).md w' := by
 have HN := zh hn
 have HLC := zh hlc
 have HR := zh hr
 have HU := zh hU
 have HK := zh hK
 have hn1 := hn.n1
 have hh1 := hn.h1
 have hll := hn.ll
 have hM := hn.hn
 clear hn hlc hr hU hK
 obtain ⟨M, hM2⟩ : ∃ M : Nat, M = (h + 1) * n := ⟨_, rfl⟩
 rw [← hM2] at hM ⊢
 have e1 : IntKind.i64.wrap ((h : Int) + 1) = (h : Int) + 1 := IntWalk.i64_in _ (by omega)
 have e2 : IntKind.i64.wrap (((h : Int) + 1) * (n : Int)) = (M : Int) := by
  rw [hM2, Int.natCast_mul]
  exact IntWalk.i64_in _ (by have := Int.ofNat_le.2 hM; rw [hM2, Int.natCast_mul] at this; have h9 := Int.mul_nonneg (a := ((h : Int) + 1)) (b := (n : Int)) (by omega) (by omega); have h8 : ((h + 1 : Nat) : Int) = (h : Int) + 1 := rfl; rw [h8] at this; omega)
 have HM2 := zh hM2
 clear hM2
 have hmm := @run_makeMap Tryz.prog
 have hu := Tryz.underlying33
 have hu2 := Tryz.underlying125
 go_enter Tryz.func60, Tryz.ntmps60
 go_wp2
 have HP := zh (y3q w #[.int .i64 n, .bool b, .slice A l.length c] 33 ((M : Int) + 2) n _ rfl)
 generalize ((((((w.alloc (.cells #[.int .i64 n, .bool b, .slice A l.length c] 33)).alloc (.map #[] 0)).alloc (.map #[] 0)).alloc (.map #[] 0)).alloc (.map #[] 0)).alloc (.cells #[.int .i64 ((M : Int) + 2), .bool false, .slice none 0 0, .map (some (w.heap.size + 1)), .map (some (w.heap.size + 1 + 1)), .map (some (w.heap.size + 1 + 1 + 1)), .map (some (w.heap.size + 1 + 1 + 1 + 1)), .int .i64 n] 125)) = W0 at HP ⊢
 obtain ⟨B, HP⟩ : ∃ B, Hid (W0.heap[w.heap.size]? = some (.cells #[.int .i64 n, .bool b, .slice A l.length c] 33 (0, 0)) ∧ GrI w (w.heap.size + 1 + 1 + 1 + 1 + 1) ((M : Int) + 2) n (.slice none 0 0) [] B (BSt.md ⟨[], [], []⟩) W0) := ⟨_, HP⟩
 generalize w.heap.size + 1 + 1 + 1 + 1 + 1 = gg at HP ⊢
 clear hmm e2
 go_loopg [34] (h + 2) (fun k cv W => ∃ (a : Nat) (v : Value), a ≤ h + 1 ∧ cv = .int .i64 a ∧ k = h + 2 - a ∧ Hid (W.heap[w.heap.size]? = some (.cells #[.int .i64 n, .bool b, .slice A l.length c] 33 (0, 0)) ∧ GrI w gg ((M : Int) + 2) n v (bA l use keeps n h a).arcs B (bA l use keeps n h a).md W))
 case atStart => exact ⟨0, _, Nat.zero_le _, rfl, rfl, HP⟩
 case round =>
  obtain ⟨a, v, ha, rfl, rfl, HI⟩ := hrel
  clear HP
  by_cases hlt : a ≤ h
  ·have hlt2 : (a : Int) < (h : Int) + 1 := by omega
   have x0 : wr.cell? ⟨w.heap.size, 0, none⟩ = some (.int .i64 n) := (y7 HI.out.1 0).trans rfl
   have x2 : wr.cell? ⟨w.heap.size, 2, none⟩ = some (.slice A l.length c) := (y7 HI.out.1 2).trans rfl
   go_wp2
   go_loopg [40] (l.length + 1) (fun k iv W => ∃ (j : Nat) (v : Value), j ≤ l.length ∧ iv = .int .i64 j ∧ k = l.length + 1 - j ∧ Hid (W.heap[w.heap.size]? = some (.cells #[.int .i64 n, .bool b, .slice A l.length c] 33 (0, 0)) ∧ GrI w gg ((M : Int) + 2) n v (bM l use n h a (bA l use keeps n h a) j).arcs B (bM l use n h a (bA l use keeps n h a) j).md W))
   case atStart => exact ⟨0, v, Nat.zero_le _, rfl, rfl, HI⟩
   case round =>
    obtain ⟨j, v1, hj, rfl, rfl, HJ⟩ := hrel
    clear HI x0 x2
    by_cases hjl : j < l.length
    ·obtain ⟨ad, ea, y0, y1, y2, y3⟩ := z07 (Kd.C_below HR.out HJ.out.2.low) (j : Int) (by omega) (by omega)
     subst ea
     rw [Int.toNat_natCast] at y0 y1 y2 y3
     obtain ⟨x, hx⟩ : ∃ x, x = z0i l j := ⟨_, rfl⟩
     have hx2 : j7 l (j : Int) = x := by rw [hx]; rfl
     rw [hx2] at y0 y1 y2 y3
     have j0 : (0 : Int) ≤ (j : Int) := by omega
     have j1 : (j : Int) < (l.length : Int) := by omega
     have HX := zh hx
     clear hx hx2
     have hti : 0 ≤ x.f3 ∧ x.f3 ≤ 1048576 := by have := HN.out.time j hjl; rw [← HX.out] at this; exact this
     have hti0 := hti.1
     have hti1 := hti.2
     clear hti
     obtain ⟨s1, hs1⟩ : ∃ s1, s1 = bM l use n h a (bA l use keeps n h a) j := ⟨_, rfl⟩
     have HI0 : Hid (GrI w gg ((M : Int) + 2) n v1 s1.arcs B s1.md wr) := zh (by rw [hs1]; exact HJ.out.2)
     have HS1 := zh hs1
     clear hs1
     have HB0 := zh HJ.out.1
     by_cases htm : (a : Int) + x.f3 ≤ (h : Int)
     ·have htd : decide ((a : Int) + x.f3 ≤ (h : Int)) = true := by simpa using htm
      cases hux : use x with
      |true =>
       have HUX := zh hux
       clear hux
       go_wp2_with (go_at_call 50; refine (HU.out x _ ?s1 ?s2).mono ?_; (case s1 => rw [HX.out]; exact z3d hjl); (case s2 => exact y8 HI0.out.low _); rintro e w1 ⟨rfl, hb⟩; rw [HUX.out]; have HB1 := zh hb; clear hb)
       have HI1 := zh ((HI0.out.below (y8 (Below.refl _ _) _)).below HB1.out)
       have HV1 := zh (j5 (heap_alloc_new wr (.cells #[.int .i64 x.f0, .int .i64 x.f1, .int .i64 x.f2, .int .i64 x.f3] 104)) HB1.out)
       have HO1 := zh (Kd.R_lt HI0.out.ar)
       have HB2 := zh (j5 (j9 HB0.out _) HB1.out)
       generalize wr.heap.size = av at *
       have g3 := HI1.out.cells.2.2.2.1
       have v0 : w1.cell? ⟨av, 0, none⟩ = some (.int .i64 x.f0) := (y7 HV1.out 0).trans rfl
       have v1' : w1.cell? ⟨av, 1, none⟩ = some (.int .i64 x.f1) := (y7 HV1.out 1).trans rfl
       have v2 : w1.cell? ⟨av, 2, none⟩ = some (.int .i64 x.f2) := (y7 HV1.out 2).trans rfl
       have v3 : w1.cell? ⟨av, 3, none⟩ = some (.int .i64 x.f3) := (y7 HV1.out 3).trans rfl
       have hen := HN.out.ends j hjl
       rw [← HX.out] at hen
       have hf0 : 0 ≤ x.f0 ∧ x.f0 ≤ 1000 := by omega
       have hf1 : 0 ≤ x.f1 ∧ x.f1 ≤ 1000 := by omega
       have hn8 : (0 : Int) ≤ n ∧ (n : Int) ≤ 1000 := by omega
       have e3 : IntKind.i64.wrap ((a : Int) + x.f3) = (a : Int) + x.f3 := IntWalk.i64_in _ (by omega)
       have hale : 0 ≤ (a : Int) ∧ (a : Int) ≤ 10000 := by omega
       have hale2 : 0 ≤ (a : Int) + x.f3 ∧ (a : Int) + x.f3 ≤ 10000 := by omega
       have HF0 := zh hf0; have HF1 := zh hf1; have HN8 := zh hn8; have HA1 := zh hale; have HA2 := zh hale2
       have HNE : Hid (¬ (av = gg ∨ some av = v1.ownBlock)) := zh (by
        rintro (e9 | e9)
        ·exact z5h HV1.out HI1.out.bx (by decide) e9
        ·exact absurd (HO1.out av e9.symm) (by omega))
       have HSL : Hid (s1.le 14000) := zh (by
        have h7 := x2d l use n h a (y6r l use keeps n h a) j
        have h8 := HN.out.room hlt
        rw [← HS1.out] at h7
        exact ⟨by have := h7.1; omega, by have := h7.2.1; omega, by have := h7.2.2; omega⟩)
       clear hen hf0 hf1 hn8 hale hale2 y0 y1 y2 y3
       go_region_held3 (fun w' => w'.cell? ⟨gg, 3, none⟩ = some (.map (some B.m)) ∧ w'.cell? ⟨av, 0, none⟩ = some (.int .i64 x.f0) ∧ w'.cell? ⟨av, 1, none⟩ = some (.int .i64 x.f1) ∧ w'.cell? ⟨av, 2, none⟩ = some (.int .i64 x.f2) ∧ w'.cell? ⟨av, 3, none⟩ = some (.int .i64 x.f3)) (first | go_keep | exact HS9.out | exact HS10.out) ((first
        |(go_at_call 63; (with_reducible refine (z7j w gg ((M : Int) + 2) n v1 s1.arcs B s1.md _ _ _ ?s1 HN8.out ?s2 ?s3).mono ?_); (case s1 => exact HI1.out.below zD); (case s2 => first | exact HF0.out | exact HF1.out); (case s3 => first | exact HA1.out | exact HA2.out); rintro e w' ⟨rfl, rfl⟩)
        |(go_at_call 62; (with_reducible refine (z7m w gg ((M : Int) + 2) n v1 s1.arcs B s1.md _ _ _ _ ?s1 ?s2).mono ?_); (case s1 => exact HI1.out.below zD); (case s2 => have := HSL.out.1; omega); rintro e w2 ⟨rfl, v9, hI, hk, hs⟩; have hv9 := z0m (show _ from j5 HV1.out zD) hk HNE.out; have HS9 : Hid (w2.cell? ⟨gg, 3, none⟩ = some (.map (some B.m)) ∧ w2.cell? ⟨av, 0, none⟩ = some (.int .i64 x.f0) ∧ w2.cell? ⟨av, 1, none⟩ = some (.int .i64 x.f1) ∧ w2.cell? ⟨av, 2, none⟩ = some (.int .i64 x.f2) ∧ w2.cell? ⟨av, 3, none⟩ = some (.int .i64 x.f3)) := zh ⟨hI.cells.2.2.2.1, (y7 hv9 0).trans rfl, (y7 hv9 1).trans rfl, (y7 hv9 2).trans rfl, (y7 hv9 3).trans rfl⟩; obtain ⟨w3, hrun, hI3, hk3, hs3⟩ := hI.putm (show s1.mv.length ≤ 1000000 by have := HSL.out.2.1; omega) (x := (j : Int)) (y := (a : Int)) (i := (s1.arcs.length : Int)) (by omega) (by omega) (by have := HSL.out.1; omega); have hv10 := z0m hv9 hk3 (fun e => z0l hI.mm hv9 e.symm); have HS10 : Hid (w3.cell? ⟨gg, 3, none⟩ = some (.map (some B.m)) ∧ w3.cell? ⟨av, 0, none⟩ = some (.int .i64 x.f0) ∧ w3.cell? ⟨av, 1, none⟩ = some (.int .i64 x.f1) ∧ w3.cell? ⟨av, 2, none⟩ = some (.int .i64 x.f2) ∧ w3.cell? ⟨av, 3, none⟩ = some (.int .i64 x.f3)) := zh ⟨hI3.cells.2.2.2.1, (y7 hv10 0).trans rfl, (y7 hv10 1).trans rfl, (y7 hv10 2).trans rfl, (y7 hv10 3).trans rfl⟩; have HI3 := zh hI3; have HK3 := zh hk3; have HST3 := zh hs3; have HK2 := zh hk; have HST2 := zh hs; have HMM := zh hI.mm; clear hv10 hI3 hk3 hs3 hI hk hs hv9)))
       all_goals
        go_wp2
        go_roundg (l.length - j)
        case measure => omega
        case rel =>
         refine ⟨j + 1, v9, by omega, by go_num, by omega, zh ⟨?_, ?_⟩⟩
         ·have h6 := z0m (show _ from j5 HB2.out zD) HK2.out (fun e9 => e9.elim (fun e8 => z5h HB2.out HI1.out.bx (by decide) e8) (fun e8 => Kd.R_ne HI1.out.ar HB2.out (by decide) e8))
          exact z0m h6 HK3.out (fun e9 => z0l HMM.out h6 e9.symm)
         ·have h7 : bM l use n h a (bA l use keeps n h a) (j + 1) = ⟨s1.arcs ++ [⟨(a : Int) * n + x.f0, ((a : Int) + x.f3) * n + x.f1, x.f2, 0⟩], s1.mv ++ [((j : Int), (a : Int), (s1.arcs.length : Int))], s1.wt⟩ := by
           rw [bM, ← HS1.out, ← HX.out, if_pos ⟨htm, HUX.out⟩]
          rw [h7, x01]
          exact HI3.out
      |false =>
       have HUX := zh hux
       clear hux
       go_wp2_with (go_at_call 50; refine (HU.out x _ ?s1 ?s2).mono ?_; (case s1 => rw [HX.out]; exact z3d hjl); (case s2 => exact y8 HI0.out.low _); rintro e w1 ⟨rfl, hb⟩; rw [HUX.out]; have HB1 := zh hb; clear hb)
       go_roundg (l.length - j)
       case measure => omega
       case rel =>
        refine ⟨j + 1, v1, by omega, by go_num, by omega, zh ⟨j5 (j9 HB0.out _) HB1.out, ?_⟩⟩
        have h7 : bM l use n h a (bA l use keeps n h a) (j + 1) = s1 := by
         rw [bM, ← HS1.out, ← HX.out, if_neg (fun e => by have := HUX.out; rw [e.2] at this; cases this)]
        rw [h7]
        exact (HI0.out.below (y8 (Below.refl _ _) _)).below HB1.out
     ·have htd : decide ((a : Int) + x.f3 ≤ (h : Int)) = false := by simpa using htm
      go_wp2
      go_roundg (l.length - j)
      case measure => omega
      case rel =>
       refine ⟨j + 1, v1, by omega, by go_num, by omega, zh ⟨j9 HB0.out _, ?_⟩⟩
       have h7 : bM l use n h a (bA l use keeps n h a) (j + 1) = s1 := by
        rw [bM, ← HS1.out, ← HX.out, if_neg (fun e => by have := e.1; omega)]
       rw [h7]
       exact HI0.out.below (y8 (Below.refl _ _) _)
    ·have hj2 : ¬ (j : Int) < (l.length : Int) := by omega
     have e : j = l.length := by omega
     subst e
     have x0 : wr.cell? ⟨w.heap.size, 0, none⟩ = some (.int .i64 n) := (y7 HJ.out.1 0).trans rfl
     go_wp2
     go_loopg [83] (n + 1) (fun k iv W => ∃ (u : Nat) (v : Value), u ≤ n ∧ iv = .int .i64 u ∧ k = n + 1 - u ∧ Hid (W.heap[w.heap.size]? = some (.cells #[.int .i64 n, .bool b, .slice A l.length c] 33 (0, 0)) ∧ GrI w gg ((M : Int) + 2) n v (bW keeps n h a (bM l use n h a (bA l use keeps n h a) l.length) u).arcs B (bW keeps n h a (bM l use n h a (bA l use keeps n h a) l.length) u).md W))
     case atStart => exact ⟨0, v1, Nat.zero_le _, rfl, rfl, HJ⟩
     case round =>
      obtain ⟨u, v2, hu9, rfl, rfl, HV⟩ := hrel
      clear HJ x0
      by_cases hul : u < n
      ·have hul2 : (u : Int) < (n : Int) := by omega
       obtain ⟨s2, hs2⟩ : ∃ s2, s2 = bW keeps n h a (bM l use n h a (bA l use keeps n h a) l.length) u := ⟨_, rfl⟩
       have HI0 : Hid (GrI w gg ((M : Int) + 2) n v2 s2.arcs B s2.md wr) := zh (by rw [hs2]; exact HV.out.2)
       have HB0 := zh HV.out.1
       have HS2 := zh hs2
       clear hs2
       by_cases hah : (a : Int) < (h : Int)
       ·have hahd : decide ((a : Int) < (h : Int)) = true := by simpa using hah
        cases hkx : keeps u with
        |true =>
         have HKX := zh hkx
         clear hkx
         go_wp2_with (go_at_call 47; refine (HK.out u _ hul ?s2).mono ?_; (case s2 => exact HI0.out.low); rintro e w1 ⟨rfl, hb⟩; rw [HKX.out]; have HB1 := zh hb; clear hb)
         have HI1 := zh (HI0.out.below HB1.out)
         have HB2 := zh (j5 HB0.out HB1.out)
         have g4 := HI1.out.cells.2.2.2.2.1
         have hf0 : 0 ≤ (u : Int) ∧ (u : Int) ≤ 1000 := by omega
         have hn8 : (0 : Int) ≤ n ∧ (n : Int) ≤ 1000 := by omega
         have e3 : IntKind.i64.wrap ((a : Int) + 1) = (a : Int) + 1 := IntWalk.i64_in _ (by omega)
         have hale : 0 ≤ (a : Int) ∧ (a : Int) ≤ 10000 := by omega
         have hale2 : 0 ≤ (a : Int) + 1 ∧ (a : Int) + 1 ≤ 10000 := by omega
         have HF0 := zh hf0; have HN8 := zh hn8; have HA1 := zh hale; have HA2 := zh hale2
         have HSL : Hid (s2.le 14000) := zh (by
          have h7 := x4w keeps n h a (x2d l use n h a (y6r l use keeps n h a) l.length) u
          have h8 := HN.out.room hlt
          rw [← HS2.out] at h7
          exact ⟨by have := h7.1; omega, by have := h7.2.1; omega, by have := h7.2.2; omega⟩)
         clear hf0 hn8 hale hale2
         go_region_held3 (fun w' => w'.cell? ⟨gg, 4, none⟩ = some (.map (some B.w))) (first | go_keep | exact HS9.out | exact HS10.out) ((first
          |(go_at_call 63; (with_reducible refine (z7j w gg ((M : Int) + 2) n v2 s2.arcs B s2.md _ _ _ ?s1 HN8.out ?s2 ?s3).mono ?_); (case s1 => exact HI1.out.below zD); (case s2 => exact HF0.out); (case s3 => first | exact HA1.out | exact HA2.out); rintro e w' ⟨rfl, rfl⟩)
          |(go_at_call 62; (with_reducible refine (z7m w gg ((M : Int) + 2) n v2 s2.arcs B s2.md _ _ _ _ ?s1 ?s2).mono ?_); (case s1 => exact HI1.out.below zD); (case s2 => have := HSL.out.1; omega); rintro e w2 ⟨rfl, v9, hI, hk, hs⟩; have HS9 := zh hI.cells.2.2.2.2.1; obtain ⟨w3, hrun, hI3, hk3, hs3⟩ := hI.putw (show s2.wt.length ≤ 1000000 by have := HSL.out.2.2; omega) (x := (u : Int)) (y := (a : Int)) (i := (s2.arcs.length : Int)) (by omega) (by omega) (by have := HSL.out.1; omega); have HS10 := zh hI3.cells.2.2.2.2.1; have HI3 := zh hI3; have HK3 := zh hk3; have HK2 := zh hk; have HMM := zh hI.mw; clear hI3 hk3 hs3 hI hk hs)))
         all_goals
          go_wp2
          go_roundg (n - u)
          case measure => omega
          case rel =>
           refine ⟨u + 1, v9, by omega, by go_num, by omega, zh ⟨?_, ?_⟩⟩
           ·have h6 := z0m (show _ from j5 HB2.out zD) HK2.out (fun e9 => e9.elim (fun e8 => z5h HB2.out HI1.out.bx (by decide) e8) (fun e8 => Kd.R_ne HI1.out.ar HB2.out (by decide) e8))
            exact z0m h6 HK3.out (fun e9 => z0l HMM.out h6 e9.symm)
           ·have h7 : bW keeps n h a (bM l use n h a (bA l use keeps n h a) l.length) (u + 1) = ⟨s2.arcs ++ [⟨(a : Int) * n + u, ((a : Int) + 1) * n + u, 1099511627776, 0⟩], s2.mv, s2.wt ++ [((u : Int), (a : Int), (s2.arcs.length : Int))]⟩ := by
             rw [bW, ← HS2.out, if_pos ⟨hah, HKX.out⟩]
            rw [h7, x00]
            exact HI3.out
        |false =>
         have HKX := zh hkx
         clear hkx
         go_wp2_with (go_at_call 47; refine (HK.out u _ hul ?s2).mono ?_; (case s2 => exact HI0.out.low); rintro e w1 ⟨rfl, hb⟩; rw [HKX.out]; have HB1 := zh hb; clear hb)
         go_roundg (n - u)
         case measure => omega
         case rel =>
          refine ⟨u + 1, v2, by omega, by go_num, by omega, zh ⟨j5 HB0.out HB1.out, ?_⟩⟩
          have h7 : bW keeps n h a (bM l use n h a (bA l use keeps n h a) l.length) (u + 1) = s2 := by
           rw [bW, ← HS2.out, if_neg (fun e => by have := HKX.out; rw [e.2] at this; cases this)]
          rw [h7]
          exact HI0.out.below HB1.out
       ·have hahd : decide ((a : Int) < (h : Int)) = false := by simpa using hah
        go_wp2
        go_roundg (n - u)
        case measure => omega
        case rel =>
         refine ⟨u + 1, v2, by omega, by go_num, by omega, zh ⟨HB0.out, ?_⟩⟩
         have h7 : bW keeps n h a (bM l use n h a (bA l use keeps n h a) l.length) (u + 1) = s2 := by
          rw [bW, ← HS2.out, if_neg (fun e => by have := e.1; omega)]
         rw [h7]
         exact HI0.out
      ·have hul2 : ¬ (u : Int) < (n : Int) := by omega
       have e : u = n := by omega
       subst e
       go_wp2
       go_roundg (h + 1 - a)
       case measure => omega
       case rel => exact ⟨a + 1, v2, by omega, by go_num, by omega, HV⟩
  ·have hlt2 : ¬ (a : Int) < (h : Int) + 1 := by omega
   have e : a = h + 1 := by omega
   subst e
   go_wp2
   go_ret
   exact ⟨gg, rfl, v, B, HI.out.2⟩
end Go.Proofs.YtcgdloldkcmhnaaGreat.H
end
section
namespace Go.Proofs.YtcgdloldkcmhnaaGreat.PrintE
open Go.Proofs.YtcgdloldkcmhnaaGreat.PrintC Go.RowKit Go.Proofs.YtcgdloldkcmhnaaGreat.H Go.Proofs.YtcgdloldkcmhnaaGreatW.PrintWords Go.Proofs.YtcgdloldkcmhnaaGreatW.PrintLast Go.Proofs.YtcgdloldkcmhnaaGreatW.PrintMore
attribute [local go_sem] z2m z2l z3t z3s z2d z2c z21 z20
set_option linter.unusedVariables false
set_option linter.unusedSimpArgs false
structure S59 where
 f0 : Int
 f1 : Int
def z59 : S59 := ⟨(0 : Int), (0 : Int)⟩
def k59 : Kd S59 := Kd.iso (Kd.pair (Kd.int .i64) (Kd.int .i64)) (fun x : S59 => (x.f0, x.f1))
theorem x1a {w : World} {x : S59} {cs : List Value} (h : k59.K w x cs) : cs = [.int .i64 x.f0, .int .i64 x.f1] := by
 obtain ⟨_, _, rfl, rfl, rfl⟩ := h
 exact rfl
theorem y8k {w : World} {base : Nat} {ok : Nat → Prop} {x : S59} {cs : List Value} (h : k59.M w base ok x cs) : cs = [.int .i64 x.f0, .int .i64 x.f1] := by
 obtain ⟨_, _, rfl, rfl, rfl⟩ := h
 exact rfl
theorem x50 (w : World) (x : S59)  : k59.K w x [.int .i64 x.f0, .int .i64 x.f1] := ⟨[.int .i64 x.f0], [.int .i64 x.f1], rfl, rfl, rfl⟩
theorem z8i (w : World) (base : Nat) (ok : Nat → Prop) (x : S59)  : k59.M w base ok x [.int .i64 x.f0, .int .i64 x.f1] := ⟨[.int .i64 x.f0], [.int .i64 x.f1], rfl, rfl, rfl⟩
def z0q (xs : List S59) (i : Int) : S59 := xs.getD i.toNat z59
theorem z2y {w : World} {A : Option Addr} {n : Nat} {xs : List S59} (h : Kd.C k59 w A n xs) (i : Int) (h0 : 0 ≤ i) (h1 : i < n) : ∃ ad , A = some ad ∧ w.cell? (ad.add (i.toNat * 2)) = some (.int .i64 (z0q xs i).f0) ∧ w.cell? ⟨(ad.add (i.toNat * 2)).block, (ad.add (i.toNat * 2)).off + 1, none⟩ = some (.int .i64 (z0q xs i).f1) := by
 obtain ⟨ad, c, e, _, hK, hc0⟩ := Kd.C_get h z59 i h0 h1
 have hc : ∀ j u, c[j]? = some u → w.cell? (ad.add (i.toNat * 2 + j)) = some u := hc0
 obtain rfl := x1a hK
 exact ⟨ad, e, hc 0 _ rfl, by rw [← z1o _ _ 1 (by omega)]; exact hc 1 _ rfl⟩
structure x2n where
 f0 : Int
 f1 : Int
def z110 : x2n := ⟨(0 : Int), (0 : Int)⟩
def x6x : Kd x2n := Kd.iso (Kd.pair (Kd.int .i64) (Kd.int .i64)) (fun x : x2n => (x.f0, x.f1))
theorem y8n {w : World} {x : x2n} {cs : List Value} (h : x6x.K w x cs) : cs = [.int .i64 x.f0, .int .i64 x.f1] := by
 obtain ⟨_, _, rfl, rfl, rfl⟩ := h
 exact rfl
theorem y4n (w : World) (base : Nat) (ok : Nat → Prop) (x : x2n)  : x6x.M w base ok x [.int .i64 x.f0, .int .i64 x.f1] := ⟨[.int .i64 x.f0], [.int .i64 x.f1], rfl, rfl, rfl⟩
def z4s (xs : List x2n) (i : Int) : x2n := xs.getD i.toNat z110
theorem y3r {w : World} {A : Option Addr} {n : Nat} {xs : List x2n} (h : Kd.C x6x w A n xs) (i : Int) (h0 : 0 ≤ i) (h1 : i < n) : ∃ ad , A = some ad ∧ w.cell? (ad.add (i.toNat * 2)) = some (.int .i64 (z4s xs i).f0) ∧ w.cell? ⟨(ad.add (i.toNat * 2)).block, (ad.add (i.toNat * 2)).off + 1, none⟩ = some (.int .i64 (z4s xs i).f1) := by
 obtain ⟨ad, c, e, _, hK, hc0⟩ := Kd.C_get h z110 i h0 h1
 have hc : ∀ j u, c[j]? = some u → w.cell? (ad.add (i.toNat * 2 + j)) = some u := hc0
 obtain rfl := y8n hK
 exact ⟨ad, e, hc 0 _ rfl, by rw [← z1o _ _ 1 (by omega)]; exact hc 1 _ rfl⟩
structure S76 where
 f0 : Int
 f1 : Int
 f2 : Int
def z76 : S76 := ⟨(0 : Int), (0 : Int), (0 : Int)⟩
def k76 : Kd S76 := Kd.iso (Kd.pair (Kd.int .i64) (Kd.pair (Kd.int .i64) (Kd.int .i64))) (fun x : S76 => (x.f0, x.f1, x.f2))
theorem x09 {w : World} {x : S76} {cs : List Value} (h : k76.K w x cs) : cs = [.int .i64 x.f0, .int .i64 x.f1, .int .i64 x.f2] := by
 obtain ⟨_, _, rfl, rfl, ⟨_, _, rfl, rfl, rfl⟩⟩ := h
 exact rfl
theorem z4v {w : World} {base : Nat} {ok : Nat → Prop} {x : S76} {cs : List Value} (h : k76.M w base ok x cs) : cs = [.int .i64 x.f0, .int .i64 x.f1, .int .i64 x.f2] := by
 obtain ⟨_, _, rfl, rfl, ⟨_, _, rfl, rfl, rfl⟩⟩ := h
 exact rfl
theorem z8h (w : World) (base : Nat) (ok : Nat → Prop) (x : S76)  : k76.M w base ok x [.int .i64 x.f0, .int .i64 x.f1, .int .i64 x.f2] := ⟨[.int .i64 x.f0], [.int .i64 x.f1, .int .i64 x.f2], rfl, rfl, ⟨[.int .i64 x.f1], [.int .i64 x.f2], rfl, rfl, rfl⟩⟩
def z3h (xs : List S76) (i : Int) : S76 := xs.getD i.toNat z76
theorem z4j {w : World} {A : Option Addr} {n : Nat} {xs : List S76} (h : Kd.C k76 w A n xs) (i : Int) (h0 : 0 ≤ i) (h1 : i < n) : ∃ ad , A = some ad ∧ w.cell? (ad.add (i.toNat * 3)) = some (.int .i64 (z3h xs i).f0) ∧ w.cell? ⟨(ad.add (i.toNat * 3)).block, (ad.add (i.toNat * 3)).off + 1, none⟩ = some (.int .i64 (z3h xs i).f1) ∧ w.cell? ⟨(ad.add (i.toNat * 3)).block, (ad.add (i.toNat * 3)).off + 2, none⟩ = some (.int .i64 (z3h xs i).f2) := by
 obtain ⟨ad, c, e, _, hK, hc0⟩ := Kd.C_get h z76 i h0 h1
 have hc : ∀ j u, c[j]? = some u → w.cell? (ad.add (i.toNat * 3 + j)) = some u := hc0
 obtain rfl := x09 hK
 exact ⟨ad, e, hc 0 _ rfl, by rw [← z1o _ _ 1 (by omega)]; exact hc 1 _ rfl, by rw [← z1o _ _ 2 (by omega)]; exact hc 2 _ rfl⟩
structure x2m where
 f0 : Int
 f1 : Int
 f2 : Int
 f3 : Int
def z112 : x2m := ⟨(0 : Int), (0 : Int), (0 : Int), (0 : Int)⟩
def x5i : Kd x2m := Kd.iso (Kd.pair (Kd.int .u8) (Kd.pair (Kd.int .u8) (Kd.pair (Kd.int .u8) (Kd.int .u8)))) (fun x : x2m => (x.f0, x.f1, x.f2, x.f3))
theorem y8m {w : World} {x : x2m} {cs : List Value} (h : x5i.K w x cs) : cs = [.int .u8 x.f0, .int .u8 x.f1, .int .u8 x.f2, .int .u8 x.f3] := by
 obtain ⟨_, _, rfl, rfl, ⟨_, _, rfl, rfl, ⟨_, _, rfl, rfl, rfl⟩⟩⟩ := h
 exact rfl
theorem x4i (w : World) (x : x2m)  : x5i.K w x [.int .u8 x.f0, .int .u8 x.f1, .int .u8 x.f2, .int .u8 x.f3] := ⟨[.int .u8 x.f0], [.int .u8 x.f1, .int .u8 x.f2, .int .u8 x.f3], rfl, rfl, ⟨[.int .u8 x.f1], [.int .u8 x.f2, .int .u8 x.f3], rfl, rfl, ⟨[.int .u8 x.f2], [.int .u8 x.f3], rfl, rfl, rfl⟩⟩⟩
def z3r (xs : List x2m) (i : Int) : x2m := xs.getD i.toNat z112
theorem x42 {w : World} {A : Option Addr} {n : Nat} {xs : List x2m} (h : Kd.C x5i w A n xs) (i : Int) (h0 : 0 ≤ i) (h1 : i < n) : ∃ ad , A = some ad ∧ w.cell? (ad.add (i.toNat * 4)) = some (.int .u8 (z3r xs i).f0) ∧ w.cell? ⟨(ad.add (i.toNat * 4)).block, (ad.add (i.toNat * 4)).off + 1, none⟩ = some (.int .u8 (z3r xs i).f1) ∧ w.cell? ⟨(ad.add (i.toNat * 4)).block, (ad.add (i.toNat * 4)).off + 2, none⟩ = some (.int .u8 (z3r xs i).f2) ∧ w.cell? ⟨(ad.add (i.toNat * 4)).block, (ad.add (i.toNat * 4)).off + 3, none⟩ = some (.int .u8 (z3r xs i).f3) := by
 obtain ⟨ad, c, e, _, hK, hc0⟩ := Kd.C_get h z112 i h0 h1
 have hc : ∀ j u, c[j]? = some u → w.cell? (ad.add (i.toNat * 4 + j)) = some u := hc0
 obtain rfl := y8m hK
 exact ⟨ad, e, hc 0 _ rfl, by rw [← z1o _ _ 1 (by omega)]; exact hc 1 _ rfl, by rw [← z1o _ _ 2 (by omega)]; exact hc 2 _ rfl, by rw [← z1o _ _ 3 (by omega)]; exact hc 3 _ rfl⟩
structure x2o where
 f0 : Int
 f1 : Int
 f2 : Int
def z107 : x2o := ⟨(0 : Int), (0 : Int), (0 : Int)⟩
def x51 : Kd x2o := Kd.iso (Kd.pair (Kd.int .u8) (Kd.pair (Kd.int .u8) (Kd.int .u8))) (fun x : x2o => (x.f0, x.f1, x.f2))
theorem y8o {w : World} {x : x2o} {cs : List Value} (h : x51.K w x cs) : cs = [.int .u8 x.f0, .int .u8 x.f1, .int .u8 x.f2] := by
 obtain ⟨_, _, rfl, rfl, ⟨_, _, rfl, rfl, rfl⟩⟩ := h
 exact rfl
theorem x4j (w : World) (x : x2o)  : x51.K w x [.int .u8 x.f0, .int .u8 x.f1, .int .u8 x.f2] := ⟨[.int .u8 x.f0], [.int .u8 x.f1, .int .u8 x.f2], rfl, rfl, ⟨[.int .u8 x.f1], [.int .u8 x.f2], rfl, rfl, rfl⟩⟩
def z8a (xs : List x2o) (i : Int) : x2o := xs.getD i.toNat z107
theorem x43 {w : World} {A : Option Addr} {n : Nat} {xs : List x2o} (h : Kd.C x51 w A n xs) (i : Int) (h0 : 0 ≤ i) (h1 : i < n) : ∃ ad , A = some ad ∧ w.cell? (ad.add (i.toNat * 3)) = some (.int .u8 (z8a xs i).f0) ∧ w.cell? ⟨(ad.add (i.toNat * 3)).block, (ad.add (i.toNat * 3)).off + 1, none⟩ = some (.int .u8 (z8a xs i).f1) ∧ w.cell? ⟨(ad.add (i.toNat * 3)).block, (ad.add (i.toNat * 3)).off + 2, none⟩ = some (.int .u8 (z8a xs i).f2) := by
 obtain ⟨ad, c, e, _, hK, hc0⟩ := Kd.C_get h z107 i h0 h1
 have hc : ∀ j u, c[j]? = some u → w.cell? (ad.add (i.toNat * 3 + j)) = some u := hc0
 obtain rfl := y8o hK
 exact ⟨ad, e, hc 0 _ rfl, by rw [← z1o _ _ 1 (by omega)]; exact hc 1 _ rfl, by rw [← z1o _ _ 2 (by omega)]; exact hc 2 _ rfl⟩
end Go.Proofs.YtcgdloldkcmhnaaGreat.PrintE
end
section
namespace Go.Proofs.YtcgdloldkcmhnaaGreat.H
open Go Go.RowKit Go.Proofs.YtcgdloldkcmhnaaGreat.PrintC Go.Proofs.YtcgdloldkcmhnaaGreat.PrintE Go.Proofs.YtcgdloldkcmhnaaGreatW.PrintWords Go.Proofs.YtcgdloldkcmhnaaGreatW.PrintLast Go.Proofs.YtcgdloldkcmhnaaGreatW.PrintMore Go.Proofs.YtcgdloldkcmhnaaGreat.Flow
set_option linter.unusedVariables false
set_option linter.unusedSimpArgs false
abbrev Grp := S59
abbrev z1v := k59
def z0f (n : Int) (b : Bool) (A : Option Addr) (ll c : Nat) (Ap : Option Addr) (lp cp : Nat) (Aq : Option Addr) (lq cq : Nat) (bh br : Nat) : Array Value :=
 #[.int .i64 n, .bool b, .slice A ll c, .slice Ap lp cp, .slice Aq lq cq, .map (some bh), .map (some br)]
structure PlI (gp : Nat) (xs : Array Value) (bh br : Nat) (kh kr : Nat) (Dh Dr : DataW Unit) (W : World) : Prop where
 bx : W.heap[gp]? = some (.cells xs 115 (0, 0))
 mh : z2k W 3 bh kh Dh
 mr : z2k W 3 br kr Dr
 ne : bh ≠ br
section
variable {gp : Nat} {xs : Array Value} {bh br kh kr : Nat} {Dh Dr : DataW Unit} {W W1 : World}
theorem PlI.below (h : PlI gp xs bh br kh kr Dh Dr W) (hb : Below W.heap.size W W1) : PlI gp xs bh br kh kr Dh Dr W1 :=
 ⟨j5 h.bx hb, z0z h.mh (hb.block _ h.mh.lt), z0z h.mr (hb.block _ h.mr.lt), h.ne⟩
end
def z1a (D : DataW Unit) (v : Int) : Bool := Maps.has D (.int .i64 v)
theorem y4j {W : World} {b k : Nat} {D : DataW Unit} (h : z2k W 3 b k D) {v : Int} (hv : (Lit.int .i64 v).wf = true) :
  ∃ c : Int, (Instr.lookup 113 (.map (some b)) (.int .i64 v) true).run Tryz.prog W = .ok (.tuple #[.int .i64 c, .bool (z1a D v)]) W := by
 obtain ⟨u, ps, hrun, hR⟩ := h.look_ok z9k Tryz.underlying113 (z6i W) (plainElem_int Tryz.underlying3 (by decide)) (Maps.keyOf_int_mk Tryz.underlying3 hv)
 obtain ⟨c, rfl, _⟩ := plainElem_int_inv Tryz.underlying3 hR
 exact ⟨c, hrun⟩
theorem z3e {W0 : World} {b k : Nat} {D : DataW Unit} (h : z2k W0 3 b k D) {v : Int} (hv : (Lit.int .i64 v).wf = true) :
  ∃ c : Int, ∀ W, Below W0.heap.size W0 W → (Instr.lookup 113 (.map (some b)) (.int .i64 v) true).run Tryz.prog W = .ok (.tuple #[.int .i64 c, .bool (z1a D v)]) W := by
 obtain ⟨q, hq⟩ : ∃ q : Int, D.atKey (.int .i64 v) (.lit (.int .i64 0)) = .lit (.int .i64 q) := by
  obtain ⟨u, ps, hrun, hR⟩ := h.look_ok z9k Tryz.underlying113 (z6i W0) (plainElem_int Tryz.underlying3 (by decide)) (Maps.keyOf_int_mk Tryz.underlying3 hv)
  obtain ⟨c, rfl, hc, _⟩ := plainElem_int_inv Tryz.underlying3 hR
  simp only [Prod.mk.injEq] at hc
  exact ⟨c, hc.1⟩
 refine ⟨q, fun W hb => ?_⟩
 obtain ⟨u, ps, hrun, hR⟩ := (z0z h (hb.block _ h.lt)).look_ok z9k Tryz.underlying113 (z6i W) (plainElem_int Tryz.underlying3 (by decide)) (Maps.keyOf_int_mk Tryz.underlying3 hv)
 obtain ⟨c, rfl, hc, _⟩ := plainElem_int_inv Tryz.underlying3 hR
 simp only [Prod.mk.injEq] at hc
 rw [hq] at hc
 rw [(Lit.int.inj (DataW.lit.inj hc.1)).2]
 exact hrun
theorem y4f (gp : Nat) (n : Int) (b : Bool) (A : Option Addr) (ll c : Nat) (Ap : Option Addr) (lp cp : Nat) (Aq : Option Addr) (lq cq : Nat) (bh br kh kr : Nat) (Dh Dr : DataW Unit) (v : Int) (w : World) (h : PlI gp (z0f n b A ll c Ap lp cp Aq lq cq bh br) bh br kh kr Dh Dr w) (hv : (Lit.int .i64 v).wf = true) :
  Calls Tryz.prog 79 #[.pointer (some ⟨gp, 0, none⟩), .int .i64 v] w fun e w' => e = .returned (.bool (z1a Dh v || z1a Dr v)) ∧ w' = w := by
 have x5 : w.cell? ⟨gp, 5, none⟩ = some (.map (some bh)) := (y7 h.bx 5).trans rfl
 have x6 : w.cell? ⟨gp, 6, none⟩ = some (.map (some br)) := (y7 h.bx 6).trans rfl
 obtain ⟨c1, h1⟩ := y4j h.mh hv
 obtain ⟨c2, h2⟩ := y4j h.mr hv
 have hu := Tryz.underlying115
 clear h
 cases ha : z1a Dh v <;> cases hb : z1a Dr v <;> rw [ha] at h1 <;> rw [hb] at h2 <;> clear ha hb
 all_goals
  go_enter Tryz.func79, Tryz.ntmps79
  go_wp2
  go_ret
  exact ⟨rfl, rfl⟩
theorem z9y (gp : Nat) (n : Int) (b : Bool) (A : Option Addr) (ll c : Nat) (Ap : Option Addr) (lp cp : Nat) (Aq : Option Addr) (lq cq : Nat) (bh br kh kr : Nat) (Dh Dr : DataW Unit) (x : Arc) (w : World) (h : PlI gp (z0f n b A ll c Ap lp cp Aq lq cq bh br) bh br kh kr Dh Dr w) (hv : (Lit.int .i64 x.f0).wf = true) :
  Calls Tryz.prog 50 #[.pointer (some ⟨gp, 0, none⟩), .agg #[.int .i64 x.f0, .int .i64 x.f1, .int .i64 x.f2, .int .i64 x.f3]] w fun e w' => e = .returned (.bool (!z1a Dr x.f0)) ∧ Below w.heap.size w w' := by
 have HI := zh h
 have HV := zh hv
 have x6 : w.cell? ⟨gp, 6, none⟩ = some (.map (some br)) := (y7 h.bx 6).trans rfl
 have hu := Tryz.underlying115
 have hu2 := Tryz.underlying104
 clear h hv
 obtain ⟨hr, hhr⟩ : ∃ hr, hr = z1a Dr x.f0 := ⟨_, rfl⟩
 obtain ⟨c2, h2⟩ : ∃ c2 : Int, ∀ W, Below w.heap.size w W → (Instr.lookup 113 (.map (some br)) (.int .i64 x.f0) true).run Tryz.prog W = .ok (.tuple #[.int .i64 c2, .bool hr]) W := by
  rw [hhr]
  exact z3e HI.out.mr HV.out
 rw [← hhr]
 clear hhr
 have H2 := zh h2
 clear h2
 go_enter Tryz.func50, Tryz.ntmps50
 go_wp2
 have y0 : (w.alloc (.cells #[.int .i64 x.f0, .int .i64 x.f1, .int .i64 x.f2, .int .i64 x.f3] 104)).cell? ⟨w.heap.size, 0, none⟩ = some (.int .i64 x.f0) := (y7 (heap_alloc_new _ _) 0).trans rfl
 have z0 := H2.out (w.alloc (.cells #[.int .i64 x.f0, .int .i64 x.f1, .int .i64 x.f2, .int .i64 x.f3] 104)) (by repeat (first | (with_reducible exact Below.refl _ _) | apply t7 | apply y8))
 have y6 : (w.alloc (.cells #[.int .i64 x.f0, .int .i64 x.f1, .int .i64 x.f2, .int .i64 x.f3] 104)).cell? ⟨gp, 6, none⟩ = some (.map (some br)) := j6 (y8 (Below.refl _ _) _) x6
 go_region_held3 (fun w' => w'.cell? ⟨gp, 6, none⟩ = some (.map (some br)) ∧ w'.cell? ⟨w.heap.size, 0, none⟩ = some (.int .i64 x.f0) ∧ (Instr.lookup 113 (.map (some br)) (.int .i64 x.f0) true).run Tryz.prog w' = .ok (.tuple #[.int .i64 c2, .bool hr]) w') (first | exact ⟨y6, y0, H2.out _ (t7 (y8 (Below.refl _ _) _))⟩ | exact ⟨y6, y0, H2.out _ (y8 (Below.refl _ _) _)⟩ | go_keep) (fail)
 all_goals
  go_wp2
  go_ret
  exact ⟨rfl, t7 (y8 (Below.refl _ _) _)⟩
theorem z48 (gp : Nat) (n : Int) (b : Bool) (A : Option Addr) (ll c : Nat) (Ap : Option Addr) (lp cp : Nat) (Aq : Option Addr) (lq cq : Nat) (bh br kh kr : Nat) (Dh Dr : DataW Unit) (v : Int) (w : World) (h : PlI gp (z0f n b A ll c Ap lp cp Aq lq cq bh br) bh br kh kr Dh Dr w) (hv : (Lit.int .i64 v).wf = true) :
  Calls Tryz.prog 47 #[.pointer (some ⟨gp, 0, none⟩), .int .i64 v] w fun e w' => e = .returned (.bool (b || (z1a Dh v || z1a Dr v))) ∧ w' = w := by
 have x1 : w.cell? ⟨gp, 1, none⟩ = some (.bool b) := (y7 h.bx 1).trans rfl
 have hu := Tryz.underlying115
 have HI := zh h
 have HV := zh hv
 clear h hv
 cases b with
 |true =>
  go_enter Tryz.func47, Tryz.ntmps47
  go_wp2
  go_ret
  exact ⟨rfl, rfl⟩
 |false =>
  go_enter Tryz.func47, Tryz.ntmps47
  go_wp2_with (go_at_call 79; (with_reducible refine (y4f gp n false A ll c Ap lp cp Aq lq cq bh br kh kr Dh Dr v _ HI.out HV.out).mono ?_); rintro e w' ⟨rfl, rfl⟩)
  go_ret
  exact ⟨by simp, rfl⟩
section
variable {gp : Nat} {xs : Array Value} {bh br kh kr : Nat} {Dh Dr : DataW Unit} {W W1 : World}
theorem PlI.puth (h : PlI gp xs bh br kh kr Dh Dr W) {D : DataW Unit} (hm : z2k W1 3 bh (kh + 1) D) (h3 : W.grownBy W1 (some bh)) : PlI gp xs bh br (kh + 1) kr D Dr W1 ∧ z0g W W1 (fun k => k = bh) ∧ z2j W W1 := by
 have hne : ∀ {g : Nat}, g ≠ bh → g < W.heap.size → W1.heap[g]? = W.heap[g]? := fun {g} hg hlt => h3.block g hlt (fun e => hg (by injection e))
 exact ⟨⟨(hne (z0l h.mh h.bx).symm (z0c h.bx)).trans h.bx, hm, z0z h.mr (hne h.ne.symm h.mr.lt), h.ne⟩, ⟨h3.size, fun k hk hn => h3.block k hk (fun e => hn (by injection e))⟩, h3.os, h3.tape, h3.output⟩
theorem PlI.putr (h : PlI gp xs bh br kh kr Dh Dr W) {D : DataW Unit} (hm : z2k W1 3 br (kr + 1) D) (h3 : W.grownBy W1 (some br)) : PlI gp xs bh br kh (kr + 1) Dh D W1 ∧ z0g W W1 (fun k => k = br) ∧ z2j W W1 := by
 have hne : ∀ {g : Nat}, g ≠ br → g < W.heap.size → W1.heap[g]? = W.heap[g]? := fun {g} hg hlt => h3.block g hlt (fun e => hg (by injection e))
 exact ⟨⟨(hne (z0l h.mr h.bx).symm (z0c h.bx)).trans h.bx, z0z h.mh (hne h.ne h.mh.lt), hm, h.ne⟩, ⟨h3.size, fun k hk hn => h3.block k hk (fun e => hn (by injection e))⟩, h3.os, h3.tape, h3.output⟩
theorem z9l {w W W1 : World} {b : Nat} (h : z0g w W (fun k => k = b)) (hs : z2j w W) (h3 : W.grownBy W1 (some b)) : z0g w W1 (fun k => k = b) ∧ z2j w W1 :=
 ⟨z0g.of_grown h3 h (fun k e => .inl (by injection e with e; exact e.symm)), hs.then_ ⟨h3.os, h3.tape, h3.output⟩⟩
end
def z2a (n : Int) (Dh Dr : DataW Unit) (g : Grp) : Int :=
 if g.f0 < 0 ∨ n ≤ g.f0 ∨ g.f1 < 0 ∨ z1a Dh g.f0 = true ∨ z1a Dr g.f0 = true then 210 else if 1048576 < g.f1 then 2 else 0
def TookH (gp : Nat) (xs : Array Value) (bh br kh kr : Nat) (Dh Dr : DataW Unit) (n : Int) (g : Grp) (w : World) (e : Ending) (w' : World) : Prop :=
 e = .returned (.int .i64 (z2a n Dh Dr g)) ∧ (z2a n Dh Dr g = 0 → PlI gp xs bh br (kh + 1) kr (Dh.put (.int .i64 g.f0) (.lit (.int .i64 g.f1))) Dr w') ∧ z0g w w' (fun k => k = bh) ∧ z2j w w'
def TookR (gp : Nat) (xs : Array Value) (bh br kh kr : Nat) (Dh Dr : DataW Unit) (n : Int) (g : Grp) (w : World) (e : Ending) (w' : World) : Prop :=
 e = .returned (.int .i64 (z2a n Dh Dr g)) ∧ (z2a n Dh Dr g = 0 → PlI gp xs bh br kh (kr + 1) Dh (Dr.put (.int .i64 g.f0) (.lit (.int .i64 g.f1))) w') ∧ z0g w w' (fun k => k = br) ∧ z2j w w'
theorem z52 {n : Int} {Dh Dr : DataW Unit} {g : Grp} {b1 b2 b3 b4 b5 : Bool} (e1 : decide (g.f0 < 0) = b1) (e2 : decide (n ≤ g.f0) = b2) (e3 : decide (g.f1 < 0) = b3) (e4 : b4 = z1a Dh g.f0) (e5 : b5 = z1a Dr g.f0) (hb : (b1 || b2 || b3 || b4 || b5) = true) : z2a n Dh Dr g = 210 := by
 unfold z2a
 refine if_pos ?_
 rw [← e4, ← e5]
 subst e1 e2 e3
 simp only [Bool.or_eq_true, decide_eq_true_eq] at hb
 rcases hb with (((h | h) | h) | h) | h
 ·exact .inl h
 ·exact .inr (.inl h)
 ·exact .inr (.inr (.inl h))
 ·exact .inr (.inr (.inr (.inl h)))
 ·exact .inr (.inr (.inr (.inr h)))
theorem z43 {n : Int} {Dh Dr : DataW Unit} {g : Grp} (e1 : decide (g.f0 < 0) = false) (e2 : decide (n ≤ g.f0) = false) (e3 : decide (g.f1 < 0) = false) (e4 : false = z1a Dh g.f0) (e5 : false = z1a Dr g.f0) : z2a n Dh Dr g = if 1048576 < g.f1 then 2 else 0 := by
 unfold z2a
 refine if_neg ?_
 rw [← e4, ← e5]
 simp only [decide_eq_false_iff_not] at e1 e2 e3
 rintro (h | h | h | h | h)
 ·exact e1 h
 ·exact e2 h
 ·exact e3 h
 ·cases h
 ·cases h
theorem y49 (gp : Nat) (n : Int) (b : Bool) (A : Option Addr) (ll c : Nat) (Ap : Option Addr) (lp cp : Nat) (Aq : Option Addr) (lq cq : Nat) (bh br kh kr : Nat) (Dh Dr : DataW Unit) (g : Grp) (w : World) (h : PlI gp (z0f n b A ll c Ap lp cp Aq lq cq bh br) bh br kh kr Dh Dr w) (hk : kh ≤ 1000000) (hv : (Lit.int .i64 g.f0).wf = true) (hv2 : (Lit.int .i64 g.f1).wf = true) :
  Calls Tryz.prog 83 #[.pointer (some ⟨gp, 0, none⟩), .agg #[.int .i64 g.f0, .int .i64 g.f1], .map (some bh)] w (TookH gp (z0f n b A ll c Ap lp cp Aq lq cq bh br) bh br kh kr Dh Dr n g w) := by
 have HI := zh h
 have HV := zh hv
 have HV2 := zh hv2
 have HK := zh hk
 have x0 : w.cell? ⟨gp, 0, none⟩ = some (.int .i64 n) := (y7 h.bx 0).trans rfl
 have x5 : w.cell? ⟨gp, 5, none⟩ = some (.map (some bh)) := (y7 h.bx 5).trans rfl
 have x6 : w.cell? ⟨gp, 6, none⟩ = some (.map (some br)) := (y7 h.bx 6).trans rfl
 have hu := Tryz.underlying115
 have hu2 := Tryz.underlying59
 have hu3 := Tryz.underlying33
 clear h hv hv2 hk
 obtain ⟨ha, hha⟩ : ∃ ha, ha = z1a Dh g.f0 := ⟨_, rfl⟩
 obtain ⟨hr, hhr⟩ : ∃ hr, hr = z1a Dr g.f0 := ⟨_, rfl⟩
 obtain ⟨c1, h1⟩ : ∃ c1 : Int, ∀ W, Below w.heap.size w W → (Instr.lookup 113 (.map (some bh)) (.int .i64 g.f0) true).run Tryz.prog W = .ok (.tuple #[.int .i64 c1, .bool ha]) W := by
  rw [hha]
  exact z3e HI.out.mh HV.out
 obtain ⟨c2, h2⟩ : ∃ c2 : Int, ∀ W, Below w.heap.size w W → (Instr.lookup 113 (.map (some br)) (.int .i64 g.f0) true).run Tryz.prog W = .ok (.tuple #[.int .i64 c2, .bool hr]) W := by
  rw [hhr]
  exact z3e HI.out.mr HV.out
 have H1 := zh h1
 have H2 := zh h2
 have HHA := zh hha
 have HHR := zh hhr
 clear h1 h2 hha hhr
 go_enter Tryz.func83, Tryz.ntmps83
 go_wp2
 have HB0 := zh (y8 (Below.refl w.heap.size w) (.cells #[.int .i64 g.f0, .int .i64 g.f1] 59))
 have HG0 := zh (heap_alloc_new w (.cells #[.int .i64 g.f0, .int .i64 g.f1] 59))
 obtain ⟨W0, hW0⟩ : ∃ W0, W0 = w.alloc (.cells #[.int .i64 g.f0, .int .i64 g.f1] 59) := ⟨_, rfl⟩
 rw [← hW0] at HB0 HG0 ⊢
 clear hW0
 have y0 : W0.cell? ⟨w.heap.size, 0, none⟩ = some (.int .i64 g.f0) := (y7 HG0.out 0).trans rfl
 have y1 : W0.cell? ⟨w.heap.size, 1, none⟩ = some (.int .i64 g.f1) := (y7 HG0.out 1).trans rfl
 have z0 : W0.cell? ⟨gp, 0, none⟩ = some (.int .i64 n) := j6 HB0.out x0
 have z5 : W0.cell? ⟨gp, 5, none⟩ = some (.map (some bh)) := j6 HB0.out x5
 have z6 : W0.cell? ⟨gp, 6, none⟩ = some (.map (some br)) := j6 HB0.out x6
 clear x0 x5 x6
 go_region_held3 (fun w' => w'.cell? ⟨gp, 5, none⟩ = some (.map (some bh)) ∧ w'.cell? ⟨w.heap.size, 0, none⟩ = some (.int .i64 g.f0) ∧ (Instr.lookup 113 (.map (some bh)) (.int .i64 g.f0) true).run Tryz.prog w' = .ok (.tuple #[.int .i64 c1, .bool ha]) w') (first | exact ⟨z5, y0, H1.out _ (t7 HB0.out)⟩ | exact ⟨z5, y0, H1.out _ HB0.out⟩ | go_keep) (fail)
 go_wp2
 go_region_held3 (fun w' => w'.cell? ⟨gp, 6, none⟩ = some (.map (some br)) ∧ w'.cell? ⟨w.heap.size, 0, none⟩ = some (.int .i64 g.f0) ∧ (Instr.lookup 113 (.map (some br)) (.int .i64 g.f0) true).run Tryz.prog w' = .ok (.tuple #[.int .i64 c2, .bool hr]) w') (first | exact ⟨z6, y0, H2.out _ (t7 (t7 HB0.out))⟩ | exact ⟨z6, y0, H2.out _ (t7 HB0.out)⟩ | go_keep) (fail)
 go_wp2
 have hb2 : Below w.heap.size w W0.drew.drew := t7 (t7 HB0.out)
 have HB2 := zh hb2
 have v0 : W0.drew.drew.cell? ⟨w.heap.size, 0, none⟩ = some (.int .i64 g.f0) := y0
 have v1 : W0.drew.drew.cell? ⟨w.heap.size, 1, none⟩ = some (.int .i64 g.f1) := y1
 have v2 : W0.drew.drew.cell? ⟨gp, 0, none⟩ = some (.int .i64 n) := z0
 clear hb2 y0 y1 z0 z5 z6 HG0 HB0
 generalize W0.drew.drew = W2 at HB2 v0 v1 v2 ⊢
 have HI2 := zh (HI.out.below HB2.out)
 have HBK : Hid (∀ m, z0g w (W2.drewN m) (fun k => k = bh) ∧ z2j w (W2.drewN m)) := zh (fun m => ⟨z0g.of_below (j8 HB2.out m) _, z2j.of_below (j8 HB2.out m)⟩)
 clear HB2
 cases hd1 : decide (g.f0 < 0) <;> cases hd2 : decide (n ≤ g.f0) <;> cases hd3 : decide (g.f1 < 0) <;> cases ha <;> cases hr
 all_goals
  go_quiet (fail)
  go_wp2_with (at_mapUpdate; refine wpList_mapUpdate_own _ rfl _ _ _ 113 rfl 3 3 z9k Tryz.underlying113 _ bh kh Dh rfl ((HI2.out.below (j8 (Below.refl _ _) _)).mh) (by have := HK.out; unfold maxLen; omega) _ _ (.int .i64 g.f0) rfl rfl (Maps.keyOf_int_mk Tryz.underlying3 HV.out) _ [] (plainElem_int Tryz.underlying3 HV2.out) ?_; intro w9 hown hgrow; have HO9 := zh hown; have HG9 := zh hgrow; clear hown hgrow)
 all_goals first
  |(go_ret; exact ⟨congrArg (fun z => Ending.returned (.int .i64 z)) (z52 hd1 hd2 hd3 HHA.out HHR.out rfl).symm, fun e => absurd ((z52 hd1 hd2 hd3 HHA.out HHR.out rfl).symm.trans e) (by decide), HBK.out _⟩)
  |skip
 ·have hgt : 1048576 < g.f1 := by assumption
  have hc : z2a n Dh Dr g = 2 := by rw [z43 hd1 hd2 hd3 HHA.out HHR.out, if_pos hgt]
  go_ret
  exact ⟨congrArg (fun z => Ending.returned (.int .i64 z)) hc.symm, fun e => absurd (hc.symm.trans e) (by decide), HBK.out _⟩
 ·have hgt : g.f1 ≤ 1048576 := by assumption
  have hc : z2a n Dh Dr g = 0 := by rw [z43 hd1 hd2 hd3 HHA.out HHR.out, if_neg (by omega)]
  go_ret
  exact ⟨congrArg (fun z => Ending.returned (.int .i64 z)) hc.symm, fun _ => ((HI2.out.below (j8 (Below.refl _ _) _)).puth HO9.out HG9.out).1, z9l (HBK.out _).1 (HBK.out _).2 HG9.out⟩
theorem y48 (gp : Nat) (n : Int) (b : Bool) (A : Option Addr) (ll c : Nat) (Ap : Option Addr) (lp cp : Nat) (Aq : Option Addr) (lq cq : Nat) (bh br kh kr : Nat) (Dh Dr : DataW Unit) (g : Grp) (w : World) (h : PlI gp (z0f n b A ll c Ap lp cp Aq lq cq bh br) bh br kh kr Dh Dr w) (hk : kr ≤ 1000000) (hv : (Lit.int .i64 g.f0).wf = true) (hv2 : (Lit.int .i64 g.f1).wf = true) :
  Calls Tryz.prog 83 #[.pointer (some ⟨gp, 0, none⟩), .agg #[.int .i64 g.f0, .int .i64 g.f1], .map (some br)] w (TookR gp (z0f n b A ll c Ap lp cp Aq lq cq bh br) bh br kh kr Dh Dr n g w) := by
 have HI := zh h
 have HV := zh hv
 have HV2 := zh hv2
 have HK := zh hk
 have x0 : w.cell? ⟨gp, 0, none⟩ = some (.int .i64 n) := (y7 h.bx 0).trans rfl
 have x5 : w.cell? ⟨gp, 5, none⟩ = some (.map (some bh)) := (y7 h.bx 5).trans rfl
 have x6 : w.cell? ⟨gp, 6, none⟩ = some (.map (some br)) := (y7 h.bx 6).trans rfl
 have hu := Tryz.underlying115
 have hu2 := Tryz.underlying59
 have hu3 := Tryz.underlying33
 clear h hv hv2 hk
 obtain ⟨ha, hha⟩ : ∃ ha, ha = z1a Dh g.f0 := ⟨_, rfl⟩
 obtain ⟨hr, hhr⟩ : ∃ hr, hr = z1a Dr g.f0 := ⟨_, rfl⟩
 obtain ⟨c1, h1⟩ : ∃ c1 : Int, ∀ W, Below w.heap.size w W → (Instr.lookup 113 (.map (some bh)) (.int .i64 g.f0) true).run Tryz.prog W = .ok (.tuple #[.int .i64 c1, .bool ha]) W := by
  rw [hha]
  exact z3e HI.out.mh HV.out
 obtain ⟨c2, h2⟩ : ∃ c2 : Int, ∀ W, Below w.heap.size w W → (Instr.lookup 113 (.map (some br)) (.int .i64 g.f0) true).run Tryz.prog W = .ok (.tuple #[.int .i64 c2, .bool hr]) W := by
  rw [hhr]
  exact z3e HI.out.mr HV.out
 have H1 := zh h1
 have H2 := zh h2
 have HHA := zh hha
 have HHR := zh hhr
 clear h1 h2 hha hhr
 go_enter Tryz.func83, Tryz.ntmps83
 go_wp2
 have HB0 := zh (y8 (Below.refl w.heap.size w) (.cells #[.int .i64 g.f0, .int .i64 g.f1] 59))
 have HG0 := zh (heap_alloc_new w (.cells #[.int .i64 g.f0, .int .i64 g.f1] 59))
 obtain ⟨W0, hW0⟩ : ∃ W0, W0 = w.alloc (.cells #[.int .i64 g.f0, .int .i64 g.f1] 59) := ⟨_, rfl⟩
 rw [← hW0] at HB0 HG0 ⊢
 clear hW0
 have y0 : W0.cell? ⟨w.heap.size, 0, none⟩ = some (.int .i64 g.f0) := (y7 HG0.out 0).trans rfl
 have y1 : W0.cell? ⟨w.heap.size, 1, none⟩ = some (.int .i64 g.f1) := (y7 HG0.out 1).trans rfl
 have z0 : W0.cell? ⟨gp, 0, none⟩ = some (.int .i64 n) := j6 HB0.out x0
 have z5 : W0.cell? ⟨gp, 5, none⟩ = some (.map (some bh)) := j6 HB0.out x5
 have z6 : W0.cell? ⟨gp, 6, none⟩ = some (.map (some br)) := j6 HB0.out x6
 clear x0 x5 x6
 go_region_held3 (fun w' => w'.cell? ⟨gp, 5, none⟩ = some (.map (some bh)) ∧ w'.cell? ⟨w.heap.size, 0, none⟩ = some (.int .i64 g.f0) ∧ (Instr.lookup 113 (.map (some bh)) (.int .i64 g.f0) true).run Tryz.prog w' = .ok (.tuple #[.int .i64 c1, .bool ha]) w') (first | exact ⟨z5, y0, H1.out _ (t7 HB0.out)⟩ | exact ⟨z5, y0, H1.out _ HB0.out⟩ | go_keep) (fail)
 go_wp2
 go_region_held3 (fun w' => w'.cell? ⟨gp, 6, none⟩ = some (.map (some br)) ∧ w'.cell? ⟨w.heap.size, 0, none⟩ = some (.int .i64 g.f0) ∧ (Instr.lookup 113 (.map (some br)) (.int .i64 g.f0) true).run Tryz.prog w' = .ok (.tuple #[.int .i64 c2, .bool hr]) w') (first | exact ⟨z6, y0, H2.out _ (t7 (t7 HB0.out))⟩ | exact ⟨z6, y0, H2.out _ (t7 HB0.out)⟩ | go_keep) (fail)
 go_wp2
 have hb2 : Below w.heap.size w W0.drew.drew := t7 (t7 HB0.out)
 have HB2 := zh hb2
 have v0 : W0.drew.drew.cell? ⟨w.heap.size, 0, none⟩ = some (.int .i64 g.f0) := y0
 have v1 : W0.drew.drew.cell? ⟨w.heap.size, 1, none⟩ = some (.int .i64 g.f1) := y1
 have v2 : W0.drew.drew.cell? ⟨gp, 0, none⟩ = some (.int .i64 n) := z0
 clear hb2 y0 y1 z0 z5 z6 HG0 HB0
 generalize W0.drew.drew = W2 at HB2 v0 v1 v2 ⊢
 have HI2 := zh (HI.out.below HB2.out)
 have HBK : Hid (∀ m, z0g w (W2.drewN m) (fun k => k = br) ∧ z2j w (W2.drewN m)) := zh (fun m => ⟨z0g.of_below (j8 HB2.out m) _, z2j.of_below (j8 HB2.out m)⟩)
 clear HB2
 cases hd1 : decide (g.f0 < 0) <;> cases hd2 : decide (n ≤ g.f0) <;> cases hd3 : decide (g.f1 < 0) <;> cases ha <;> cases hr
 all_goals
  go_quiet (fail)
  go_wp2_with (at_mapUpdate; refine wpList_mapUpdate_own _ rfl _ _ _ 113 rfl 3 3 z9k Tryz.underlying113 _ br kr Dr rfl ((HI2.out.below (j8 (Below.refl _ _) _)).mr) (by have := HK.out; unfold maxLen; omega) _ _ (.int .i64 g.f0) rfl rfl (Maps.keyOf_int_mk Tryz.underlying3 HV.out) _ [] (plainElem_int Tryz.underlying3 HV2.out) ?_; intro w9 hown hgrow; have HO9 := zh hown; have HG9 := zh hgrow; clear hown hgrow)
 all_goals first
  |(go_ret; exact ⟨congrArg (fun z => Ending.returned (.int .i64 z)) (z52 hd1 hd2 hd3 HHA.out HHR.out rfl).symm, fun e => absurd ((z52 hd1 hd2 hd3 HHA.out HHR.out rfl).symm.trans e) (by decide), HBK.out _⟩)
  |skip
 ·have hgt : 1048576 < g.f1 := by assumption
  have hc : z2a n Dh Dr g = 2 := by rw [z43 hd1 hd2 hd3 HHA.out HHR.out, if_pos hgt]
  go_ret
  exact ⟨congrArg (fun z => Ending.returned (.int .i64 z)) hc.symm, fun e => absurd (hc.symm.trans e) (by decide), HBK.out _⟩
 ·have hgt : g.f1 ≤ 1048576 := by assumption
  have hc : z2a n Dh Dr g = 0 := by rw [z43 hd1 hd2 hd3 HHA.out HHR.out, if_neg (by omega)]
  go_ret
  exact ⟨congrArg (fun z => Ending.returned (.int .i64 z)) hc.symm, fun _ => ((HI2.out.below (j8 (Below.refl _ _) _)).putr HO9.out HG9.out).1, z9l (HBK.out _).1 (HBK.out _).2 HG9.out⟩
def y2z (D : DataW Unit) (g : Grp) : DataW Unit := D.put (.int .i64 g.f0) (.lit (.int .i64 g.f1))
def z0a (l : List Grp) : DataW Unit := l.foldl y2z (.map [])
theorem z9g (l : List Grp) (g : Grp) : z0a (l ++ [g]) = y2z (z0a l) g := by unfold z0a; rw [List.foldl_append]; rfl
def thF (n : Int) (Dr : DataW Unit) : DataW Unit → List Grp → Int
 |_, [] => 0
 |D, g :: l => if z2a n D Dr g = 0 then thF n Dr (y2z D g) l else z2a n D Dr g
def trF (n : Int) (Dh : DataW Unit) : DataW Unit → List Grp → Int
 |_, [] => 0
 |D, g :: l => if z2a n Dh D g = 0 then trF n Dh (y2z D g) l else z2a n Dh D g
def z1m (n : Int) (p q : List Grp) : Int :=
 if p.length = 0 ∨ q.length = 0 then 210 else if thF n (.map []) (.map []) p = 0 then trF n (z0a p) (.map []) q else thF n (.map []) (.map []) p
theorem y32 (n : Int) (Dh Dr : DataW Unit) (g : Grp) : z2a n Dh Dr g = 210 ∨ z2a n Dh Dr g = 2 ∨ z2a n Dh Dr g = 0 := by
 unfold z2a
 split
 ·exact .inl rfl
 ·split
  ·exact .inr (.inl rfl)
  ·exact .inr (.inr rfl)
def z6w (l : List Grp) (i : Nat) : Grp := z0q l (i : Int)
theorem y4s {l : List Grp} {i : Nat} (h : i < l.length) : l.drop i = z6w l i :: l.drop (i + 1) := by
 rw [List.drop_eq_getElem_cons h]
 unfold z6w z0q
 rw [Int.toNat_natCast, List.getD_eq_getElem?_getD, List.getElem?_eq_getElem h]
 rfl
theorem z38 {l : List Grp} {i : Nat} (h : i < l.length) : l.take (i + 1) = l.take i ++ [z6w l i] := by
 rw [List.take_add_one, List.getElem?_eq_getElem h]
 unfold z6w z0q
 rw [Int.toNat_natCast, List.getD_eq_getElem?_getD, List.getElem?_eq_getElem h]
 rfl
theorem z2s {l : List Grp} {i : Nat} (h : i < l.length) : z6w l i ∈ l := by
 unfold z6w z0q
 rw [Int.toNat_natCast, List.getD_eq_getElem?_getD, List.getElem?_eq_getElem h]
 exact List.getElem_mem h
def y16 (l : List Grp) : Prop := ∀ g, g ∈ l → (Lit.int .i64 g.f0).wf = true ∧ (Lit.int .i64 g.f1).wf = true
def x2t (gp : Nat) (xs : Array Value) (bh br : Nat) (n : Int) (p q : List Grp) (w : World) (e : Ending) (w' : World) : Prop :=
 e = .returned (.int .i64 (z1m n p q)) ∧ (z1m n p q = 0 → PlI gp xs bh br p.length q.length (z0a p) (z0a q) w') ∧ z0g w w' (fun k => k = bh ∨ k = br) ∧ z2j w w'
theorem z4a (gp : Nat) (n : Int) (b : Bool) (A : Option Addr) (ll c : Nat) (Ap : Option Addr) (cp : Nat) (Aq : Option Addr) (cq : Nat) (bh br : Nat) (p q : List Grp) (w : World) (h : PlI gp (z0f n b A ll c Ap p.length cp Aq q.length cq bh br) bh br 0 0 (.map []) (.map []) w)
  (hp : Kd.C z1v w Ap p.length p) (hq : Kd.C z1v w Aq q.length q) (wp : y16 p) (wq : y16 q) (lp : p.length ≤ 1000000) (lq : q.length ≤ 1000000)
  (hsep : ∀ W, z0g w W (fun k => k = bh ∨ k = br) → Kd.C z1v W Ap p.length p ∧ Kd.C z1v W Aq q.length q) :
  Calls Tryz.prog 57 #[.pointer (some ⟨gp, 0, none⟩)] w (x2t gp (z0f n b A ll c Ap p.length cp Aq q.length cq bh br) bh br n p q w) := by
 have HI := zh h
 have HWP := zh wp
 have HWQ := zh wq
 have HSEP := zh hsep
 have HLP := zh lp
 have HLQ := zh lq
 have x3 : w.cell? ⟨gp, 3, none⟩ = some (.slice Ap p.length cp) := (y7 h.bx 3).trans rfl
 have x4 : w.cell? ⟨gp, 4, none⟩ = some (.slice Aq q.length cq) := (y7 h.bx 4).trans rfl
 have hu := Tryz.underlying115
 have hu2 := Tryz.underlying59
 clear h hp hq wp wq hsep
 by_cases hp0 : p.length = 0
 ·have hc : Hid (z1m n p q = 210) := zh (if_pos (.inl hp0))
  rw [hp0] at x3
  clear hp0
  go_enter Tryz.func57, Tryz.ntmps57
  go_wp2
  go_ret
  exact ⟨congrArg (fun z => Ending.returned (.int .i64 z)) hc.out.symm, fun e => absurd (hc.out.symm.trans e) (by decide), z0g.refl _ _, rfl, rfl, rfl⟩
 ·by_cases hq0 : q.length = 0
  ·have hc : Hid (z1m n p q = 210) := zh (if_pos (.inr hq0))
   rw [hq0] at x4
   have hpd : ((p.length : Int) == 0) = false := beq_eq_false_iff_ne.2 (by omega)
   clear hq0 hp0
   go_enter Tryz.func57, Tryz.ntmps57
   go_wp2
   go_ret
   exact ⟨congrArg (fun z => Ending.returned (.int .i64 z)) hc.out.symm, fun e => absurd (hc.out.symm.trans e) (by decide), z0g.refl _ _, rfl, rfl, rfl⟩
  ·have hpd : ((p.length : Int) == 0) = false := beq_eq_false_iff_ne.2 (by omega)
   have hqd : ((q.length : Int) == 0) = false := beq_eq_false_iff_ne.2 (by omega)
   have HC0 : Hid (z1m n p q = if thF n (.map []) (.map []) p = 0 then trF n (z0a p) (.map []) q else thF n (.map []) (.map []) p) := zh (if_neg (fun e => e.elim hp0 hq0))
   clear hp0 hq0
   go_enter Tryz.func57, Tryz.ntmps57
   go_wp2
   clear hpd hqd
   go_loopg [28] (p.length + 1) (fun k iv W => ∃ i : Nat, i ≤ p.length ∧ iv = .int .i64 i ∧ k = p.length + 1 - i ∧ Hid (PlI gp (z0f n b A ll c Ap p.length cp Aq q.length cq bh br) bh br i 0 (z0a (p.take i)) (.map []) W ∧ z0g w W (fun k => k = bh ∨ k = br) ∧ z2j w W ∧ thF n (.map []) (.map []) p = thF n (.map []) (z0a (p.take i)) (p.drop i)))
   case atStart => exact ⟨0, Nat.zero_le _, rfl, rfl, zh ⟨HI.out, z0g.refl _ _, ⟨rfl, rfl, rfl⟩, rfl⟩⟩
   case round =>
    obtain ⟨i, hi, rfl, rfl, HL⟩ := hrel
    clear x3 x4
    by_cases hlt : i < p.length
    ·have i0 : (0 : Int) ≤ (i : Int) := by omega
     have i1 : (i : Int) < (p.length : Int) := by omega
     obtain ⟨ad, ea, y0, y1⟩ := z2y (HSEP.out _ HL.out.2.1).1 (i : Int) i0 i1
     subst ea
     rw [Int.toNat_natCast] at y0 y1
     obtain ⟨g, hg⟩ : ∃ g, g = z6w p i := ⟨_, rfl⟩
     have hg2 : z0q p (i : Int) = g := by rw [hg]; rfl
     rw [hg2] at y0 y1
     have HG := zh hg
     have HI0 := zh HL.out.1
     have hth : thF n (.map []) (.map []) p = if z2a n (z0a (p.take i)) (.map []) g = 0 then thF n (.map []) (y2z (z0a (p.take i)) g) (p.drop (i + 1)) else z2a n (z0a (p.take i)) (.map []) g := by
      rw [HL.out.2.2.2, y4s hlt, ← hg]
      rfl
     have HTH := zh hth
     have HWG := zh (show (Lit.int .i64 g.f0).wf = true ∧ (Lit.int .i64 g.f1).wf = true by rw [hg]; exact HWP.out _ (z2s hlt))
     clear hg hg2 hth
     have x5 : wr.cell? ⟨gp, 5, none⟩ = some (.map (some bh)) := (y7 HI0.out.bx 5).trans rfl
     obtain ⟨D, hD⟩ : ∃ D, D = z0a (p.take i) := ⟨_, rfl⟩
     rw [← hD] at HTH HI0
     have HD := zh hD
     clear hD
     go_wp2
     have HV0 := zh (heap_alloc_new wr (.cells #[.int .i64 g.f0, .int .i64 g.f1] 59))
     have HB0 := zh (y8 (Below.refl wr.heap.size wr) (.cells #[.int .i64 g.f0, .int .i64 g.f1] 59))
     obtain ⟨W0, hW0⟩ : ∃ W0, W0 = wr.alloc (.cells #[.int .i64 g.f0, .int .i64 g.f1] 59) := ⟨_, rfl⟩
     rw [← hW0] at HV0 HB0 ⊢
     clear hW0
     have v0 : W0.cell? ⟨wr.heap.size, 0, none⟩ = some (.int .i64 g.f0) := (y7 HV0.out 0).trans rfl
     have v1 : W0.cell? ⟨wr.heap.size, 1, none⟩ = some (.int .i64 g.f1) := (y7 HV0.out 1).trans rfl
     have v5 : W0.cell? ⟨gp, 5, none⟩ = some (.map (some bh)) := j6 HB0.out x5
     have HI1 := zh (HI0.out.below HB0.out)
     have HKP := zh (HL.out.2.1.below HB0.out)
     have HST := zh (HL.out.2.2.1.then_ (z2j.of_below HB0.out))
     generalize wr.heap.size = av at *
     clear x5 y0 y1
     have HKK : Hid (i ≤ 1000000) := zh (by have := HLP.out; omega)
     rcases y32 n D (.map []) g with hc | hc | hc
     all_goals
      have HC := zh hc
      clear hc
      go_region_held3 (fun w' => w'.cell? ⟨av, 0, none⟩ = some (.int .i64 g.f0) ∧ w'.cell? ⟨av, 1, none⟩ = some (.int .i64 g.f1) ∧ w'.cell? ⟨gp, 5, none⟩ = some (.map (some bh))) (first | exact HS9.out | go_keep) ((go_at_call 83; (with_reducible refine (y49 gp n b A ll c (some ad) p.length cp Aq q.length cq bh br i 0 D (.map []) g _ ?s1 HKK.out HWG.out.1 HWG.out.2).mono ?_); (case s1 => exact HI1.out.below zD); rintro e w2 ⟨rfl, hP, hk, hs⟩; rw [HC.out]; have hv9 := z0m (show _ from j5 HV0.out zD) hk (fun e9 => z0l HI1.out.mh HV0.out e9.symm); have hx9 := z0m (HI1.out.below zD).bx hk (fun e9 => z0l HI1.out.mh HI1.out.bx e9.symm); have HS9 : Hid (w2.cell? ⟨av, 0, none⟩ = some (.int .i64 g.f0) ∧ w2.cell? ⟨av, 1, none⟩ = some (.int .i64 g.f1) ∧ w2.cell? ⟨gp, 5, none⟩ = some (.map (some bh))) := zh ⟨(y7 hv9 0).trans rfl, (y7 hv9 1).trans rfl, (y7 hx9 5).trans rfl⟩; have HP := zh hP; have HK2 := zh (((HKP.out.below (show Below W0.heap.size W0 _ by repeat (first | (with_reducible exact Below.refl _ _) | apply t7))).then_ hk (fun k e9 => .inl (.inl e9)))); have HS2 := zh ((HST.out.then_ (z2j.of_below (show Below W0.heap.size W0 _ by repeat (first | (with_reducible exact Below.refl _ _) | apply t7)))).then_ hs); clear hP hk hs hv9 hx9))
      go_wp2
     ·have e1 : thF n (.map []) (.map []) p = 210 := by rw [HTH.out, HC.out]; rfl
      have e2 : z1m n p q = 210 := by rw [HC0.out, e1]; rfl
      go_ret
      exact ⟨congrArg (fun z => Ending.returned (.int .i64 z)) e2.symm, fun e => absurd (e2.symm.trans e) (by decide), HK2.out, HS2.out⟩
     ·have e1 : thF n (.map []) (.map []) p = 2 := by rw [HTH.out, HC.out]; rfl
      have e2 : z1m n p q = 2 := by rw [HC0.out, e1]; rfl
      go_ret
      exact ⟨congrArg (fun z => Ending.returned (.int .i64 z)) e2.symm, fun e => absurd (e2.symm.trans e) (by decide), HK2.out, HS2.out⟩
     ·go_roundg (p.length - i)
      case measure => omega
      case rel =>
       have e1 : z0a (p.take (i + 1)) = y2z D g := by rw [z38 hlt, z9g, ← HG.out, HD.out]
       refine ⟨i + 1, by omega, by go_num, by omega, zh ⟨?_, HK2.out, HS2.out, ?_⟩⟩
       ·rw [e1]
        exact HP.out HC.out
       ·rw [HTH.out, if_pos HC.out, e1]
    ·have e : i = p.length := by omega
     subst e
     have hI := HL.out.1
     have hth := HL.out.2.2.2
     rw [List.take_length] at hI hth
     rw [List.drop_length] at hth
     have HTH : Hid (thF n (.map []) (.map []) p = 0) := zh hth
     have HC1 : Hid (z1m n p q = trF n (z0a p) (.map []) q) := zh (by rw [HC0.out, HTH.out, if_pos rfl])
     have HI0 := zh hI
     have HKP := zh HL.out.2.1
     have HST := zh HL.out.2.2.1
     have x4 : wr.cell? ⟨gp, 4, none⟩ = some (.slice Aq q.length cq) := (y7 hI.bx 4).trans rfl
     clear hI hth HL
     go_wp2
     go_loopg [48] (q.length + 1) (fun k iv W => ∃ i : Nat, i ≤ q.length ∧ iv = .int .i64 i ∧ k = q.length + 1 - i ∧ Hid (PlI gp (z0f n b A ll c Ap p.length cp Aq q.length cq bh br) bh br p.length i (z0a p) (z0a (q.take i)) W ∧ z0g w W (fun k => k = bh ∨ k = br) ∧ z2j w W ∧ trF n (z0a p) (.map []) q = trF n (z0a p) (z0a (q.take i)) (q.drop i)))
     case atStart => exact ⟨0, Nat.zero_le _, rfl, rfl, zh ⟨HI0.out, HKP.out, HST.out, rfl⟩⟩
     case round =>
      obtain ⟨i, hi, rfl, rfl, HL⟩ := hrel
      clear x4 HI0 HKP HST
      by_cases hlt : i < q.length
      ·have i0 : (0 : Int) ≤ (i : Int) := by omega
       have i1 : (i : Int) < (q.length : Int) := by omega
       obtain ⟨ad, ea, y0, y1⟩ := z2y (HSEP.out _ HL.out.2.1).2 (i : Int) i0 i1
       subst ea
       rw [Int.toNat_natCast] at y0 y1
       obtain ⟨g, hg⟩ : ∃ g, g = z6w q i := ⟨_, rfl⟩
       have hg2 : z0q q (i : Int) = g := by rw [hg]; rfl
       rw [hg2] at y0 y1
       have HG := zh hg
       have HI0 := zh HL.out.1
       have hth : trF n (z0a p) (.map []) q = if z2a n (z0a p) (z0a (q.take i)) g = 0 then trF n (z0a p) (y2z (z0a (q.take i)) g) (q.drop (i + 1)) else z2a n (z0a p) (z0a (q.take i)) g := by
        rw [HL.out.2.2.2, y4s hlt, ← hg]
        rfl
       have HTH := zh hth
       have HWG := zh (show (Lit.int .i64 g.f0).wf = true ∧ (Lit.int .i64 g.f1).wf = true by rw [hg]; exact HWQ.out _ (z2s hlt))
       clear hg hg2 hth
       have x6 : wr.cell? ⟨gp, 6, none⟩ = some (.map (some br)) := (y7 HI0.out.bx 6).trans rfl
       obtain ⟨D, hD⟩ : ∃ D, D = z0a (q.take i) := ⟨_, rfl⟩
       rw [← hD] at HTH HI0
       have HD := zh hD
       clear hD
       go_wp2
       have HV0 := zh (heap_alloc_new wr (.cells #[.int .i64 g.f0, .int .i64 g.f1] 59))
       have HB0 := zh (y8 (Below.refl wr.heap.size wr) (.cells #[.int .i64 g.f0, .int .i64 g.f1] 59))
       obtain ⟨W0, hW0⟩ : ∃ W0, W0 = wr.alloc (.cells #[.int .i64 g.f0, .int .i64 g.f1] 59) := ⟨_, rfl⟩
       rw [← hW0] at HV0 HB0 ⊢
       clear hW0
       have v0 : W0.cell? ⟨wr.heap.size, 0, none⟩ = some (.int .i64 g.f0) := (y7 HV0.out 0).trans rfl
       have v1 : W0.cell? ⟨wr.heap.size, 1, none⟩ = some (.int .i64 g.f1) := (y7 HV0.out 1).trans rfl
       have v5 : W0.cell? ⟨gp, 6, none⟩ = some (.map (some br)) := j6 HB0.out x6
       have HI1 := zh (HI0.out.below HB0.out)
       have HKP := zh (HL.out.2.1.below HB0.out)
       have HST := zh (HL.out.2.2.1.then_ (z2j.of_below HB0.out))
       generalize wr.heap.size = av at *
       clear x6 y0 y1
       have HKK : Hid (i ≤ 1000000) := zh (by have := HLQ.out; omega)
       rcases y32 n (z0a p) D g with hc | hc | hc
       all_goals
        have HC := zh hc
        clear hc
        go_region_held3 (fun w' => w'.cell? ⟨av, 0, none⟩ = some (.int .i64 g.f0) ∧ w'.cell? ⟨av, 1, none⟩ = some (.int .i64 g.f1) ∧ w'.cell? ⟨gp, 6, none⟩ = some (.map (some br))) (first | exact HS9.out | go_keep) ((go_at_call 83; (with_reducible refine (y48 gp n b A ll c Ap p.length cp (some ad) q.length cq bh br p.length i (z0a p) D g _ ?s1 HKK.out HWG.out.1 HWG.out.2).mono ?_); (case s1 => exact HI1.out.below zD); rintro e w2 ⟨rfl, hP, hk, hs⟩; rw [HC.out]; have hv9 := z0m (show _ from j5 HV0.out zD) hk (fun e9 => z0l HI1.out.mr HV0.out e9.symm); have hx9 := z0m (HI1.out.below zD).bx hk (fun e9 => z0l HI1.out.mr HI1.out.bx e9.symm); have HS9 : Hid (w2.cell? ⟨av, 0, none⟩ = some (.int .i64 g.f0) ∧ w2.cell? ⟨av, 1, none⟩ = some (.int .i64 g.f1) ∧ w2.cell? ⟨gp, 6, none⟩ = some (.map (some br))) := zh ⟨(y7 hv9 0).trans rfl, (y7 hv9 1).trans rfl, (y7 hx9 6).trans rfl⟩; have HP := zh hP; have HK2 := zh (((HKP.out.below (show Below W0.heap.size W0 _ by repeat (first | (with_reducible exact Below.refl _ _) | apply t7))).then_ hk (fun k e9 => .inl (.inr e9)))); have HS2 := zh ((HST.out.then_ (z2j.of_below (show Below W0.heap.size W0 _ by repeat (first | (with_reducible exact Below.refl _ _) | apply t7)))).then_ hs); clear hP hk hs hv9 hx9))
        go_wp2
       ·have e1 : trF n (z0a p) (.map []) q = 210 := by rw [HTH.out, HC.out]; rfl
        have e2 : z1m n p q = 210 := by rw [HC1.out, e1]
        go_ret
        exact ⟨congrArg (fun z => Ending.returned (.int .i64 z)) e2.symm, fun e => absurd (e2.symm.trans e) (by decide), HK2.out, HS2.out⟩
       ·have e1 : trF n (z0a p) (.map []) q = 2 := by rw [HTH.out, HC.out]; rfl
        have e2 : z1m n p q = 2 := by rw [HC1.out, e1]
        go_ret
        exact ⟨congrArg (fun z => Ending.returned (.int .i64 z)) e2.symm, fun e => absurd (e2.symm.trans e) (by decide), HK2.out, HS2.out⟩
       ·go_roundg (q.length - i)
        case measure => omega
        case rel =>
         have e1 : z0a (q.take (i + 1)) = y2z D g := by rw [z38 hlt, z9g, ← HG.out, HD.out]
         refine ⟨i + 1, by omega, by go_num, by omega, zh ⟨?_, HK2.out, HS2.out, ?_⟩⟩
         ·rw [e1]
          exact HP.out HC.out
         ·rw [HTH.out, if_pos HC.out, e1]
      ·have e : i = q.length := by omega
       subst e
       have hI := HL.out.1
       have hth := HL.out.2.2.2
       rw [List.take_length] at hI hth
       rw [List.drop_length] at hth
       have hC2 : z1m n p q = 0 := by rw [HC1.out]; exact hth
       have HC2 := zh hC2
       have HI0 := zh hI
       clear hI hth hC2
       go_wp2
       go_ret
       exact ⟨congrArg (fun z => Ending.returned (.int .i64 z)) HC2.out.symm, fun _ => HI0.out, HL.out.2.1, HL.out.2.2.1⟩
theorem z4y : Kd.Heap z1v := Kd.heap_iso _ (Kd.heap_pair (Kd.heap_int _) (Kd.heap_int _))
def z3o (k : Nat) (n : Int) (b : Bool) (l : List Arc) (p q : List Grp) (h : Int) : Option Int :=
 (netfmt_Check.f k n b l).bind fun c1 => if c1 = 0 then (if z1m n p q = 0 then (span_Horizon.f h).bind fun c3 => if c3 = 0 then (expand_Fits.f k n b l h).bind fun t => if t = true then some 0 else some 2 else some c3 else some (z1m n p q)) else some c1
def z5z (n : Int) (b : Bool) (A : Option Addr) (c : Nat) (l : List Arc) (Ap : Option Addr) (cp : Nat) (p : List Grp) (Aq : Option Addr) (cq : Nat) (q : List Grp) (r : Int) (w : World) (e : Ending) (w' : World) : Prop :=
 Below w.heap.size w w' ∧ ((r ≠ 0 ∧ e = .returned (.tuple #[.pointer none, .int .i64 r])) ∨ (r = 0 ∧ ∃ gp bh br, e = .returned (.tuple #[.pointer (some ⟨gp, 0, none⟩), .int .i64 0]) ∧ w.heap.size ≤ gp ∧ PlI gp (z0f n b A l.length c Ap p.length cp Aq q.length cq bh br) bh br p.length q.length (z0a p) (z0a q) w'))
theorem z6b (w1 : World) (n : Int) (b : Bool) (A : Option Addr) (ll c : Nat) (Ap : Option Addr) (lp cp : Nat) (Aq : Option Addr) (lq cq : Nat) :
  PlI (w1.heap.size + 1 + 1) (z0f n b A ll c Ap lp cp Aq lq cq w1.heap.size (w1.heap.size + 1)) w1.heap.size (w1.heap.size + 1) 0 0 (.map []) (.map []) (((w1.alloc (.map #[] 0)).alloc (.map #[] 0)).alloc (.cells (z0f n b A ll c Ap lp cp Aq lq cq w1.heap.size (w1.heap.size + 1)) 115)) := by
 have made : ∀ (W : World) (b : Nat), b = W.heap.size → z2k (W.alloc (.map #[] 0)) 3 b 0 (.map []) := fun W b e => by
  rw [e]
  exact World.ownsMap_made _ _ _ _
 have later : ∀ {W W1 : World} {b : Nat}, z2k W 3 b 0 (.map []) → Below W.heap.size W W1 → z2k W1 3 b 0 (.map []) := fun h hb => z0z h (hb.block _ h.lt)
 refine ⟨z01 (by simp only [z0k]), ?_, ?_, by omega⟩
 ·exact later (made w1 _ rfl) (by repeat (first | (with_reducible exact Below.refl _ _) | apply y8))
 ·exact later (made (w1.alloc (.map #[] 0)) _ (by simp only [z0k])) (by repeat (first | (with_reducible exact Below.refl _ _) | apply y8))
theorem z5b (k : Nat) (n : Int) (b : Bool) (A : Option Addr) (c : Nat) (l : List Arc) (Ap : Option Addr) (cp : Nat) (p : List Grp) (Aq : Option Addr) (cq : Nat) (q : List Grp) (h r : Int) (w : World) (hr : Kd.C z3l w A l.length l) (hc : l.length ≤ c)
  (hp : Kd.C z1v w Ap p.length p) (hq : Kd.C z1v w Aq q.length q) (wp : y16 p) (wq : y16 q) (lp : p.length ≤ 1000000) (lq : q.length ≤ 1000000) (hF : z3o k n b l p q h = some r) :
  Calls Tryz.prog 25 #[.agg #[.int .i64 n, .bool b, .slice A l.length c], .slice Ap p.length cp, .slice Aq q.length cq, .int .i64 h] w (z5z n b A c l Ap cp p Aq cq q r w) := by
 have HR := zh hr
 have HC := zh hc
 have HP := zh hp
 have HQ := zh hq
 have HWP := zh wp
 have HWQ := zh wq
 have HLP := zh lp
 have HLQ := zh lq
 have hu := Tryz.underlying33
 have hu2 := Tryz.underlying115
 have hmm := @run_makeMap Tryz.prog
 clear hr hc hp hq wp wq lp lq
 unfold z3o at hF
 obtain ⟨c1, hc1, hF⟩ := Option.bind_eq_some_iff.1 hF
 have HC1 := zh hc1
 clear hc1
 by_cases h1 : c1 = 0
 ·rw [if_pos h1] at hF
  subst h1
  by_cases h2 : z1m n p q = 0
  ·rw [if_pos h2] at hF
   obtain ⟨c3, hc3, hF⟩ := Option.bind_eq_some_iff.1 hF
   have HG := zh h2
   have HH := zh hc3
   clear h2 hc3
   by_cases h3 : c3 = 0
   ·rw [if_pos h3] at hF
    subst h3
    obtain ⟨t, ht, hF⟩ := Option.bind_eq_some_iff.1 hF
    have HT := zh ht
    clear ht
    cases t with
    |true =>
     rw [if_pos rfl] at hF
     injection hF with hF
     subst hF
     go_enter Tryz.func25, Tryz.ntmps25
     go_wp2_with (first
      |(go_at_call 56; (with_reducible refine (netfmt_Check.calls k n b A c l 0 _ ?s1 HC.out HC1.out).mono ?_); (case s1 => exact Kd.C_below HR.out (y8 (Below.refl _ _) _)); rintro e w1 ⟨rfl, hb⟩; have HB1 := zh (v6 (y8 (Below.refl w.heap.size w) (.cells #[.int .i64 n, .bool b, .slice A l.length c] 33)) hb); have HN1 := zh (j5 (heap_alloc_new w (.cells #[.int .i64 n, .bool b, .slice A l.length c] 33)) hb); have x0 : w1.cell? ⟨w.heap.size, 0, none⟩ = some (.int .i64 n) := (y7 HN1.out 0).trans rfl; have x1 : w1.cell? ⟨w.heap.size, 1, none⟩ = some (.bool b) := (y7 HN1.out 1).trans rfl; have x2 : w1.cell? ⟨w.heap.size, 2, none⟩ = some (.slice A l.length c) := (y7 HN1.out 2).trans rfl; clear hb)
      |(go_at_call 57; have hP0 := z6b w1 n b A l.length c Ap p.length cp Aq q.length cq; have hb9 : Below w.heap.size w (((w1.alloc (.map #[] 0)).alloc (.map #[] 0)).alloc (.cells (z0f n b A l.length c Ap p.length cp Aq q.length cq w1.heap.size (w1.heap.size + 1)) 115)) := y8 (y8 (y8 HB1.out _) _) _; have hn9 := j9 (j9 (j9 HN1.out (.map #[] 0)) (.map #[] 0)) (.cells (z0f n b A l.length c Ap p.length cp Aq q.length cq w1.heap.size (w1.heap.size + 1)) 115); (refine (z4a (w1.heap.size + 1 + 1) n b A l.length c Ap cp Aq cq w1.heap.size (w1.heap.size + 1) p q _ hP0 (Kd.C_below HP.out hb9) (Kd.C_below HQ.out hb9) HWP.out HWQ.out HLP.out HLQ.out ?s1).mono ?_); (case s1 => exact fun W hk => ⟨Kd.C_kept_came z4y HP.out hb9 (fun k e => by have := HB1.out.size; omega) W hk, Kd.C_kept_came z4y HQ.out hb9 (fun k e => by have := HB1.out.size; omega) W hk⟩); rintro e w2 ⟨rfl, hPP, hk, hs⟩; have HPP := zh hPP; have HB2 := zh (z29 hb9 hk hs (fun k e => by have := HB1.out.size; omega) hb9.size); have HN2 := zh (z0m hn9 hk (fun e => e.elim (fun e8 => z0l hP0.mh hn9 e8.symm) (fun e8 => z0l hP0.mr hn9 e8.symm))); have HGE := zh (show w.heap.size ≤ w1.heap.size + 1 + 1 by have := HB1.out.size; omega); clear hP0 hb9 hn9 hPP hk hs x0 x1 x2; rw [HG.out]; have y0 : w2.cell? ⟨w.heap.size, 0, none⟩ = some (.int .i64 n) := (y7 HN2.out 0).trans rfl; have y1 : w2.cell? ⟨w.heap.size, 1, none⟩ = some (.bool b) := (y7 HN2.out 1).trans rfl; have y2 : w2.cell? ⟨w.heap.size, 2, none⟩ = some (.slice A l.length c) := (y7 HN2.out 2).trans rfl)
      |(go_at_call 58; (with_reducible refine (span_Horizon.calls h 0 _ HH.out).mono ?_); rintro e w3 ⟨rfl, hd⟩; obtain ⟨m, rfl⟩ := hd)
      |(go_at_call 59; (with_reducible refine (expand_Fits.calls k n b A c l h true _ ?s1 HC.out HT.out).mono ?_); (case s1 => exact Kd.C_below HR.out (j8 HB2.out _)); rintro e w4 ⟨rfl, hb⟩; have HB4 := zh (v6 (j8 HB2.out _) hb); have HW4 := zh (v6 (j8 (Below.refl w2.heap.size w2) _) hb); clear hb))
     go_ret2
     exact ⟨HB4.out, .inr ⟨rfl, w1.heap.size + 1 + 1, w1.heap.size, w1.heap.size + 1, rfl, HGE.out, (HPP.out HG.out).below HW4.out⟩⟩
    |false =>
     rw [if_neg (by decide)] at hF
     injection hF with hF
     subst hF
     go_enter Tryz.func25, Tryz.ntmps25
     go_wp2_with (first
      |(go_at_call 56; (with_reducible refine (netfmt_Check.calls k n b A c l 0 _ ?s1 HC.out HC1.out).mono ?_); (case s1 => exact Kd.C_below HR.out (y8 (Below.refl _ _) _)); rintro e w1 ⟨rfl, hb⟩; have HB1 := zh (v6 (y8 (Below.refl w.heap.size w) (.cells #[.int .i64 n, .bool b, .slice A l.length c] 33)) hb); have HN1 := zh (j5 (heap_alloc_new w (.cells #[.int .i64 n, .bool b, .slice A l.length c] 33)) hb); have x0 : w1.cell? ⟨w.heap.size, 0, none⟩ = some (.int .i64 n) := (y7 HN1.out 0).trans rfl; have x1 : w1.cell? ⟨w.heap.size, 1, none⟩ = some (.bool b) := (y7 HN1.out 1).trans rfl; have x2 : w1.cell? ⟨w.heap.size, 2, none⟩ = some (.slice A l.length c) := (y7 HN1.out 2).trans rfl; clear hb)
      |(go_at_call 57; have hP0 := z6b w1 n b A l.length c Ap p.length cp Aq q.length cq; have hb9 : Below w.heap.size w (((w1.alloc (.map #[] 0)).alloc (.map #[] 0)).alloc (.cells (z0f n b A l.length c Ap p.length cp Aq q.length cq w1.heap.size (w1.heap.size + 1)) 115)) := y8 (y8 (y8 HB1.out _) _) _; have hn9 := j9 (j9 (j9 HN1.out (.map #[] 0)) (.map #[] 0)) (.cells (z0f n b A l.length c Ap p.length cp Aq q.length cq w1.heap.size (w1.heap.size + 1)) 115); (refine (z4a (w1.heap.size + 1 + 1) n b A l.length c Ap cp Aq cq w1.heap.size (w1.heap.size + 1) p q _ hP0 (Kd.C_below HP.out hb9) (Kd.C_below HQ.out hb9) HWP.out HWQ.out HLP.out HLQ.out ?s1).mono ?_); (case s1 => exact fun W hk => ⟨Kd.C_kept_came z4y HP.out hb9 (fun k e => by have := HB1.out.size; omega) W hk, Kd.C_kept_came z4y HQ.out hb9 (fun k e => by have := HB1.out.size; omega) W hk⟩); rintro e w2 ⟨rfl, hPP, hk, hs⟩; have HPP := zh hPP; have HB2 := zh (z29 hb9 hk hs (fun k e => by have := HB1.out.size; omega) hb9.size); have HN2 := zh (z0m hn9 hk (fun e => e.elim (fun e8 => z0l hP0.mh hn9 e8.symm) (fun e8 => z0l hP0.mr hn9 e8.symm))); have HGE := zh (show w.heap.size ≤ w1.heap.size + 1 + 1 by have := HB1.out.size; omega); clear hP0 hb9 hn9 hPP hk hs x0 x1 x2; rw [HG.out]; have y0 : w2.cell? ⟨w.heap.size, 0, none⟩ = some (.int .i64 n) := (y7 HN2.out 0).trans rfl; have y1 : w2.cell? ⟨w.heap.size, 1, none⟩ = some (.bool b) := (y7 HN2.out 1).trans rfl; have y2 : w2.cell? ⟨w.heap.size, 2, none⟩ = some (.slice A l.length c) := (y7 HN2.out 2).trans rfl)
      |(go_at_call 58; (with_reducible refine (span_Horizon.calls h 0 _ HH.out).mono ?_); rintro e w3 ⟨rfl, hd⟩; obtain ⟨m, rfl⟩ := hd)
      |(go_at_call 59; (with_reducible refine (expand_Fits.calls k n b A c l h false _ ?s1 HC.out HT.out).mono ?_); (case s1 => exact Kd.C_below HR.out (j8 HB2.out _)); rintro e w4 ⟨rfl, hb⟩; have HB4 := zh (v6 (j8 HB2.out _) hb); have HW4 := zh (v6 (j8 (Below.refl w2.heap.size w2) _) hb); clear hb))
     go_ret2
     exact ⟨HB4.out, .inl ⟨by decide, rfl⟩⟩
   ·rw [if_neg h3] at hF
    injection hF with hF
    subst hF
    have e1 : (c3 != 0) = true := bne_iff_ne.2 h3
    have e2 : (c3 == 0) = false := beq_eq_false_iff_ne.2 h3
    have H3 := zh h3
    clear h3
    go_enter Tryz.func25, Tryz.ntmps25
    go_wp2_with (first
     |(go_at_call 56; (with_reducible refine (netfmt_Check.calls k n b A c l 0 _ ?s1 HC.out HC1.out).mono ?_); (case s1 => exact Kd.C_below HR.out (y8 (Below.refl _ _) _)); rintro e w1 ⟨rfl, hb⟩; have HB1 := zh (v6 (y8 (Below.refl w.heap.size w) (.cells #[.int .i64 n, .bool b, .slice A l.length c] 33)) hb); have HN1 := zh (j5 (heap_alloc_new w (.cells #[.int .i64 n, .bool b, .slice A l.length c] 33)) hb); have x0 : w1.cell? ⟨w.heap.size, 0, none⟩ = some (.int .i64 n) := (y7 HN1.out 0).trans rfl; have x1 : w1.cell? ⟨w.heap.size, 1, none⟩ = some (.bool b) := (y7 HN1.out 1).trans rfl; have x2 : w1.cell? ⟨w.heap.size, 2, none⟩ = some (.slice A l.length c) := (y7 HN1.out 2).trans rfl; clear hb)
     |(go_at_call 57; have hP0 := z6b w1 n b A l.length c Ap p.length cp Aq q.length cq; have hb9 : Below w.heap.size w (((w1.alloc (.map #[] 0)).alloc (.map #[] 0)).alloc (.cells (z0f n b A l.length c Ap p.length cp Aq q.length cq w1.heap.size (w1.heap.size + 1)) 115)) := y8 (y8 (y8 HB1.out _) _) _; have hn9 := j9 (j9 (j9 HN1.out (.map #[] 0)) (.map #[] 0)) (.cells (z0f n b A l.length c Ap p.length cp Aq q.length cq w1.heap.size (w1.heap.size + 1)) 115); (refine (z4a (w1.heap.size + 1 + 1) n b A l.length c Ap cp Aq cq w1.heap.size (w1.heap.size + 1) p q _ hP0 (Kd.C_below HP.out hb9) (Kd.C_below HQ.out hb9) HWP.out HWQ.out HLP.out HLQ.out ?s1).mono ?_); (case s1 => exact fun W hk => ⟨Kd.C_kept_came z4y HP.out hb9 (fun k e => by have := HB1.out.size; omega) W hk, Kd.C_kept_came z4y HQ.out hb9 (fun k e => by have := HB1.out.size; omega) W hk⟩); rintro e w2 ⟨rfl, hPP, hk, hs⟩; have HPP := zh hPP; have HB2 := zh (z29 hb9 hk hs (fun k e => by have := HB1.out.size; omega) hb9.size); have HN2 := zh (z0m hn9 hk (fun e => e.elim (fun e8 => z0l hP0.mh hn9 e8.symm) (fun e8 => z0l hP0.mr hn9 e8.symm))); have HGE := zh (show w.heap.size ≤ w1.heap.size + 1 + 1 by have := HB1.out.size; omega); clear hP0 hb9 hn9 hPP hk hs x0 x1 x2; rw [HG.out]; have y0 : w2.cell? ⟨w.heap.size, 0, none⟩ = some (.int .i64 n) := (y7 HN2.out 0).trans rfl; have y1 : w2.cell? ⟨w.heap.size, 1, none⟩ = some (.bool b) := (y7 HN2.out 1).trans rfl; have y2 : w2.cell? ⟨w.heap.size, 2, none⟩ = some (.slice A l.length c) := (y7 HN2.out 2).trans rfl)
     |(go_at_call 58; (with_reducible refine (span_Horizon.calls h c3 _ HH.out).mono ?_); rintro e w3 ⟨rfl, hd⟩; obtain ⟨m, rfl⟩ := hd))
    go_ret2
    exact ⟨j8 HB2.out _, .inl ⟨H3.out, rfl⟩⟩
  ·rw [if_neg h2] at hF
   injection hF with hF
   have e1 : (r != 0) = true := bne_iff_ne.2 (by rw [← hF]; exact h2)
   have e2 : (r == 0) = false := beq_eq_false_iff_ne.2 (by rw [← hF]; exact h2)
   have HG := zh hF
   have H2 := zh h2
   clear hF h2
   go_enter Tryz.func25, Tryz.ntmps25
   go_wp2_with (first
    |(go_at_call 56; (with_reducible refine (netfmt_Check.calls k n b A c l 0 _ ?s1 HC.out HC1.out).mono ?_); (case s1 => exact Kd.C_below HR.out (y8 (Below.refl _ _) _)); rintro e w1 ⟨rfl, hb⟩; have HB1 := zh (v6 (y8 (Below.refl w.heap.size w) (.cells #[.int .i64 n, .bool b, .slice A l.length c] 33)) hb); have HN1 := zh (j5 (heap_alloc_new w (.cells #[.int .i64 n, .bool b, .slice A l.length c] 33)) hb); have x0 : w1.cell? ⟨w.heap.size, 0, none⟩ = some (.int .i64 n) := (y7 HN1.out 0).trans rfl; have x1 : w1.cell? ⟨w.heap.size, 1, none⟩ = some (.bool b) := (y7 HN1.out 1).trans rfl; have x2 : w1.cell? ⟨w.heap.size, 2, none⟩ = some (.slice A l.length c) := (y7 HN1.out 2).trans rfl; clear hb)
    |(go_at_call 57; have hP0 := z6b w1 n b A l.length c Ap p.length cp Aq q.length cq; have hb9 : Below w.heap.size w (((w1.alloc (.map #[] 0)).alloc (.map #[] 0)).alloc (.cells (z0f n b A l.length c Ap p.length cp Aq q.length cq w1.heap.size (w1.heap.size + 1)) 115)) := y8 (y8 (y8 HB1.out _) _) _; have hn9 := j9 (j9 (j9 HN1.out (.map #[] 0)) (.map #[] 0)) (.cells (z0f n b A l.length c Ap p.length cp Aq q.length cq w1.heap.size (w1.heap.size + 1)) 115); (refine (z4a (w1.heap.size + 1 + 1) n b A l.length c Ap cp Aq cq w1.heap.size (w1.heap.size + 1) p q _ hP0 (Kd.C_below HP.out hb9) (Kd.C_below HQ.out hb9) HWP.out HWQ.out HLP.out HLQ.out ?s1).mono ?_); (case s1 => exact fun W hk => ⟨Kd.C_kept_came z4y HP.out hb9 (fun k e => by have := HB1.out.size; omega) W hk, Kd.C_kept_came z4y HQ.out hb9 (fun k e => by have := HB1.out.size; omega) W hk⟩); rintro e w2 ⟨rfl, hPP, hk, hs⟩; have HPP := zh hPP; have HB2 := zh (z29 hb9 hk hs (fun k e => by have := HB1.out.size; omega) hb9.size); have HN2 := zh (z0m hn9 hk (fun e => e.elim (fun e8 => z0l hP0.mh hn9 e8.symm) (fun e8 => z0l hP0.mr hn9 e8.symm))); have HGE := zh (show w.heap.size ≤ w1.heap.size + 1 + 1 by have := HB1.out.size; omega); clear hP0 hb9 hn9 hPP hk hs x0 x1 x2; rw [HG.out]; have y0 : w2.cell? ⟨w.heap.size, 0, none⟩ = some (.int .i64 n) := (y7 HN2.out 0).trans rfl; have y1 : w2.cell? ⟨w.heap.size, 1, none⟩ = some (.bool b) := (y7 HN2.out 1).trans rfl; have y2 : w2.cell? ⟨w.heap.size, 2, none⟩ = some (.slice A l.length c) := (y7 HN2.out 2).trans rfl))
   go_ret2
   exact ⟨HB2.out, .inl ⟨by rw [← HG.out]; exact H2.out, rfl⟩⟩
 ·rw [if_neg h1] at hF
  injection hF with hF
  subst hF
  have e1 : (c1 != 0) = true := bne_iff_ne.2 h1
  have e2 : (c1 == 0) = false := beq_eq_false_iff_ne.2 h1
  have H1 := zh h1
  clear h1
  go_enter Tryz.func25, Tryz.ntmps25
  go_wp2_with (go_at_call 56; (with_reducible refine (netfmt_Check.calls k n b A c l c1 _ ?s1 HC.out HC1.out).mono ?_); (case s1 => exact Kd.C_below HR.out (y8 (Below.refl _ _) _)); rintro e w1 ⟨rfl, hb⟩; have HB1 := zh hb; clear hb)
  go_ret2
  exact ⟨v6 (y8 (Below.refl _ _) _) HB1.out, .inl ⟨H1.out, rfl⟩⟩
end Go.Proofs.YtcgdloldkcmhnaaGreat.H
end
section
namespace Go.Proofs.YtcgdloldkcmhnaaGreat.H
open Go Go.RowKit Go.Proofs.YtcgdloldkcmhnaaGreat.PrintC Go.Proofs.YtcgdloldkcmhnaaGreatW.PrintWords Go.Proofs.YtcgdloldkcmhnaaGreatW.PrintLast Go.Proofs.YtcgdloldkcmhnaaGreatW.PrintMore Go.Proofs.YtcgdloldkcmhnaaGreat.Flow
set_option linter.unusedVariables false
set_option linter.unusedSimpArgs false
theorem x3z (n : Nat) (g : Nat → Int) (c : Int) (h : ∀ i, i < n → -c ≤ g i ∧ g i ≤ c) : -(n * c) ≤ z0s n g ∧ z0s n g ≤ n * c := by
 refine ⟨?_, z7u n g c (fun i hi => (h i hi).2)⟩
 have h1 := z7u n (fun i => 0 - g i) c (fun i hi => by have := (h i hi).1; omega)
 rw [z90, z1s n (fun _ _ => rfl)] at h1
 omega
theorem x5o (S d : Int) (h1 : -200000000000000000 ≤ S) (h2 : S ≤ 200000000000000000) (h3 : 0 ≤ d) (h4 : d ≤ 1099511627776) : wrap64 (S + d) = S + (d - 0) := by unfold wrap64; omega
theorem x5n (S d : Int) (h1 : -200000000000000000 ≤ S) (h2 : S ≤ 200000000000000000) (h3 : 0 ≤ d) (h4 : d ≤ 1099511627776) : wrap64 (S - d) = S + (0 - d) := by unfold wrap64; omega
theorem x3o (S d : Int) (h1 : -200000000000000000 ≤ S) (h2 : S ≤ 200000000000000000) (h3 : 0 ≤ d) (h4 : d ≤ 1099511627776) : wrap64 (wrap64 (S + d) - d) = S + (d - d) := by unfold wrap64; omega
theorem x3r (N : Nat) (b : Bool) {l : List Arc} {f : List Int} (s : Int) (hn : z12 N l) (hf : z0t l f) : ∃ k, maxflow_Value.f k N b l s f = some (z0j l.length (z08 l) (z05 l) (dOf f) s) := by
 have hll := hn.ll
 let g : Nat → Int := fun i => (if z08 l i = s then dOf f i else 0) - (if z05 l i = s then dOf f i else 0)
 have hg : ∀ i, i < l.length → 0 ≤ dOf f i ∧ dOf f i ≤ 1099511627776 := fun i hi => by
  have h1 := hf.wit i (by omega) (by omega)
  have h2 := hn.caps i (by omega) (by omega)
  exact ⟨h1.1, Int.le_trans h1.2 h2⟩
 have hb : ∀ i, i < l.length → -1099511627776 ≤ g i ∧ g i ≤ 1099511627776 := fun i hi => by
  have := hg i hi
  show -1099511627776 ≤ (if z08 l i = s then dOf f i else 0) - (if z05 l i = s then dOf f i else 0) ∧ (if z08 l i = s then dOf f i else 0) - (if z05 l i = s then dOf f i else 0) ≤ 1099511627776
  split <;> split <;> omega
 have go : ∀ (m i : Nat), i + m = l.length → ∃ k, maxflow_Value.l0 k s f (z0s i g) l (l.length : Int) (i : Int) = some (z0s l.length g) := by
  intro m
  induction m with
  |zero =>
   intro i hi
   have e : i = l.length := by omega
   subst e
   exact ⟨1, by rw [maxflow_Value.l0, if_neg (by omega)]⟩
  |succ m ih =>
   intro i hi
   have hil : i < l.length := by omega
   obtain ⟨k, hk⟩ := ih (i + 1) (by omega)
   refine ⟨k + 1, ?_⟩
   have h1 := x3z i g 1099511627776 (fun j hj => hb j (by omega))
   have h2 := hg i hil
   have h3 : (i : Int) < (f.length : Int) := by rw [hf.len]; omega
   have e4 : rd f (i : Int) = dOf f i := rfl
   have e5 : (j7 l (i : Int)).f0 = z08 l i := rfl
   have e6 : (j7 l (i : Int)).f1 = z05 l i := rfl
   have hi6 : i ≤ 4611686018427387904 := by omega
   rw [z0s] at hk
   generalize hS : z0s i g = S at h1 hk
   have hS1 : -200000000000000000 ≤ S := by omega
   have hS2 : S ≤ 200000000000000000 := by omega
   clear h1
   have gi : g i = (if z08 l i = s then dOf f i else 0) - (if z05 l i = s then dOf f i else 0) := rfl
   rw [gi] at hk
   generalize hd : dOf f i = d at h2 hk
   rw [maxflow_Value.l0, if_pos (by omega), if_pos (by omega), if_pos (by omega), e4, e5, e6, w1n i hi6, hd]
   by_cases c1 : z08 l i = s
   ·by_cases c2 : z05 l i = s
    ·rw [if_pos c1, if_pos c2]
     rw [if_pos c1, if_pos c2] at hk
     rw [if_pos h3, x3o S d hS1 hS2 h2.1 h2.2]
     exact hk
    ·rw [if_pos c1, if_neg c2]
     rw [if_pos c1, if_neg c2] at hk
     rw [if_pos h3, x5o S d hS1 hS2 h2.1 h2.2]
     exact hk
   ·by_cases c2 : z05 l i = s
    ·rw [if_neg c1, if_pos c2]
     rw [if_neg c1, if_pos c2] at hk
     rw [if_pos h3, x5n S d hS1 hS2 h2.1 h2.2]
     exact hk
    ·rw [if_neg c1, if_neg c2]
     rw [if_neg c1, if_neg c2] at hk
     rw [Int.sub_zero, Int.add_zero] at hk
     exact hk
 exact go l.length 0 (by omega)
theorem y99 (k N : Nat) (b : Bool) (A : Option Addr) (c : Nat) (l : List Arc) (s : Int) (Af : Option Addr) (cf : Nat) (f : List Int) (m : Nat) (hm : f.length = m) (r : Int) (w : World) (hr : Kd.C z3l w A l.length l) (hc : l.length ≤ c) (hF : Kd.C (Kd.int .i64) w Af f.length f) (hcf : m ≤ cf) (h : maxflow_Value.f k N b l s f = some r) :
  Calls Tryz.prog 85 #[.agg #[.int .i64 N, .bool b, .slice A l.length c], .int .i64 s, .slice Af m cf] w fun e w' => e = .returned (.int .i64 r) ∧ Below w.heap.size w w' := by
 subst hm
 exact maxflow_Value.calls k N b A c l s Af cf f r w hr hc hF hcf h
def x2l (w0 : World) (gg N N1 M : Nat) (n : Int) (v : Value) (arcs : List Arc) (B : MB) (D : MD) (w : World) (e : Ending) (w' : World) : Prop :=
 ∃ (bf : Nat) (f : List Int) (S : Int → Bool), e = .returned (.agg #[.pointer (some ⟨gg, 0, none⟩), .slice (some ⟨bf, 0, none⟩) arcs.length arcs.length, .int .i64 (z0j arcs.length (z08 arcs) (z05 arcs) (dOf f) N)]) ∧ GrI w0 gg M n v arcs B D w' ∧ z0e w' bf f ∧ w.heap.size ≤ bf ∧ z0t arcs f ∧ Top arcs.length (z08 arcs) (z05 arcs) M N N1 (z2f arcs) (dOf f) S ∧ Below w.heap.size w w'
theorem y5h (w0 : World) (gg N N1 M : Nat) (e1 : N1 = N + 1) (e2 : M = N + 2) (n : Int) (v : Value) (arcs : List Arc) (B : MB) (D : MD) (w : World) (h : GrI w0 gg M n v arcs B D w) (hn : z12 M arcs) (hcap : ∀ i : Int, 0 ≤ i → i < arcs.length → 0 ≤ (j7 arcs i).f2) :
  Calls Tryz.prog 64 #[.pointer (some ⟨gg, 0, none⟩)] w (x2l w0 gg N N1 M n v arcs B D w) := by
 obtain ⟨A, c, rfl⟩ := Kd.R_slice h.ar
 have HI := zh h
 have HN := zh hn
 have HC := zh hcap
 have hn1 := hn.n1
 have HE1 := zh e1
 have HE2 := zh e2
 clear h hn hcap e1 e2
 have hu := Tryz.underlying33
 have hu2 := Tryz.underlying125
 have hu3 := Tryz.underlying70
 go_enter Tryz.func64, Tryz.ntmps64
 go_wp2_with (first
  |(go_at_call 61; (with_reducible refine (z8p w0 gg N N1 M HE1.out HE2.out n (.slice A arcs.length c) arcs B D _ ?s1 ?s2).mono ?_); (case s1 => exact HI.out.below (y8 (Below.refl _ _) _)); (case s2 => omega); rintro e w1 ⟨rfl, hb⟩; have HI1 := zh ((HI.out.below (y8 (Below.refl _ _) _)).below hb); have x0 := HI1.out.cells.1; have x1 := HI1.out.cells.2.1; have x2 := HI1.out.cells.2.2.1; have HB1 := zh (v6 (y8 (Below.refl _ _) _) hb); have HR1 := zh (j5 (heap_alloc_new w (.cells #[.pointer none, .slice none 0 0, .int .i64 0] 70)) hb); clear hb)
  |(go_at_call 84; (with_reducible refine (y1p M N N1 false A c arcs _ HN.out HC.out ?s1 ?s2 ?s3 ?s4 ?s5).mono ?_); (case s1 => have := HE2.out; omega); (case s2 => have := HE2.out; have := HE1.out; omega); (case s3 => have := HE1.out; omega); (case s4 => exact (Kd.R_reads' HI1.out.ar).2.1); (case s5 => exact (Kd.R_reads' HI1.out.ar).2.2); rintro e w2 ⟨bf, f, S, rfl, h1, h2, h3, h4, h5⟩; have HI2 := zh (HI1.out.below h5); have H2 := zh h2; have H3 := zh h3; have H4 := zh h4; have HB2 := zh (v6 HB1.out h5); have HR2 := zh (j5 HR1.out h5); have H1 := zh (Nat.le_trans HB1.out.size h1); have z0 := HI2.out.cells.1; have z1 := HI2.out.cells.2.1; have z2 := HI2.out.cells.2.2.1; have HFL := zh h3.len; clear h1 h2 h3 h4 h5 x0 x1 x2)
  |(go_at_call 85; obtain ⟨k, hk⟩ := x3r M false (N : Int) HN.out H3.out; (with_reducible refine (y99 k M false A c arcs (N : Int) (some ⟨bf, 0, none⟩) arcs.length f arcs.length HFL.out _ _ ?s1 ?s2 ?s3 ?s4 hk).mono ?_); (case s1 => exact (Kd.R_reads' HI2.out.ar).2.2); (case s2 => exact (Kd.R_reads' HI2.out.ar).2.1); (case s3 => exact H2.out.reads (by rw [HFL.out]; have := HN.out.ll; omega)); (case s4 => exact Nat.le_refl _); rintro e w3 ⟨rfl, hb⟩; have HI3 := zh (HI2.out.below hb); have H5 := zh (j5 H2.out hb); have HB3 := zh (v6 HB2.out hb); have HR3 := zh (j5 HR2.out hb); have y0 : w3.cell? ⟨w.heap.size, 0, none⟩ = some (.pointer none) := (y7 HR3.out 0).trans rfl; have y1 : w3.cell? ⟨w.heap.size, 1, none⟩ = some (.slice none 0 0) := (y7 HR3.out 1).trans rfl; have y2 : w3.cell? ⟨w.heap.size, 2, none⟩ = some (.int .i64 0) := (y7 HR3.out 2).trans rfl; have f0 := j3 HR3.out 0; have f1 := j3 HR3.out 1; have f2 := j3 HR3.out 2; clear hb hk z0 z1 z2))
 have HSZ := zh HI.out.low.size
 refine bodyPost_ret (results_cell_row rfl _ _ w.heap.size 70 #[.pointer (some ⟨gg, 0, none⟩), .slice (some ⟨bf, 0, none⟩) arcs.length arcs.length, .int .i64 (z0j arcs.length (z08 arcs) (z05 arcs) (dOf f) N)] (0, 0) _ rfl (z0h (cs := #[.pointer (some ⟨gg, 0, none⟩), .slice (some ⟨bf, 0, none⟩) arcs.length arcs.length, .int .i64 0]) (z0h (cs := #[.pointer (some ⟨gg, 0, none⟩), .slice none 0 0, .int .i64 0]) (z0h (cs := #[.pointer none, .slice none 0 0, .int .i64 0]) HR3.out 0 (.pointer (some ⟨gg, 0, none⟩)) rfl) 1 (.slice (some ⟨bf, 0, none⟩) arcs.length arcs.length) rfl) 2 (.int .i64 (z0j arcs.length (z08 arcs) (z05 arcs) (dOf f) N)) rfl) hu3 rfl (by kernel_rfl)) rfl ?_
 have k1 := z0h (cs := #[.pointer none, .slice none 0 0, .int .i64 0]) HR3.out 0 (.pointer (some ⟨gg, 0, none⟩)) rfl
 have k2 := z0h (cs := #[.pointer (some ⟨gg, 0, none⟩), .slice none 0 0, .int .i64 0]) k1 1 (.slice (some ⟨bf, 0, none⟩) arcs.length arcs.length) rfl
 have hne : bf ≠ w.heap.size := z5h H5.out HR3.out (by decide)
 refine ⟨bf, f, S, rfl, (((HI3.out.set HR3.out (by decide) (by decide) HSZ.out 0 _).set k1 (by decide) (by decide) HSZ.out 1 _).set k2 (by decide) (by decide) HSZ.out 2 _), ?_, H1.out, H3.out, H4.out, q5 (q5 (q5 HB3.out (Nat.le_refl _)) (Nat.le_refl _)) (Nat.le_refl _)⟩
 unfold z0e
 rw [Below.heap_setCell _ ⟨w.heap.size, 2, none⟩ _ _ hne, Below.heap_setCell _ ⟨w.heap.size, 1, none⟩ _ _ hne, Below.heap_setCell _ ⟨w.heap.size, 0, none⟩ _ _ hne]
 exact H5.out
end Go.Proofs.YtcgdloldkcmhnaaGreat.H
end
section
namespace Go.Proofs.YtcgdloldkcmhnaaGreat.H
open Go Go.RowKit Go.Proofs.YtcgdloldkcmhnaaGreat.PrintC Go.Proofs.YtcgdloldkcmhnaaGreat.PrintE Go.Proofs.YtcgdloldkcmhnaaGreatW.PrintWords Go.Proofs.YtcgdloldkcmhnaaGreatW.PrintLast Go.Proofs.YtcgdloldkcmhnaaGreatW.PrintMore Go.Proofs.YtcgdloldkcmhnaaGreat.Flow
abbrev z3p := x2n
abbrev z35 := x6x
theorem y4p : (Tryz.prog.info? 110).map (fun i => (i.zero, i.size, i.bytes)) = some (some (.agg #[.int .i64 0, .int .i64 0]), 2, 16) := by kernel_rfl
def z06 (n : Nat) (d : List Int) : Nat → List z3p
 |0 => []
 |i + 1 => z06 n d i ++ (if 0 ≤ rd d (i : Int) then [⟨((i : Int) % (n : Int)), ((i : Int) / (n : Int))⟩] else [])
theorem z7z (n : Nat) (d : List Int) : ∀ i, (z06 n d i).length ≤ i
 |0 => Nat.le_refl _
 |i + 1 => by
  have := z7z n d i
  unfold z06
  rw [List.length_append]
  split <;> simp <;> omega
theorem y5j {W : World} {g base : Nat} (hb : W.heap[g]? = some (.cells #[] 110 (0, 0))) (hg : base ≤ g) : Kd.R z35 110 W base (fun _ => True) (.slice (some ⟨g, 0, none⟩) 0 0) [] := by
 exact ⟨fun _ _ => trivial, [], ⟨rfl, .inr ⟨g, 0, #[], rfl, hg, hb, Nat.le_refl _, by decide, rfl, rfl⟩⟩, ⟨rfl, fun j p hj => by simp at hj⟩⟩
theorem y9n {W : World} {base g cv : Nat} {ok : Nat → Prop} {bl : List Bool} (h : Kd.R Kd.bool 4 W base ok (.slice (some ⟨g, 0, none⟩) bl.length cv) bl) (i : Nat) (hi : i < bl.length) : W.cell? ⟨g, i, none⟩ = some (.bool (bl.getD i false)) := by
 obtain ⟨ce, hl, hM, hcc, _⟩ := Kd.R_elem h false (i : Int) (by omega) (by omega)
 have hM2 : ce = [.bool (bl.getD i false)] := by rw [Int.toNat_natCast] at hM; exact hM
 subst hM2
 have := hcc 0 _ rfl
 rw [Int.toNat_natCast, show Kd.bool.sz = 1 from rfl, Nat.mul_one, Nat.add_zero] at this
 exact this
theorem y9o (n s : Nat) (b : Bool) (A : Option Addr) (c : Nat) (l : List Arc) (Af : Option Addr) (cf : Nat) (f : List Int) (m : Nat) (hm : f.length = m) (w : World) (hn : z12 n l) (hf : z0t l f) (hs : s < n)
  (hlc : l.length ≤ c) (hr : Kd.C z4w w A l.length l) (hF : Kd.C (Kd.int .i64) w Af f.length f) (hfc : m ≤ cf) :
  Calls Tryz.prog 69 #[.agg #[.int .i64 n, .bool b, .slice A l.length c], .slice Af m cf, .int .i64 s] w fun e w' => ∃ (v : Value) (d : List Int) (rows : List (List Stp)), e = .returned v ∧ Kd.R Kd.bool 4 w' w.heap.size (fun _ => True) v (d.map fun x => decide (0 ≤ x)) ∧ d.length = n ∧ z17 n l rows ∧ Bf n s (Lk l f rows) (dOf d) ∧ Below w.heap.size w w' := by
 subst hm
 exact y3p n s b A c l Af cf f w hn hf hs hlc hr hF hfc
def x48 (N : Nat) (n : Nat) (arcs : List Arc) (f : List Int) (M : Nat) (w : World) (e : Ending) (w' : World) : Prop :=
 ∃ (v : Value) (d : List Int) (rows : List (List Stp)), e = .returned v ∧ Kd.R z35 110 w' w.heap.size (fun _ => True) v (z06 n d N) ∧ d.length = M ∧ z17 M arcs rows ∧ Bf M N (Lk arcs f rows) (dOf d) ∧ Below w.heap.size w w'
theorem y5i (w0 : World) (gg N N1 M : Nat) (e1 : N1 = N + 1) (e2 : M = N + 2) (n : Nat) (v : Value) (arcs : List Arc) (B : MB) (D : MD) (bf : Nat) (f : List Int) (val : Int) (w : World) (h : GrI w0 gg M n v arcs B D w) (hn : z12 M arcs) (hn0 : 0 < n) (hF : z0e w bf f) (hf : z0t arcs f) :
  Calls Tryz.prog 39 #[.agg #[.pointer (some ⟨gg, 0, none⟩), .slice (some ⟨bf, 0, none⟩) arcs.length arcs.length, .int .i64 val], .int .i64 n] w (x48 N n arcs f M w) := by
 obtain ⟨A, c, rfl⟩ := Kd.R_slice h.ar
 have HI := zh h
 have HN := zh hn
 have HFB := zh hF
 have HF := zh hf
 have hn1 := hn.n1
 have HE1 := zh e1
 have HE2 := zh e2
 clear h hn hF hf e1 e2
 have hu := Tryz.underlying33
 have hu2 := Tryz.underlying125
 have hu3 := Tryz.underlying70
 go_enter Tryz.func39, Tryz.ntmps39
 go_wp2_with (go_at_call 61; (with_reducible refine (z8p w0 gg N N1 M HE1.out HE2.out n (.slice A arcs.length c) arcs B D _ ?s1 ?s2).mono ?_); (case s1 => exact HI.out.below (y8 (Below.refl _ _) _)); (case s2 => omega); rintro e w1 ⟨rfl, hb⟩; have HB1 := zh hb; clear hb)
 obtain ⟨w2, hw2⟩ : ∃ w2, w2 = w1.alloc (.cells #[] 110) := ⟨_, rfl⟩
 have HB2 : Hid (Below w.heap.size w w2) := zh (by rw [hw2]; exact y8 (v6 (y8 (Below.refl _ _) _) HB1.out) _)
 have HX2 : Hid (w2.heap[w.heap.size]? = some (.cells #[.pointer (some ⟨gg, 0, none⟩), .slice (some ⟨bf, 0, none⟩) arcs.length arcs.length, .int .i64 val] 70 (0, 0))) := zh (by rw [hw2]; exact j9 (j5 (heap_alloc_new _ _) HB1.out) _)
 have HO2 : Hid (Kd.R z35 110 w2 w.heap.size (fun _ => True) (.slice (some ⟨w1.heap.size, 0, none⟩) 0 0) []) := zh (y5j (by rw [hw2]; exact z01 rfl) (by have := HB1.out.size; simp at this; omega))
 rw [← hw2]
 clear hw2
 have HI2 := zh (HI.out.below HB2.out)
 have HF2 : Hid (z0e w2 bf f) := zh (j5 HFB.out HB2.out)
 generalize w1.heap.size = go at *
 have x0 : w2.cell? ⟨w.heap.size, 0, none⟩ = some (.pointer (some ⟨gg, 0, none⟩)) := (y7 HX2.out 0).trans rfl
 have x1 : w2.cell? ⟨w.heap.size, 1, none⟩ = some (.slice (some ⟨bf, 0, none⟩) arcs.length arcs.length) := (y7 HX2.out 1).trans rfl
 have y0 := HI2.out.cells.1
 have y1 := HI2.out.cells.2.1
 have y2 := HI2.out.cells.2.2.1
 have HFL := zh HF.out.len
 have n0 : (0 : Int) ≤ (N : Int) := by omega
 have n1 : (N : Int) ≤ (M : Int) := by have := HE2.out; omega
 go_region_held3 (fun w' => w'.cell? ⟨w.heap.size, 0, none⟩ = some (.pointer (some ⟨gg, 0, none⟩)) ∧ w'.cell? ⟨w.heap.size, 1, none⟩ = some (.slice (some ⟨bf, 0, none⟩) arcs.length arcs.length) ∧ w'.cell? ⟨gg, 0, none⟩ = some (.int .i64 M) ∧ w'.cell? ⟨gg, 1, none⟩ = some (.bool false) ∧ w'.cell? ⟨gg, 2, none⟩ = some (.slice A arcs.length c)) (first | go_keep | exact HS9.out) ((go_at_call 69; (with_reducible refine (y9o M N false A c arcs (some ⟨bf, 0, none⟩) arcs.length f arcs.length HFL.out _ HN.out HF.out ?s1 ?s2 ?s3 ?s4 ?s5).mono ?_); (case s1 => have := HE2.out; omega); (case s2 => exact (Kd.R_reads' HI2.out.ar).2.1); (case s3 => exact Kd.C_below (Kd.R_reads' HI2.out.ar).2.2 zD); (case s4 => exact (show z0e _ bf f from j5 HF2.out zD).reads (by rw [HFL.out]; have := HN.out.ll; omega)); (case s5 => exact Nat.le_refl _); rintro e w3 ⟨v3, d, rows, rfl, h1, h2, h3, h4, h5⟩; have hb3 : Below w2.heap.size w2 w3 := v6 zD h5; have HS9 : Hid (w3.cell? ⟨w.heap.size, 0, none⟩ = some (.pointer (some ⟨gg, 0, none⟩)) ∧ w3.cell? ⟨w.heap.size, 1, none⟩ = some (.slice (some ⟨bf, 0, none⟩) arcs.length arcs.length) ∧ w3.cell? ⟨gg, 0, none⟩ = some (.int .i64 M) ∧ w3.cell? ⟨gg, 1, none⟩ = some (.bool false) ∧ w3.cell? ⟨gg, 2, none⟩ = some (.slice A arcs.length c)) := zh ⟨j6 hb3 x0, j6 hb3 x1, j6 hb3 y0, j6 hb3 y1, j6 hb3 y2⟩; obtain ⟨Av, cv, rfl⟩ := Kd.R_slice h1; have hlen : (d.map fun x => decide (0 ≤ x)).length = M := (by rw [List.length_map]; exact h2); obtain ⟨gv, cv2, ev, hgv, _, _⟩ := Kd.R_form h1 (by rw [hlen]; have := HE2.out; omega); injection ev with ev1 ev2 ev3; subst ev1; clear ev2 ev3; rw [hlen] at h1; have hcv := (Kd.R_reads' h1).2.1; have n2 : (N : Int) ≤ (cv : Int) := (by omega); have HD1 := zh h1; have HD2 := zh h2; have HD3 := zh h3; have HD4 := zh h4; have HB3 := zh hb3; have HLEN := zh hlen; clear h1 h2 h3 h4 h5 hb3 hlen))
 have HD5 := zh hgv
 have HR3 : Hid (Kd.R z35 110 w3 w.heap.size (fun _ => True) (.slice (some ⟨go, 0, none⟩) (z06 n d 0).length 0) (z06 n d 0)) := zh (Kd.R_below HO2.out HB3.out)
 have HB4 := zh (v6 HB2.out HB3.out)
 have HBASE : Hid (w.heap.size ≤ w2.drew.heap.size) := zh HB2.out.size
 clear hgv hcv x0 x1 y0 y1 y2 HS9
 generalize w2.drew.heap.size = base at *
 go_wp2
 go_loopg [7, 29] (N + 1) (fun k ov iv W => ∃ (i : Nat) (Ao : Option Addr) (co : Nat), i ≤ N ∧ ov = .slice Ao (z06 n d i).length co ∧ iv = .int .i64 i ∧ k = N + 1 - i ∧ Hid (Kd.R z35 110 W w.heap.size (fun _ => True) (.slice Ao (z06 n d i).length co) (z06 n d i) ∧ Kd.R Kd.bool 4 W base (fun _ => True) (.slice (some ⟨gv, 0, none⟩) M cv) (d.map fun x => decide (0 ≤ x)) ∧ Below w.heap.size w W))
 case atStart => exact ⟨0, some ⟨go, 0, none⟩, 0, Nat.zero_le _, rfl, rfl, rfl, zh ⟨HR3.out, HD1.out, HB4.out⟩⟩
 case round =>
  obtain ⟨i, Ao, co, hi, rfl, rfl, rfl, HL⟩ := hrel
  clear HR3 HB4 HD1
  by_cases hlt : i < N
  ·have hlt2 : (i : Int) < (N : Int) := by omega
   have i0 : (0 : Int) ≤ (i : Int) := by omega
   have hbc := HL.out.2.1
   have hbl := HLEN.out
   have hMd := HE2.out
   rw [← hbl] at hbc
   have hcell := y9n hbc i (by omega)
   have hget : (d.map fun x => decide (0 ≤ x)).getD i false = decide (0 ≤ rd d (i : Int)) := by
    have h9 : i < d.length := by have := HD2.out; omega
    unfold rd
    rw [Int.toNat_natCast, List.getD_eq_getElem?_getD, List.getElem?_map, List.getD_eq_getElem?_getD, List.getElem?_eq_getElem h9]
    rfl
   rw [hget] at hcell
   clear hbc hbl hget hMd
   by_cases hd9 : 0 ≤ rd d (i : Int)
   ·have hdd : decide (0 ≤ rd d (i : Int)) = true := by simpa using hd9
    rw [hdd] at hcell
    have HDD := zh hd9
    clear hdd hd9
    obtain ⟨m, hm⟩ : ∃ m, m = (z06 n d i).length := ⟨_, rfl⟩
    have HM := zh hm
    rw [← hm]
    clear hm
    have n9 : (1 : Int) ≤ (n : Int) := by omega
    have hnz : ¬ n = 0 := by omega
    have e7 : IntKind.i64.wrap ((i : Int) / (n : Int)) = (i : Int) / (n : Int) := by
     have h8 : (i : Int) / (n : Int) = ((i / n : Nat) : Int) := rfl
     have h7 : i / n ≤ i := Nat.div_le_self _ _
     rw [h8]
     generalize i / n = q at h7
     exact IntWalk.i64_in _ (by omega)
    have er : (i : Int).tmod (n : Int) = (i : Int) % (n : Int) := rfl
    have HLE := zh (z7z n d i)
    go_wp2
    rename_i K9 aK9
    go_region_law (((repeat rw [z24]); refine Kd.R_append_step z35 (w0 := w) w.heap.size (by rfl) (.tmp 35) (.tmp 43) 50 110 (.agg #[.int .i64 0, .int .i64 0]) 16 (by rfl) Tryz.underlying50 y4p rfl (by decide) (by decide) (.slice Ao m co) (z06 n d i) ⟨((i : Int) % (n : Int)), ((i : Int) / (n : Int))⟩ [.int .i64 ((i : Int) % (n : Int)), .int .i64 ((i : Int) / (n : Int))] (fun _ => True) (fun _ => False) (by rfl) (by rfl) (y4n _ _ _ (⟨((i : Int) % (n : Int)), ((i : Int) / (n : Int))⟩ : z3p)) (fun _ hk => hk.elim) (fun _ _ => trivial) (by rw [HM.out]; exact Kd.R_below HL.out.1 zD) (v6 HL.out.2.2 zD) (HL.out.2.2.size) (by have := HLE.out; omega) ?_; intro v1 w9 ho hb hg hat))
    obtain ⟨A1, c1, rfl⟩ := Kd.R_slice ho
    have hb9 : Kd.R Kd.bool 4 w9 base (fun _ => True) (.slice (some ⟨gv, 0, none⟩) M cv) (d.map fun x => decide (0 ≤ x)) := Kd.R_over' (Kd.R_below HL.out.2.1 zD) (v := .slice Ao m co) (by rw [HM.out]; exact Kd.R_typed (Kd.R_below HL.out.1 zD)) (by decide) hg
    have hs9 : z06 n d (i + 1) = z06 n d i ++ [⟨(i : Int) % (n : Int), (i : Int) / (n : Int)⟩] := by
     rw [z06, if_pos HDD.out]
    rw [← hs9] at ho
    have hl9 : (z06 n d i ++ [(⟨(i : Int) % (n : Int), (i : Int) / (n : Int)⟩ : z3p)]).length = (z06 n d (i + 1)).length := by rw [hs9]
    have HF9 := zh (And.intro ho (And.intro hb9 hb))
    have HL9 := zh hl9
    clear ho hb hg hat hb9 hs9 hl9 er e7
    go_wp2
    go_roundg (N - i)
    case measure => omega
    case rel => exact ⟨i + 1, A1, c1, by omega, by rw [← HL9.out]; first | rfl | simp, by go_num, by omega, HF9⟩
   ·have hdd : decide (0 ≤ rd d (i : Int)) = false := by simpa using hd9
    rw [hdd] at hcell
    have HDD := zh hd9
    clear hdd hd9
    have hs9 : z06 n d (i + 1) = z06 n d i := by
     rw [z06, if_neg HDD.out, List.append_nil]
    have HS9 := zh hs9
    clear hs9
    go_wp2
    go_roundg (N - i)
    case measure => omega
    case rel => exact ⟨i + 1, Ao, co, by omega, by rw [HS9.out], by go_num, by omega, zh (by rw [HS9.out]; exact HL.out)⟩
  ·have hlt2 : ¬ (i : Int) < (N : Int) := by omega
   have e : i = N := by omega
   subst e
   go_wp2
   go_ret
   exact ⟨_, d, rows, rfl, HL.out.1, HD2.out, HD3.out, HD4.out, HL.out.2.2⟩
def z7d (M : Int) (x : Arc) : Prop := (0 ≤ x.f0 ∧ x.f0 < M) ∧ (0 ≤ x.f1 ∧ x.f1 < M) ∧ 0 ≤ x.f2 ∧ x.f2 ≤ 1099511627776
theorem z5g {a n h x : Int} (h0 : 0 ≤ a) (h1 : a ≤ h) (x0 : 0 ≤ x) (x1 : x < n) : 0 ≤ a * n + x ∧ a * n + x < (h + 1) * n := by
 have hn : 0 ≤ n := by omega
 have h2 := Int.mul_nonneg h0 hn
 have h3 : (a + 1) * n ≤ (h + 1) * n := Int.mul_le_mul_of_nonneg_right (by omega) hn
 rw [Int.add_mul, Int.one_mul] at h3
 omega
theorem x4x {n h : Nat} {l : List Arc} (hn : z4g n h l) (hc : ∀ i : Nat, i < l.length → 0 ≤ (z0i l i).f2 ∧ (z0i l i).f2 ≤ 1048576) (use : Arc → Bool) (a : Nat) {s : BSt} {M : Int} (hM : ((h : Int) + 1) * n ≤ M) (hs : ∀ x, x ∈ s.arcs → z7d M x) : ∀ j, j ≤ l.length → ∀ x, x ∈ (bM l use n h a s j).arcs → z7d M x
 |0, _ => hs
 |j + 1, hj => by
  intro x hx
  unfold bM at hx
  simp only at hx
  split at hx
  ·rename_i hcond
   rcases List.mem_append.1 hx with hx | hx
   ·exact x4x hn hc use a hM hs j (by omega) x hx
   ·rw [List.mem_singleton] at hx
    subst hx
    have he := hn.ends j (by omega)
    have ht := hn.time j (by omega)
    have h1 := z5g (a := (a : Int)) (n := n) (h := h) (by omega) (by omega) he.1.1 he.1.2
    have h2 := z5g (a := (a : Int) + (z0i l j).f3) (n := n) (h := h) (by omega) hcond.1 he.2.1 he.2.2
    have h3 := hc j (by omega)
    exact ⟨⟨h1.1, by show (a : Int) * n + (z0i l j).f0 < M; omega⟩, ⟨h2.1, by show ((a : Int) + (z0i l j).f3) * n + (z0i l j).f1 < M; omega⟩, h3.1, by show (z0i l j).f2 ≤ _; omega⟩
  ·exact x4x hn hc use a hM hs j (by omega) x hx
theorem x4v {n h : Nat} (keeps : Nat → Bool) (a : Nat) {s : BSt} {M : Int} (hM : ((h : Int) + 1) * n ≤ M) (hs : ∀ x, x ∈ s.arcs → z7d M x) : ∀ v, v ≤ n → ∀ x, x ∈ (bW keeps n h a s v).arcs → z7d M x
 |0, _ => hs
 |v + 1, hv => by
  intro x hx
  unfold bW at hx
  simp only at hx
  split at hx
  ·rename_i hcond
   rcases List.mem_append.1 hx with hx | hx
   ·exact x4v keeps a hM hs v (by omega) x hx
   ·rw [List.mem_singleton] at hx
    subst hx
    have h1 := z5g (a := (a : Int)) (n := n) (h := h) (x := (v : Int)) (by omega) (by omega) (by omega) (by omega)
    have h2 := z5g (a := (a : Int) + 1) (n := n) (h := h) (x := (v : Int)) (by omega) (by omega) (by omega) (by omega)
    exact ⟨⟨h1.1, by show (a : Int) * n + (v : Int) < M; omega⟩, ⟨h2.1, by show ((a : Int) + 1) * n + (v : Int) < M; omega⟩, by show (0 : Int) ≤ 1099511627776; decide, Int.le_refl _⟩
  ·exact x4v keeps a hM hs v (by omega) x hx
theorem x6c {n h : Nat} {l : List Arc} (hn : z4g n h l) (hc : ∀ i : Nat, i < l.length → 0 ≤ (z0i l i).f2 ∧ (z0i l i).f2 ≤ 1048576) (use : Arc → Bool) (keeps : Nat → Bool) {M : Int} (hM : ((h : Int) + 1) * n ≤ M) : ∀ a x, x ∈ (bA l use keeps n h a).arcs → z7d M x
 |0, x, hx => by cases hx
 |a + 1, x, hx => x4v keeps a hM (x4x hn hc use a hM (x6c hn hc use keeps hM a) l.length (Nat.le_refl _)) n (Nat.le_refl _) x hx
def z5e (N : Nat) (p : List Grp) : List Arc := p.map fun g => ⟨(N : Int), g.f0, g.f1, 0⟩
def z8d (N1 n h : Nat) (q : List Grp) : List Arc := q.map fun g => ⟨(h : Int) * n + g.f0, (N1 : Int), g.f1, 0⟩
def z1h (l : List Arc) (use : Arc → Bool) (keeps : Nat → Bool) (n h N N1 : Nat) (p q : List Grp) : List Arc := (bA l use keeps n h (h + 1)).arcs ++ z5e N p ++ z8d N1 n h q
theorem y5z (N : Nat) (p : List Grp) (g : Grp) : z5e N (p ++ [g]) = z5e N p ++ [⟨(N : Int), g.f0, g.f1, 0⟩] := by unfold z5e; rw [List.map_append]; rfl
theorem y5w (N1 n h : Nat) (q : List Grp) (g : Grp) : z8d N1 n h (q ++ [g]) = z8d N1 n h q ++ [⟨(h : Int) * n + g.f0, (N1 : Int), g.f1, 0⟩] := by unfold z8d; rw [List.map_append]; rfl
def z3y (n : Nat) (p : List Grp) : Prop := ∀ g, g ∈ p → (0 ≤ g.f0 ∧ g.f0 < n) ∧ 0 ≤ g.f1 ∧ g.f1 ≤ 1048576
theorem y1q {n h N N1 M : Nat} {l : List Arc} (hn : z4g n h l) (hc : ∀ i : Nat, i < l.length → 0 ≤ (z0i l i).f2 ∧ (z0i l i).f2 ≤ 1048576) (use : Arc → Bool) (keeps : Nat → Bool) {p q : List Grp} (hp : z3y n p) (hq : z3y n q) (eN : N = (h + 1) * n) (e1 : N1 = N + 1) (e2 : M = N + 2) :
  ∀ x, x ∈ z1h l use keeps n h N N1 p q → z7d M x := by
 have hN : (N : Int) = ((h : Int) + 1) * n := by rw [eN, Int.natCast_mul]; rfl
 intro x hx
 rcases List.mem_append.1 hx with hx | hx
 ·rcases List.mem_append.1 hx with hx | hx
  ·exact x6c hn hc use keeps (M := M) (by omega) _ x hx
  ·obtain ⟨g, hg, rfl⟩ := List.mem_map.1 hx
   have h1 := hp g hg
   have h2 : (n : Int) ≤ ((h : Int) + 1) * n := by
    have := z5g (a := (h : Int)) (n := n) (h := h) (x := (0 : Int)) (by omega) (by omega) (by omega) (by have := hn.n0; omega)
    have h3 := Int.mul_nonneg (show (0 : Int) ≤ h by omega) (show (0 : Int) ≤ n by omega)
    rw [Int.add_mul, Int.one_mul]
    omega
   exact ⟨⟨by show (0 : Int) ≤ (N : Int); omega, by show (N : Int) < (M : Int); omega⟩, ⟨h1.1.1, by show g.f0 < (M : Int); omega⟩, h1.2.1, by show g.f1 ≤ _; omega⟩
 ·obtain ⟨g, hg, rfl⟩ := List.mem_map.1 hx
  have h1 := hq g hg
  have h2 := z5g (a := (h : Int)) (n := n) (h := h) (by omega) (by omega) h1.1.1 h1.1.2
  exact ⟨⟨h2.1, by show (h : Int) * n + g.f0 < (M : Int); omega⟩, ⟨by show (0 : Int) ≤ (N1 : Int); omega, by show (N1 : Int) < (M : Int); omega⟩, h1.2.1, by show g.f1 ≤ _; omega⟩
theorem z9m {n h N N1 : Nat} {l : List Arc} (hn : z4g n h l) (use : Arc → Bool) (keeps : Nat → Bool) (p q : List Grp) : (z1h l use keeps n h N N1 p q).length ≤ 14000 + p.length + q.length := by
 unfold z1h z5e z8d
 rw [List.length_append, List.length_append, List.length_map, List.length_map]
 have h1 := (y6r l use keeps n h (h + 1)).1
 have h2 := hn.hn
 have h3 := hn.hl
 rw [Nat.mul_add] at h1
 omega
theorem y4g {M : Nat} {arcs : List Arc} (h0 : 0 < M) (h1 : M ≤ 10000) (hl : arcs.length ≤ 100000) (h : ∀ x, x ∈ arcs → z7d M x) : z12 M arcs ∧ ∀ i : Int, 0 ≤ i → i < arcs.length → 0 ≤ (j7 arcs i).f2 := by
 have key : ∀ i : Int, 0 ≤ i → i < arcs.length → z7d M (j7 arcs i) := fun i h0 h1 => by
  obtain ⟨k, rfl⟩ := Int.eq_ofNat_of_zero_le h0
  exact h _ (z3d (by omega))
 exact ⟨⟨h0, h1, hl, fun i a b => ⟨(key i a b).1, (key i a b).2.1⟩, fun i a b => (key i a b).2.2.2⟩, fun i a b => (key i a b).2.2.1⟩
theorem GrI.loose {w0 : World} {gg : Nat} {N n : Int} {v : Value} {arcs : List Arc} {B : MB} {D : MD} {W : World} (h : GrI w0 gg N n v arcs B D W) : GrI (x2a W) gg N n v arcs B D W :=
 ⟨h.bx, Kd.R_lower h.ar (Nat.zero_le _), h.mm, h.mw, h.mf, h.ml, z9s W W ⟨rfl, rfl, rfl⟩, Nat.zero_le _, Nat.zero_le _, Nat.zero_le _, Nat.zero_le _, Nat.zero_le _, h.n1, h.n2, h.n3, h.n4, h.n5, h.n6⟩
set_option linter.unusedVariables false
set_option linter.unusedSimpArgs false
def z0v (q : List Grp) (x : Arc) : Bool := !z1a (z0a q) x.f0
def d9 (b : Bool) (p q : List Grp) (v : Nat) : Bool := b || (z1a (z0a p) (v : Int) || z1a (z0a q) (v : Int))
def x47 (n h : Nat) (b : Bool) (l : List Arc) (p q : List Grp) (N N1 M : Nat) (w : World) (e : Ending) (w' : World) : Prop :=
 ∃ (w0 : World) (gg : Nat) (v : Value) (B : MB) (bf : Nat) (f : List Int) (S : Int → Bool),
  e = .returned (.agg #[.pointer (some ⟨gg, 0, none⟩), .slice (some ⟨bf, 0, none⟩) (z1h l (z0v q) (d9 b p q) n h N N1 p q).length (z1h l (z0v q) (d9 b p q) n h N N1 p q).length, .int .i64 (z0j (z1h l (z0v q) (d9 b p q) n h N N1 p q).length (z08 (z1h l (z0v q) (d9 b p q) n h N N1 p q)) (z05 (z1h l (z0v q) (d9 b p q) n h N N1 p q)) (dOf f) N)]) ∧
  GrI w0 gg M n v (z1h l (z0v q) (d9 b p q) n h N N1 p q) B (bA l (z0v q) (d9 b p q) n h (h + 1)).md w' ∧ z0e w' bf f ∧ z0t (z1h l (z0v q) (d9 b p q) n h N N1 p q) f ∧
  Top (z1h l (z0v q) (d9 b p q) n h N N1 p q).length (z08 (z1h l (z0v q) (d9 b p q) n h N N1 p q)) (z05 (z1h l (z0v q) (d9 b p q) n h N N1 p q)) M N N1 (z2f (z1h l (z0v q) (d9 b p q) n h N N1 p q)) (dOf f) S ∧ Below w.heap.size w w'
theorem z5o (n h : Nat) (b : Bool) (A : Option Addr) (c : Nat) (l : List Arc) (Ap : Option Addr) (cp : Nat) (p : List Grp) (Aq : Option Addr) (cq : Nat) (q : List Grp) (gp bh br N N1 M : Nat) (eN : N = (h + 1) * n) (e1 : N1 = N + 1) (e2 : M = N + 2) (w : World)
  (hP : PlI gp (z0f n b A l.length c Ap p.length cp Aq q.length cq bh br) bh br p.length q.length (z0a p) (z0a q) w) (hr : Kd.C z3l w A l.length l) (hlc : l.length ≤ c) (hp : Kd.C z1v w Ap p.length p) (hq : Kd.C z1v w Aq q.length q)
  (hn : z4g n h l) (hc : ∀ i : Nat, i < l.length → 0 ≤ (z0i l i).f2 ∧ (z0i l i).f2 ≤ 1048576) (gp1 : z3y n p) (gq1 : z3y n q) (lp : p.length ≤ 1000) (lq : q.length ≤ 1000) :
  Calls Tryz.prog 26 #[.pointer (some ⟨gp, 0, none⟩), .int .i64 h] w (x47 n h b l p q N N1 M w) := by
 have HP := zh hP
 have HR := zh hr
 have HLC := zh hlc
 have HPR := zh hp
 have HQR := zh hq
 have HN := zh hn
 have HC := zh hc
 have HGP := zh gp1
 have HGQ := zh gq1
 have HEN := zh eN
 have HE1 := zh e1
 have HE2 := zh e2
 have HLP := zh lp
 have HLQ := zh lq
 have hn1 := hn.n1
 have hh1 := hn.h1
 have hN : N ≤ 4000 := by rw [eN]; exact hn.hn
 have x0 : w.cell? ⟨gp, 0, none⟩ = some (.int .i64 n) := (y7 hP.bx 0).trans rfl
 have x1 : w.cell? ⟨gp, 1, none⟩ = some (.bool b) := (y7 hP.bx 1).trans rfl
 have x2 : w.cell? ⟨gp, 2, none⟩ = some (.slice A l.length c) := (y7 hP.bx 2).trans rfl
 have x3 : w.cell? ⟨gp, 3, none⟩ = some (.slice Ap p.length cp) := (y7 hP.bx 3).trans rfl
 have x4 : w.cell? ⟨gp, 4, none⟩ = some (.slice Aq q.length cq) := (y7 hP.bx 4).trans rfl
 have z0 := j6 (y8 (Below.refl w.heap.size w) (.cells #[.pointer none, .slice none 0 0, .int .i64 0] 70)) x0
 have z1 := j6 (y8 (Below.refl w.heap.size w) (.cells #[.pointer none, .slice none 0 0, .int .i64 0] 70)) x1
 have z2 := j6 (y8 (Below.refl w.heap.size w) (.cells #[.pointer none, .slice none 0 0, .int .i64 0] 70)) x2
 have z3 := j6 (y8 (Below.refl w.heap.size w) (.cells #[.pointer none, .slice none 0 0, .int .i64 0] 70)) x3
 have z4 := j6 (y8 (Below.refl w.heap.size w) (.cells #[.pointer none, .slice none 0 0, .int .i64 0] 70)) x4
 have HB0 := zh (y8 (Below.refl w.heap.size w) (.cells #[.pointer none, .slice none 0 0, .int .i64 0] 70))
 have HRC0 := zh (heap_alloc_new w (.cells #[.pointer none, .slice none 0 0, .int .i64 0] 70))
 have X3 := zh x3
 have X4 := zh x4
 clear x0 x1 x2 x3 x4
 have HW : Hid (∀ x, x ∈ l → (Lit.int .i64 x.f0).wf = true) := zh (fun x hx => by
  obtain ⟨i, hi, rfl⟩ := List.getElem_of_mem hx
  have h9 := (hn.ends i hi).1
  have h8 : z0i l i = l[i] := by
   unfold z0i j7
   rw [Int.toNat_natCast, List.getD_eq_getElem?_getD, List.getElem?_eq_getElem hi]
   rfl
  rw [h8] at h9
  exact z0o h9.1 (by omega))
 have hu := Tryz.underlying115
 have hu2 := Tryz.underlying59
 have hu3 := Tryz.underlying70
 have hu4 := Tryz.underlying33
 clear hP hr hlc hp hq hn hc gp1 gq1 eN e1 e2
 go_enter Tryz.func26, Tryz.ntmps26
 go_wp2_with (first
  |(go_at_call 60; refine (y6q n h b A c l gp (z0v q) (d9 b p q) _ HN.out HLC.out (Kd.C_below HR.out HB0.out) (fun x W hx hb => (z9y gp n b A l.length c Ap p.length cp Aq q.length cq bh br p.length q.length (z0a p) (z0a q) x W (HP.out.below (v6 HB0.out hb)) (HW.out x hx)).mono (fun _ _ h9 => h9)) (fun v W hv hb => (z48 gp n b A l.length c Ap p.length cp Aq q.length cq bh br p.length q.length (z0a p) (z0a q) v W (HP.out.below (v6 HB0.out hb)) (z0o (by omega) (by omega))).mono (fun _ _ h9 => ⟨h9.1, by rw [h9.2]; exact Below.refl _ _⟩))).mono ?_; rintro e w1 ⟨gg, rfl, v, B, hI⟩; have hlow := hI.low; obtain ⟨s0, hs0⟩ : ∃ s0, s0 = bA l (z0v q) (d9 b p q) n h (h + 1) := ⟨_, rfl⟩; have hI2 : GrI (w.alloc (.cells #[.pointer none, .slice none 0 0, .int .i64 0] 70)) gg M n v s0.arcs B s0.md w1 := (by rw [hs0, HE2.out, HEN.out]; exact hI); have HS0 := zh hs0; obtain ⟨w0, hw0⟩ : ∃ w0, w0 = w.alloc (.cells #[.pointer none, .slice none 0 0, .int .i64 0] 70) := ⟨_, rfl⟩; rw [← hw0] at hI2; have HW00 : Hid (Below w.heap.size w w0) := zh (by rw [hw0]; exact HB0.out); have HRC00 : Hid (w0.heap[w.heap.size]? = some (.cells #[.pointer none, .slice none 0 0, .int .i64 0] 70 (0, 0))) := zh (by rw [hw0]; exact HRC0.out); have HI0 := zh hI2; clear hI2 hs0 hw0; have HB1 := zh (v6 HB0.out hlow); have HRC1 := zh (j5 HRC0.out hlow); have a3 := j6 hlow z3; have a4 := j6 hlow z4; clear hI hlow z0 z1 z2 z3 z4)
  |(go_at_call 61; (with_reducible refine (z8p w0 gg N N1 M HE1.out HE2.out n v s0.arcs B s0.md _ ?s1 ?s2).mono ?_); (case s1 => exact HI0.out); (case s2 => have := HE2.out; omega); rintro e w2 ⟨rfl, hb⟩; have HI1 := zh (HI0.out.below hb); have HB2 := zh (v6 HB1.out hb); have HRC2 := zh (j5 HRC1.out hb); have b3 := j6 hb a3; have b4 := j6 hb a4; clear hb a3 a4))
 go_loopg [32] (p.length + 1) (fun k iv W => ∃ (i : Nat) (v1 : Value), i ≤ p.length ∧ iv = .int .i64 i ∧ k = p.length + 1 - i ∧ Hid (GrI w0 gg M n v1 (s0.arcs ++ z5e N (p.take i)) B s0.md W))
 case atStart => exact ⟨0, v, Nat.zero_le _, rfl, rfl, zh (by rw [List.take_zero]; show GrI w0 gg M n v (s0.arcs ++ []) B s0.md w2; rw [List.append_nil]; exact HI1.out)⟩
 case round =>
  obtain ⟨i, v1, hi, rfl, rfl, HL⟩ := hrel
  clear b3 b4 HI1 HB2 HRC2
  by_cases hlt : i < p.length
  ·have i0 : (0 : Int) ≤ (i : Int) := by omega
   have i1 : (i : Int) < (p.length : Int) := by omega
   have HBW := zh (v6 HW00.out HL.out.low)
   obtain ⟨ad, ea, y0, y1⟩ := z2y (Kd.C_below HPR.out HBW.out) (i : Int) i0 i1
   subst ea
   rw [Int.toNat_natCast] at y0 y1
   obtain ⟨g, hg⟩ : ∃ g, g = z6w p i := ⟨_, rfl⟩
   have hg2 : z0q p (i : Int) = g := by rw [hg]; rfl
   rw [hg2] at y0 y1
   have HG := zh hg
   have hgin := HGP.out g (by rw [hg]; exact z2s hlt)
   have HGIN := zh hgin
   have hf0 : 0 ≤ g.f0 ∧ g.f0 ≤ 1000 := by omega
   have HF0 := zh hf0
   have HN8 := zh (show (0 : Int) ≤ (n : Int) ∧ (n : Int) ≤ 1000 by omega)
   have HA0 := zh (show (0 : Int) ≤ (0 : Int) ∧ (0 : Int) ≤ 10000 by omega)
   have HAH := zh (show (0 : Int) ≤ (h : Int) ∧ (h : Int) ≤ 10000 by omega)
   clear hg hg2 hgin hf0
   go_wp2
   have Hv := zh (heap_alloc_new wr (.cells #[.int .i64 g.f0, .int .i64 g.f1] 59))
   have HBA := zh (y8 (Below.refl wr.heap.size wr) (.cells #[.int .i64 g.f0, .int .i64 g.f1] 59))
   obtain ⟨W0, hW0⟩ : ∃ W0, W0 = wr.alloc (.cells #[.int .i64 g.f0, .int .i64 g.f1] 59) := ⟨_, rfl⟩
   rw [← hW0] at Hv HBA ⊢
   clear hW0
   have v0' : W0.cell? ⟨wr.heap.size, 0, none⟩ = some (.int .i64 g.f0) := (y7 Hv.out 0).trans rfl
   have v1' : W0.cell? ⟨wr.heap.size, 1, none⟩ = some (.int .i64 g.f1) := (y7 Hv.out 1).trans rfl
   have HI1 := zh (HL.out.below HBA.out)
   generalize wr.heap.size = av at *
   clear y0 y1
   obtain ⟨arcs, harcs⟩ : ∃ arcs, arcs = s0.arcs ++ z5e N (p.take i) := ⟨_, rfl⟩
   rw [← harcs] at HI1
   have HARC := zh harcs
   have HAL : Hid (arcs.length ≤ 100000) := zh (by
    rw [harcs]
    have h1 := (y6r l (z0v q) (d9 b p q) n h (h + 1)).1
    have h2 := HN.out.hn
    have h3 := HN.out.hl
    rw [← HS0.out, Nat.mul_add] at h1
    simp only [List.length_append, z5e, List.length_map, List.length_take]
    have h4 := HLP.out
    have h5 := HLQ.out
    omega)
   clear harcs
   have HNE : Hid (¬ (av = gg ∨ some av = v1.ownBlock)) := zh (by
    rintro (e9 | e9)
    ·exact z5h Hv.out HI1.out.bx (by decide) e9
    ·exact Kd.R_ne HI1.out.ar Hv.out (by decide) e9)
   go_region_held3 (fun w' => w'.cell? ⟨av, 0, none⟩ = some (.int .i64 g.f0) ∧ w'.cell? ⟨av, 1, none⟩ = some (.int .i64 g.f1)) (first | exact HS9.out | go_keep) ((first
    |(go_at_call 63; (with_reducible refine (z7j w0 gg M n v1 arcs B s0.md g.f0 0 _ ?s1 HN8.out HF0.out HA0.out).mono ?_); (case s1 => exact HI1.out.below zD); rintro e w' ⟨rfl, rfl⟩; rw [show (0 : Int) * (n : Int) + g.f0 = g.f0 by omega])
    |(go_at_call 62; (with_reducible refine (z7m w0 gg M n v1 arcs B s0.md _ _ _ _ ?s1 HAL.out).mono ?_); (case s1 => exact HI1.out.below zD); rintro e w9 ⟨rfl, v9, hI, hk, hs⟩; have hv9 := z0m (show _ from j5 Hv.out zD) hk HNE.out; have HS9 : Hid (w9.cell? ⟨av, 0, none⟩ = some (.int .i64 g.f0) ∧ w9.cell? ⟨av, 1, none⟩ = some (.int .i64 g.f1)) := zh ⟨(y7 hv9 0).trans rfl, (y7 hv9 1).trans rfl⟩; have HI9 := zh hI; clear hI hk hs hv9)))
   all_goals
    go_wp2
    go_roundg (p.length - i)
    case measure => omega
    case rel => exact ⟨i + 1, v9, by omega, by go_num, by omega, zh (by rw [z38 hlt, y5z, ← HG.out, ← List.append_assoc, ← HARC.out]; exact HI9.out)⟩
  ·have e : i = p.length := by omega
   subst e
   have HL1 : Hid (GrI w0 gg M n v1 (s0.arcs ++ z5e N p) B s0.md wr) := zh (by have h9 := HL.out; rw [List.take_length] at h9; exact h9)
   have b4 := j6 (v6 HW00.out HL1.out.low) X4.out
   clear HL
   go_wp2
   go_loopg [51] (q.length + 1) (fun k iv W => ∃ (i : Nat) (v1 : Value), i ≤ q.length ∧ iv = .int .i64 i ∧ k = q.length + 1 - i ∧ Hid (GrI w0 gg M n v1 (s0.arcs ++ z5e N p ++ z8d N1 n h (q.take i)) B s0.md W))
   case atStart => exact ⟨0, v1, Nat.zero_le _, rfl, rfl, zh (by rw [List.take_zero]; show GrI w0 gg M n v1 (s0.arcs ++ z5e N p ++ []) B s0.md wr; rw [List.append_nil]; exact HL1.out)⟩
   case round =>
    obtain ⟨i, v1, hi, rfl, rfl, HL⟩ := hrel
    clear b4 HL1
    by_cases hlt : i < q.length
    ·have i0 : (0 : Int) ≤ (i : Int) := by omega
     have i1 : (i : Int) < (q.length : Int) := by omega
     have HBW := zh (v6 HW00.out HL.out.low)
     obtain ⟨ad, ea, y0, y1⟩ := z2y (Kd.C_below HQR.out HBW.out) (i : Int) i0 i1
     subst ea
     rw [Int.toNat_natCast] at y0 y1
     obtain ⟨g, hg⟩ : ∃ g, g = z6w q i := ⟨_, rfl⟩
     have hg2 : z0q q (i : Int) = g := by rw [hg]; rfl
     rw [hg2] at y0 y1
     have HG := zh hg
     have hgin := HGQ.out g (by rw [hg]; exact z2s hlt)
     have HGIN := zh hgin
     have hf0 : 0 ≤ g.f0 ∧ g.f0 ≤ 1000 := by omega
     have HF0 := zh hf0
     have HN8 := zh (show (0 : Int) ≤ (n : Int) ∧ (n : Int) ≤ 1000 by omega)
     have HA0 := zh (show (0 : Int) ≤ (0 : Int) ∧ (0 : Int) ≤ 10000 by omega)
     have HAH := zh (show (0 : Int) ≤ (h : Int) ∧ (h : Int) ≤ 10000 by omega)
     clear hg hg2 hgin hf0
     go_wp2
     have Hv1 := zh (heap_alloc_new wr (.cells #[.int .i64 g.f0, .int .i64 g.f1] 59))
     have HBA := zh (y8 (Below.refl wr.heap.size wr) (.cells #[.int .i64 g.f0, .int .i64 g.f1] 59))
     obtain ⟨W0, hW0⟩ : ∃ W0, W0 = wr.alloc (.cells #[.int .i64 g.f0, .int .i64 g.f1] 59) := ⟨_, rfl⟩
     rw [← hW0] at Hv1 HBA ⊢
     clear hW0
     have v0' : W0.cell? ⟨wr.heap.size, 0, none⟩ = some (.int .i64 g.f0) := (y7 Hv1.out 0).trans rfl
     have v1' : W0.cell? ⟨wr.heap.size, 1, none⟩ = some (.int .i64 g.f1) := (y7 Hv1.out 1).trans rfl
     have HI1 := zh (HL.out.below HBA.out)
     generalize wr.heap.size = av at *
     clear y0 y1
     obtain ⟨arcs, harcs⟩ : ∃ arcs, arcs = s0.arcs ++ z5e N p ++ z8d N1 n h (q.take i) := ⟨_, rfl⟩
     rw [← harcs] at HI1
     have HARC := zh harcs
     have HAL : Hid (arcs.length ≤ 100000) := zh (by
      rw [harcs]
      have h1 := (y6r l (z0v q) (d9 b p q) n h (h + 1)).1
      have h2 := HN.out.hn
      have h3 := HN.out.hl
      rw [← HS0.out, Nat.mul_add] at h1
      simp only [List.length_append, z5e, z8d, List.length_map, List.length_take]
      have h4 := HLP.out
      have h5 := HLQ.out
      omega)
     clear harcs
     have HNE : Hid (¬ (av = gg ∨ some av = v1.ownBlock)) := zh (by
      rintro (e9 | e9)
      ·exact z5h Hv1.out HI1.out.bx (by decide) e9
      ·exact Kd.R_ne HI1.out.ar Hv1.out (by decide) e9)
     go_region_held3 (fun w' => w'.cell? ⟨av, 0, none⟩ = some (.int .i64 g.f0) ∧ w'.cell? ⟨av, 1, none⟩ = some (.int .i64 g.f1)) (first | exact HS9.out | go_keep) ((first
      |(go_at_call 63; (with_reducible refine (z7j w0 gg M n v1 arcs B s0.md g.f0 (h : Int) _ ?s1 HN8.out HF0.out HAH.out).mono ?_); (case s1 => exact HI1.out.below zD); rintro e w' ⟨rfl, rfl⟩)
      |(go_at_call 62; (with_reducible refine (z7m w0 gg M n v1 arcs B s0.md _ _ _ _ ?s1 HAL.out).mono ?_); (case s1 => exact HI1.out.below zD); rintro e w9 ⟨rfl, v9, hI, hk, hs⟩; have hv9 := z0m (show _ from j5 Hv1.out zD) hk HNE.out; have HS9 : Hid (w9.cell? ⟨av, 0, none⟩ = some (.int .i64 g.f0) ∧ w9.cell? ⟨av, 1, none⟩ = some (.int .i64 g.f1)) := zh ⟨(y7 hv9 0).trans rfl, (y7 hv9 1).trans rfl⟩; have HI9 := zh hI; clear hI hk hs hv9)))
     all_goals
      go_wp2
      go_roundg (q.length - i)
      case measure => omega
      case rel => exact ⟨i + 1, v9, by omega, by go_num, by omega, zh (by rw [z38 hlt, y5w, ← HG.out, ← List.append_assoc, ← HARC.out]; exact HI9.out)⟩
    ·have e : i = q.length := by omega
     subst e
     have hf := HL.out
     rw [List.take_length] at hf
     have hev : s0.arcs ++ z5e N p ++ z8d N1 n h q = z1h l (z0v q) (d9 b p q) n h N N1 p q := by rw [HS0.out]; rfl
     rw [hev] at hf
     have hok := y4g (M := M) (arcs := z1h l (z0v q) (d9 b p q) n h N N1 p q) (by have := HE2.out; omega) (by have := HE2.out; omega) (by have := z9m (N := N) (N1 := N1) HN.out (z0v q) (d9 b p q) p q; omega) (y1q HN.out HC.out (z0v q) (d9 b p q) HGP.out HGQ.out HEN.out HE1.out HE2.out)
     obtain ⟨arcs, harcs⟩ : ∃ arcs, arcs = z1h l (z0v q) (d9 b p q) n h N N1 p q := ⟨_, rfl⟩
     rw [← harcs] at hf hok
     have HF := zh hf
     have HOK := zh hok
     have HARC := zh harcs
     clear hf hev hok harcs
     go_wp2_with (go_at_call 64; (with_reducible refine (y5h w0 gg N N1 M HE1.out HE2.out n v1 arcs B s0.md _ HF.out HOK.out.1 HOK.out.2).mono ?_); rintro e w9 ⟨bf, f, S, rfl, h1, h2, h3, h4, h5, h6⟩; have K1 := zh h1; have K2 := zh h2; have K4 := zh h4; have K5 := zh h5; have HRC9 := zh (j5 HRC00.out h1.low); have HB9 := zh (v6 HW00.out h1.low); have HSZ9 := zh (z0c HRC00.out); have y0 : w9.cell? ⟨w.heap.size, 0, none⟩ = some (.pointer none) := (y7 HRC9.out 0).trans rfl; have y1 : w9.cell? ⟨w.heap.size, 1, none⟩ = some (.slice none 0 0) := (y7 HRC9.out 1).trans rfl; have y2 : w9.cell? ⟨w.heap.size, 2, none⟩ = some (.int .i64 0) := (y7 HRC9.out 2).trans rfl; have f0 := j3 HRC9.out 0; have f1 := j3 HRC9.out 1; have f2 := j3 HRC9.out 2; clear h1 h2 h3 h4 h5 h6)
     refine bodyPost_ret (results_cell_row rfl _ _ w.heap.size 70 #[.pointer (some ⟨gg, 0, none⟩), .slice (some ⟨bf, 0, none⟩) arcs.length arcs.length, .int .i64 (z0j arcs.length (z08 arcs) (z05 arcs) (dOf f) N)] (0, 0) _ rfl (z0h (cs := #[.pointer (some ⟨gg, 0, none⟩), .slice (some ⟨bf, 0, none⟩) arcs.length arcs.length, .int .i64 0]) (z0h (cs := #[.pointer (some ⟨gg, 0, none⟩), .slice none 0 0, .int .i64 0]) (z0h (cs := #[.pointer none, .slice none 0 0, .int .i64 0]) HRC9.out 0 (.pointer (some ⟨gg, 0, none⟩)) rfl) 1 (.slice (some ⟨bf, 0, none⟩) arcs.length arcs.length) rfl) 2 (.int .i64 (z0j arcs.length (z08 arcs) (z05 arcs) (dOf f) N)) rfl) hu3 rfl (by kernel_rfl)) rfl ?_
     have k1 := z0h (cs := #[.pointer none, .slice none 0 0, .int .i64 0]) HRC9.out 0 (.pointer (some ⟨gg, 0, none⟩)) rfl
     have k2 := z0h (cs := #[.pointer (some ⟨gg, 0, none⟩), .slice none 0 0, .int .i64 0]) k1 1 (.slice (some ⟨bf, 0, none⟩) arcs.length arcs.length) rfl
     have hne : bf ≠ w.heap.size := z5h K2.out HRC9.out (by decide)
     have hg9 := ((K1.out.loose.set HRC9.out (by decide) (by decide) (Nat.zero_le _) 0 (.pointer (some ⟨gg, 0, none⟩))).set k1 (by decide) (by decide) (Nat.zero_le _) 1 (.slice (some ⟨bf, 0, none⟩) arcs.length arcs.length)).set k2 (by decide) (by decide) (Nat.zero_le _) 2 (.int .i64 (z0j arcs.length (z08 arcs) (z05 arcs) (dOf f) N))
     have hi9 : z0e (((w9.setCell ⟨w.heap.size, 0, none⟩ (.pointer (some ⟨gg, 0, none⟩))).setCell ⟨w.heap.size, 1, none⟩ (.slice (some ⟨bf, 0, none⟩) arcs.length arcs.length)).setCell ⟨w.heap.size, 2, none⟩ (.int .i64 (z0j arcs.length (z08 arcs) (z05 arcs) (dOf f) N))) bf f := by
      unfold z0e
      rw [Below.heap_setCell _ ⟨w.heap.size, 2, none⟩ _ _ hne, Below.heap_setCell _ ⟨w.heap.size, 1, none⟩ _ _ hne, Below.heap_setCell _ ⟨w.heap.size, 0, none⟩ _ _ hne]
      exact K2.out
     have hb9 := q5 (g := w.heap.size) (j := 2) (v := .int .i64 (z0j arcs.length (z08 arcs) (z05 arcs) (dOf f) N)) (q5 (g := w.heap.size) (j := 1) (v := .slice (some ⟨bf, 0, none⟩) arcs.length arcs.length) (q5 (g := w.heap.size) (j := 0) (v := .pointer (some ⟨gg, 0, none⟩)) HB9.out (Nat.le_refl _)) (Nat.le_refl _)) (Nat.le_refl _)
     have k4 := K4.out
     have k5 := K5.out
     have h0 := HARC.out
     have hs0 := HS0.out
     clear HF HOK HARC K1 K2 K4 K5 y0 y1 y2 f0 f1 f2 HL
     subst h0
     subst hs0
     exact ⟨_, gg, v1, B, bf, f, S, rfl, hg9, hi9, k4, k5, hb9⟩
set_option linter.unusedVariables false
set_option linter.unusedSimpArgs false
open Classical in
noncomputable def y8a (arcs : List Arc) (M N N1 : Nat) : Int :=
 if h : ∃ f : List Int, ∃ S, z0t arcs f ∧ Top arcs.length (z08 arcs) (z05 arcs) M N N1 (z2f arcs) (dOf f) S then z0j arcs.length (z08 arcs) (z05 arcs) (dOf h.choose) N else 0
theorem z8q {M : Nat} {arcs : List Arc} (h : ∀ x, x ∈ arcs → z7d M x) : Flow.Ends arcs.length (z08 arcs) (z05 arcs) M := fun i hi => ⟨(h _ (z3d hi)).1, (h _ (z3d hi)).2.1⟩
theorem z97 {arcs : List Arc} {M N N1 : Nat} (ha : ∀ x, x ∈ arcs → z7d M x) (hN : N < M) {f : List Int} {S : Int → Bool} (hf : z0t arcs f) (ht : Top arcs.length (z08 arcs) (z05 arcs) M N N1 (z2f arcs) (dOf f) S) : y8a arcs M N N1 = z0j arcs.length (z08 arcs) (z05 arcs) (dOf f) N := by
 unfold y8a
 have h : ∃ f : List Int, ∃ S, z0t arcs f ∧ Top arcs.length (z08 arcs) (z05 arcs) M N N1 (z2f arcs) (dOf f) S := ⟨f, S, hf, ht⟩
 rw [dif_pos h]
 obtain ⟨S2, h2, h3⟩ := h.choose_spec
 exact y0u (z8q ha) ⟨by omega, by omega⟩ ht h3
noncomputable def z1t (n h : Nat) (b : Bool) (l : List Arc) (p q : List Grp) : Int :=
 y8a (z1h l (z0v q) (d9 b p q) n h ((h + 1) * n) ((h + 1) * n + 1) p q) ((h + 1) * n + 2) ((h + 1) * n) ((h + 1) * n + 1)
theorem z4g.le {n h k : Nat} {l : List Arc} (hn : z4g n h l) (hk : k ≤ h) : z4g n k l :=
 ⟨hn.n0, hn.n1, by have := hn.h1; omega, Nat.le_trans (Nat.mul_le_mul (by omega) (Nat.le_refl _)) hn.hn, Nat.le_trans (Nat.mul_le_mul (by omega) (Nat.le_refl _)) hn.hl, hn.ends, hn.time⟩
structure z00 (n h : Nat) (l : List Arc) (p q : List Grp) : Prop where
 net : z4g n h l
 caps : ∀ i : Nat, i < l.length → 0 ≤ (z0i l i).f2 ∧ (z0i l i).f2 ≤ 1048576
 gp : z3y n p
 gq : z3y n q
 lp : p.length ≤ 1000
 lq : q.length ≤ 1000
theorem z00.le {n h k : Nat} {l : List Arc} {p q : List Grp} (hn : z00 n h l p q) (hk : k ≤ h) : z00 n k l p q := ⟨hn.net.le hk, hn.caps, hn.gp, hn.gq, hn.lp, hn.lq⟩
theorem z00.arcs {n h : Nat} {l : List Arc} {p q : List Grp} (hn : z00 n h l p q) (b : Bool) : ∀ x, x ∈ z1h l (z0v q) (d9 b p q) n h ((h + 1) * n) ((h + 1) * n + 1) p q → z7d ((h + 1) * n + 2 : Nat) x :=
 y1q hn.net hn.caps (z0v q) (d9 b p q) hn.gp hn.gq rfl rfl rfl
theorem z00.netOk {n h : Nat} {l : List Arc} {p q : List Grp} (hn : z00 n h l p q) (b : Bool) : z12 ((h + 1) * n + 2) (z1h l (z0v q) (d9 b p q) n h ((h + 1) * n) ((h + 1) * n + 1) p q) ∧ ∀ i : Int, 0 ≤ i → i < (z1h l (z0v q) (d9 b p q) n h ((h + 1) * n) ((h + 1) * n + 1) p q).length → 0 ≤ (j7 (z1h l (z0v q) (d9 b p q) n h ((h + 1) * n) ((h + 1) * n + 1) p q) i).f2 :=
 y4g (by omega) (by have := hn.net.hn; omega) (by have := z9m (N := (h + 1) * n) (N1 := (h + 1) * n + 1) hn.net (z0v q) (d9 b p q) p q; have := hn.lp; have := hn.lq; omega) (hn.arcs b)
theorem z8o (g : Option Addr) (A : Option Addr) (m c : Nat) (z : Int) (W : World) : (Instr.field 70 (.agg #[.pointer g, .slice A m c, .int .i64 z]) 2).run Tryz.prog W = .ok (.int .i64 z) W := by kernel_rfl
def x6w (n : Nat) (b : Bool) (l : List Arc) (p q : List Grp) (all : Int) (k : Nat) (w : World) (e : Ending) (w' : World) : Prop :=
 e = .returned (.bool (z1t n k b l p q == all)) ∧ Below w.heap.size w w'
theorem x2e (n h k : Nat) (hk : k ≤ h) (b : Bool) (A : Option Addr) (c : Nat) (l : List Arc) (Ap : Option Addr) (cp : Nat) (p : List Grp) (Aq : Option Addr) (cq : Nat) (q : List Grp) (gp bh br pb ab : Nat) (all : Int) (w : World)
  (hP : PlI gp (z0f n b A l.length c Ap p.length cp Aq q.length cq bh br) bh br p.length q.length (z0a p) (z0a q) w) (hr : Kd.C z3l w A l.length l) (hlc : l.length ≤ c) (hp : Kd.C z1v w Ap p.length p) (hq : Kd.C z1v w Aq q.length q)
  (ho : z00 n h l p q) (h1 : w.heap[pb]? = some (.cells #[.pointer (some ⟨gp, 0, none⟩)] 64 (0, 0))) (h2 : w.heap[ab]? = some (.cells #[.int .i64 all] 3 (0, 0))) :
  Calls Tryz.prog 38 #[.int .i64 k, .pointer (some ⟨pb, 0, none⟩), .pointer (some ⟨ab, 0, none⟩)] w (x6w n b l p q all k w) := by
 have HP := zh hP
 have HR := zh hr
 have HLC := zh hlc
 have HPR := zh hp
 have HQR := zh hq
 have HO := zh (ho.le hk)
 have x0 : w.cell? ⟨pb, 0, none⟩ = some (.pointer (some ⟨gp, 0, none⟩)) := (y7 h1 0).trans rfl
 have x1 : w.cell? ⟨ab, 0, none⟩ = some (.int .i64 all) := (y7 h2 0).trans rfl
 have hfl := z8o
 clear hP hr hlc hp hq ho h1 h2 hk
 go_enter Tryz.func38, Tryz.ntmps38
 go_wp2
 go_region_held3 (fun w' => w'.cell? ⟨pb, 0, none⟩ = some (.pointer (some ⟨gp, 0, none⟩)) ∧ w'.cell? ⟨ab, 0, none⟩ = some (.int .i64 all)) (first | exact HS9.out | go_keep) ((go_at_call 26; refine (z5o n k b A c l Ap cp p Aq cq q gp bh br ((k + 1) * n) ((k + 1) * n + 1) ((k + 1) * n + 2) rfl rfl rfl _ (HP.out.below zD) (Kd.C_below HR.out zD) HLC.out (Kd.C_below HPR.out zD) (Kd.C_below HQR.out zD) HO.out.net HO.out.caps HO.out.gp HO.out.gq HO.out.lp HO.out.lq).mono ?_; rintro e w9 ⟨w0, gg, v, B, bf, f, S, rfl, k1, k2, k3, k4, k5⟩; have hb9 : Below w.heap.size w w9 := v6 zD k5; have HB9 := zh hb9; have HS9 : Hid (w9.cell? ⟨pb, 0, none⟩ = some (.pointer (some ⟨gp, 0, none⟩)) ∧ w9.cell? ⟨ab, 0, none⟩ = some (.int .i64 all)) := zh ⟨j6 hb9 x0, j6 hb9 x1⟩; have hv9 : z0j _ _ _ (dOf f) _ = z1t n k b l p q := (z97 (HO.out.arcs b) (by omega) k3 k4).symm; rw [hv9]; clear k1 k2 k3 k4 k5 hb9 hv9))
 all_goals
  go_wp2
  go_ret
  exact ⟨rfl, HB9.out⟩
def bsr (holds : Nat → Bool) (lo hi : Nat) : Nat :=
 if lo < hi then (if holds ((lo + hi) / 2) = true then bsr holds lo ((lo + hi) / 2) else bsr holds ((lo + hi) / 2 + 1) hi) else lo
termination_by hi - lo
theorem y9m {holds : Nat → Bool} {lo hi : Nat} (h : lo < hi) (hh : holds ((lo + hi) / 2) = true) : bsr holds lo hi = bsr holds lo ((lo + hi) / 2) := by rw [bsr, if_pos h, if_pos hh]
theorem x3i {holds : Nat → Bool} {lo hi : Nat} (h : lo < hi) (hh : holds ((lo + hi) / 2) = false) : bsr holds lo hi = bsr holds ((lo + hi) / 2 + 1) hi := by rw [bsr, if_pos h, if_neg (by rw [hh]; decide)]
theorem y3n {holds : Nat → Bool} {lo hi : Nat} (h : ¬ lo < hi) : bsr holds lo hi = lo := by rw [bsr, if_neg h]
def x5d (holds : Nat → Bool) (most : Nat) (w : World) (e : Ending) (w' : World) : Prop :=
 e = .returned (.tuple #[.int .i64 (if holds most = true then (bsr holds 0 most : Int) else 0), .bool (holds most)]) ∧ Below w.heap.size w w'
theorem y6e (n h : Nat) (b : Bool) (A : Option Addr) (c : Nat) (l : List Arc) (Ap : Option Addr) (cp : Nat) (p : List Grp) (Aq : Option Addr) (cq : Nat) (q : List Grp) (gp bh br pb ab : Nat) (all : Int) (w : World)
  (hP : PlI gp (z0f n b A l.length c Ap p.length cp Aq q.length cq bh br) bh br p.length q.length (z0a p) (z0a q) w) (hr : Kd.C z3l w A l.length l) (hlc : l.length ≤ c) (hp : Kd.C z1v w Ap p.length p) (hq : Kd.C z1v w Aq q.length q)
  (ho : z00 n h l p q) (h1 : w.heap[pb]? = some (.cells #[.pointer (some ⟨gp, 0, none⟩)] 64 (0, 0))) (h2 : w.heap[ab]? = some (.cells #[.int .i64 all] 3 (0, 0))) :
  Calls Tryz.prog 37 #[.int .i64 h, .func (.func 38) #[] #[.pointer (some ⟨pb, 0, none⟩), .pointer (some ⟨ab, 0, none⟩)]] w (x5d (fun k => z1t n k b l p q == all) h w) := by
 have HASK : Hid (∀ (k : Nat) W, k ≤ h → Below w.heap.size w W → Calls Tryz.prog 38 #[.int .i64 k, .pointer (some ⟨pb, 0, none⟩), .pointer (some ⟨ab, 0, none⟩)] W (x6w n b l p q all k W)) := zh (fun k W hk hb =>
  x2e n h k hk b A c l Ap cp p Aq cq q gp bh br pb ab all W (hP.below hb) (Kd.C_below hr hb) hlc (Kd.C_below hp hb) (Kd.C_below hq hb) ho (j5 h1 hb) (j5 h2 hb))
 have hh : h ≤ 4000 := ho.net.h1
 obtain ⟨holds, hholds⟩ : ∃ holds : Nat → Bool, holds = fun k => z1t n k b l p q == all := ⟨_, rfl⟩
 have HA2 : Hid (∀ (k : Nat) W, k ≤ h → Below w.heap.size w W → Calls Tryz.prog 38 #[.int .i64 k, .pointer (some ⟨pb, 0, none⟩), .pointer (some ⟨ab, 0, none⟩)] W fun e w' => e = .returned (.bool (holds k)) ∧ Below W.heap.size W w') := zh (fun k W hk hb => by
  rw [hholds]
  exact (HASK.out k W hk hb).mono (fun _ _ h9 => h9))
 rw [← hholds]
 clear hholds HASK hP hr hlc hp hq ho h1 h2
 cases hm : holds h with
 |false =>
  have HM := zh hm
  clear hm
  go_enter Tryz.func37, Tryz.ntmps37
  go_wp2_with (go_at_call 38; refine (HA2.out h _ (Nat.le_refl _) (Below.refl _ _)).mono ?_; rintro e w1 ⟨rfl, hb⟩; rw [HM.out]; have HB := zh hb; clear hb)
  go_ret2
  exact ⟨by rw [HM.out]; rfl, HB.out⟩
 |true =>
  have HM := zh hm
  clear hm
  go_enter Tryz.func37, Tryz.ntmps37
  go_wp2_with (go_at_call 38; refine (HA2.out h _ (Nat.le_refl _) (Below.refl _ _)).mono ?_; rintro e w1 ⟨rfl, hb⟩; rw [HM.out]; have HB := zh hb; clear hb)
  go_loopg [6, 7] (h + 1) (fun k lv hv W => ∃ lo hi : Nat, lo ≤ hi ∧ hi ≤ h ∧ lv = .int .i64 lo ∧ hv = .int .i64 hi ∧ k = hi - lo + 1 ∧ Hid (Below w.heap.size w W ∧ bsr holds lo hi = bsr holds 0 h))
  case atStart => exact ⟨0, h, Nat.zero_le _, Nat.le_refl _, rfl, rfl, rfl, zh ⟨HB.out, rfl⟩⟩
  case round =>
   obtain ⟨lo, hi, hlo, hhi, rfl, rfl, rfl, HL⟩ := hrel
   clear HB
   by_cases hlt : lo < hi
   ·have hlt2 : (lo : Int) < (hi : Int) := by omega
    obtain ⟨m, hm⟩ : ∃ m, m = (lo + hi) / 2 := ⟨_, rfl⟩
    have hm2 : ((lo : Int) + (hi : Int)) / 2 = (m : Int) := by omega
    have hml : lo ≤ m := by omega
    have hmh : m < hi := by omega
    have HMM := zh hm
    clear hm
    cases hmm : holds m with
    |true =>
     have HX := zh hmm
     clear hmm
     go_wp2_with (go_at_call 38; refine (HA2.out m _ (by omega) HL.out.1).mono ?_; rintro e w2 ⟨rfl, hb⟩; rw [HX.out]; have HB := zh hb; clear hb)
     go_roundg (m - lo + 1)
     case measure => omega
     case rel => exact ⟨lo, m, by omega, by omega, rfl, rfl, rfl, zh ⟨v6 HL.out.1 HB.out, by rw [← HL.out.2, y9m hlt (by rw [← HMM.out]; exact HX.out), ← HMM.out]⟩⟩
    |false =>
     have HX := zh hmm
     clear hmm
     go_wp2_with (go_at_call 38; refine (HA2.out m _ (by omega) HL.out.1).mono ?_; rintro e w2 ⟨rfl, hb⟩; rw [HX.out]; have HB := zh hb; clear hb)
     go_roundg (hi - (m + 1) + 1)
     case measure => omega
     case rel => exact ⟨m + 1, hi, by omega, by omega, by go_num, rfl, rfl, zh ⟨v6 HL.out.1 HB.out, by rw [← HL.out.2, x3i hlt (by rw [← HMM.out]; exact HX.out), ← HMM.out]⟩⟩
   ·have hlt2 : ¬ (lo : Int) < (hi : Int) := by omega
    go_wp2
    go_ret2
    have h9 := HL.out.2
    rw [y3n hlt] at h9
    have h8 : Ending.returned (.tuple #[.int .i64 (lo : Int), .bool true]) = Ending.returned (.tuple #[.int .i64 (if holds h = true then (bsr holds 0 h : Int) else 0), .bool (holds h)]) := by rw [HM.out, if_pos rfl, h9]
    exact ⟨h8, HL.out.1⟩
theorem z3j : ∀ (n : Nat) (l : List Nat), l.Nodup → (∀ x, x ∈ l → x < n) → l.length ≤ n
 |0, l, _, h => by
  cases l with
  |nil => exact Nat.le_refl _
  |cons a l => exact absurd (h a (List.mem_cons_self ..)) (Nat.not_lt_zero _)
 |n + 1, l, hd, h => by
  by_cases hm : n ∈ l
  ·have h1 := z3j n (l.erase n) (hd.erase n) (fun x hx => by
    have h2 := h x (List.mem_of_mem_erase hx)
    have h3 : x ≠ n := fun e => by
     subst e
     exact (hd.not_mem_erase) hx
    omega)
   rw [List.length_erase_of_mem hm] at h1
   omega
  ·have h1 := z3j n l hd (fun x hx => by
    have h2 := h x hx
    have h3 : x ≠ n := fun e => hm (e ▸ hx)
    omega)
   omega
theorem z27 {D : DataW Unit} (h : Maps.IsMap D) (g : Grp) : Maps.IsMap (y2z D g) := h.put _ _
theorem z37 {D : DataW Unit} (h : Maps.IsMap D) (g : Grp) (x : Int) : z1a (y2z D g) x = (decide (g.f0 = x) || z1a D x) := by
 unfold z1a y2z
 by_cases e : g.f0 = x
 ·rw [e, Maps.has_put_same h (by trivial)]
  simp
 ·rw [Maps.has_put_other (fun e2 => e (by injection e2 with _ e2; exact e2.symm))]
  simp [e]
theorem y6b (x : Int) : z1a (.map []) x = false := rfl
theorem z1j (l : List Grp) (x : Int) : z1a (z0a l) x = l.any fun g => decide (g.f0 = x) := by
 have : ∀ (l : List Grp) (D : DataW Unit), Maps.IsMap D → z1a (l.foldl y2z D) x = (z1a D x || l.any fun g => decide (g.f0 = x)) := fun l => by
  induction l with
  |nil => intro D _; simp
  |cons g l ih =>
   intro D h
   rw [List.foldl_cons, ih _ (z27 h g), z37 h, List.any_cons]
   cases decide (g.f0 = x) <;> cases z1a D x <;> simp
 unfold z0a
 rw [this l _ Maps.isMap_empty, y6b]
 simp
theorem z89 {n : Int} {Dh Dr : DataW Unit} {g : Grp} (h : z2a n Dh Dr g = 0) : (0 ≤ g.f0 ∧ g.f0 < n) ∧ (0 ≤ g.f1 ∧ g.f1 ≤ 1048576) ∧ z1a Dh g.f0 = false ∧ z1a Dr g.f0 = false := by
 unfold z2a at h
 split at h
 ·cases h
 ·rename_i h1
  split at h
  ·cases h
  ·rename_i h2
   simp only [not_or] at h1
   obtain ⟨a, b, c, d, e⟩ := h1
   exact ⟨⟨by omega, by omega⟩, ⟨by omega, by omega⟩, by simpa using d, by simpa using e⟩
theorem y31 {n : Int} {Dr : DataW Unit} : ∀ (l : List Grp) {D : DataW Unit}, Maps.IsMap D → thF n Dr D l = 0 →
  (∀ g, g ∈ l → (0 ≤ g.f0 ∧ g.f0 < n) ∧ (0 ≤ g.f1 ∧ g.f1 ≤ 1048576) ∧ z1a D g.f0 = false ∧ z1a Dr g.f0 = false) ∧ (l.map fun g => g.f0).Nodup
 |[], _, _, _ => ⟨fun g hg => (by cases hg), List.nodup_nil⟩
 |g :: l, D, hm, h => by
  unfold thF at h
  by_cases hc : z2a n D Dr g = 0
  ·rw [if_pos hc] at h
   obtain ⟨h1, h2⟩ := y31 l (z27 hm g) h
   have h3 := z89 hc
   refine ⟨fun x hx => ?_, ?_⟩
   ·rcases List.mem_cons.1 hx with rfl | hx
    ·exact h3
    ·have h4 := h1 x hx
     rw [z37 hm] at h4
     exact ⟨h4.1, h4.2.1, by have := h4.2.2.1; simp at this; exact this.2, h4.2.2.2⟩
   ·rw [List.map_cons, List.nodup_cons]
    refine ⟨fun hx => ?_, h2⟩
    obtain ⟨x, hx, e⟩ := List.mem_map.1 hx
    have h4 := (h1 x hx).2.2.1
    rw [z37 hm, e] at h4
    simp at h4
  ·rw [if_neg hc] at h
   exact absurd h hc
theorem y3z {n : Int} {Dh : DataW Unit} : ∀ (l : List Grp) {D : DataW Unit}, Maps.IsMap D → trF n Dh D l = 0 →
  (∀ g, g ∈ l → (0 ≤ g.f0 ∧ g.f0 < n) ∧ (0 ≤ g.f1 ∧ g.f1 ≤ 1048576) ∧ z1a Dh g.f0 = false ∧ z1a D g.f0 = false) ∧ (l.map fun g => g.f0).Nodup
 |[], _, _, _ => ⟨fun g hg => (by cases hg), List.nodup_nil⟩
 |g :: l, D, hm, h => by
  unfold trF at h
  by_cases hc : z2a n Dh D g = 0
  ·rw [if_pos hc] at h
   obtain ⟨h1, h2⟩ := y3z l (z27 hm g) h
   have h3 := z89 hc
   refine ⟨fun x hx => ?_, ?_⟩
   ·rcases List.mem_cons.1 hx with rfl | hx
    ·exact h3
    ·have h4 := h1 x hx
     rw [z37 hm] at h4
     exact ⟨h4.1, h4.2.1, h4.2.2.1, by have := h4.2.2.2; simp at this; exact this.2⟩
   ·rw [List.map_cons, List.nodup_cons]
    refine ⟨fun hx => ?_, h2⟩
    obtain ⟨x, hx, e⟩ := List.mem_map.1 hx
    have h4 := (h1 x hx).2.2.2
    rw [z37 hm, e] at h4
    simp at h4
  ·rw [if_neg hc] at h
   exact absurd h hc
theorem z64 {n : Nat} {l : List Grp} (h : ∀ g, g ∈ l → 0 ≤ g.f0 ∧ g.f0 < n) (hd : (l.map fun g => g.f0).Nodup) : l.length ≤ n := by
 have h1 := z3j n (l.map fun g => g.f0.toNat) (by
  have h2 : l.Pairwise fun a b => a.f0 ≠ b.f0 := List.pairwise_map.1 hd
  exact List.pairwise_map.2 (h2.imp_of_mem (fun {a b} ha hb hab => by
   have h3 := h a ha
   have h4 := h b hb
   omega))) (fun x hx => by
  obtain ⟨g, hg, rfl⟩ := List.mem_map.1 hx
  have := h g hg
  omega)
 rw [List.length_map] at h1
 exact h1
structure z4h (n : Int) (p q : List Grp) : Prop where
 p0 : p ≠ []
 q0 : q ≠ []
 gp : ∀ g, g ∈ p → (0 ≤ g.f0 ∧ g.f0 < n) ∧ 0 ≤ g.f1 ∧ g.f1 ≤ 1048576
 gq : ∀ g, g ∈ q → (0 ≤ g.f0 ∧ g.f0 < n) ∧ 0 ≤ g.f1 ∧ g.f1 ≤ 1048576
 dp : (p.map fun g => g.f0).Nodup
 dq : (q.map fun g => g.f0).Nodup
 apart : ∀ g, g ∈ q → ∀ x, x ∈ p → x.f0 ≠ g.f0
theorem y1j {n : Int} {p q : List Grp} (h : z1m n p q = 0) : z4h n p q := by
 unfold z1m at h
 split at h
 ·cases h
 ·rename_i h0
  simp only [not_or] at h0
  split at h
  ·rename_i h1
   obtain ⟨a1, a2⟩ := y31 p Maps.isMap_empty h1
   obtain ⟨b1, b2⟩ := y3z q Maps.isMap_empty h
   refine ⟨fun e => h0.1 (by rw [e]; rfl), fun e => h0.2 (by rw [e]; rfl), fun g hg => ⟨(a1 g hg).1, (a1 g hg).2.1⟩, fun g hg => ⟨(b1 g hg).1, (b1 g hg).2.1⟩, a2, b2, fun g hg x hx e => ?_⟩
   have h2 := (b1 g hg).2.2.1
   rw [z1j, List.any_eq_false] at h2
   exact h2 x hx (by simpa using e)
  ·exact absurd h (by assumption)
theorem x2g {k : Nat} {n a b c d : Int} (h : netfmt_arc.f k n a b c d = some 0) : (0 ≤ a ∧ a < n) ∧ (0 ≤ b ∧ b < n) ∧ (0 ≤ c ∧ c ≤ 1048576) ∧ 0 ≤ d ∧ d ≤ 1048576 := by
 unfold netfmt_arc.f at h
 cases k with
 |zero => split at h <;> simp [netfmt_arc.j0] at h
 |succ k =>
  split at h
  ·simp [netfmt_arc.j0] at h
  ·rename_i h1
   simp only [netfmt_arc.j0] at h
   split at h
   ·cases h
   ·rename_i h2
    split at h
    ·cases h
    ·split at h
     ·cases h
     ·unfold mn at h1
      unfold mx at h2
      simp only [decide_eq_true_eq] at h2
      omega
theorem y4y {n : Int} {b : Bool} {l l2 : List Arc} : ∀ (d k i : Nat), i + d = l.length → netfmt_Check.l0 k l (l.length : Int) (i : Int) n b l2 = some 0 → l.length ≤ 200 → ∀ j : Nat, i ≤ j → j < l.length → ∃ k2, netfmt_arc.f k2 n (z0i l j).f0 (z0i l j).f1 (z0i l j).f2 (z0i l j).f3 = some 0
 |0, k, i, hi, _, _ => fun j h1 h2 => by omega
 |d + 1, k, i, hi, h, hl => fun j h1 h2 => by
  cases k with
  |zero => simp [netfmt_Check.l0] at h
  |succ k =>
   rw [netfmt_Check.l0, if_pos (by omega), if_pos (by omega), if_pos (by omega)] at h
   obtain ⟨t, ht, h⟩ := Option.bind_eq_some_iff.1 h
   by_cases h0 : t = 0
   ·rw [if_pos h0, w1n i (by omega)] at h
    by_cases e : j = i
    ·subst e
     subst h0
     exact ⟨k, ht⟩
    ·exact y4y d k (i + 1) (by omega) h hl j (by omega) h2
   ·rw [if_neg h0] at h
    injection h with h
    exact absurd h h0
structure z5y (n : Int) (l : List Arc) : Prop where
 n0 : 1 ≤ n
 n1 : n ≤ 50
 ll : l.length ≤ 200
 arc : ∀ j : Nat, j < l.length → (0 ≤ (z0i l j).f0 ∧ (z0i l j).f0 < n) ∧ (0 ≤ (z0i l j).f1 ∧ (z0i l j).f1 < n) ∧ (0 ≤ (z0i l j).f2 ∧ (z0i l j).f2 ≤ 1048576) ∧ 0 ≤ (z0i l j).f3 ∧ (z0i l j).f3 ≤ 1048576
theorem y6i {k : Nat} {n : Int} {b : Bool} {l : List Arc} (h : netfmt_Check.f k n b l = some 0) : z5y n l := by
 unfold netfmt_Check.f netfmt_nodes.f at h
 obtain ⟨t, ht, h⟩ := Option.bind_eq_some_iff.1 h
 by_cases h0 : t = 0
 ·rw [if_pos h0] at h
  subst h0
  split at ht
  ·cases ht
  ·split at ht
   ·cases ht
   ·by_cases h2 : (l.length : Int) > 200
    ·rw [if_pos h2] at h
     cases h
    ·rw [if_neg h2] at h
     exact ⟨by omega, by omega, by omega, fun j hj => by
      obtain ⟨k2, h3⟩ := y4y l.length k 0 (by omega) h (by omega) j (Nat.zero_le _) hj
      exact x2g h3⟩
 ·rw [if_neg h0] at h
  injection h with h
  exact absurd h h0
theorem z5a {k : Nat} {n h : Int} {b : Bool} {l : List Arc} {p q : List Grp} (hF : z3o k n b l p q h = some 0) :
  ∃ nn hh : Nat, n = nn ∧ h = hh ∧ z00 nn hh l p q ∧ z4h nn p q ∧ z5y nn l ∧ hh ≤ 1024 ∧ (hh + 1) * nn ≤ 4000 ∧ (hh + 1) * l.length ≤ 10000 := by
 unfold z3o at hF
 obtain ⟨c1, h1, hF⟩ := Option.bind_eq_some_iff.1 hF
 by_cases e1 : c1 = 0
 ·rw [if_pos e1] at hF
  subst e1
  have hg := y6i h1
  by_cases e2 : z1m n p q = 0
  ·rw [if_pos e2] at hF
   have hgr := y1j e2
   obtain ⟨c3, h3, hF⟩ := Option.bind_eq_some_iff.1 hF
   by_cases e3 : c3 = 0
   ·rw [if_pos e3] at hF
    subst e3
    obtain ⟨t, ht, hF⟩ := Option.bind_eq_some_iff.1 hF
    cases t with
    |false => rw [if_neg (by decide)] at hF; cases hF
    |true =>
     have hz : 0 ≤ h ∧ h ≤ 1024 := by
      unfold span_Horizon.f at h3
      split at h3
      ·cases h3
      ·split at h3
       ·cases h3
       ·omega
     unfold expand_Fits.f at ht
     rw [h1, Option.bind_some, if_pos rfl, h3, Option.bind_some, if_pos rfl] at ht
     obtain ⟨nn, rfl⟩ := Int.eq_ofNat_of_zero_le (show 0 ≤ n by have := hg.n0; omega)
     obtain ⟨hh, rfl⟩ := Int.eq_ofNat_of_zero_le hz.1
     have hn1 := hg.n1
     have hll := hg.ll
     have b1 := y77 (a := (hh : Int) + 1) (n := (nn : Int)) (A := 1025) (N := 50) (by omega) (by omega) (by omega) hn1
     have b2 := y77 (a := (hh : Int) + 1) (n := (l.length : Int)) (A := 1025) (N := 200) (by omega) (by omega) (by omega) (by omega)
     have w1 : wrap64 ((hh : Int) + 1) = (hh : Int) + 1 := by unfold wrap64; omega
     rw [w1] at ht
     clear w1
     have w2 : wrap64 (((hh : Int) + 1) * (nn : Int)) = ((hh : Int) + 1) * (nn : Int) := by
      generalize ((hh : Int) + 1) * (nn : Int) = z at b1
      unfold wrap64
      omega
     have w3 : wrap64 (((hh : Int) + 1) * (l.length : Int)) = ((hh : Int) + 1) * (l.length : Int) := by
      generalize ((hh : Int) + 1) * (l.length : Int) = z at b2
      unfold wrap64
      omega
     rw [w2, w3] at ht
     clear w2 w3
     have m1 : ((hh : Int) + 1) * (nn : Int) = (((hh + 1) * nn : Nat) : Int) := by rw [Int.natCast_mul]; rfl
     have m2 : ((hh : Int) + 1) * (l.length : Int) = (((hh + 1) * l.length : Nat) : Int) := by rw [Int.natCast_mul]; rfl
     rw [m1, m2] at ht
     split at ht
     ·rename_i hle
      injection ht with ht
      have hle2 : (((hh + 1) * l.length : Nat) : Int) ≤ 10000 := by simpa using ht
      have lp := z64 (n := nn) (fun g hg => (hgr.gp g hg).1) hgr.dp
      have lq := z64 (n := nn) (fun g hg => (hgr.gq g hg).1) hgr.dq
      refine ⟨nn, hh, rfl, rfl, ⟨⟨?_, by omega, by omega, by omega, by omega, fun i hi => ⟨(hg.arc i hi).1, (hg.arc i hi).2.1⟩, fun i hi => (hg.arc i hi).2.2.2⟩, fun i hi => (hg.arc i hi).2.2.1, hgr.gp, hgr.gq, by omega, by omega⟩, hgr, hg, by omega, by omega, by omega⟩
      have := hg.n0
      omega
     ·cases ht
   ·rw [if_neg e3] at hF
    injection hF with hF
    exact absurd hF e3
  ·rw [if_neg e2] at hF
   injection hF with hF
   exact absurd hF e2
 ·rw [if_neg e1] at hF
  injection hF with hF
  exact absurd hF e1
section
variable {n : Nat} {l : List Arc} {f : List Int} {rows : List (List Stp)} {d : Nat → Int} {s : Nat}
theorem y7u (hf : z0t l f) (hr : z17 n l rows) (hb : Bf n s (Lk l f rows) d) {T : Int → Bool} (hc : z68 l.length (z08 l) (z05 l) (z2f l) (dOf f) T) (hs : T s = true) : ∀ (k u : Nat), u < n → d u = k → T u = true := by
 intro k
 induction k with
 |zero =>
  intro u hu e
  rcases hb.2.2.1 u hu (by omega) with rfl | ⟨p, _, h0, h1, _⟩
  ·exact hs
  ·omega
 |succ k ih =>
  intro u hu e
  rcases hb.2.2.1 u hu (by omega) with rfl | ⟨p, hp, h0, h1, x, hx, ht, hrm⟩
  ·exact hs
  ·have hT := ih p hp (by omega)
   obtain ⟨a0, a1, a2⟩ := hr.row p hp x hx
   obtain ⟨i, hi⟩ := Int.eq_ofNat_of_zero_le a0
   have hc2 := hc i (by omega)
   have hw := hf.wit x.f0 a0 a1
   unfold rmv at hrm
   unfold src at a2
   unfold tgt at ht
   rw [hi] at hrm a2 ht hw
   cases hb2 : x.f1 with
   |true =>
    rw [hb2, if_pos rfl] at hrm a2 ht
    have e1 : z08 l i = (u : Int) := ht
    have e2 : z05 l i = (p : Int) := a2
    rw [e1, e2] at hc2
    exact hc2.2 hT (by show 0 < rd f (i : Int); omega)
   |false =>
    rw [hb2] at hrm a2 ht
    simp only [Bool.false_eq_true, if_false] at hrm a2 ht
    have e1 : z08 l i = (p : Int) := a2
    have e2 : z05 l i = (u : Int) := ht
    rw [e1, e2] at hc2
    exact hc2.1 hT (by show rd f (i : Int) < (j7 l (i : Int)).f2; omega)
theorem y02 (hf : z0t l f) (hr : z17 n l rows) (hb : Bf n s (Lk l f rows) d) {T : Int → Bool} (hc : z68 l.length (z08 l) (z05 l) (z2f l) (dOf f) T) (hs : T s = true) {u : Nat} (hu : u < n) (h : 0 ≤ d u) : T u = true := by
 obtain ⟨k, hk⟩ := Int.eq_ofNat_of_zero_le h
 exact y7u hf hr hb hc hs k u hu hk
def y0z (d : Nat → Int) : Int → Bool := fun v => decide (0 ≤ d v.toNat)
theorem y7t {N1 : Nat} (hn : z12 n l) (hf : z0t l f) (hr : z17 n l rows) (hb : Bf n s (Lk l f rows) d) {S : Int → Bool} (ht : Top l.length (z08 l) (z05 l) n s N1 (z2f l) (dOf f) S) (h1 : N1 < n) : Top l.length (z08 l) (z05 l) n s N1 (z2f l) (dOf f) (y0z d) := by
 refine ⟨ht.1, ht.2.1, y12 hn hf hr hb, ?_, ?_⟩
 ·unfold y0z
  simp [hb.1]
 ·unfold y0z
  simp only [Int.toNat_natCast, decide_eq_false_iff_not]
  intro h2
  have h3 := y02 hf hr hb ht.2.2.1 ht.2.2.2.1 h1 h2
  rw [ht.2.2.2.2] at h3
  cases h3
end
theorem z6z (n : Nat) {d d2 : List Int} : ∀ N : Nat, (∀ u : Nat, u < N → (0 ≤ dOf d u ↔ 0 ≤ dOf d2 u)) → z06 n d N = z06 n d2 N
 |0, _ => rfl
 |N + 1, h => by
  have h1 := h N (by omega)
  unfold dOf at h1
  rw [z06, z06, z6z n N (fun u hu => h u (by omega))]
  congr 1
  by_cases e : 0 ≤ rd d (N : Int)
  ·rw [if_pos e, if_pos (h1.1 e)]
  ·rw [if_neg e, if_neg (fun e2 => e (h1.2 e2))]
def Shown (arcs : List Arc) (M N N1 : Nat) (d : List Int) : Prop :=
 ∃ (f : List Int) (S : Int → Bool) (rows : List (List Stp)), z0t arcs f ∧ Top arcs.length (z08 arcs) (z05 arcs) M N N1 (z2f arcs) (dOf f) S ∧ z17 M arcs rows ∧ Bf M N (Lk arcs f rows) (dOf d)
def x6s (arcs : List Arc) (M N N1 : Nat) (u : Nat) : Prop := ∀ (f : List Int) (S : Int → Bool), z0t arcs f → Top arcs.length (z08 arcs) (z05 arcs) M N N1 (z2f arcs) (dOf f) S → S u = true
open Classical in
noncomputable def cutD (arcs : List Arc) (M N N1 : Nat) : List Int := (List.range N).map fun u => if x6s arcs M N N1 u then 0 else -1
theorem x1t {arcs : List Arc} {M N N1 u : Nat} (hu : u < N) : 0 ≤ dOf (cutD arcs M N N1) u ↔ x6s arcs M N N1 u := by
 unfold dOf cutD
 unfold rd
 rw [Int.toNat_natCast, List.getD_eq_getElem?_getD, List.getElem?_map, List.getElem?_range hu, Option.map_some, Option.getD_some]
 split
 ·simpa
 ·simpa
noncomputable def x6a (n : Nat) (arcs : List Arc) (M N N1 : Nat) : List z3p := z06 n (cutD arcs M N N1) N
theorem x1s {n : Nat} {arcs : List Arc} {M N N1 : Nat} (hn : z12 M arcs) (hN : N < M) (h1 : N1 < M) {d : List Int} (h : Shown arcs M N N1 d) : x6a n arcs M N N1 = z06 n d N := by
 obtain ⟨f, S, rows, a1, a2, a3, a4⟩ := h
 refine z6z n N (fun u hu => (x1t hu).trans ⟨fun hA => ?_, fun hd f2 S2 b1 b2 => ?_⟩)
 ·have h2 := hA f (y0z (dOf d)) a1 (y7t hn a1 a3 a4 a2 h1)
  unfold y0z at h2
  simpa using h2
 ·have hc := y46 (y0j hn) ⟨by omega, by omega⟩ a2 b2
  exact y02 a1 a3 a4 hc b2.2.2.2.1 (by omega) hd
noncomputable def cutV (n h : Nat) (b : Bool) (l : List Arc) (p q : List Grp) : List z3p :=
 x6a n (z1h l (z0v q) (d9 b p q) n h ((h + 1) * n) ((h + 1) * n + 1) p q) ((h + 1) * n + 2) ((h + 1) * n) ((h + 1) * n + 1)
def okG (l : List Grp) : Bool := l.all (fun g => (Lit.int .i64 g.f0).wf && (Lit.int .i64 g.f1).wf) && decide (l.length ≤ 1000000)
theorem z5f {l : List Grp} (h : okG l = true) : y16 l ∧ l.length ≤ 1000000 := by
 unfold okG at h
 rw [Bool.and_eq_true, decide_eq_true_eq] at h
 refine ⟨fun g hg => ?_, h.2⟩
 have := List.all_eq_true.1 h.1 g hg
 rw [Bool.and_eq_true] at this
 exact this
theorem z5v (n : Int) (b : Bool) (l : List Arc) (p q : List Grp) (h : Int) (k : Nat) : LeO (z3o k n b l p q h) (z3o (k + 1) n b l p q h) := by
 intro r hr
 unfold z3o at hr ⊢
 obtain ⟨c1, h1, hr⟩ := Option.bind_eq_some_iff.1 hr
 rw [netfmt_Check.mono _ _ _ k c1 h1, Option.bind_some]
 split at hr
 ·split at hr
  ·obtain ⟨c3, h3, hr⟩ := Option.bind_eq_some_iff.1 hr
   rw [if_pos (by assumption), if_pos (by assumption), h3, Option.bind_some]
   split at hr
   ·obtain ⟨t, ht, hr⟩ := Option.bind_eq_some_iff.1 hr
    rw [if_pos (by assumption), expand_Fits.mono _ _ _ _ k t ht, Option.bind_some]
    exact hr
   ·rw [if_neg (by assumption)]
    exact hr
  ·rw [if_pos (by assumption), if_neg (by assumption)]
   exact hr
 ·rw [if_neg (by assumption)]
  exact hr
noncomputable def evac_Most.f (k : Nat) (n : Int) (b : Bool) (l : List Arc) (p q : List Grp) (h : Int) : Option (Int × Int) :=
 if okG p = true ∧ okG q = true then (z3o k n b l p q h).bind fun r => if r = 0 then some (z1t n.toNat h.toNat b l p q, 0) else some (0, r) else none
theorem evac_Most.mono : ∀ n b l p q h k, LeO (evac_Most.f k n b l p q h) (evac_Most.f (k + 1) n b l p q h) := by
 intro n b l p q h k r hr
 unfold evac_Most.f at hr ⊢
 split at hr
 ·rw [if_pos (by assumption)]
  obtain ⟨c, h1, hr⟩ := Option.bind_eq_some_iff.1 hr
  rw [z5v n b l p q h k c h1]
  exact hr
 ·cases hr
theorem evac_Most.calls (k : Nat) (n : Int) (b : Bool) (A : Option Addr) (c : Nat) (l : List Arc) (Ap : Option Addr) (cp : Nat) (p : List Grp) (Aq : Option Addr) (cq : Nat) (q : List Grp) (h r1 r2 : Int) (w : World) (hr : Kd.C z3l w A l.length l) (hc : l.length ≤ c)
  (hp : Kd.C z1v w Ap p.length p) (_ : p.length ≤ cp) (hq : Kd.C z1v w Aq q.length q) (_ : q.length ≤ cq) (hF : evac_Most.f k n b l p q h = some (r1, r2)) :
  Calls Tryz.prog 9 #[.agg #[.int .i64 n, .bool b, .slice A l.length c], .slice Ap p.length cp, .slice Aq q.length cq, .int .i64 h] w fun e w' => e = .returned (.tuple #[.int .i64 r1, .int .i64 r2]) ∧ Below w.heap.size w w' := by
 unfold evac_Most.f at hF
 split at hF
 ·rename_i hok
  obtain ⟨wp, lp⟩ := z5f hok.1
  obtain ⟨wq, lq⟩ := z5f hok.2
  obtain ⟨r, hb, hF⟩ := Option.bind_eq_some_iff.1 hF
  have HR := zh hr
  have HC := zh hc
  have HP := zh hp
  have HQ := zh hq
  have HBG : Hid (∀ W, Below w.heap.size w W → Calls Tryz.prog 25 #[.agg #[.int .i64 n, .bool b, .slice A l.length c], .slice Ap p.length cp, .slice Aq q.length cq, .int .i64 h] W (z5z n b A c l Ap cp p Aq cq q r W)) := zh (fun W hW =>
   z5b k n b A c l Ap cp p Aq cq q h r W (Kd.C_below hr hW) hc (Kd.C_below hp hW) (Kd.C_below hq hW) wp wq lp lq hb)
  have hu := Tryz.underlying33
  clear hr hc hp hq wp lp wq lq hok
  by_cases h0 : r = 0
  ·rw [if_pos h0] at hF
   injection hF with hF
   injection hF with e1 e2
   subst h0 e1 e2
   obtain ⟨nn, hh, rfl, rfl, ho, -⟩ := z5a hb
   have HO := zh ho
   have hfl := z8o
   clear hb ho
   go_enter Tryz.func9, Tryz.ntmps9
   go_wp2_with (first
    |(go_at_call 25; (with_reducible refine (HBG.out _ ?s1).mono ?_); (case s1 => exact y8 (Below.refl _ _) _); rintro e w1 ⟨hb1, (⟨h9, _⟩ | ⟨_, gp, bh, br, rfl, hge, hPl⟩)⟩; (exact absurd rfl h9); have HB1 := zh (v6 (y8 (Below.refl w.heap.size w) (.cells #[.int .i64 nn, .bool b, .slice A l.length c] 33)) hb1); have HPL := zh hPl; clear hb1 hge hPl)
    |(go_at_call 26; refine (z5o nn hh b A c l Ap cp p Aq cq q gp bh br ((hh + 1) * nn) ((hh + 1) * nn + 1) ((hh + 1) * nn + 2) rfl rfl rfl _ HPL.out (Kd.C_below HR.out HB1.out) HC.out (Kd.C_below HP.out HB1.out) (Kd.C_below HQ.out HB1.out) HO.out.net HO.out.caps HO.out.gp HO.out.gq HO.out.lp HO.out.lq).mono ?_; rintro e w9 ⟨w0, gg, v, B, bf, f, S, rfl, k1, k2, k3, k4, k5⟩; have HB9 := zh (v6 HB1.out k5); have hv9 : z0j _ _ _ (dOf f) _ = z1t nn hh b l p q := (z97 (HO.out.arcs b) (by omega) k3 k4).symm; rw [hv9]; clear k1 k2 k3 k4 k5 hv9))
   go_ret2
   exact ⟨rfl, HB9.out⟩
  ·rw [if_neg h0] at hF
   injection hF with hF
   injection hF with e1 e2
   subst e1 e2
   have e1 : (r != 0) = true := bne_iff_ne.2 h0
   have e2 : (r == 0) = false := beq_eq_false_iff_ne.2 h0
   have H0 := zh h0
   clear h0 hb
   go_enter Tryz.func9, Tryz.ntmps9
   go_wp2_with (go_at_call 25; (with_reducible refine (HBG.out _ ?s1).mono ?_); (case s1 => exact y8 (Below.refl _ _) _); rintro e w1 ⟨hb1, (⟨_, rfl⟩ | ⟨h9, _⟩)⟩; rotate_left; (exact absurd h9 H0.out); have HB1 := zh (v6 (y8 (Below.refl w.heap.size w) (.cells #[.int .i64 n, .bool b, .slice A l.length c] 33)) hb1); clear hb1)
   go_ret2
   exact ⟨rfl, HB1.out⟩
 ·cases hF
noncomputable def evac_Cut.f (k : Nat) (n : Int) (b : Bool) (l : List Arc) (p q : List Grp) (h : Int) : Option (List z3p × Int) :=
 if okG p = true ∧ okG q = true then (z3o k n b l p q h).bind fun r => if r = 0 then some (cutV n.toNat h.toNat b l p q, 0) else some ([], r) else none
theorem evac_Cut.mono : ∀ n b l p q h k, LeO (evac_Cut.f k n b l p q h) (evac_Cut.f (k + 1) n b l p q h) := by
 intro n b l p q h k r hr
 unfold evac_Cut.f at hr ⊢
 split at hr
 ·rw [if_pos (by assumption)]
  obtain ⟨c, h1, hr⟩ := Option.bind_eq_some_iff.1 hr
  rw [z5v n b l p q h k c h1]
  exact hr
 ·cases hr
def CutAt (r1 : List z3p) (r2 : Int) (w : World) (e : Ending) (w' : World) : Prop :=
 ∃ v : Value, e = .returned (.tuple #[v, .int .i64 r2]) ∧ Kd.R z35 110 w' w.heap.size (fun _ => True) v r1 ∧ Below w.heap.size w w'
theorem evac_Cut.calls (k : Nat) (n : Int) (b : Bool) (A : Option Addr) (c : Nat) (l : List Arc) (Ap : Option Addr) (cp : Nat) (p : List Grp) (Aq : Option Addr) (cq : Nat) (q : List Grp) (h : Int) (r1 : List z3p) (r2 : Int) (w : World) (hr : Kd.C z3l w A l.length l) (hc : l.length ≤ c)
  (hp : Kd.C z1v w Ap p.length p) (_ : p.length ≤ cp) (hq : Kd.C z1v w Aq q.length q) (_ : q.length ≤ cq) (hF : evac_Cut.f k n b l p q h = some (r1, r2)) :
  Calls Tryz.prog 16 #[.agg #[.int .i64 n, .bool b, .slice A l.length c], .slice Ap p.length cp, .slice Aq q.length cq, .int .i64 h] w (CutAt r1 r2 w) := by
 unfold evac_Cut.f at hF
 split at hF
 ·rename_i hok
  obtain ⟨wp, lp⟩ := z5f hok.1
  obtain ⟨wq, lq⟩ := z5f hok.2
  obtain ⟨r, hb, hF⟩ := Option.bind_eq_some_iff.1 hF
  have HR := zh hr
  have HC := zh hc
  have HP := zh hp
  have HQ := zh hq
  have HBG : Hid (∀ W, Below w.heap.size w W → Calls Tryz.prog 25 #[.agg #[.int .i64 n, .bool b, .slice A l.length c], .slice Ap p.length cp, .slice Aq q.length cq, .int .i64 h] W (z5z n b A c l Ap cp p Aq cq q r W)) := zh (fun W hW =>
   z5b k n b A c l Ap cp p Aq cq q h r W (Kd.C_below hr hW) hc (Kd.C_below hp hW) (Kd.C_below hq hW) wp wq lp lq hb)
  have hu := Tryz.underlying33
  clear hr hc hp hq wp lp wq lq hok
  by_cases h0 : r = 0
  ·rw [if_pos h0] at hF
   injection hF with hF
   injection hF with e1 e2
   subst h0 e1 e2
   obtain ⟨nn, hh, rfl, rfl, ho, -⟩ := z5a hb
   have HO := zh ho
   have hu2 := Tryz.underlying70
   clear hb ho
   go_enter Tryz.func16, Tryz.ntmps16
   go_wp2_with (first
    |(go_at_call 25; (with_reducible refine (HBG.out _ ?s1).mono ?_); (case s1 => exact y8 (Below.refl _ _) _); rintro e w1 ⟨hb1, (⟨h9, _⟩ | ⟨_, gp, bh, br, rfl, hge, hPl⟩)⟩; (exact absurd rfl h9); have HB1 := zh (v6 (y8 (Below.refl w.heap.size w) (.cells #[.int .i64 nn, .bool b, .slice A l.length c] 33)) hb1); have HPL := zh hPl; have HNX := zh (j5 (heap_alloc_new w (.cells #[.int .i64 nn, .bool b, .slice A l.length c] 33)) hb1); clear hb1 hge hPl)
    |fail)
   have x0 : w1.cell? ⟨w.heap.size, 0, none⟩ = some (.int .i64 nn) := (y7 HNX.out 0).trans rfl
   go_region_held3 (fun w' => w'.cell? ⟨w.heap.size, 0, none⟩ = some (.int .i64 nn)) (first | exact HS9.out | exact HS10.out | go_keep) ((first
    |(go_at_call 26; refine (z5o nn hh b A c l Ap cp p Aq cq q gp bh br ((hh + 1) * nn) ((hh + 1) * nn + 1) ((hh + 1) * nn + 2) rfl rfl rfl _ (HPL.out.below zD) (Kd.C_below (Kd.C_below HR.out HB1.out) zD) HC.out (Kd.C_below (Kd.C_below HP.out HB1.out) zD) (Kd.C_below (Kd.C_below HQ.out HB1.out) zD) HO.out.net HO.out.caps HO.out.gp HO.out.gq HO.out.lp HO.out.lq).mono ?_; rintro e w9 ⟨w0, gg, v, B, bf, f, S, rfl, k1, k2, k3, k4, k5⟩; have hb9 : Below w1.heap.size w1 w9 := v6 zD k5; have HB9 := zh (v6 HB1.out hb9); have HS9 := zh (j6 hb9 x0); have K1 := zh k1; have K2 := zh k2; have K3 := zh k3; have K4 := zh k4; clear k1 k2 k3 k4 k5 hb9)
    |(go_at_call 39; refine (y5i w0 gg ((hh + 1) * nn) ((hh + 1) * nn + 1) ((hh + 1) * nn + 2) rfl rfl nn v _ B _ bf f _ _ (K1.out.below zD) (HO.out.netOk b).1 HO.out.net.n0 (show z0e _ bf f from j5 K2.out zD) K3.out).mono ?_; rintro e w10 ⟨v10, d, rows, rfl, m1, m2, m3, m4, m5⟩; have hb10 : Below w9.heap.size w9 w10 := v6 zD m5; have HB10 := zh (v6 HB9.out hb10); have HS10 := zh (j6 hb10 HS9.out); have HM1 := zh (Kd.R_lower (base' := w.heap.size) m1 (Nat.le_trans HB9.out.size (show w9.heap.size ≤ _ from Nat.le_refl _))); have HCV : Hid (z06 nn d ((hh + 1) * nn) = cutV nn hh b l p q) := zh (x1s (HO.out.netOk b).1 (by omega) (by omega) ⟨f, S, rows, K3.out, K4.out, m3, m4⟩).symm; clear m1 m2 m3 m4 m5 hb10)))
   all_goals
    go_wp2
    go_ret2
    exact ⟨_, rfl, by have h9 := HM1.out; rw [HCV.out] at h9; exact h9, HB10.out⟩
  ·rw [if_neg h0] at hF
   injection hF with hF
   injection hF with e1 e2
   subst e1 e2
   have e1 : (r != 0) = true := bne_iff_ne.2 h0
   have e2 : (r == 0) = false := beq_eq_false_iff_ne.2 h0
   have H0 := zh h0
   clear h0 hb
   go_enter Tryz.func16, Tryz.ntmps16
   go_wp2_with (go_at_call 25; (with_reducible refine (HBG.out _ ?s1).mono ?_); (case s1 => exact y8 (Below.refl _ _) _); rintro e w1 ⟨hb1, (⟨_, rfl⟩ | ⟨h9, _⟩)⟩; rotate_left; (exact absurd h9 H0.out); have HB1 := zh (v6 (y8 (Below.refl w.heap.size w) (.cells #[.int .i64 n, .bool b, .slice A l.length c] 33)) hb1); clear hb1)
   go_ret2
   exact ⟨_, rfl, Kd.R_nil _ _ _ _ _, HB1.out⟩
 ·cases hF
def z02 (p : List Grp) : Int := p.foldl (fun s g => s + g.f1) 0
theorem z7r (p : List Grp) (g : Grp) : z02 (p ++ [g]) = z02 p + g.f1 := by unfold z02; rw [List.foldl_append]; rfl
theorem y0t {n : Nat} {p : List Grp} (h : z3y n p) : ∀ i, i ≤ p.length → 0 ≤ z02 (p.take i) ∧ z02 (p.take i) ≤ i * 1048576
 |0, _ => by rw [List.take_zero]; exact ⟨Int.le_refl _, Int.le_refl _⟩
 |i + 1, hi => by
  have h1 := y0t h i (by omega)
  have h2 := h _ (z2s (show i < p.length by omega))
  rw [z38 (by omega), z7r]
  generalize z02 (p.take i) = T at h1 ⊢
  omega
theorem y45 (nn : Nat) (gp : Nat) (n : Int) (b : Bool) (A : Option Addr) (ll c : Nat) (Ap : Option Addr) (cp : Nat) (p : List Grp) (Aq : Option Addr) (lq cq : Nat) (bh br kh kr : Nat) (Dh Dr : DataW Unit) (w : World) (h : PlI gp (z0f n b A ll c Ap p.length cp Aq lq cq bh br) bh br kh kr Dh Dr w) (hp : Kd.C z1v w Ap p.length p) (hg : z3y nn p) (lp : p.length ≤ 1000) :
  Calls Tryz.prog 36 #[.pointer (some ⟨gp, 0, none⟩)] w fun e w' => e = .returned (.int .i64 (z02 p)) ∧ Below w.heap.size w w' := by
 have HP := zh hp
 have HG := zh hg
 have x3 : w.cell? ⟨gp, 3, none⟩ = some (.slice Ap p.length cp) := (y7 h.bx 3).trans rfl
 have hu2 := Tryz.underlying59
 clear h hp hg
 go_enter Tryz.func36, Tryz.ntmps36
 go_wp2
 go_loopg [3, 11] (p.length + 1) (fun k sv iv W => ∃ i : Nat, i ≤ p.length ∧ sv = .int .i64 (z02 (p.take i)) ∧ iv = .int .i64 i ∧ k = p.length + 1 - i ∧ Hid (Below w.heap.size w W))
 case atStart => exact ⟨0, Nat.zero_le _, rfl, rfl, rfl, zh (Below.refl _ _)⟩
 case round =>
  obtain ⟨i, hi, rfl, rfl, rfl, HB⟩ := hrel
  clear x3
  by_cases hlt : i < p.length
  ·have i0 : (0 : Int) ≤ (i : Int) := by omega
   have i1 : (i : Int) < (p.length : Int) := by omega
   obtain ⟨ad, ea, y0, y1⟩ := z2y (Kd.C_below HP.out HB.out) (i : Int) i0 i1
   subst ea
   rw [Int.toNat_natCast] at y0 y1
   obtain ⟨g, hg⟩ : ∃ g, g = z6w p i := ⟨_, rfl⟩
   have hg2 : z0q p (i : Int) = g := by rw [hg]; rfl
   rw [hg2] at y0 y1
   have hb := y0t HG.out i (by omega)
   have hgin := (HG.out g (by rw [hg]; exact z2s hlt)).2
   have HGE := zh hg
   obtain ⟨T, hT⟩ : ∃ T, T = z02 (p.take i) := ⟨_, rfl⟩
   rw [← hT] at hb ⊢
   have HT := zh hT
   have t0 : 0 ≤ T := hb.1
   have t1 : T ≤ 2000000000 := by omega
   have g0 : 0 ≤ g.f1 := hgin.1
   have g1 : g.f1 ≤ 1048576 := hgin.2
   clear hg hg2 hT hb hgin
   go_wp2
   go_roundg (p.length - i)
   case measure => omega
   case rel => exact ⟨i + 1, by omega, by rw [z38 hlt, z7r, ← HT.out, ← HGE.out], by go_num, by omega, zh (y8 HB.out _)⟩
  ·have e : i = p.length := by omega
   subst e
   go_wp2
   go_ret
   rw [List.take_length]
   exact ⟨rfl, HB.out⟩
theorem x1p (n h : Nat) (b : Bool) (A : Option Addr) (c : Nat) (l : List Arc) (Ap : Option Addr) (cp : Nat) (p : List Grp) (Aq : Option Addr) (cq : Nat) (q : List Grp) (gp bh br pb ab : Nat) (all : Int) (r1 : Int) (r2 : Bool) (w : World)
  (e1 : (if (z1t n h b l p q == all) = true then (bsr (fun k => z1t n k b l p q == all) 0 h : Int) else 0) = r1) (e2 : (z1t n h b l p q == all) = r2)
  (hP : PlI gp (z0f n b A l.length c Ap p.length cp Aq q.length cq bh br) bh br p.length q.length (z0a p) (z0a q) w) (hr : Kd.C z3l w A l.length l) (hlc : l.length ≤ c) (hp : Kd.C z1v w Ap p.length p) (hq : Kd.C z1v w Aq q.length q)
  (ho : z00 n h l p q) (h1 : w.heap[pb]? = some (.cells #[.pointer (some ⟨gp, 0, none⟩)] 64 (0, 0))) (h2 : w.heap[ab]? = some (.cells #[.int .i64 all] 3 (0, 0))) :
  Calls Tryz.prog 37 #[.int .i64 h, .func (.func 38) #[] #[.pointer (some ⟨pb, 0, none⟩), .pointer (some ⟨ab, 0, none⟩)]] w fun e w' => e = .returned (.tuple #[.int .i64 r1, .bool r2]) ∧ Below w.heap.size w w' := by
 subst e1 e2
 exact y6e n h b A c l Ap cp p Aq cq q gp bh br pb ab all w hP hr hlc hp hq ho h1 h2
noncomputable def evac_Least.f (k : Nat) (n : Int) (b : Bool) (l : List Arc) (p q : List Grp) (h : Int) : Option (Int × Bool × Int) :=
 if okG p = true ∧ okG q = true then (z3o k n b l p q h).bind fun r => if r = 0 then some (if (z1t n.toNat h.toNat b l p q == z02 p) = true then (bsr (fun k => z1t n.toNat k b l p q == z02 p) 0 h.toNat : Int) else 0, z1t n.toNat h.toNat b l p q == z02 p, 0) else some (0, false, r) else none
theorem evac_Least.mono : ∀ n b l p q h k, LeO (evac_Least.f k n b l p q h) (evac_Least.f (k + 1) n b l p q h) := by
 intro n b l p q h k r hr
 unfold evac_Least.f at hr ⊢
 split at hr
 ·rw [if_pos (by assumption)]
  obtain ⟨c, h1, hr⟩ := Option.bind_eq_some_iff.1 hr
  rw [z5v n b l p q h k c h1]
  exact hr
 ·cases hr
theorem evac_Least.calls (k : Nat) (n : Int) (b : Bool) (A : Option Addr) (c : Nat) (l : List Arc) (Ap : Option Addr) (cp : Nat) (p : List Grp) (Aq : Option Addr) (cq : Nat) (q : List Grp) (h r1 : Int) (r2 : Bool) (r3 : Int) (w : World) (hr : Kd.C z3l w A l.length l) (hc : l.length ≤ c)
  (hp : Kd.C z1v w Ap p.length p) (_ : p.length ≤ cp) (hq : Kd.C z1v w Aq q.length q) (_ : q.length ≤ cq) (hF : evac_Least.f k n b l p q h = some (r1, r2, r3)) :
  Calls Tryz.prog 15 #[.agg #[.int .i64 n, .bool b, .slice A l.length c], .slice Ap p.length cp, .slice Aq q.length cq, .int .i64 h] w fun e w' => e = .returned (.tuple #[.int .i64 r1, .bool r2, .int .i64 r3]) ∧ Below w.heap.size w w' := by
 unfold evac_Least.f at hF
 split at hF
 ·rename_i hok
  obtain ⟨wp, lp⟩ := z5f hok.1
  obtain ⟨wq, lq⟩ := z5f hok.2
  obtain ⟨r, hb, hF⟩ := Option.bind_eq_some_iff.1 hF
  have HR := zh hr
  have HC := zh hc
  have HP := zh hp
  have HQ := zh hq
  have HBG : Hid (∀ W, Below w.heap.size w W → Calls Tryz.prog 25 #[.agg #[.int .i64 n, .bool b, .slice A l.length c], .slice Ap p.length cp, .slice Aq q.length cq, .int .i64 h] W (z5z n b A c l Ap cp p Aq cq q r W)) := zh (fun W hW =>
   z5b k n b A c l Ap cp p Aq cq q h r W (Kd.C_below hr hW) hc (Kd.C_below hp hW) (Kd.C_below hq hW) wp wq lp lq hb)
  have hu := Tryz.underlying33
  clear hr hc hp hq wp lp wq lq hok
  by_cases h0 : r = 0
  ·rw [if_pos h0] at hF
   injection hF with hF
   injection hF with e1 e2
   injection e2 with e2 e3
   subst h0 e3
   obtain ⟨nn, hh, rfl, rfl, ho, -⟩ := z5a hb
   have HO := zh ho
   rw [Int.toNat_natCast, Int.toNat_natCast] at e1
   rw [Int.toNat_natCast, Int.toNat_natCast] at e2
   have HE1 := zh e1
   have HE2 := zh e2
   clear hb ho e1 e2
   go_enter Tryz.func15, Tryz.ntmps15
   go_wp2_with (first
    |(go_at_call 25; (with_reducible refine (HBG.out _ ?s1).mono ?_); (case s1 => exact y8 (Below.refl _ _) _); rintro e w1 ⟨hb1, (⟨h9, _⟩ | ⟨_, gp, bh, br, rfl, hge, hPl⟩)⟩; (exact absurd rfl h9); have HB1 := zh (v6 (y8 (Below.refl w.heap.size w) (.cells #[.int .i64 nn, .bool b, .slice A l.length c] 33)) hb1); have HPL := zh hPl; clear hb1 hge hPl)
    |(go_at_call 36; have hb2 := y8 (Below.refl w1.heap.size w1) (.cells #[.pointer (some ⟨gp, 0, none⟩)] 64); (with_reducible refine (y45 nn gp nn b A l.length c Ap cp p Aq q.length cq bh br p.length q.length (z0a p) (z0a q) _ ?s1 ?s2 HO.out.gp HO.out.lp).mono ?_); (case s1 => exact HPL.out.below hb2); (case s2 => exact Kd.C_below HP.out (v6 HB1.out hb2)); rintro e w2 ⟨rfl, hb3⟩; have HB2 := zh (v6 hb2 hb3); have HPB := zh (j5 (heap_alloc_new w1 (.cells #[.pointer (some ⟨gp, 0, none⟩)] 64)) hb3); clear hb2 hb3)
    |(go_at_call 37; have hb4 := y8 HB2.out (.cells #[.int .i64 (z02 p)] 3); (with_reducible refine (x1p nn hh b A c l Ap cp p Aq cq q gp bh br w1.heap.size w2.heap.size (z02 p) r1 r2 _ HE1.out HE2.out ?s1 ?s2 HC.out ?s3 ?s4 HO.out ?s5 ?s6).mono ?_); (case s1 => exact HPL.out.below hb4); (case s2 => exact Kd.C_below HR.out (v6 HB1.out hb4)); (case s3 => exact Kd.C_below HP.out (v6 HB1.out hb4)); (case s4 => exact Kd.C_below HQ.out (v6 HB1.out hb4)); (case s5 => exact j9 HPB.out _); (case s6 => exact heap_alloc_new _ _); rintro e w3 ⟨rfl, hb5⟩; have HB3 := zh (v6 HB1.out (v6 hb4 hb5)); clear hb4 hb5))
   go_ret3
   exact ⟨rfl, HB3.out⟩
  ·rw [if_neg h0] at hF
   injection hF with hF
   injection hF with e1 e2
   injection e2 with e2 e3
   subst e1 e2 e3
   have e1 : (r != 0) = true := bne_iff_ne.2 h0
   have e2 : (r == 0) = false := beq_eq_false_iff_ne.2 h0
   have H0 := zh h0
   clear h0 hb
   go_enter Tryz.func15, Tryz.ntmps15
   go_wp2_with (go_at_call 25; (with_reducible refine (HBG.out _ ?s1).mono ?_); (case s1 => exact y8 (Below.refl _ _) _); rintro e w1 ⟨hb1, (⟨_, rfl⟩ | ⟨h9, _⟩)⟩; rotate_left; (exact absurd h9 H0.out); have HB1 := zh (v6 (y8 (Below.refl w.heap.size w) (.cells #[.int .i64 n, .bool b, .slice A l.length c] 33)) hb1); clear hb1)
   go_ret3
   exact ⟨rfl, y8 HB1.out _⟩
 ·cases hF
def y6g (S : Int → Bool) (x : Arc) : Int := if S x.f0 = true ∧ S x.f1 = false then x.f2 else 0
def z4k (S : Int → Bool) : List Arc → Int
 |[] => 0
 |x :: l => y6g S x + z4k S l
theorem z4d (S : Int → Bool) : ∀ a b : List Arc, z4k S (a ++ b) = z4k S a + z4k S b
 |[], b => by show z4k S b = 0 + z4k S b; omega
 |x :: a, b => by
  show y6g S x + z4k S (a ++ b) = y6g S x + z4k S a + z4k S b
  rw [z4d S a b]
  omega
theorem z8t (S : Int → Bool) (a : List Arc) (x : Arc) : z4k S (a ++ [x]) = z4k S a + y6g S x := by
 rw [z4d]
 show z4k S a + (y6g S x + 0) = _
 omega
theorem z88 (S : Int → Bool) : ∀ (m : Nat) (arcs : List Arc), m = arcs.length → z6p arcs.length (z08 arcs) (z05 arcs) (z2f arcs) S = z4k S arcs := by
 have key : ∀ (arcs : List Arc) (m : Nat), m ≤ arcs.length → z0s m (fun i => if S (z08 arcs i) = true ∧ S (z05 arcs i) = false then z2f arcs i else 0) = z4k S (arcs.take m) := by
  intro arcs m
  induction m with
  |zero => intro _; rw [List.take_zero]; rfl
  |succ m ih =>
   intro h
   have h1 : arcs.take (m + 1) = arcs.take m ++ [z0i arcs m] := by
    rw [List.take_add_one, List.getElem?_eq_getElem (by omega)]
    unfold z0i j7
    rw [Int.toNat_natCast, List.getD_eq_getElem?_getD, List.getElem?_eq_getElem (by omega)]
    rfl
   rw [h1, z8t, z0s, ih (by omega)]
   rfl
 intro m arcs _
 have := key arcs arcs.length (Nat.le_refl _)
 rw [List.take_length] at this
 exact this
def mS (l : List Arc) (use : Arc → Bool) (n h : Int) (S : Int → Bool) (a : Nat) (j : Nat) : Int :=
 let x := z0i l j
 if (a : Int) + x.f3 ≤ h ∧ use x = true then (if S ((a : Int) * n + x.f0) = true ∧ S (((a : Int) + x.f3) * n + x.f1) = false then x.f2 else 0) else 0
def wS (keeps : Nat → Bool) (n h : Int) (S : Int → Bool) (a : Nat) (v : Nat) : Int :=
 if (a : Int) < h ∧ keeps v = true then (if S ((a : Int) * n + v) = true ∧ S (((a : Int) + 1) * n + v) = false then 1099511627776 else 0) else 0
theorem x3g (l : List Arc) (use : Arc → Bool) (n h : Int) (S : Int → Bool) (a : Nat) (s : BSt) : ∀ j, z4k S (bM l use n h a s j).arcs = z4k S s.arcs + z0s j (mS l use n h S a)
 |0 => by show z4k S s.arcs = z4k S s.arcs + 0; omega
 |j + 1 => by
  have ih := x3g l use n h S a s j
  rw [z0s]
  unfold bM mS
  simp only
  by_cases hc : (a : Int) + (z0i l j).f3 ≤ h ∧ use (z0i l j) = true
  ·rw [if_pos hc, if_pos hc, z8t, ih]
   unfold y6g
   simp only
   unfold mS
   simp only
   omega
  ·rw [if_neg hc, if_neg hc, ih]
   unfold mS
   simp only
   omega
theorem x3f (keeps : Nat → Bool) (n h : Int) (S : Int → Bool) (a : Nat) (s : BSt) : ∀ v, z4k S (bW keeps n h a s v).arcs = z4k S s.arcs + z0s v (wS keeps n h S a)
 |0 => by show z4k S s.arcs = z4k S s.arcs + 0; omega
 |v + 1 => by
  have ih := x3f keeps n h S a s v
  rw [z0s]
  unfold bW wS
  simp only
  by_cases hc : (a : Int) < h ∧ keeps v = true
  ·rw [if_pos hc, if_pos hc, z8t, ih]
   unfold y6g
   simp only
   unfold wS
   omega
  ·rw [if_neg hc, if_neg hc, ih]
   unfold wS
   omega
theorem x3h (l : List Arc) (use : Arc → Bool) (keeps : Nat → Bool) (n h : Nat) (S : Int → Bool) : ∀ A, z4k S (bA l use keeps n h A).arcs = z0s A (fun a => z0s l.length (mS l use n h S a) + z0s n (wS keeps n h S a))
 |0 => rfl
 |A + 1 => by
  rw [bA, x3f, x3g, x3h l use keeps n h S A, z0s]
  omega
def gS (t : Grp → Bool) : List Grp → Int
 |[] => 0
 |g :: l => (if t g = true then g.f1 else 0) + gS t l
theorem x59 (S : Int → Bool) (N : Nat) : ∀ p : List Grp, z4k S (z5e N p) = gS (fun g => S N && !S g.f0) p
 |[] => rfl
 |g :: p => by
  show y6g S ⟨(N : Int), g.f0, g.f1, 0⟩ + z4k S (z5e N p) = _
  rw [x59 S N p, gS]
  congr 1
  unfold y6g
  simp only [Bool.and_eq_true, Bool.not_eq_true']
theorem x58 (S : Int → Bool) (N1 n h : Nat) : ∀ q : List Grp, z4k S (z8d N1 n h q) = gS (fun g => S ((h : Int) * n + g.f0) && !S N1) q
 |[] => rfl
 |g :: q => by
  show y6g S ⟨(h : Int) * n + g.f0, (N1 : Int), g.f1, 0⟩ + z4k S (z8d N1 n h q) = _
  rw [x58 S N1 n h q, gS]
  congr 1
  unfold y6g
  simp only [Bool.and_eq_true, Bool.not_eq_true']
theorem y9f (S : Int → Bool) (l : List Arc) (use : Arc → Bool) (keeps : Nat → Bool) (n h N N1 : Nat) (p q : List Grp) : z4k S (z1h l use keeps n h N N1 p q) = z0s (h + 1) (fun a => z0s l.length (mS l use n h S a) + z0s n (wS keeps n h S a)) + gS (fun g => S N && !S g.f0) p + gS (fun g => S ((h : Int) * n + g.f0) && !S N1) q := by
 unfold z1h
 rw [z4d, z4d, x3h, x59, x58]
theorem x4p {t u : Grp → Bool} : ∀ {p : List Grp}, (∀ g, g ∈ p → 0 ≤ g.f1) → (∀ g, g ∈ p → t g = true → u g = true) → gS t p ≤ gS u p
 |[], _, _ => Int.le_refl _
 |g :: p, h0, h => by
  have h1 := x4p (p := p) (fun x hx => h0 x (List.mem_cons_of_mem _ hx)) (fun x hx => h x (List.mem_cons_of_mem _ hx))
  have h2 := h0 g (List.mem_cons_self ..)
  have h3 := h g (List.mem_cons_self ..)
  rw [gS, gS]
  by_cases c : t g = true
  ·rw [if_pos c, if_pos (h3 c)]
   omega
  ·rw [if_neg c]
   split <;> omega
theorem y89 : ∀ p : List Grp, gS (fun _ => false) p = 0
 |[] => rfl
 |g :: p => by rw [gS, y89 p]; rfl
theorem z6l {t u : Grp → Bool} : ∀ {p : List Grp}, (∀ g, g ∈ p → t g = u g) → gS t p = gS u p
 |[], _ => rfl
 |g :: p, h => by
  rw [gS, gS, h g (List.mem_cons_self ..), z6l (p := p) (fun x hx => h x (List.mem_cons_of_mem _ hx))]
theorem x1k {n : Nat} (t : Grp → Bool) : ∀ {p : List Grp}, z3y n p → 0 ≤ gS t p ∧ gS t p ≤ p.length * 1048576
 |[], _ => ⟨Int.le_refl _, Int.le_refl _⟩
 |g :: p, h => by
  have h1 := x1k t (p := p) (fun x hx => h x (List.mem_cons_of_mem _ hx))
  have h2 := (h g (List.mem_cons_self ..)).2
  rw [gS, List.length_cons]
  split <;> omega
theorem y67 (p : List Grp) : z02 p = gS (fun _ => true) p := by
 have : ∀ (p : List Grp) (s : Int), p.foldl (fun s g => s + g.f1) s = s + gS (fun _ => true) p := by
  intro p
  induction p with
  |nil => intro s; show s = s + 0; omega
  |cons g p ih =>
   intro s
   rw [List.foldl_cons, ih, gS, if_pos rfl]
   omega
 unfold z02
 rw [this]
 omega
def z5c (l : List Arc) : List Value := l.flatMap fun x => [.int .i64 x.f0, .int .i64 x.f1, .int .i64 x.f2, .int .i64 x.f3]
theorem z40 : ∀ (l : List Arc) (j : Nat) (x : Arc), l[j]? = some x → ∀ (i : Nat) (u : Value), ([.int .i64 x.f0, .int .i64 x.f1, .int .i64 x.f2, .int .i64 x.f3] : List Value)[i]? = some u → (z5c l)[j * 4 + i]? = some u
 |[], j, x, h, _, _, _ => by simp at h
 |y :: l, 0, x, h, i, u, hu => by
  have e : y = x := by simpa using h
  subst e
  have hi : i < 4 := (List.getElem?_eq_some_iff.1 hu).1
  show ([Value.int .i64 y.f0, .int .i64 y.f1, .int .i64 y.f2, .int .i64 y.f3] ++ z5c l)[0 * 4 + i]? = some u
  rw [Nat.zero_mul, Nat.zero_add, List.getElem?_append_left hi]
  exact hu
 |y :: l, j + 1, x, h, i, u, hu => by
  have h2 : l[j]? = some x := by simpa using h
  show ([Value.int .i64 y.f0, .int .i64 y.f1, .int .i64 y.f2, .int .i64 y.f3] ++ z5c l)[(j + 1) * 4 + i]? = some u
  rw [show (j + 1) * 4 + i = 4 + (j * 4 + i) by omega, List.getElem?_append_right (by simp)]
  simp only [List.length_cons, List.length_nil, Nat.zero_add, Nat.reduceAdd, Nat.add_sub_cancel_left]
  exact z40 l j x h2 i u hu
theorem y9r (W : World) (l : List Arc) (hl : l.length ≤ 100000) : Kd.C z3l (W.alloc (.cells (z5c l).toArray 104)) (some ⟨W.heap.size, 0, none⟩) l.length l := by
 refine ⟨rfl, by omega, fun _ => ⟨_, rfl, fun j p hj => ⟨[.int .i64 p.f0, .int .i64 p.f1, .int .i64 p.f2, .int .i64 p.f3], rfl, y8q _ p, fun i u hu => ?_⟩⟩⟩
 have h1 := z40 l j p hj i u hu
 have h2 : (W.alloc (.cells (z5c l).toArray 104)).cell? ⟨W.heap.size, j * 4 + i, none⟩ = some u := by
  refine (y7 (heap_alloc_new _ _) (j * 4 + i)).trans ?_
  rw [List.getElem?_toArray]
  exact h1
 have h3 : (Addr.add ⟨W.heap.size, 0, none⟩ (j * z3l.sz + i)) = ⟨W.heap.size, j * 4 + i, none⟩ := by
  have : z3l.sz = 4 := rfl
  rw [this]
  unfold Addr.add
  split
  ·rename_i h4
   rw [h4]
  ·simp
 rw [h3]
 exact h2
theorem topEx {M N N1 : Nat} {arcs : List Arc} (hn : z12 M arcs) (hcap : ∀ i : Int, 0 ≤ i → i < arcs.length → 0 ≤ (j7 arcs i).f2) (hN : N < M) (h1 : N1 < M) (hne : N ≠ N1) : ∃ (f : List Int) (S : Int → Bool), z0t arcs f ∧ Top arcs.length (z08 arcs) (z05 arcs) M N N1 (z2f arcs) (dOf f) S := by
 obtain ⟨W⟩ : Nonempty World := ⟨World.unlaid Tryz.prog (Os.initial #[] #[] ByteArray.empty)⟩
 obtain ⟨e, w', fr, ⟨bf, f, S, -, -, -, h4, h5, -⟩, -⟩ := y1p M N N1 false (some ⟨W.heap.size, 0, none⟩) arcs.length arcs _ hn hcap hN h1 hne (Nat.le_refl _) (y9r W arcs hn.ll) []
 exact ⟨f, S, h4, h5⟩
theorem x5y {M N N1 : Nat} {arcs : List Arc} (ha : ∀ x, x ∈ arcs → z7d M x) (hn : z12 M arcs) (hcap : ∀ i : Int, 0 ≤ i → i < arcs.length → 0 ≤ (j7 arcs i).f2) (hN : N < M) (h1 : N1 < M) (hne : N ≠ N1) :
  (∃ S : Int → Bool, S N = true ∧ S N1 = false ∧ y8a arcs M N N1 = z4k S arcs) ∧ ∀ S : Int → Bool, S N = true → S N1 = false → y8a arcs M N N1 ≤ z4k S arcs := by
 obtain ⟨f, S, hf, ht⟩ := topEx hn hcap hN h1 hne
 rw [z97 ha hN hf ht]
 refine ⟨⟨S, ht.2.2.2.1, ht.2.2.2.2, ?_⟩, fun T t1 t2 => ?_⟩
 ·rw [← z88 S _ arcs rfl]
  exact z9x (z8q ha) ht.1 ht.2.1 ⟨by omega, by omega⟩ ht.2.2.1 ht.2.2.2.1 ht.2.2.2.2
 ·rw [← z88 T _ arcs rfl]
  exact z9w (z8q ha) ht.1 ht.2.1 ⟨by omega, by omega⟩ t1 t2
def y6f (n h : Nat) (b : Bool) (l : List Arc) (p q : List Grp) (S : Int → Bool) : Int := z4k S (z1h l (z0v q) (d9 b p q) n h ((h + 1) * n) ((h + 1) * n + 1) p q)
section
variable {n h : Nat} {l : List Arc} {p q : List Grp}
theorem z00.cut (ho : z00 n h l p q) (b : Bool) : (∃ S : Int → Bool, S ((h + 1) * n : Nat) = true ∧ S ((h + 1) * n + 1 : Nat) = false ∧ z1t n h b l p q = y6f n h b l p q S) ∧ ∀ S : Int → Bool, S ((h + 1) * n : Nat) = true → S ((h + 1) * n + 1 : Nat) = false → z1t n h b l p q ≤ y6f n h b l p q S :=
 x5y (ho.arcs b) (ho.netOk b).1 (ho.netOk b).2 (by omega) (by omega) (by omega)
theorem mS_bd (ho : z00 n h l p q) {use : Arc → Bool} (S : Int → Bool) (a j : Nat) (hj : j < l.length) (k : Int) : 0 ≤ mS l use n k S a j := by
 have := (ho.caps j hj).1
 unfold mS
 simp only
 split
 ·split <;> omega
 ·exact Int.le_refl _
theorem x3q (keeps : Nat → Bool) (n h : Int) (S : Int → Bool) (a v : Nat) : 0 ≤ wS keeps n h S a v := by
 unfold wS
 split
 ·split
  ·decide
  ·exact Int.le_refl _
 ·exact Int.le_refl _
theorem z00.le_total (ho : z00 n h l p q) (b : Bool) : z1t n h b l p q ≤ z02 p := by
 have e1 : (((h + 1) * n : Nat) : Int) = ((h : Int) + 1) * n := by rw [Int.natCast_mul]; rfl
 obtain ⟨S, hz, hS, hS1⟩ : ∃ S : Int → Bool, (∀ x : Int, x < (((h + 1) * n : Nat) : Int) → S x = false) ∧ S (((h + 1) * n : Nat) : Int) = true ∧ S (((h + 1) * n + 1 : Nat) : Int) = false :=
  ⟨fun v => decide (v = (((h + 1) * n : Nat) : Int)), fun x hx => decide_eq_false (by omega), decide_eq_true rfl, decide_eq_false (by omega)⟩
 refine Int.le_trans ((ho.cut b).2 S hS hS1) ?_
 unfold y6f
 rw [y9f]
 have m0 : z0s (h + 1) (fun a => z0s l.length (mS l (z0v q) n h S a) + z0s n (wS (d9 b p q) n h S a)) = 0 := by
  refine z1s _ (fun a ha => ?_)
  have z1 : z0s l.length (mS l (z0v q) n h S a) = 0 := z1s _ (fun j hj => by
   have he := (ho.net.ends j hj).1
   have hx := z5g (a := (a : Int)) (n := n) (h := h) (by omega) (by omega) he.1 he.2
   unfold mS
   simp only
   rw [hz _ (by omega)]
   simp)
  have z2 : z0s n (wS (d9 b p q) n h S a) = 0 := z1s _ (fun v hv => by
   have hx := z5g (a := (a : Int)) (n := n) (h := h) (x := (v : Int)) (by omega) (by omega) (by omega) (by omega)
   unfold wS
   rw [hz _ (by omega)]
   simp)
  rw [z1, z2]
  rfl
 have m1 : gS (fun g => S ((h : Int) * n + g.f0) && !S (((h + 1) * n + 1 : Nat) : Int)) q = 0 := by
  have : gS (fun g => S ((h : Int) * n + g.f0) && !S (((h + 1) * n + 1 : Nat) : Int)) q = gS (fun _ => false) q := z6l (fun g hg => by
   have he := (ho.gq g hg).1
   have hx := z5g (a := (h : Int)) (n := n) (h := h) (by omega) (by omega) he.1 he.2
   rw [hz _ (by omega)]
   rfl)
  rw [this, y89]
 rw [m0, m1, y67]
 have := x4p (p := p) (t := fun g => S (((h + 1) * n : Nat) : Int) && !S g.f0) (u := fun _ => true) (fun g hg => (ho.gp g hg).2.1) (fun _ _ _ => rfl)
 omega
theorem y7b : ∀ (n : Nat) {g : Nat → Int} (i : Nat), i < n → (∀ j, j < n → 0 ≤ g j) → g i ≤ z0s n g
 |0, _, i, h, _ => by omega
 |n + 1, g, i, h, h0 => by
  rw [z0s]
  have h1 := h0 n (by omega)
  have h2 := z3a n (g := g) (fun j hj => h0 j (by omega))
  by_cases e : i = n
  ·subst e
   omega
  ·have := y7b n i (by omega) (fun j hj => h0 j (by omega))
   omega
theorem z00.mono (ho : z00 n (h + 1) l p q) (b : Bool) : z1t n h b l p q ≤ z1t n (h + 1) b l p q := by
 obtain ⟨⟨S', s1, s2, s3⟩, -⟩ := ho.cut b
 have ho0 : z00 n h l p q := ho.le (by omega)
 have eN : (((h + 1) * n : Nat) : Int) = ((h : Int) + 1) * n := by rw [Int.natCast_mul]; rfl
 let S : Int → Bool := fun v => if v < (((h + 1) * n : Nat) : Int) then S' v else decide (v = (((h + 1) * n : Nat) : Int))
 have hS : ∀ v, v < (((h + 1) * n : Nat) : Int) → S v = S' v := fun v hv => if_pos hv
 have hSN : S (((h + 1) * n : Nat) : Int) = true := by show (if _ then _ else _) = true; rw [if_neg (by omega)]; simp
 have hSN1 : S (((h + 1) * n + 1 : Nat) : Int) = false := by show (if _ then _ else _) = false; rw [if_neg (by omega)]; exact decide_eq_false (by omega)
 refine Int.le_trans ((ho0.cut b).2 S hSN hSN1) ?_
 rw [s3]
 unfold y6f
 rw [y9f, y9f]
 have hlt : ∀ (a x : Int), 0 ≤ a → a ≤ h → 0 ≤ x → x < n → a * n + x < (((h + 1) * n : Nat) : Int) := fun a x a0 a1 x0 x1 => by
  have := z5g (a := a) (n := n) (h := h) (x := x) a0 a1 x0 x1
  omega
 have hM : ∀ a : Nat, a ≤ h → z0s l.length (mS l (z0v q) n h S a) ≤ z0s l.length (mS l (z0v q) n (h + 1 : Nat) S' a) := fun a ha => z5m _ (fun j hj => by
  have he := ho.net.ends j hj
  have ht := ho.net.time j hj
  have hc := (ho.caps j hj).1
  unfold mS
  simp only
  by_cases c : (a : Int) + (z0i l j).f3 ≤ h ∧ z0v q (z0i l j) = true
  ·have c2 : (a : Int) + (z0i l j).f3 ≤ ((h + 1 : Nat) : Int) ∧ z0v q (z0i l j) = true := ⟨by omega, c.2⟩
   rw [if_pos c, if_pos c2, hS _ (hlt _ _ (by omega) (by omega) he.1.1 he.1.2), hS _ (hlt _ _ (by omega) c.1 he.2.1 he.2.2)]
   exact Int.le_refl _
  ·rw [if_neg c]
   split
   ·split <;> omega
   ·exact Int.le_refl _)
 have hW : ∀ a : Nat, a < h → z0s n (wS (d9 b p q) n h S a) ≤ z0s n (wS (d9 b p q) n (h + 1 : Nat) S' a) := fun a ha => z5m _ (fun v hv => by
  unfold wS
  by_cases c : (a : Int) < h ∧ d9 b p q v = true
  ·have c2 : (a : Int) < ((h + 1 : Nat) : Int) ∧ d9 b p q v = true := ⟨by omega, c.2⟩
   rw [if_pos c, if_pos c2, hS _ (hlt _ _ (by omega) (by omega) (by omega) (by omega)), hS _ (hlt _ _ (by omega) (by omega) (by omega) (by omega))]
   exact Int.le_refl _
  ·rw [if_neg c]
   split
   ·split <;> omega
   ·exact Int.le_refl _)
 have hW0 : z0s n (wS (d9 b p q) n h S h) = 0 := z1s _ (fun v hv => by
  unfold wS
  rw [if_neg (by omega)])
 have hP : gS (fun g => S (((h + 1) * n : Nat) : Int) && !S g.f0) p = gS (fun g => S' (((h + 1 + 1) * n : Nat) : Int) && !S' g.f0) p := z6l (fun g hg => by
  have hg1 := (ho.gp g hg).1
  have := hlt 0 g.f0 (by omega) (by omega) hg1.1 hg1.2
  rw [hSN, s1, hS _ (by omega)])
 have hA : z0s h (fun a => z0s l.length (mS l (z0v q) n h S a) + z0s n (wS (d9 b p q) n h S a)) ≤ z0s h (fun a => z0s l.length (mS l (z0v q) n (h + 1 : Nat) S' a) + z0s n (wS (d9 b p q) n (h + 1 : Nat) S' a)) := z5m _ (fun a ha => by
  have h1 := hM a (by omega)
  have h2 := hW a ha
  omega)
 have hQ : gS (fun g => S ((h : Int) * n + g.f0) && !S (((h + 1) * n + 1 : Nat) : Int)) q ≤ z0s n (wS (d9 b p q) n (h + 1 : Nat) S' h) + gS (fun g => S' (((h + 1 : Nat) : Int) * n + g.f0) && !S' (((h + 1 + 1) * n + 1 : Nat) : Int)) q := by
  have q0 := (x1k (fun g => S' (((h + 1 : Nat) : Int) * n + g.f0) && !S' (((h + 1 + 1) * n + 1 : Nat) : Int)) ho.gq).1
  have q1 := (x1k (fun g => S ((h : Int) * n + g.f0) && !S (((h + 1) * n + 1 : Nat) : Int)) ho.gq).2
  have q2 := ho.lq
  have w0 := z3a n (g := wS (d9 b p q) n (h + 1 : Nat) S' h) (fun v _ => x3q _ _ _ _ _ _)
  by_cases hex : ∃ g, g ∈ q ∧ S' ((h : Int) * n + g.f0) = true ∧ S' (((h : Int) + 1) * n + g.f0) = false
  ·obtain ⟨g, hg, t1, t2⟩ := hex
   have hg1 := (ho.gq g hg).1
   obtain ⟨v, hv⟩ := Int.eq_ofNat_of_zero_le hg1.1
   have h3 := y7b n (g := wS (d9 b p q) n (h + 1 : Nat) S' h) v (by omega) (fun v _ => x3q _ _ _ _ _ _)
   have h4 : wS (d9 b p q) n (h + 1 : Nat) S' h v = 1099511627776 := by
    have hk : d9 b p q v = true := by
     unfold d9
     rw [z1j q, List.any_eq_true.2 ⟨g, hg, by simpa using hv⟩]
     simp
    unfold wS
    rw [if_pos ⟨by omega, hk⟩, ← hv, if_pos ⟨t1, t2⟩]
   omega
  ·have h3 := x4p (p := q) (t := fun g => S ((h : Int) * n + g.f0) && !S (((h + 1) * n + 1 : Nat) : Int)) (u := fun g => S' (((h + 1 : Nat) : Int) * n + g.f0) && !S' (((h + 1 + 1) * n + 1 : Nat) : Int)) (fun g hg => (ho.gq g hg).2.1) (fun g hg ht => by
    have hg1 := (ho.gq g hg).1
    rw [hS _ (hlt _ _ (by omega) (by omega) hg1.1 hg1.2), Bool.and_eq_true] at ht
    rw [s2]
    have h4 : S' (((h + 1 : Nat) : Int) * n + g.f0) = true := by
     cases c : S' (((h + 1 : Nat) : Int) * n + g.f0) with
     |true => rfl
     |false => exact absurd ⟨g, hg, ht.1, c⟩ hex
    rw [h4]
    rfl)
   omega
 have hA2 : 0 ≤ z0s l.length (mS l (z0v q) n (h + 1 : Nat) S' (h + 1)) + z0s n (wS (d9 b p q) n (h + 1 : Nat) S' (h + 1)) := by
  have a1 := z3a l.length (g := mS l (z0v q) n (h + 1 : Nat) S' (h + 1)) (fun j hj => mS_bd ho S' _ j hj _)
  have a2 := z3a n (g := wS (d9 b p q) n (h + 1 : Nat) S' (h + 1)) (fun v _ => x3q _ _ _ _ _ _)
  omega
 have hMh := hM h (Nat.le_refl _)
 simp only [z0s]
 rw [hP]
 omega
theorem z00.mono_le {m : Nat} (b : Bool) : ∀ {h : Nat}, z00 n h l p q → m ≤ h → z1t n m b l p q ≤ z1t n h b l p q
 |0, _, hm => by
  have : m = 0 := by omega
  subst this
  exact Int.le_refl _
 |h + 1, ho, hm => by
  by_cases e : m = h + 1
  ·subst e
   exact Int.le_refl _
  ·exact Int.le_trans (z00.mono_le b (ho.le (by omega)) (by omega)) (ho.mono b)
end
theorem x2h {n a b c d : Int} (h : (0 ≤ a ∧ a < n) ∧ (0 ≤ b ∧ b < n) ∧ (0 ≤ c ∧ c ≤ 1048576) ∧ 0 ≤ d ∧ d ≤ 1048576) (k : Nat) : netfmt_arc.f (k + 1) n a b c d = some 0 := by
 unfold netfmt_arc.f
 have h1 : ¬ mn (mn (mn a b) c) d < 0 := by unfold mn; omega
 have h2 : ¬ mx a b ≥ n := by unfold mx; omega
 rw [if_neg h1, decide_eq_false h2]
 simp only [netfmt_arc.j0]
 rw [if_neg (by decide), if_neg (by omega), if_neg (by omega)]
theorem y1y {n : Int} {b : Bool} {l l2 : List Arc} (h : z5y n l) : ∀ (d k i : Nat), i + d = l.length → d + 1 < k → netfmt_Check.l0 k l (l.length : Int) (i : Int) n b l2 = some 0
 |0, k, i, hi, hk => by
  obtain ⟨k, rfl⟩ : ∃ m, k = m + 1 := ⟨k - 1, by omega⟩
  rw [netfmt_Check.l0, if_neg (by omega)]
 |d + 1, k, i, hi, hk => by
  obtain ⟨k, rfl⟩ : ∃ m, k = m + 1 + 1 := ⟨k - 2, by omega⟩
  have hl := h.ll
  have e : netfmt_arc.f (k + 1) n (j7 l (i : Int)).f0 (j7 l (i : Int)).f1 (j7 l (i : Int)).f2 (j7 l (i : Int)).f3 = some 0 := x2h (h.arc i (by omega)) k
  rw [netfmt_Check.l0, if_pos (by omega), if_pos (by omega), if_pos (by omega), e, Option.bind_some, if_pos rfl, w1n i (by omega)]
  exact y1y h d (k + 1) (i + 1) (by omega) (by omega)
theorem z9p {n : Int} {b : Bool} {l : List Arc} (h : z5y n l) {k : Nat} (hk : 300 ≤ k) : netfmt_Check.f k n b l = some 0 := by
 have h1 := h.n0
 have h2 := h.n1
 have h3 := h.ll
 unfold netfmt_Check.f netfmt_nodes.f
 rw [if_neg (by omega), if_neg (by omega), Option.bind_some, if_pos rfl, if_neg (by omega)]
 exact y1y h l.length k 0 (by omega) (by omega)
theorem y33 {n : Int} {Dh Dr : DataW Unit} {g : Grp} (h1 : 0 ≤ g.f0 ∧ g.f0 < n) (h2 : 0 ≤ g.f1 ∧ g.f1 ≤ 1048576) (h3 : z1a Dh g.f0 = false) (h4 : z1a Dr g.f0 = false) : z2a n Dh Dr g = 0 := by
 unfold z2a
 rw [if_neg, if_neg (by omega)]
 rintro (h | h | h | h | h)
 ·omega
 ·omega
 ·omega
 ·rw [h3] at h; cases h
 ·rw [h4] at h; cases h
theorem x21 {n : Int} {Dr : DataW Unit} : ∀ (l : List Grp) {D : DataW Unit}, Maps.IsMap D → (∀ g, g ∈ l → (0 ≤ g.f0 ∧ g.f0 < n) ∧ (0 ≤ g.f1 ∧ g.f1 ≤ 1048576) ∧ z1a D g.f0 = false ∧ z1a Dr g.f0 = false) → (l.map fun g => g.f0).Nodup → thF n Dr D l = 0
 |[], _, _, _, _ => rfl
 |g :: l, D, hm, h, hd => by
  have h1 := h g (List.mem_cons_self ..)
  rw [List.map_cons, List.nodup_cons] at hd
  unfold thF
  rw [if_pos (y33 h1.1 h1.2.1 h1.2.2.1 h1.2.2.2)]
  refine x21 l (z27 hm g) (fun x hx => ?_) hd.2
  have h2 := h x (List.mem_cons_of_mem _ hx)
  refine ⟨h2.1, h2.2.1, ?_, h2.2.2.2⟩
  rw [z37 hm, h2.2.2.1, decide_eq_false (fun e => hd.1 (by rw [e]; exact List.mem_map.2 ⟨x, hx, rfl⟩))]
  rfl
theorem x2z {n : Int} {Dh : DataW Unit} : ∀ (l : List Grp) {D : DataW Unit}, Maps.IsMap D → (∀ g, g ∈ l → (0 ≤ g.f0 ∧ g.f0 < n) ∧ (0 ≤ g.f1 ∧ g.f1 ≤ 1048576) ∧ z1a Dh g.f0 = false ∧ z1a D g.f0 = false) → (l.map fun g => g.f0).Nodup → trF n Dh D l = 0
 |[], _, _, _, _ => rfl
 |g :: l, D, hm, h, hd => by
  have h1 := h g (List.mem_cons_self ..)
  rw [List.map_cons, List.nodup_cons] at hd
  unfold trF
  rw [if_pos (y33 h1.1 h1.2.1 h1.2.2.1 h1.2.2.2)]
  refine x2z l (z27 hm g) (fun x hx => ?_) hd.2
  have h2 := h x (List.mem_cons_of_mem _ hx)
  refine ⟨h2.1, h2.2.1, h2.2.2.1, ?_⟩
  rw [z37 hm, h2.2.2.2, decide_eq_false (fun e => hd.1 (by rw [e]; exact List.mem_map.2 ⟨x, hx, rfl⟩))]
  rfl
theorem y6d {n : Int} {p q : List Grp} (h : z4h n p q) : z1m n p q = 0 := by
 unfold z1m
 rw [if_neg (by
  rintro (e | e)
  ·exact h.p0 (List.length_eq_zero_iff.1 e)
  ·exact h.q0 (List.length_eq_zero_iff.1 e)), if_pos (x21 p Maps.isMap_empty (fun g hg => ⟨(h.gp g hg).1, (h.gp g hg).2, rfl, rfl⟩) h.dp)]
 refine x2z q Maps.isMap_empty (fun g hg => ⟨(h.gq g hg).1, (h.gq g hg).2, ?_, rfl⟩) h.dq
 rw [z1j, List.any_eq_false]
 intro x hx e
 exact h.apart g hg x hx (by simpa using e)
structure z3f (n h : Nat) (l : List Arc) (p q : List Grp) : Prop where
 net : z5y n l
 grp : z4h n p q
 hh : h ≤ 1024
 hn : (h + 1) * n ≤ 4000
 hl : (h + 1) * l.length ≤ 10000
theorem z3f.begun {n h : Nat} {l : List Arc} {p q : List Grp} (a : z3f n h l p q) (b : Bool) {k : Nat} (hk : 300 ≤ k) : z3o k n b l p q h = some 0 := by
 have c1 := z9p (b := b) a.net hk
 have h1 := a.hh
 have h2 := a.hn
 have h3 := a.hl
 have h4 := a.net.n0
 have h5 := a.net.n1
 unfold z3o
 rw [c1, Option.bind_some, if_pos rfl, if_pos (y6d a.grp)]
 have c3 : span_Horizon.f (h : Int) = some 0 := by
  unfold span_Horizon.f
  rw [if_neg (by omega), if_neg (by omega)]
 rw [c3, Option.bind_some, if_pos rfl]
 have m1 : ((h : Int) + 1) * (n : Int) = (((h + 1) * n : Nat) : Int) := by rw [Int.natCast_mul]; rfl
 have m2 : ((h : Int) + 1) * (l.length : Int) = (((h + 1) * l.length : Nat) : Int) := by rw [Int.natCast_mul]; rfl
 have w1 : wrap64 ((h : Int) + 1) = (h : Int) + 1 := by unfold wrap64; omega
 have c4 : expand_Fits.f k n b l h = some true := by
  unfold expand_Fits.f
  rw [c1, Option.bind_some, if_pos rfl, c3, Option.bind_some, if_pos rfl, w1, m1, m2]
  clear w1 m1 m2
  generalize (h + 1) * n = x at h2 ⊢
  generalize (h + 1) * l.length = y at h3 ⊢
  have e1 : wrap64 (x : Int) = x := by unfold wrap64; omega
  have e2 : wrap64 (y : Int) = y := by unfold wrap64; omega
  rw [e1, e2, if_pos (by omega), decide_eq_true (by omega)]
 rw [c4, Option.bind_some, if_pos rfl]
theorem z3f.place {n h : Nat} {l : List Arc} {p q : List Grp} (a : z3f n h l p q) : z00 n h l p q := by
 obtain ⟨nn, hh, e1, e2, ho, -⟩ := z5a (a.begun true (Nat.le_refl 300))
 have e1' : n = nn := by omega
 have e2' : h = hh := by omega
 subst e1' e2'
 exact ho
theorem x29 {n : Nat} {p : List Grp} (hn : n ≤ 50) (h : ∀ g, g ∈ p → (0 ≤ g.f0 ∧ g.f0 < n) ∧ 0 ≤ g.f1 ∧ g.f1 ≤ 1048576) (hl : p.length ≤ 1000) : okG p = true := by
 unfold okG
 rw [Bool.and_eq_true, decide_eq_true_eq]
 refine ⟨List.all_eq_true.2 (fun g hg => ?_), by omega⟩
 have := h g hg
 rw [Bool.and_eq_true]
 exact ⟨z0o this.1.1 (by omega), z0o this.2.1 (by omega)⟩
theorem z3f.okp {n h : Nat} {l : List Arc} {p q : List Grp} (a : z3f n h l p q) : okG p = true ∧ okG q = true :=
 ⟨x29 (by have := a.net.n1; omega) a.grp.gp a.place.lp, x29 (by have := a.net.n1; omega) a.grp.gq a.place.lq⟩
theorem z3f.most {n h : Nat} {l : List Arc} {p q : List Grp} (a : z3f n h l p q) (b : Bool) {k : Nat} (hk : 300 ≤ k) : evac_Most.f k n b l p q h = some (z1t n h b l p q, 0) := by
 unfold evac_Most.f
 rw [if_pos a.okp, a.begun b hk, Option.bind_some, if_pos rfl, Int.toNat_natCast, Int.toNat_natCast]
theorem z3f.least {n h : Nat} {l : List Arc} {p q : List Grp} (a : z3f n h l p q) (b : Bool) {k : Nat} (hk : 300 ≤ k) : evac_Least.f k n b l p q h = some (if (z1t n h b l p q == z02 p) = true then (bsr (fun k => z1t n k b l p q == z02 p) 0 h : Int) else 0, z1t n h b l p q == z02 p, 0) := by
 unfold evac_Least.f
 rw [if_pos a.okp, a.begun b hk, Option.bind_some, if_pos rfl, Int.toNat_natCast, Int.toNat_natCast]
theorem z3f.le {n h m : Nat} {l : List Arc} {p q : List Grp} (a : z3f n h l p q) (hm : m ≤ h) : z3f n m l p q :=
 ⟨a.net, a.grp, by have := a.hh; omega, Nat.le_trans (Nat.mul_le_mul (by omega) (Nat.le_refl _)) a.hn, Nat.le_trans (Nat.mul_le_mul (by omega) (Nat.le_refl _)) a.hl⟩
set_option linter.unusedVariables false
def U8 (x : Int) : Prop := 0 ≤ x ∧ x ≤ 255
structure x2s (m : Nat) (n : Int) (l : List Arc) : Prop where
 n2 : 2 ≤ n
 n5 : n ≤ 5
 ll : l.length ≤ m
 arc : ∀ x, x ∈ l → (0 ≤ x.f0 ∧ x.f0 < n) ∧ (0 ≤ x.f1 ∧ x.f1 < n) ∧ (0 ≤ x.f2 ∧ x.f2 ≤ 5) ∧ 0 ≤ x.f3 ∧ x.f3 ≤ 3
structure GI (n : Int) (p q : List Grp) : Prop where
 p0 : p ≠ []
 q0 : q ≠ []
 gp : ∀ g, g ∈ p → (0 ≤ g.f0 ∧ g.f0 < n) ∧ 0 ≤ g.f1 ∧ g.f1 ≤ 8
 gq : ∀ g, g ∈ q → (0 ≤ g.f0 ∧ g.f0 < n) ∧ 0 ≤ g.f1 ∧ g.f1 ≤ 8
 dp : (p.map fun g => g.f0).Nodup
 dq : (q.map fun g => g.f0).Nodup
 apart : ∀ g, g ∈ q → ∀ x, x ∈ p → x.f0 ≠ g.f0
theorem GI.ok {n : Int} {p q : List Grp} (h : GI n p q) : z4h n p q :=
 ⟨h.p0, h.q0, fun g hg => ⟨(h.gp g hg).1, (h.gp g hg).2.1, by have := (h.gp g hg).2.2; omega⟩, fun g hg => ⟨(h.gq g hg).1, (h.gq g hg).2.1, by have := (h.gq g hg).2.2; omega⟩, h.dp, h.dq, h.apart⟩
theorem GI.swap {n : Int} {p q : List Grp} (h : GI n p q) : GI n q p := ⟨h.q0, h.p0, h.gq, h.gp, h.dq, h.dp, fun g hg x hx e => h.apart x hx g hg e.symm⟩
theorem GI.snoc {n : Int} {p q : List Grp} (h : GI n p q) {g : Grp} (hg : (0 ≤ g.f0 ∧ g.f0 < n) ∧ 0 ≤ g.f1 ∧ g.f1 ≤ 8) (h1 : ∀ x, x ∈ p → x.f0 ≠ g.f0) (h2 : ∀ x, x ∈ q → x.f0 ≠ g.f0) : GI n (p ++ [g]) q where
 p0 := by simp
 q0 := h.q0
 gp x hx := by
  rcases List.mem_append.1 hx with hx | hx
  ·exact h.gp x hx
  ·obtain rfl := List.mem_singleton.1 hx
   exact hg
 gq := h.gq
 dp := by
  rw [List.map_append, List.nodup_append]
  refine ⟨h.dp, by simp, fun a ha c hc => ?_⟩
  obtain ⟨x, hx, rfl⟩ := List.mem_map.1 ha
  have : c = g.f0 := by simpa using hc
  rw [this]
  exact h1 x hx
 dq := h.dq
 apart x hx y hy := by
  rcases List.mem_append.1 hy with hy | hy
  ·exact h.apart x hx y hy
  ·obtain rfl := List.mem_singleton.1 hy
   exact fun e => h2 x hx e.symm
theorem GI.amend {n : Int} {g : Grp} {p q : List Grp} (h : GI n (g :: p) q) {v : Int} (hv : 0 ≤ v ∧ v ≤ 8) : GI n (⟨g.f0, v⟩ :: p) q where
 p0 := by simp
 q0 := h.q0
 gp x hx := by
  rcases List.mem_cons.1 hx with rfl | hx
  ·exact ⟨(h.gp g (List.mem_cons_self ..)).1, hv⟩
  ·exact h.gp x (List.mem_cons_of_mem _ hx)
 gq := h.gq
 dp := h.dp
 dq := h.dq
 apart x hx y hy := by
  rcases List.mem_cons.1 hy with rfl | hy
  ·exact h.apart x hx g (List.mem_cons_self ..)
  ·exact h.apart x hx y (List.mem_cons_of_mem _ hy)
theorem GI.amend0 {n : Int} {p q : List Grp} (h : GI n p q) {v : Int} (hv : 0 ≤ v ∧ v ≤ 8) : GI n (p.set (0 : Int).toNat ⟨(z0q p 0).f0, v⟩) q := by
 cases p with
 |nil => exact absurd rfl h.p0
 |cons g p => exact h.amend hv
theorem x3k {m n h : Nat} {l : List Arc} {p q : List Grp} (hm : m ≤ 40) (hN : x2s m n l) (hg : GI n p q) (hh : h ≤ 16) : z3f n h l p q where
 net := ⟨by have := hN.n2; omega, by have := hN.n5; omega, by have := hN.ll; omega, fun j hj => by
  have := hN.arc _ (z3d hj)
  omega⟩
 grp := hg.ok
 hh := by omega
 hn := Nat.le_trans (Nat.mul_le_mul (show h + 1 ≤ 17 by omega) (show n ≤ 5 by have := hN.n5; omega)) (by decide)
 hl := Nat.le_trans (Nat.mul_le_mul (show h + 1 ≤ 17 by omega) (show l.length ≤ 40 by have := hN.ll; omega)) (by decide)
theorem z8u {holds : Nat → Bool} {top : Nat} (mono : ∀ a c, a ≤ c → c ≤ top → holds a = true → holds c = true) : ∀ (d lo hi : Nat), hi - lo ≤ d → lo ≤ hi → hi ≤ top → holds hi = true → (∀ k, k < lo → holds k = false) →
  holds (bsr holds lo hi) = true ∧ (∀ k, k < bsr holds lo hi → holds k = false) ∧ bsr holds lo hi ≤ hi
 |0, lo, hi, hd, hl, ht, hh, h0 => by
  rw [y3n (by omega)]
  have : lo = hi := by omega
  subst this
  exact ⟨hh, h0, Nat.le_refl _⟩
 |d + 1, lo, hi, hd, hl, ht, hh, h0 => by
  by_cases c : lo < hi
  ·cases cm : holds ((lo + hi) / 2) with
   |true =>
    rw [y9m c cm]
    have := z8u mono d lo ((lo + hi) / 2) (by omega) (by omega) (by omega) cm h0
    exact ⟨this.1, this.2.1, by omega⟩
   |false =>
    rw [x3i c cm]
    refine z8u mono d ((lo + hi) / 2 + 1) hi (by omega) (by omega) ht hh (fun k hk => ?_)
    cases ck : holds k with
    |false => rfl
    |true =>
     rw [mono k ((lo + hi) / 2) (by omega) (by omega) ck] at cm
     cases cm
  ·rw [y3n c]
   have : lo = hi := by omega
   subst this
   exact ⟨hh, h0, Nat.le_refl _⟩
theorem z3f.first {n h : Nat} {l : List Arc} {p q : List Grp} (a : z3f n h l p q) (b : Bool) (he : z1t n h b l p q = z02 p) :
  z1t n (bsr (fun k => z1t n k b l p q == z02 p) 0 h) b l p q = z02 p ∧ (∀ k, k < bsr (fun k => z1t n k b l p q == z02 p) 0 h → z1t n k b l p q < z02 p) ∧ bsr (fun k => z1t n k b l p q == z02 p) 0 h ≤ h := by
 have hp := a.place
 obtain ⟨h1, h2, h3⟩ := z8u (holds := fun k => z1t n k b l p q == z02 p) (top := h) (fun x c hxc hc e => by
  have e : z1t n x b l p q = z02 p := by simpa using e
  have m1 := z00.mono_le b (hp.le hc) hxc
  have m2 := (hp.le hc).le_total b
  have : z1t n c b l p q = z02 p := by omega
  simpa using this) h 0 h (by omega) (by omega) (Nat.le_refl _) (by simpa using he) (fun k hk => by omega)
 refine ⟨by simpa using h1, fun k hk => ?_, h3⟩
 have m1 := (hp.le (show k ≤ h by omega)).le_total b
 have m2 : ¬ z1t n k b l p q = z02 p := by simpa using h2 k hk
 omega
abbrev y93 := x2m
def U8s (l : List y93) : Prop := ∀ x, x ∈ l → U8 x.f0 ∧ U8 x.f1 ∧ U8 x.f2 ∧ U8 x.f3
theorem x0l {l : List y93} {i : Nat} (h : i < l.length) : z3r l (i : Int) ∈ l := by
 unfold z3r
 rw [Int.toNat_natCast, List.getD_eq_getElem?_getD, List.getElem?_eq_getElem h]
 exact List.getElem_mem h
def U8l (l : List Int) : Prop := ∀ x, x ∈ l → U8 x
theorem x5r {l : List Int} (h : U8l l) {i : Nat} (hi : i < l.length) : U8 (rd l (i : Int)) := by
 refine h _ ?_
 unfold rd
 rw [Int.toNat_natCast, List.getD_eq_getElem?_getD, List.getElem?_eq_getElem hi]
 exact List.getElem_mem hi
end Go.Proofs.YtcgdloldkcmhnaaGreat.H
end
section
namespace Go.Proofs.YtcgdloldkcmhnaaGreat.H
open Go Go.ChangeShapes Go.WideShapes Go.ChangeAt Go.RowKit Go.Deep Go.Joins Go.Proofs.YtcgdloldkcmhnaaGreat.PrintC Go.Proofs.YtcgdloldkcmhnaaGreat.PrintE Go.Proofs.YtcgdloldkcmhnaaGreatW.PrintWords Go.Proofs.YtcgdloldkcmhnaaGreatW.PrintLast
theorem ownK : ownKnob Tryz.prog.godebug = none := by kernel_rfl
theorem x08 : laidOutB Tryz.prog = true := by kernel_rfl
noncomputable def z8g (os : Os) : World := World.holding Tryz.prog os ⟨#[], #[], []⟩
section
variable {Hh : Type} {enc : TypeId × Value → Hh} {P : Program} {W : World} {base : Nat} {spare : Nat → Bool} {held : Bool}
theorem z2e {t : TypeId} {fs : Array Field} {n : Nat} {cs : List Value} {y : DataW Hh × List MemPlace} (hu : P.underlying t = some (.struct fs)) (h : DataW.trod enc P W base spare held n t cs = some y) (i : Nat) (f : Field) (hf : fs[i]? = some f) {k : Nat} (hk : P.cellsOf f.type = k) {cs' : List Value} (hc : (cs.drop f.offset).take k = cs') :
  ∃ m z, DataW.trod enc P W base spare held m f.type cs' = some z := by
 obtain ⟨xs, m, _, _, _, hl, hg⟩ := DataW.trod_struct hu h
 have h1 := hg i f hf
 have hi : i < xs.length := by rw [hl]; exact (Array.getElem?_eq_some_iff.1 hf).1
 rw [List.getElem?_eq_getElem hi, hk, hc] at h1
 exact ⟨m, _, h1⟩
theorem x4h {k : IntKind} {x : Addr} {zs : List Int} {len : Nat} (hl : len ≤ zs.length) (hm : len ≤ maxLen) (hc : ∀ i, i < zs.length → W.cell? (x.add i) = some (.int k (zs.getD i 0))) : Kd.C (Kd.int k) W (some x) (zs.take len).length (zs.take len) := by
 refine ⟨rfl, by rw [List.length_take]; unfold maxLen at hm; omega, fun hn => ⟨x, rfl, fun j p hj => ⟨[.int k p], rfl, rfl, fun i u hu => ?_⟩⟩⟩
 have hj' := (List.getElem?_eq_some_iff.1 hj).1
 rw [List.length_take] at hj'
 match i, hu with
 |0, hu =>
  have hu' : Value.int k p = u := by simpa using hu
  rw [show j * (Kd.int k).sz + 0 = j from Nat.mul_one j]
  rw [hc j (by omega), ← hu']
  have : zs.getD j 0 = p := by
   rw [List.getElem?_take_of_lt (by omega)] at hj
   simp [List.getD, hj]
  rw [this]
 |i + 1, hu => simp at hu
theorem y3a {α : Type} (d : Kd α) : Kd.C d W none ([] : List α).length [] := ⟨rfl, by simp, fun h => by simp at h⟩
theorem z5t {t e : TypeId} {k : IntKind} {v : Value} {n : Nat} {y : DataW Hh × List MemPlace} (hu : P.underlying t = some (.slice e)) (he : P.underlying e = some (.int k)) (hc : P.cellsOf e = 1)
  (h : DataW.trod enc P W base spare held n t [v] = some y) :
  ∃ (A : Option Addr) (c : Nat) (l : List Int), v = .slice A l.length c ∧ l.length ≤ c ∧ Kd.C (Kd.int k) W A l.length l ∧ ∀ n ∈ l, (Lit.int k n).wf = true := by
 rcases open_ints hu he hc h with ⟨hcs, hx⟩ | ⟨x, l, c, zs, hcs, _, hl, hm, hz, hx, hcell, hwz⟩
 ·simp only [List.cons.injEq, and_true] at hcs
  subst hcs
  exact ⟨none, 0, [], rfl, Nat.zero_le _, y3a _, by simp⟩
 ·simp only [List.cons.injEq, and_true] at hcs
  subst hcs
  have hlz : l ≤ zs.length := by
   rw [hz]
   split
   ·exact hl
   ·exact Nat.le_refl _
  refine ⟨some x, c, zs.take l, by rw [List.length_take, Nat.min_eq_left hlz], by rw [List.length_take]; omega, x4h hlz (Nat.le_trans hl hm) hcell, fun n hn => hwz n (List.mem_of_mem_take hn)⟩
theorem x3p {n : Int} (h : (Lit.int .u8 n).wf = true) : U8 n := by
 simp only [Lit.wf, Bool.and_eq_true, decide_eq_true_eq] at h
 exact h
end
section
variable {Hh : Type} {enc : TypeId × Value → Hh} {W : World} {base : Nat} {spare : Nat → Bool} {held : Bool}
theorem z4t {n : Nat} {v : Value} {y : DataW Hh × List MemPlace} (h : DataW.trod enc Tryz.prog W base spare held n 5 [v] = some y) : ∃ k, v = .int .u8 k ∧ U8 k := by
 obtain ⟨k, hc, _, hw⟩ := DataW.trod_int Tryz.underlying5 h
 simp only [List.cons.injEq, and_true] at hc
 exact ⟨k, hc, x3p hw⟩
theorem x0v {n : Nat} {v : Value} {y : DataW Hh × List MemPlace} (h : DataW.trod enc Tryz.prog W base spare held n 4 [v] = some y) : ∃ b, v = .bool b := by
 obtain ⟨b, hc, _⟩ := DataW.trod_bool Tryz.underlying4 h
 simp only [List.cons.injEq, and_true] at hc
 exact ⟨b, hc⟩
theorem z42 : Tryz.prog.cellsOf 5 = 1 := by kernel_rfl
theorem y6m : Tryz.prog.cellsOf 4 = 1 := by kernel_rfl
theorem y11 : Tryz.prog.cellsOf 112 = 4 := by kernel_rfl
theorem z9r : Tryz.prog.cellsOf 107 = 3 := by kernel_rfl
theorem y6n : Tryz.prog.cellsOf 22 = 1 := by kernel_rfl
theorem y3o : Tryz.prog.cellsOf 26 = 1 := by kernel_rfl
theorem y0s : Tryz.prog.cellsOf 25 = 1 := by kernel_rfl
theorem y44 : Tryz.prog.cellsOf 27 = 1 := by kernel_rfl
theorem y2i : Tryz.prog.cellsOf 24 = 6 := by kernel_rfl
theorem y6k : Tryz.prog.cellsOf 29 = 10 := by kernel_rfl
abbrev y18 := x2o
theorem y51 {n : Nat} {cs : List Value} {y : DataW Hh × List MemPlace} (h : DataW.trod enc Tryz.prog W base spare held n 112 cs = some y) :
  ∃ a : y93, cs = [.int .u8 a.f0, .int .u8 a.f1, .int .u8 a.f2, .int .u8 a.f3] ∧ (U8 a.f0 ∧ U8 a.f1 ∧ U8 a.f2 ∧ U8 a.f3) := by
 obtain ⟨y0, y1, y2, y3, m, _, hl, h0, h1, h2, h3⟩ := trod_struct4 Tryz.underlying112 h
 rw [y11] at hl
 match cs, hl with
 |[c0, c1, c2, c3], _ =>
  simp only [z42] at h0 h1 h2 h3
  obtain ⟨k0, rfl, r0⟩ := z4t h0
  obtain ⟨k1, rfl, r1⟩ := z4t h1
  obtain ⟨k2, rfl, r2⟩ := z4t h2
  obtain ⟨k3, rfl, r3⟩ := z4t h3
  exact ⟨⟨k0, k1, k2, k3⟩, rfl, r0, r1, r2, r3⟩
theorem y25 {n : Nat} {cs : List Value} {y : DataW Hh × List MemPlace} (h : DataW.trod enc Tryz.prog W base spare held n 107 cs = some y) :
  ∃ a : y18, cs = [.int .u8 a.f0, .int .u8 a.f1, .int .u8 a.f2] ∧ (U8 a.f0 ∧ U8 a.f1 ∧ U8 a.f2) := by
 obtain ⟨y0, y1, y2, m, _, hl, h0, h1, h2⟩ := trod_struct3 Tryz.underlying107 h
 rw [z9r] at hl
 match cs, hl with
 |[c0, c1, c2], _ =>
  simp only [z42] at h0 h1 h2
  obtain ⟨k0, rfl, r0⟩ := z4t h0
  obtain ⟨k1, rfl, r1⟩ := z4t h1
  obtain ⟨k2, rfl, r2⟩ := z4t h2
  exact ⟨⟨k0, k1, k2⟩, rfl, r0, r1, r2⟩
theorem y24 {n : Nat} {v : Value} {y : DataW Hh × List MemPlace} (h : DataW.trod enc Tryz.prog W base spare held n 22 [v] = some y) :
  ∃ (A : Option Addr) (c : Nat) (l : List y93), v = .slice A l.length c ∧ l.length ≤ c ∧ Kd.C x5i W A l.length l ∧ U8s l := by
 rcases open_slice Tryz.underlying22 h with ⟨hcs, _⟩ | ⟨a, len, cap, m, n', D, Pl, hcs, hb, hl, hm, hmm, hx, hi⟩
 ·simp only [List.cons.injEq, and_true] at hcs
  subst hcs
  exact ⟨none, 0, [], rfl, Nat.le_refl _, y3a _, fun x hx => by cases hx⟩
 ·simp only [List.cons.injEq, and_true] at hcs
  subst hcs
  have hlm : len ≤ m := by
   rw [hmm]
   split
   ·exact hl
   ·exact Nat.le_refl _
  have hq : ∀ i, ∃ s : y93, i < len → (U8 s.f0 ∧ U8 s.f1 ∧ U8 s.f2 ∧ U8 s.f3) ∧ ∀ j u, [Value.int .u8 s.f0, .int .u8 s.f1, .int .u8 s.f2, .int .u8 s.f3][j]? = some u → W.cell? (a.add (i * 4 + j)) = some u := by
   intro i
   by_cases hlt : i < len
   ·obtain ⟨cs', hc, ht⟩ := hi i (by omega)
    obtain ⟨s, rfl, hr⟩ := y51 ht
    rw [y11] at hc
    obtain ⟨_, _, hat⟩ := World.cells?_some hc
    refine ⟨s, fun _ => ⟨hr, fun j u hu => ?_⟩⟩
    have hj : j < 4 := (List.getElem?_eq_some_iff.1 hu).1
    have h4 := hat j hj
    rw [← Go.Deep.add_add, h4, hu]
   ·exact ⟨⟨0, 0, 0, 0⟩, fun h => absurd h hlt⟩
  obtain ⟨g, hg⟩ := Classical.axiomOfChoice hq
  have hml : len ≤ 9223372036854775807 := by unfold maxLen at hm; omega
  refine ⟨some a, cap, (List.range len).map g, by simp, by simpa using hl, ⟨by simp, by simpa using hml, fun _ => ⟨a, rfl, fun j p hj => ?_⟩⟩, ?_⟩
  ·have hj1 : j < len := by have := (List.getElem?_eq_some_iff.1 hj).1; simpa using this
   have hj2 : g j = p := by
    have := hj
    simp [hj1] at this
    exact this
   subst hj2
   exact ⟨_, rfl, x4i W (g j), fun i u hu => (hg j hj1).2 i u hu⟩
  ·intro s hs
   obtain ⟨i, hi2, rfl⟩ := List.mem_map.1 hs
   exact (hg i (List.mem_range.1 hi2)).1
theorem y08 {n : Nat} {v : Value} {y : DataW Hh × List MemPlace} (h : DataW.trod enc Tryz.prog W base spare held n 26 [v] = some y) :
  ∃ (A : Option Addr) (c : Nat) (l : List y18), v = .slice A l.length c ∧ l.length ≤ c ∧ Kd.C x51 W A l.length l ∧ ∀ s, s ∈ l → U8 s.f0 ∧ U8 s.f1 ∧ U8 s.f2 := by
 rcases open_slice Tryz.underlying26 h with ⟨hcs, _⟩ | ⟨a, len, cap, m, n', D, Pl, hcs, hb, hl, hm, hmm, hx, hi⟩
 ·simp only [List.cons.injEq, and_true] at hcs
  subst hcs
  exact ⟨none, 0, [], rfl, Nat.le_refl _, y3a _, fun x hx => by cases hx⟩
 ·simp only [List.cons.injEq, and_true] at hcs
  subst hcs
  have hlm : len ≤ m := by
   rw [hmm]
   split
   ·exact hl
   ·exact Nat.le_refl _
  have hq : ∀ i, ∃ s : y18, i < len → (U8 s.f0 ∧ U8 s.f1 ∧ U8 s.f2) ∧ ∀ j u, [Value.int .u8 s.f0, .int .u8 s.f1, .int .u8 s.f2][j]? = some u → W.cell? (a.add (i * 3 + j)) = some u := by
   intro i
   by_cases hlt : i < len
   ·obtain ⟨cs', hc, ht⟩ := hi i (by omega)
    obtain ⟨s, rfl, hr⟩ := y25 ht
    rw [z9r] at hc
    obtain ⟨_, _, hat⟩ := World.cells?_some hc
    refine ⟨s, fun _ => ⟨hr, fun j u hu => ?_⟩⟩
    have hj : j < 3 := (List.getElem?_eq_some_iff.1 hu).1
    have h4 := hat j hj
    rw [← Go.Deep.add_add, h4, hu]
   ·exact ⟨⟨0, 0, 0⟩, fun h => absurd h hlt⟩
  obtain ⟨g, hg⟩ := Classical.axiomOfChoice hq
  have hml : len ≤ 9223372036854775807 := by unfold maxLen at hm; omega
  refine ⟨some a, cap, (List.range len).map g, by simp, by simpa using hl, ⟨by simp, by simpa using hml, fun _ => ⟨a, rfl, fun j p hj => ?_⟩⟩, ?_⟩
  ·have hj1 : j < len := by have := (List.getElem?_eq_some_iff.1 hj).1; simpa using this
   have hj2 : g j = p := by
    have := hj
    simp [hj1] at this
    exact this
   subst hj2
   exact ⟨_, rfl, x4j W (g j), fun i u hu => (hg j hj1).2 i u hu⟩
  ·intro s hs
   obtain ⟨i, hi2, rfl⟩ := List.mem_map.1 hs
   exact (hg i (List.mem_range.1 hi2)).1
structure z69 (W : World) (v : Value) (a0 : Int) (a1 : Bool) (l2 : List y93) (a3 a4 a5 : Int) (l6 l7 : List Int) (l8 : List y18) (l9 : List Int) (A2 : Option Addr) (c2 : Nat) (A6 : Option Addr) (c6 : Nat) (A7 : Option Addr) (c7 : Nat) (A8 : Option Addr) (c8 : Nat) (A9 : Option Addr) (c9 : Nat) : Prop where
 is : v = .agg #[.int .u8 a0, .bool a1, .slice A2 l2.length c2, .int .u8 a3, .int .u8 a4, .int .u8 a5, .slice A6 l6.length c6, .slice A7 l7.length c7, .slice A8 l8.length c8, .slice A9 l9.length c9]
 u0 : U8 a0
 u3 : U8 a3
 u4 : U8 a4
 u5 : U8 a5
 r2 : Kd.C x5i W A2 l2.length l2
 r6 : Kd.C (Kd.int .u8) W A6 l6.length l6
 r7 : Kd.C (Kd.int .u8) W A7 l7.length l7
 r8 : Kd.C x51 W A8 l8.length l8
 r9 : Kd.C (Kd.int .u16) W A9 l9.length l9
 h2 : l2.length ≤ c2
 h6 : l6.length ≤ c6
 h7 : l7.length ≤ c7
 h8 : l8.length ≤ c8
 h9 : l9.length ≤ c9
 u2 : U8s l2
 u6 : U8l l6
 u7 : U8l l7
 u8 : ∀ s, s ∈ l8 → U8 s.f0 ∧ U8 s.f1 ∧ U8 s.f2
 u9 : ∀ n ∈ l9, (Lit.int .u16 n).wf = true
theorem y23 {r : Reach} {b0 : Nat} {v : Value} {d : DataW Hh} {p : List MemPlace} (hv : Value.okWide Tryz.prog W r b0 29 v) (h : DataW.Trod enc Tryz.prog W base spare held 29 v d p) :
  ∃ a0 a1 l2 a3 a4 a5 l6 l7 l8 l9 A2 c2 A6 c6 A7 c7 A8 c8 A9 c9, z69 W v a0 a1 l2 a3 a4 a5 l6 l7 l8 l9 A2 c2 A6 c6 A7 c7 A8 c8 A9 c9 := by
 obtain ⟨cs, rfl, hsz⟩ := okWide_struct Tryz.underlying29 hv
 obtain ⟨l⟩ := cs
 match l, hsz.trans y6k with
 |[x0, x1, x2, x3, x4, x5, x6, x7, x8, x9], _ =>
  obtain ⟨fuel, hf⟩ := h
  obtain ⟨m, z, hX⟩ := z2e Tryz.underlying29 hf 0 _ rfl y2i (cs' := [x0, x1, x2, x3, x4, x5]) rfl
  obtain ⟨m6, z6, f6⟩ := z2e Tryz.underlying29 hf 1 _ rfl y0s (cs' := [x6]) rfl
  obtain ⟨m7, z7, f7⟩ := z2e Tryz.underlying29 hf 2 _ rfl y0s (cs' := [x7]) rfl
  obtain ⟨m8, z8, f8⟩ := z2e Tryz.underlying29 hf 3 _ rfl y3o (cs' := [x8]) rfl
  obtain ⟨m9, z9, f9⟩ := z2e Tryz.underlying29 hf 4 _ rfl y44 (cs' := [x9]) rfl
  obtain ⟨_, _, f0⟩ := z2e Tryz.underlying24 hX 0 _ rfl z42 (cs' := [x0]) rfl
  obtain ⟨_, _, f1⟩ := z2e Tryz.underlying24 hX 1 _ rfl y6m (cs' := [x1]) rfl
  obtain ⟨_, _, f2⟩ := z2e Tryz.underlying24 hX 2 _ rfl y6n (cs' := [x2]) rfl
  obtain ⟨_, _, f3⟩ := z2e Tryz.underlying24 hX 3 _ rfl z42 (cs' := [x3]) rfl
  obtain ⟨_, _, f4⟩ := z2e Tryz.underlying24 hX 4 _ rfl z42 (cs' := [x4]) rfl
  obtain ⟨_, _, f5⟩ := z2e Tryz.underlying24 hX 5 _ rfl z42 (cs' := [x5]) rfl
  obtain ⟨a0, rfl, u0⟩ := z4t f0
  obtain ⟨a1, rfl⟩ := x0v f1
  obtain ⟨A2, c2, l2, rfl, h2, r2, u2⟩ := y24 f2
  obtain ⟨a3, rfl, u3⟩ := z4t f3
  obtain ⟨a4, rfl, u4⟩ := z4t f4
  obtain ⟨a5, rfl, u5⟩ := z4t f5
  obtain ⟨A6, c6, l6, rfl, h6, r6, u6⟩ := z5t Tryz.underlying25 Tryz.underlying5 (by kernel_rfl) f6
  obtain ⟨A7, c7, l7, rfl, h7, r7, u7⟩ := z5t Tryz.underlying25 Tryz.underlying5 (by kernel_rfl) f7
  obtain ⟨A8, c8, l8, rfl, h8, r8, u8⟩ := y08 f8
  obtain ⟨A9, c9, l9, rfl, h9, r9, u9⟩ := z5t Tryz.underlying27 Tryz.underlying108 (by kernel_rfl) f9
  exact ⟨a0, a1, l2, a3, a4, a5, l6, l7, l8, l9, A2, c2, A6, c6, A7, c7, A8, c8, A9, c9, rfl, u0, u3, u4, u5, r2, r6, r7, r8, r9, h2, h6, h7, h8, h9, u2, fun x hx => x3p (u6 x hx), fun x hx => x3p (u7 x hx), u8, u9⟩
end
end Go.Proofs.YtcgdloldkcmhnaaGreat.H
end
section
namespace Go.Proofs.YtcgdloldkcmhnaaGreat.H
open Go Go.RowKit Go.Proofs.YtcgdloldkcmhnaaGreat.PrintC Go.Proofs.YtcgdloldkcmhnaaGreatW.PrintWords Go.Proofs.YtcgdloldkcmhnaaGreatW.PrintLast Go.Proofs.YtcgdloldkcmhnaaGreatW.PrintMore
set_option linter.unusedVariables false
set_option linter.unusedSimpArgs false
theorem x3d (x : Int) : Go.bits .and .i64 x 4294967295 = x % 4294967296 := by
 have e : (BitVec.ofInt 64 4294967295).toNat = 2 ^ 32 - 1 := by decide
 show IntKind.i64.wrap (((BitVec.ofInt 64 x) &&& (BitVec.ofInt 64 4294967295)).toNat : Int) = _
 rw [BitVec.toNat_and, e, Nat.and_two_pow_sub_one_eq_mod, BitVec.toNat_ofInt]
 have h1 : ((x % (2 ^ 64 : Nat)).toNat % 2 ^ 32 : Nat) < 2 ^ 32 := Nat.mod_lt _ (by decide)
 have h2 : (((x % ((2 ^ 64 : Nat) : Int)).toNat % 2 ^ 32 : Nat) : Int) = x % 4294967296 := by
  rw [Int.natCast_emod, Int.toNat_of_nonneg (Int.emod_nonneg _ (by decide))]
  show x % 18446744073709551616 % 4294967296 = x % 4294967296
  omega
 rw [h2]
 exact IntWalk.i64_in _ (by omega)
def z3q : List Int → Int
 |[] => 0
 |x :: l => x + z3q l
theorem z7v : ∀ a b : List Int, z3q (a ++ b) = z3q a + z3q b
 |[], b => by rw [List.nil_append, z3q]; omega
 |x :: a, b => by rw [List.cons_append, z3q, z3q, z7v a b]; omega
theorem z4n (a : List Int) (x : Int) : z3q (a ++ [x]) = z3q a + x := by rw [z7v, z3q, z3q]; omega
def x5l (l : List Int) : Prop := ∀ x, x ∈ l → -9223372036854775808 ≤ x ∧ x ≤ 9223372036854775807
def z8m (l : List Int) : Int := z3q (l.map (· / 4294967296))
def z8l (l : List Int) : Int := z3q (l.map (· % 4294967296))
theorem y80 (a : List Int) (x : Int) : z8m (a ++ [x]) = z8m a + x / 4294967296 ∧ z8l (a ++ [x]) = z8l a + x % 4294967296 := by
 unfold z8m z8l
 rw [List.map_append, List.map_append]
 exact ⟨z4n _ _, z4n _ _⟩
theorem y4q : ∀ l : List Int, z8m l * 4294967296 + z8l l = z3q l
 |[] => rfl
 |x :: l => by
  have := y4q l
  unfold z8m z8l at this ⊢
  rw [List.map_cons, List.map_cons, z3q, z3q, z3q]
  omega
theorem y81 : ∀ l : List Int, x5l l → -(l.length * 2147483648 : Int) ≤ z8m l ∧ z8m l ≤ l.length * 2147483648 ∧ 0 ≤ z8l l ∧ z8l l ≤ l.length * 4294967296
 |[], _ => by decide
 |x :: l, h => by
  have h1 := y81 l (fun y hy => h y (List.mem_cons_of_mem _ hy))
  have h2 := h x (List.mem_cons_self ..)
  unfold z8m z8l at h1 ⊢
  rw [List.map_cons, List.map_cons, z3q, z3q, List.length_cons]
  omega
def z7b (x : Int) : Bool := decide (-9223372036854775808 ≤ x ∧ x ≤ 9223372036854775807)
theorem y0v {l : List Int} {i : Nat} (h : i < l.length) : l.take (i + 1) = l.take i ++ [rd l (i : Int)] := by
 have e : rd l (i : Int) = l[i] := by
  unfold rd
  rw [Int.toNat_natCast, List.getD_eq_getElem?_getD, List.getElem?_eq_getElem h]
  rfl
 rw [List.take_add_one, List.getElem?_eq_getElem h, e]
 rfl
theorem x25 {l : List Int} (h : x5l l) {i : Nat} (hi : i < l.length) : -9223372036854775808 ≤ rd l (i : Int) ∧ rd l (i : Int) ≤ 9223372036854775807 := by
 unfold rd
 rw [Int.toNat_natCast, List.getD_eq_getElem?_getD, List.getElem?_eq_getElem hi]
 exact h _ (List.getElem_mem hi)
def z4f (l : List Int) (w : World) (e : Ending) (w' : World) : Prop := e = .returned (.tuple #[.int .i64 (if z7b (z3q l) = true then z3q l else 0), .bool (z7b (z3q l))]) ∧ Below w.heap.size w w'
theorem z73 (A : Option Addr) (c : Nat) (l : List Int) (w : World) (hr : Kd.C (Kd.int .i64) w A l.length l) (hi : x5l l) (hl : l.length ≤ 1000000) :
  Calls Tryz.prog 31 #[.slice A l.length c] w (z4f l w) := by
 have HR := zh hr
 have HI := zh hi
 clear hr hi
 go_enter Tryz.func31, Tryz.ntmps31
 go_wp2
 go_loopg [4, 5, 6] (l.length + 1) (fun k hv lv iv W => ∃ i : Nat, i ≤ l.length ∧ hv = .int .i64 (z8m (l.take i)) ∧ lv = .int .i64 (z8l (l.take i)) ∧ iv = .int .i64 i ∧ k = l.length + 1 - i ∧ Hid (Below w.heap.size w W))
 case atStart => exact ⟨0, Nat.zero_le _, rfl, rfl, rfl, rfl, zh (Below.refl _ _)⟩
 case round =>
  obtain ⟨i, hi, rfl, rfl, rfl, rfl, HB⟩ := hrel
  have hbd := y81 (l.take i) (fun x hx => HI.out x (List.mem_of_mem_take hx))
  rw [List.length_take, Nat.min_eq_left hi] at hbd
  by_cases hlt : i < l.length
  ·have i0 : (0 : Int) ≤ (i : Int) := by omega
   have i1 : (i : Int) < (l.length : Int) := by omega
   obtain ⟨ae, eb, z0⟩ := Kd.at_int (Kd.C_below HR.out HB.out) (i : Int) i0 i1
   subst eb
   rw [Int.toNat_natCast] at z0
   have hx := x25 HI.out hlt
   have hsn := y80 (l.take i) (rd l (i : Int))
   rw [← y0v hlt] at hsn
   have HSN := zh hsn
   clear hsn
   obtain ⟨x, hxe⟩ : ∃ x, x = rd l (i : Int) := ⟨_, rfl⟩
   rw [← hxe] at z0 hx
   have HXE := zh hxe
   clear hxe
   obtain ⟨H, hH⟩ : ∃ H, H = z8m (l.take i) := ⟨_, rfl⟩
   obtain ⟨L, hL⟩ : ∃ L, L = z8l (l.take i) := ⟨_, rfl⟩
   rw [← hH, ← hL] at hbd ⊢
   have HH := zh hH
   have HL := zh hL
   clear hH hL
   have e1 : x.fdiv 4294967296 = x / 4294967296 := Int.fdiv_eq_ediv_of_nonneg _ (by decide)
   have e2 : Go.bits .and .i64 x 4294967295 = x % 4294967296 := x3d x
   have e3 : IntKind.i64.wrap (H + x / 4294967296) = H + x / 4294967296 := IntWalk.i64_in _ (by omega)
   have e4 : IntKind.i64.wrap (L + x % 4294967296) = L + x % 4294967296 := IntWalk.i64_in _ (by omega)
   go_wp2
   go_roundg (l.length - i)
   case measure => omega
   case rel => exact ⟨i + 1, by omega, by rw [HSN.out.1, ← HH.out, ← HXE.out], by rw [HSN.out.2, ← HL.out, ← HXE.out], by go_num, by omega, HB⟩
  ·have e : i = l.length := by omega
   subst e
   rw [List.take_length] at hbd ⊢
   have hs := y4q l
   obtain ⟨T, hT⟩ : ∃ T, T = z3q l := ⟨_, rfl⟩
   rw [← hT] at hs
   have HTE := zh hT
   obtain ⟨H, hH⟩ : ∃ H, H = z8m l := ⟨_, rfl⟩
   obtain ⟨L, hL⟩ : ∃ L, L = z8l l := ⟨_, rfl⟩
   rw [← hH, ← hL] at hbd hs ⊢
   clear hH hL hT
   have e1 : L.fdiv 4294967296 = L / 4294967296 := Int.fdiv_eq_ediv_of_nonneg _ (by decide)
   have e2 : Go.bits .and .i64 L 4294967295 = L % 4294967296 := x3d L
   have e3 : IntKind.i64.wrap (H + L / 4294967296) = H + L / 4294967296 := IntWalk.i64_in _ (by omega)
   obtain ⟨G, hG⟩ : ∃ G, G = H + L / 4294967296 := ⟨_, rfl⟩
   rw [← hG] at e3
   by_cases c1 : G < -2147483648
   ·have HF : Hid (z7b T = false) := zh (by unfold z7b; rw [decide_eq_false_iff_not]; omega)
    rw [hG] at e3 c1
    clear hs hbd
    go_wp2
    go_ret2
    unfold z4f
    rw [← HTE.out, HF.out]
    exact ⟨rfl, HB.out⟩
   ·by_cases c2 : 2147483648 ≤ G
    ·have HF : Hid (z7b T = false) := zh (by unfold z7b; rw [decide_eq_false_iff_not]; omega)
     rw [hG] at e3 c1 c2
     clear hs hbd
     go_wp2
     go_ret2
     unfold z4f
     rw [← HTE.out, HF.out]
     exact ⟨rfl, HB.out⟩
    ·have HF : Hid (z7b T = true) := zh (by unfold z7b; rw [decide_eq_true_eq]; omega)
     have e4 : IntKind.i64.wrap ((H + L / 4294967296) * 4294967296) = (H + L / 4294967296) * 4294967296 := IntWalk.i64_in _ (by omega)
     have e5 : IntKind.i64.wrap ((H + L / 4294967296) * 4294967296 + L % 4294967296) = T := by
      rw [show (H + L / 4294967296) * 4294967296 + L % 4294967296 = T by omega]
      exact IntWalk.i64_in _ (by omega)
     rw [hG] at e3 c1 c2
     clear hs hbd
     go_wp2
     go_ret2
     unfold z4f
     rw [← HTE.out, HF.out]
     exact ⟨rfl, HB.out⟩
theorem z4f.yes {l : List Int} {T : Int} {w w' : World} {e : Ending} (h : z4f l w e w') (hT : z3q l = T) (hf : z7b T = true) : e = .returned (.tuple #[.int .i64 T, .bool true]) ∧ Below w.heap.size w w' := by
 unfold z4f at h
 rw [hT, hf] at h
 exact h
theorem z4f.no {l : List Int} {T : Int} {w w' : World} {e : Ending} (h : z4f l w e w') (hT : z3q l = T) (hf : z7b T = false) : e = .returned (.tuple #[.int .i64 0, .bool false]) ∧ Below w.heap.size w w' := by
 unfold z4f at h
 rw [hT, hf] at h
 exact h
end Go.Proofs.YtcgdloldkcmhnaaGreat.H
end
section
namespace Go.Proofs.YtcgdloldkcmhnaaGreat.H
open Go Go.RowKit Go.Proofs.YtcgdloldkcmhnaaGreat.PrintC Go.Proofs.YtcgdloldkcmhnaaGreat.PrintE Go.Proofs.YtcgdloldkcmhnaaGreatW.PrintWords
theorem z8k : (Tryz.prog.info? 3).map (fun i => (i.zero, i.size, i.bytes)) = some (some (.int .i64 0), 1, 8) := by kernel_rfl
theorem x3e : (Tryz.prog.info? 76).map (fun i => (i.zero, i.size, i.bytes)) = some (some (.agg #[.int .i64 0, .int .i64 0, .int .i64 0]), 3, 24) := by kernel_rfl
abbrev Mv := S76
abbrev kMv := k76
def z03 (a b : Mv) : Bool := decide (a.f0 = b.f0 ∧ a.f1 = b.f1)
theorem z0n {a b : Mv} : z03 a b = true ↔ a.f0 = b.f0 ∧ a.f1 = b.f1 := decide_eq_true_iff
theorem z2n {a b : Mv} (h : z03 a b = true) : z03 b a = true := by rw [z0n] at h ⊢; exact ⟨h.1.symm, h.2.symm⟩
def amt (l : List Mv) (x : Mv) : Int := z3q ((l.filter (z03 x)).map (·.f2))
theorem z5d {l : List Mv} {x y : Mv} (h : z03 x y = true) : amt l x = amt l y := by
 have e : z03 x = z03 y := by
  rw [z0n] at h
  funext z
  unfold z03
  rw [h.1, h.2]
 unfold amt
 rw [e]
def mlt (a b : Mv) : Prop := a.f1 < b.f1 ∨ a.f1 = b.f1 ∧ a.f0 < b.f0
theorem y1b {a b c : Mv} (h : mlt a b) (k : mlt b c) : mlt a c := by
 unfold mlt at *
 omega
theorem x3c {a b : Mv} (h : ¬ mlt a b) (k : z03 b a = false) : mlt b a := by
 unfold z03 at k
 rw [decide_eq_false_iff_not] at k
 unfold mlt at *
 omega
def z1q (l : List Mv) (i : Nat) : Mv := z3h l (i : Int)
theorem z2z {l : List Mv} {i : Nat} (h : i < l.length) : z1q l i ∈ l := by
 unfold z1q z3h
 rw [Int.toNat_natCast, List.getD_eq_getElem?_getD, List.getElem?_eq_getElem h]
 exact List.getElem_mem h
theorem z1f {l : List Mv} {i : Nat} (h : i < l.length) : l.take (i + 1) = l.take i ++ [z1q l i] := by
 have e : z1q l i = l[i] := by
  unfold z1q z3h
  rw [Int.toNat_natCast, List.getD_eq_getElem?_getD, List.getElem?_eq_getElem h]
  rfl
 rw [List.take_add_one, List.getElem?_eq_getElem h, e]
 rfl
theorem z33 {l : List Mv} {x : Mv} : ∀ {i : Nat}, i ≤ l.length → x ∈ l.take i → ∃ k, k < i ∧ x = z1q l k
 |0, _, h => by simp at h
 |i + 1, hi, h => by
  rw [z1f (by omega), List.mem_append, List.mem_singleton] at h
  rcases h with h | h
  ·obtain ⟨k, hk, e⟩ := z33 (by omega) h
   exact ⟨k, by omega, e⟩
  ·exact ⟨i, by omega, h⟩
theorem z5w {l : List Mv} : ∀ {i k : Nat}, i ≤ l.length → k < i → z1q l k ∈ l.take i
 |i + 1, k, hi, hk => by
  rw [z1f (by omega), List.mem_append, List.mem_singleton]
  by_cases e : k = i
  ·rw [e]
   exact .inr rfl
  ·exact .inl (z5w (by omega) (by omega))
structure MgI (l : List Mv) (i : Nat) (m : List Mv) : Prop where
 srt : m.Pairwise mlt
 am : ∀ y, y ∈ m → y.f2 = amt l y ∧ y.f2 ≠ 0 ∧ ∃ x, x ∈ l.take i ∧ z03 x y = true
 all : ∀ x, x ∈ l.take i → z7b (amt l x) = true ∧ (amt l x ≠ 0 → ∃ y, y ∈ m ∧ z03 x y = true)
abbrev z82 (l m : List Mv) : Prop := MgI l l.length m
theorem MgI.zero (l : List Mv) : MgI l 0 [] := ⟨List.Pairwise.nil, fun _ h => (nomatch h), fun _ h => by simp at h⟩
section
variable {l m : List Mv} {i : Nat}
theorem MgI.had (h : MgI l i m) (hi : i < l.length) {k : Nat} (hk : k < i) (e : z03 (z1q l k) (z1q l i) = true) : MgI l (i + 1) m where
 srt := h.srt
 am y hy := by
  obtain ⟨a, b, x, hx, c⟩ := h.am y hy
  exact ⟨a, b, x, by rw [z1f hi]; exact List.mem_append_left _ hx, c⟩
 all x hx := by
  rw [z1f hi, List.mem_append, List.mem_singleton] at hx
  rcases hx with hx | rfl
  ·exact h.all x hx
  ·obtain ⟨a, b⟩ := h.all (z1q l k) (z5w (by omega) hk)
   rw [z5d e] at a b
   refine ⟨a, fun g => ?_⟩
   obtain ⟨y, hy, c⟩ := b g
   rw [z0n] at e c
   exact ⟨y, hy, by rw [z0n]; exact ⟨e.1.symm.trans c.1, e.2.symm.trans c.2⟩⟩
theorem MgI.none (h : MgI l i m) (hi : i < l.length) (e : amt l (z1q l i) = 0) : MgI l (i + 1) m where
 srt := h.srt
 am y hy := by
  obtain ⟨a, b, x, hx, c⟩ := h.am y hy
  exact ⟨a, b, x, by rw [z1f hi]; exact List.mem_append_left _ hx, c⟩
 all x hx := by
  rw [z1f hi, List.mem_append, List.mem_singleton] at hx
  rcases hx with hx | rfl
  ·exact h.all x hx
  ·rw [e]
   exact ⟨rfl, fun g => absurd rfl g⟩
theorem MgI.ins {a b : List Mv} {X : Mv} (h : MgI l i (a ++ b)) (hi : i < l.length) (hn : ∀ k, k < i → z03 (z1q l k) (z1q l i) = false) (hX : X = ⟨(z1q l i).f0, (z1q l i).f1, amt l (z1q l i)⟩) (hf : z7b (amt l (z1q l i)) = true) (h0 : amt l (z1q l i) ≠ 0) (hb : ∀ y, y ∈ b → mlt X y) (ha : ∀ (a' : List Mv) (y : Mv), a = a' ++ [y] → ¬ mlt X y) : MgI l (i + 1) (a ++ X :: b) where
 srt := by
  have hd : ∀ y, y ∈ a ++ b → z03 y X = false := fun y hy => by
   obtain ⟨_, _, x, hx, c⟩ := h.am y hy
   obtain ⟨k, hk, rfl⟩ := z33 (by omega) hx
   have := hn k hk
   cases e : z03 y X with
   |false => rfl
   |true =>
    rw [z0n] at c e
    rw [hX] at e
    have : z03 (z1q l k) (z1q l i) = true := z0n.2 ⟨c.1.trans e.1, c.2.trans e.2⟩
    rw [hn k hk] at this
    cases this
  have hs := List.pairwise_append.1 h.srt
  have hal : ∀ y, y ∈ a → mlt y X := by
   rcases List.eq_nil_or_concat a with rfl | ⟨a', z, e⟩
   ·exact fun y hy => nomatch hy
   ·rw [List.concat_eq_append] at e
    subst e
    have hz := x3c (ha a' z rfl) (hd z (by simp))
    intro y hy
    rw [List.mem_append, List.mem_singleton] at hy
    rcases hy with hy | rfl
    ·exact y1b ((List.pairwise_append.1 hs.1).2.2 y hy z (List.mem_singleton.2 rfl)) hz
    ·exact hz
  refine List.pairwise_append.2 ⟨hs.1, List.pairwise_cons.2 ⟨hb, hs.2.1⟩, fun y hy z hz => ?_⟩
  rcases List.mem_cons.1 hz with rfl | hz
  ·exact hal y hy
  ·exact hs.2.2 y hy z hz
 am y hy := by
  have hy2 : y = X ∨ y ∈ a ++ b := by
   rw [List.mem_append, List.mem_cons] at hy
   rw [List.mem_append]
   rcases hy with hy | rfl | hy
   ·exact .inr (.inl hy)
   ·exact .inl rfl
   ·exact .inr (.inr hy)
  rcases hy2 with rfl | hy2
  ·have e : z03 (z1q l i) y = true := by rw [hX]; exact z0n.2 ⟨rfl, rfl⟩
   refine ⟨?_, ?_, z1q l i, by rw [z1f hi]; simp, e⟩
   ·rw [← z5d e, hX]
   ·rw [hX]
    exact h0
  ·obtain ⟨p, q, x, hx, c⟩ := h.am y hy2
   exact ⟨p, q, x, by rw [z1f hi]; exact List.mem_append_left _ hx, c⟩
 all x hx := by
  rw [z1f hi, List.mem_append, List.mem_singleton] at hx
  rcases hx with hx | rfl
  ·obtain ⟨p, q⟩ := h.all x hx
   refine ⟨p, fun g => ?_⟩
   obtain ⟨y, hy, c⟩ := q g
   refine ⟨y, ?_, c⟩
   rw [List.mem_append] at hy
   rw [List.mem_append, List.mem_cons]
   rcases hy with hy | hy
   ·exact .inl hy
   ·exact .inr (.inr hy)
  ·exact ⟨hf, fun _ => ⟨X, by simp, by rw [hX]; exact z0n.2 ⟨rfl, rfl⟩⟩⟩
end
def y90 (l : List Mv) (w : World) (e : Ending) (w' : World) : Prop := Below w.heap.size w w' ∧ ((e = .returned (.tuple #[.slice none 0 0, .int .i64 10]) ∧ ∃ x, x ∈ l ∧ z7b (amt l x) = false) ∨
 ∃ (m : List Mv) (A1 : Option Addr) (c1 : Nat), e = .returned (.tuple #[.slice A1 m.length c1, .int .i64 0]) ∧ Kd.R kMv 76 w' w.heap.size (fun _ => True) (.slice A1 m.length c1) m ∧ z82 l m ∧ m.length ≤ l.length)
end Go.Proofs.YtcgdloldkcmhnaaGreat.H
end
section
namespace Go.Proofs.YtcgdloldkcmhnaaGreat.H
open Go Go.RowKit Go.Proofs.YtcgdloldkcmhnaaGreatW.PrintWords Go.Proofs.YtcgdloldkcmhnaaGreatW.PrintLast Go.Proofs.YtcgdloldkcmhnaaGreatW.PrintMore
section
variable {P : Program} {md : Region.Mode} {ops : Array Oper} {Q : Exit → Act → World → Prop} {S : World → Prop} {ds : List Nat}
theorem sS (i : Nat) {oi : Oper} {fuel : Nat} {l : Array Bool} {a : Act} {w w1 : World} (h : t8 P md ops Q S ds fuel (l.setIfInBounds i true) a w1)
  (hi : ops[i]? = some oi := by exact rfl) (hN : oi.dst = none := by exact rfl) (hr : z4r md ops l (l.setIfInBounds i true) i = true := by kernel_rfl) (hd : i ∈ ds := by decide) (hw : Region.wanted oi (yielded ops a.tmps) = true := by rfl)
  (hrun : (execOp a.eval oi).run P w = .ok .skip w1 := by (go_simp; rfl)) : t8 P md ops Q S ds (fuel + 1) l a w :=
 y57 _ hi hN hr hd fun _ hK => z54 hw hN hrun (hK.out _ _ h)
theorem wT {fuel : Nat} {l : Array Bool} {a : Act} {w : World} (T : Bool × List (List Nat × List Nat)) (h : Hid (z92 md ops = T) → t8 P md ops Q S ds fuel l a w) (hT : z92 md ops = T := by kernel_rfl) : t8 P md ops Q S ds fuel l a w := h (zh hT)
theorem qP (n : Nat) {t : Tmp} {oi : Oper} {v : Value} {fuel : Nat} {l : Array Bool} {a a' : Act} {w : World} {T : Bool × List (List Nat × List Nat)} (hT : Hid (z92 md ops = T)) (h : t8 P md ops Q S ds fuel (l.setIfInBounds (n - (fuel + 1)) true) a' w) (hi : ops[n - (fuel + 1)]? = some oi := by exact rfl) (hN : oi.dst = some t := by exact rfl) (hc : anyT T l.toList (l.setIfInBounds (n - (fuel + 1)) true).toList (n - (fuel + 1)) = true := by kernel_rfl)
  (hQ : ∀ c a w, Q (.panic c) (a.put oi.dst v) w → Q (.panic c) a w := by exact fun _ _ _ h => h) (hy : Yields P ops oi v a := by first | (refine Or.inl ⟨by rfl, ?_⟩; intro w'; go_simp; with_reducible rfl) | exact Or.inr ⟨by rfl, rfl⟩)
  (ha : a.put (some t) v = a' := by (simp only [Act.put, List.setIfInBounds_toArray, List.set_cons_zero, List.set_cons_succ]; rfl)) : t8 P md ops Q S ds (fuel + 1) l a w := z1k _ hi hN (x6g hT.out hc) hQ hy ha h
theorem qT (n : Nat) {t : Tmp} {oi : Oper} {v : Value} {fuel : Nat} {l : Array Bool} {a a' : Act} {w : World} {T : Bool × List (List Nat × List Nat)} (hT : Hid (z92 md ops = T)) (hS : S w) (h : t8 P md ops Q S ds fuel (l.setIfInBounds (n - (fuel + 1)) true) a' w) (hi : ops[n - (fuel + 1)]? = some oi := by exact rfl) (hN : oi.dst = some t := by exact rfl) (hc : x3x T ds l.toList (l.setIfInBounds (n - (fuel + 1)) true).toList (n - (fuel + 1)) = true := by kernel_rfl)
  (hQ : ∀ c a w, Q (.panic c) (a.put oi.dst v) w → Q (.panic c) a w := by exact fun _ _ _ h => h) (hy : YieldsIf P ops S oi v a := by (refine Or.inl ⟨by rfl, ?_⟩; intro w' hs'; (repeat (rcases hs' with ⟨_, hs'⟩)); go_simp; with_reducible rfl))
  (ha : a.put (some t) v = a' := by (simp only [Act.put, List.setIfInBounds_toArray, List.set_cons_zero, List.set_cons_succ]; rfl)) : t8 P md ops Q S ds (fuel + 1) l a w := take_ _ hi hN (x3w hT.out hc) hQ hy hS ha h
end
section
variable {P : Program} {ops : Array Oper} {Q : Exit → Act → World → Prop}
theorem gA {o : Oper} {rest : List Oper} {a : Act} {w0 W : World} {base : Nat} {α : Type} {d : Kd α} {T t : TypeId} {cs : α → List Value} (hk : x5f P d T t cs) {s x : Operand} {Ao : Option Addr} {co : Nat} (xs : List α) (p : α)
  (HO : d.R t W base (fun _ => True) (.slice Ao xs.length co) xs) (HB : Below base w0 W) (hbase : base ≤ W.heap.size) (hl : xs.length ≤ 1000000)
  (h : ∀ A1 c1 w1, d.R t w1 base (fun _ => True) (.slice A1 (xs.length + 1) c1) (xs ++ [p]) → Below base w0 w1 → W.grownBy w1 (Value.slice Ao xs.length co).ownBlock → wpList P ops Q rest (a.put o.dst (.slice A1 (xs.length + 1) c1)) w1)
  (hgd : o.guard = none := by exact rfl) (ho : o.op = .call { callee := .builtin .append, args := #[s, x], argTypes := #[T, T] } := by exact rfl) (hs : a.eval s = .slice Ao xs.length co := by exact rfl) (hx : a.eval x = .slice (some ⟨W.heap.size, 0, none⟩) 1 1 := by first | exact rfl | (simp; done) | (simp; rfl)) :
  wpList P ops Q (o :: rest) a (W.alloc (.cells (cs p).toArray t)) := by
 obtain ⟨z, bytes, h1, h2, h3, h4⟩ := hk.info
 refine Kd.R_append d (w0 := w0) base hgd s x T t z bytes ho hk.und h1 h2 hk.pos h3 _ xs p (cs p) (fun _ => True) (fun _ => False) hs hx (hk.made _ _ _ p) (fun _ hk => hk.elim) (fun _ _ => trivial) HO HB hbase (Nat.le_trans (Nat.mul_le_mul (Nat.succ_le_succ hl) h4) (by decide)) ?_
 intro v1 w1 o1 b1 g1 _
 obtain ⟨A1, c1, e1⟩ := Kd.R_slice o1
 rw [List.length_append] at e1
 subst e1
 exact h A1 c1 w1 o1 b1 g1
end
end Go.Proofs.YtcgdloldkcmhnaaGreat.H
end
section
namespace Go.Proofs.YtcgdloldkcmhnaaGreat.H
open Go Go.RowKit Go.Proofs.YtcgdloldkcmhnaaGreat.PrintC Go.Proofs.YtcgdloldkcmhnaaGreat.PrintE Go.Proofs.YtcgdloldkcmhnaaGreatW.PrintWords Go.Proofs.YtcgdloldkcmhnaaGreatW.PrintLast Go.Proofs.YtcgdloldkcmhnaaGreatW.PrintMore
set_option linter.unusedVariables false
set_option linter.unusedSimpArgs false
def z1i (l : List Arc) (x : Mv) : Arc := j7 l x.f0
def z4o (l : List Arc) (v z : Int) (x : Mv) : Int := (if (z1i l x).f1 = v ∧ x.f1 + (z1i l x).f3 ≤ z then x.f2 else 0) - (if (z1i l x).f0 = v ∧ x.f1 ≤ z then x.f2 else 0)
def z2w (l : List Arc) (m : List Mv) (v z : Int) : Int := z3q (m.map (z4o l v z))
structure y96 (l : List Arc) (x : Mv) : Prop where
 a0 : 0 ≤ x.f0
 a1 : x.f0 < l.length
 t0 : 0 ≤ x.f1
 t1 : x.f1 ≤ 100000
 n0 : 0 ≤ x.f2
 n1 : x.f2 ≤ 1099511627776
theorem z7g {l : List Arc} {v z : Int} : ∀ {m : List Mv}, (∀ x, x ∈ m → y96 l x) → -(m.length * 1099511627776 : Int) ≤ z2w l m v z ∧ z2w l m v z ≤ m.length * 1099511627776
 |[], _ => by
  show -(0 * 1099511627776 : Int) ≤ 0 ∧ (0 : Int) ≤ 0 * 1099511627776
  decide
 |x :: m, h => by
  have h1 := z7g (v := v) (z := z) (m := m) (fun y hy => h y (List.mem_cons_of_mem _ hy))
  have h2 := h x (List.mem_cons_self ..)
  have h3 := h2.n0
  have h4 := h2.n1
  have h5 : -1099511627776 ≤ z4o l v z x ∧ z4o l v z x ≤ 1099511627776 := by
   unfold z4o
   split <;> split <;> omega
  unfold z2w at h1 ⊢
  rw [List.map_cons, z3q, List.length_cons]
  omega
theorem y5d (l : List Arc) (v z : Int) {m : List Mv} {i : Nat} (h : i < m.length) : z2w l (m.take (i + 1)) v z = z2w l (m.take i) v z + z4o l v z (z1q m i) := by
 unfold z2w
 rw [z1f h, List.map_append]
 exact z4n _ _
def stT6 : Bool × List (List Nat × List Nat) := (true, [([], []), ([0], [0]), ([], []), ([1, 2], [1, 2]), ([3], [3]), ([4], [4]), ([4], [4]), ([5, 6, 4], [4, 5, 6]), ([7, 4], [4, 7]), ([8, 4], [4, 8]), ([4], [4]), ([10, 4], [4, 10]), ([9, 11, 4], [4, 9, 11]), ([4], [4]), ([12, 13, 4], [4, 12, 13]), ([4, 14], [4, 14])])
theorem z74 (n : Int) (b : Bool) (A : Option Addr) (c : Nat) (l : List Arc) (Am : Option Addr) (cm : Nat) (m : List Mv) (v z K : Int) (hK : K = z2w l m v z) (w : World) (hr : Kd.C z4w w A l.length l) (hm : Kd.C kMv w Am m.length m) (hok : ∀ x, x ∈ m → y96 l x) (hti : ∀ i : Int, 0 ≤ i → i < l.length → 0 ≤ (j7 l i).f3 ∧ (j7 l i).f3 ≤ 1048576) (hml : m.length ≤ 100000) :
  Calls Tryz.prog 29 #[.agg #[.int .i64 n, .bool b, .slice A l.length c], .slice Am m.length cm, .int .i64 v, .int .i64 z] w fun e w' => e = .returned (.int .i64 K) ∧ Below w.heap.size w w' := by
 have hu := Tryz.underlying33
 have hu2 := Tryz.underlying76
 have hu3 := Tryz.underlying104
 have HR := zh hr
 have HM := zh hm
 have HOK := zh hok
 have HTI := zh hti
 have HK := zh hK
 clear hr hm hok hti hK
 go_enter Tryz.func29, Tryz.ntmps29
 obtain ⟨w1, hw1⟩ : ∃ w1, w1 = w.alloc (.cells #[.int .i64 n, .bool b, .slice A l.length c] 33) := ⟨_, rfl⟩
 have HX : Hid (w1.heap[w.heap.size]? = some (.cells #[.int .i64 n, .bool b, .slice A l.length c] 33 (0, 0)) ∧ Below w.heap.size w w1) := zh (by rw [hw1]; exact ⟨heap_alloc_new _ _, y8 (Below.refl _ _) _⟩)
 go_wp2
 rw [← hw1]
 clear hw1
 go_loopg [9, 10] (m.length + 1) (fun k kv iv W => ∃ i : Nat, i ≤ m.length ∧ kv = .int .i64 (z2w l (m.take i) v z) ∧ iv = .int .i64 i ∧ k = m.length + 1 - i ∧ Hid (W.heap[w.heap.size]? = some (.cells #[.int .i64 n, .bool b, .slice A l.length c] 33 (0, 0)) ∧ Below w.heap.size w W))
 case atStart => exact ⟨0, Nat.zero_le _, rfl, rfl, rfl, HX⟩
 case round =>
  obtain ⟨i, hi, rfl, rfl, rfl, HL⟩ := hrel
  clear HX
  by_cases hlt : i < m.length
  ·have i0 : (0 : Int) ≤ (i : Int) := by omega
   have i1 : (i : Int) < (m.length : Int) := by omega
   have hbd := z7g (v := v) (z := z) (m := m.take i) (fun x hx => HOK.out x (List.mem_of_mem_take hx))
   rw [List.length_take, Nat.min_eq_left hi] at hbd
   obtain ⟨X, hX⟩ : ∃ X, X = z1q m i := ⟨_, rfl⟩
   have hXi := HOK.out X (by rw [hX]; exact z2z hlt)
   have a0 := hXi.a0
   have a1 := hXi.a1
   have t0 := hXi.t0
   have t1 := hXi.t1
   have n0 := hXi.n0
   have n1 := hXi.n1
   obtain ⟨ad, ea, -⟩ := z4j HM.out (i : Int) i0 i1
   subst ea
   obtain ⟨ae, eb, -⟩ := z07 HR.out X.f0 a0 a1
   subst eb
   have CM : Hid (∀ W, Below w.heap.size w W → W.cell? (ad.add (i * 3)) = some (.int .i64 X.f0) ∧ W.cell? ⟨(ad.add (i * 3)).block, (ad.add (i * 3)).off + 1, none⟩ = some (.int .i64 X.f1) ∧ W.cell? ⟨(ad.add (i * 3)).block, (ad.add (i * 3)).off + 2, none⟩ = some (.int .i64 X.f2)) := zh (fun W hW => by
    obtain ⟨ad2, e2, z0, z1, z2⟩ := z4j (Kd.C_below HM.out hW) (i : Int) i0 i1
    injection e2 with e2
    subst e2
    rw [Int.toNat_natCast] at z0 z1 z2
    rw [hX]
    exact ⟨z0, z1, z2⟩)
   obtain ⟨Y, hY⟩ : ∃ Y, Y = z1i l X := ⟨_, rfl⟩
   have hY2 : j7 l X.f0 = Y := by rw [hY]; rfl
   obtain ⟨ae2, e2, y0, y1, y2, y3⟩ := z07 (Kd.C_drew (Kd.C_below HR.out HL.out.2)) X.f0 a0 a1
   injection e2 with e2
   subst e2
   have hy3 := HTI.out X.f0 a0 a1
   rw [hY2] at y0 y1 y2 y3 hy3
   have HS := zh (y5d l v z hlt)
   rw [← hX] at HS
   have HST : Hid (z4o l v z X = (if Y.f1 = v ∧ X.f1 + Y.f3 ≤ z then X.f2 else 0) - (if Y.f0 = v ∧ X.f1 ≤ z then X.f2 else 0)) := zh (by rw [hY]; rfl)
   obtain ⟨T, hT⟩ : ∃ T, T = z2w l (m.take i) v z := ⟨_, rfl⟩
   rw [← hT] at hbd HS ⊢
   obtain ⟨x0, -, -⟩ := CM.out _ (q6 HL.out.2)
   have z2 : wr.drew.cell? ⟨w.heap.size, 2, none⟩ = some (.slice (some ae) l.length c) := (y7 (n7 HL.out.1) 2).trans rfl
   have HO := zh (And.intro (n7 HL.out.1) (q6 HL.out.2))
   clear hX hY hY2 hT HL hXi
   go_wp2
   refine z1u (S := fun w' => w'.cell? ⟨w.heap.size, 2, none⟩ = some (.slice (some ae) l.length c) ∧ w'.cell? (ad.add (i * 3)) = some (.int .i64 X.f0) ∧ w'.cell? (ae.add (X.f0.toNat * 4)) = some (.int .i64 Y.f0) ∧ w'.cell? ⟨(ae.add (X.f0.toNat * 4)).block, (ae.add (X.f0.toNat * 4)).off + 1, none⟩ = some (.int .i64 Y.f1) ∧ w'.cell? ⟨(ae.add (X.f0.toNat * 4)).block, (ae.add (X.f0.toNat * 4)).off + 2, none⟩ = some (.int .i64 Y.f2) ∧ w'.cell? ⟨(ae.add (X.f0.toNat * 4)).block, (ae.add (X.f0.toNat * 4)).off + 3, none⟩ = some (.int .i64 Y.f3)) (ds := [10]) 11 (by kernel_rfl) rfl ⟨z2, x0, y0, y1, y2, y3⟩ (fun hHeld => ?_)
   generalize wr.drew = wd at HO hHeld ⊢
   clear z2 x0 y0 y1 y2 y3
   repeat (first | refine rP 11 ?_ | refine rT 11 hHeld ?_)
   refine sB 9 hHeld (fun hHeld => ?_)
   refine sS 10 ?_
   refine z1e (by kernel_rfl) ?_
   obtain ⟨we, hwe⟩ : ∃ we, we = wd.alloc (.cells #[.int .i64 Y.f0, .int .i64 Y.f1, .int .i64 Y.f2, .int .i64 Y.f3] 104) := ⟨_, rfl⟩
   have HX : Hid (we.heap[wd.heap.size]? = some (.cells #[.int .i64 Y.f0, .int .i64 Y.f1, .int .i64 Y.f2, .int .i64 Y.f3] 104 (0, 0)) ∧ we.heap[w.heap.size]? = some (.cells #[.int .i64 n, .bool b, .slice (some ae) l.length c] 33 (0, 0)) ∧ Below w.heap.size w we) := zh (by rw [hwe]; exact ⟨heap_alloc_new _ _, j9 HO.out.1 _, y8 HO.out.2 _⟩)
   rw [← hwe]
   clear hwe hHeld HO
   generalize wd.heap.size = g at HX ⊢
   obtain ⟨dA, hdA⟩ : ∃ dA, dA = (if Y.f1 = v ∧ X.f1 + Y.f3 ≤ z then X.f2 else 0) := ⟨_, rfl⟩
   obtain ⟨dB, hdB⟩ : ∃ dB, dB = (if Y.f0 = v ∧ X.f1 ≤ z then X.f2 else 0) := ⟨_, rfl⟩
   rw [← hdA, ← hdB] at HST
   have hA : ((Y.f1 == v) = false ∧ Hid (dA = 0)) ∨ ((Y.f1 == v) = true ∧ ¬ X.f1 + Y.f3 ≤ z ∧ Hid (dA = 0)) ∨ ((Y.f1 == v) = true ∧ X.f1 + Y.f3 ≤ z ∧ Hid (dA = X.f2)) := by
    by_cases h1 : Y.f1 = v
    ·by_cases h2 : X.f1 + Y.f3 ≤ z
     ·exact .inr (.inr ⟨beq_iff_eq.2 h1, h2, zh (by rw [hdA, if_pos ⟨h1, h2⟩])⟩)
     ·exact .inr (.inl ⟨beq_iff_eq.2 h1, h2, zh (by rw [hdA, if_neg (fun e => h2 e.2)])⟩)
    ·exact .inl ⟨beq_eq_false_iff_ne.2 h1, zh (by rw [hdA, if_neg (fun e => h1 e.1)])⟩
   have hB : ((Y.f0 == v) = false ∧ Hid (dB = 0)) ∨ ((Y.f0 == v) = true ∧ ¬ X.f1 ≤ z ∧ Hid (dB = 0)) ∨ ((Y.f0 == v) = true ∧ X.f1 ≤ z ∧ Hid (dB = X.f2)) := by
    by_cases h1 : Y.f0 = v
    ·by_cases h2 : X.f1 ≤ z
     ·exact .inr (.inr ⟨beq_iff_eq.2 h1, h2, zh (by rw [hdB, if_pos ⟨h1, h2⟩])⟩)
     ·exact .inr (.inl ⟨beq_iff_eq.2 h1, h2, zh (by rw [hdB, if_neg (fun e => h2 e.2)])⟩)
    ·exact .inl ⟨beq_eq_false_iff_ne.2 h1, zh (by rw [hdB, if_neg (fun e => h1 e.1)])⟩
   clear hdA hdB
   go_wp2
   have y0 : we.drew.cell? ⟨g, 0, none⟩ = some (.int .i64 Y.f0) := (y7 (n7 HX.out.1) 0).trans rfl
   have y1 : we.drew.cell? ⟨g, 1, none⟩ = some (.int .i64 Y.f1) := (y7 (n7 HX.out.1) 1).trans rfl
   have y3 : we.drew.cell? ⟨g, 3, none⟩ = some (.int .i64 Y.f3) := (y7 (n7 HX.out.1) 3).trans rfl
   obtain ⟨-, x1, x2⟩ := CM.out _ (q6 HX.out.2.2)
   refine z1u (S := fun w' => w'.cell? ⟨g, 1, none⟩ = some (.int .i64 Y.f1) ∧ w'.cell? ⟨g, 3, none⟩ = some (.int .i64 Y.f3) ∧ w'.cell? ⟨(ad.add (i * 3)).block, (ad.add (i * 3)).off + 1, none⟩ = some (.int .i64 X.f1)) (ds := []) 16 (by kernel_rfl) rfl ⟨y1, y3, x1⟩ (fun hHeld => ?_)
   have HF := zh (And.intro (n7 HX.out.2.1) (q6 HX.out.2.2))
   generalize we.drew = wf at HF hHeld y0 y1 y3 x1 x2 ⊢
   clear HX
   have e5 : IntKind.i64.wrap (X.f1 + Y.f3) = X.f1 + Y.f3 := IntWalk.i64_in _ (by omega)
   refine wT stT6 (fun hT => ?_)
   rcases hA with ⟨g1, HDA⟩ | ⟨g1, g2, HDA⟩ | ⟨g1, g2, HDA⟩
   all_goals
    as_aux_lemma =>
     repeat (first | refine qP 16 hT ?_ | refine qT 16 hT hHeld ?_)
     refine z1e (by kernel_rfl) ?_
     clear hHeld hT
     rcases hB with ⟨g3, HDB⟩ | ⟨g3, g4, HDB⟩ | ⟨g3, g4, HDB⟩
     all_goals (try (exfalso; omega))
     all_goals
      go_wp2
      go_roundg (m.length - i)
      case measure => omega
      case rel => exact ⟨i + 1, by omega, by rw [HS.out, HST.out, HDA.out, HDB.out]; go_num, by go_num, by omega, HF⟩
  ·have e : i = m.length := by omega
   subst e
   rw [List.take_length, ← HK.out]
   go_wp2
   go_ret
   exact ⟨rfl, HL.out.2⟩
def y1a (l : List Arc) (h s t : Int) (x : Mv) : Bool := decide (0 ≤ x.f0 ∧ x.f0 < l.length ∧ 0 ≤ x.f1 ∧ x.f1 ≤ h ∧ x.f1 + (z1i l x).f3 ≤ h ∧ 0 ≤ x.f2 ∧ x.f2 ≤ (z1i l x).f2 ∧ (z1i l x).f1 ≠ s ∧ (z1i l x).f0 ≠ t)
def z7a (R : Bool) (w : World) (e : Ending) (w' : World) : Prop := e = .returned (.bool R) ∧ Below w.heap.size w w'
theorem z9e (n : Int) (b : Bool) (A : Option Addr) (c : Nat) (l : List Arc) (s t h x0 x1 x2 : Int) (R : Bool) (hR : R = y1a l h s t ⟨x0, x1, x2⟩) (w : World) (hr : Kd.C z4w w A l.length l) (hti : ∀ i : Int, 0 ≤ i → i < l.length → 0 ≤ (j7 l i).f3 ∧ (j7 l i).f3 ≤ 1048576) (h0 : 0 ≤ h) (h1 : h ≤ 100000) :
  Calls Tryz.prog 65 #[.agg #[.int .i64 n, .bool b, .slice A l.length c], .int .i64 s, .int .i64 t, .int .i64 h, .agg #[.int .i64 x0, .int .i64 x1, .int .i64 x2]] w (z7a R w) := by
 have hu := Tryz.underlying33
 have hu2 := Tryz.underlying76
 have hu3 := Tryz.underlying104
 have HR := zh hr
 have HTI := zh hti
 clear hr hti
 obtain ⟨w2, hw2⟩ : ∃ w2, w2 = (w.alloc (.cells #[.int .i64 n, .bool b, .slice A l.length c] 33)).alloc (.cells #[.int .i64 x0, .int .i64 x1, .int .i64 x2] 76) := ⟨_, rfl⟩
 have HB : Hid (Below w.heap.size w w2) := zh (by rw [hw2]; exact y8 (y8 (Below.refl _ _) _) _)
 have hc : (x0 < 0 ∧ R = false) ∨ (¬ x0 < 0 ∧ (l.length : Int) ≤ x0 ∧ R = false) ∨ (¬ x0 < 0 ∧ ¬ (l.length : Int) ≤ x0 ∧ x1 < 0 ∧ R = false) ∨ (¬ x0 < 0 ∧ ¬ (l.length : Int) ≤ x0 ∧ ¬ x1 < 0 ∧ h < x1 ∧ R = false) ∨ (0 ≤ x0 ∧ x0 < l.length ∧ 0 ≤ x1 ∧ x1 ≤ h) := by
  by_cases c0 : 0 ≤ x0 ∧ x0 < l.length ∧ 0 ≤ x1 ∧ x1 ≤ h
  ·exact .inr (.inr (.inr (.inr c0)))
  ·have hf : R = false := by
    rw [hR]
    exact decide_eq_false (fun e => c0 ⟨e.1, e.2.1, e.2.2.1, e.2.2.2.1⟩)
   by_cases c1 : x0 < 0
   ·exact .inl ⟨c1, hf⟩
   ·by_cases c2 : (l.length : Int) ≤ x0
    ·exact .inr (.inl ⟨c1, c2, hf⟩)
    ·by_cases c3 : x1 < 0
     ·exact .inr (.inr (.inl ⟨c1, c2, c3, hf⟩))
     ·exact .inr (.inr (.inr (.inl ⟨c1, c2, c3, by omega, hf⟩)))
 rcases hc with ⟨c1, hf⟩ | ⟨c1, c2, hf⟩ | ⟨c1, c2, c3, hf⟩ | ⟨c1, c2, c3, c4, hf⟩ | ⟨c1, c2, c3, c4⟩
 iterate 4
  ·clear hR
   subst hf
   go_enter Tryz.func65, Tryz.ntmps65
   go_wp2
   rw [← hw2]
   go_ret
   exact ⟨rfl, HB.out⟩
 ·obtain ⟨Y, hY⟩ : ∃ Y, Y = j7 l x0 := ⟨_, rfl⟩
  have hRY : R = decide (x1 + Y.f3 ≤ h ∧ 0 ≤ x2 ∧ x2 ≤ Y.f2 ∧ Y.f1 ≠ s ∧ Y.f0 ≠ t) := by
   rw [hR, hY]
   unfold y1a z1i
   simp only [c1, c2, c3, c4, true_and]
  have hy3 := HTI.out x0 c1 c2
  obtain ⟨ae, ea, -⟩ := z07 HR.out x0 c1 c2
  subst ea
  obtain ⟨ae2, e2, y0, y1, y2, y3⟩ := z07 (Kd.C_below HR.out HB.out) x0 c1 c2
  injection e2 with e2
  subst e2
  rw [← hY] at y0 y1 y2 y3 hy3
  clear hY hR
  have e5 : IntKind.i64.wrap (x1 + Y.f3) = x1 + Y.f3 := IntWalk.i64_in _ (by omega)
  have hc : (¬ x1 + Y.f3 ≤ h ∧ R = false) ∨ (x1 + Y.f3 ≤ h ∧ ¬ 0 ≤ x2 ∧ R = false) ∨ (x1 + Y.f3 ≤ h ∧ 0 ≤ x2 ∧ ¬ x2 ≤ Y.f2 ∧ R = false) ∨ (x1 + Y.f3 ≤ h ∧ 0 ≤ x2 ∧ x2 ≤ Y.f2 ∧ (Y.f1 != s) = false ∧ R = false) ∨ (x1 + Y.f3 ≤ h ∧ 0 ≤ x2 ∧ x2 ≤ Y.f2 ∧ (Y.f1 != s) = true ∧ (Y.f0 != t) = false ∧ R = false) ∨ (x1 + Y.f3 ≤ h ∧ 0 ≤ x2 ∧ x2 ≤ Y.f2 ∧ (Y.f1 != s) = true ∧ (Y.f0 != t) = true ∧ R = true) := by
   by_cases d1 : x1 + Y.f3 ≤ h
   ·by_cases d2 : 0 ≤ x2
    ·by_cases d3 : x2 ≤ Y.f2
     ·by_cases d4 : Y.f1 = s
      ·exact .inr (.inr (.inr (.inl ⟨d1, d2, d3, bne_eq_false_iff_eq.2 d4, by rw [hRY]; exact decide_eq_false (fun e => e.2.2.2.1 d4)⟩)))
      ·by_cases d5 : Y.f0 = t
       ·exact .inr (.inr (.inr (.inr (.inl ⟨d1, d2, d3, bne_iff_ne.2 d4, bne_eq_false_iff_eq.2 d5, by rw [hRY]; exact decide_eq_false (fun e => e.2.2.2.2 d5)⟩))))
       ·exact .inr (.inr (.inr (.inr (.inr ⟨d1, d2, d3, bne_iff_ne.2 d4, bne_iff_ne.2 d5, by rw [hRY]; exact decide_eq_true ⟨d1, d2, d3, d4, d5⟩⟩))))
     ·exact .inr (.inr (.inl ⟨d1, d2, d3, by rw [hRY]; exact decide_eq_false (fun e => d3 e.2.2.1)⟩))
    ·exact .inr (.inl ⟨d1, d2, by rw [hRY]; exact decide_eq_false (fun e => d2 e.2.1)⟩)
   ·exact .inl ⟨d1, by rw [hRY]; exact decide_eq_false (fun e => d1 e.1)⟩
  clear hRY
  have c5 : ¬ x0 < 0 := by omega
  have c6 : ¬ (l.length : Int) ≤ x0 := by omega
  have c7 : ¬ x1 < 0 := by omega
  have c8 : ¬ h < x1 := by omega
  rw [hw2] at y0 y1 y2 y3
  rcases hc with ⟨d1, hf⟩ | ⟨d1, d2, hf⟩ | ⟨d1, d2, d3, hf⟩ | ⟨d1, d2, d3, d4, hf⟩ | ⟨d1, d2, d3, d4, d5, hf⟩ | ⟨d1, d2, d3, d4, d5, hf⟩
  all_goals
   subst hf
   go_enter Tryz.func65, Tryz.ntmps65
   go_wp2
   rw [← hw2]
   go_ret
   exact ⟨rfl, y8 HB.out _⟩
end Go.Proofs.YtcgdloldkcmhnaaGreat.H
end
