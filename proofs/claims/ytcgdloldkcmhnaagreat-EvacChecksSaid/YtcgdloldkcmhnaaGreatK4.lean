/- Texts of this proof, joined; what the statement doesn't need is left out. -/
import Derived.Test.YtcgdloldkcmhnaaGreatK3
section
namespace Go.Proofs.YtcgdloldkcmhnaaGreat.H
open Go Go.RowKit Go.Proofs.YtcgdloldkcmhnaaGreat.PrintC Go.Proofs.YtcgdloldkcmhnaaGreatW.PrintWords Go.Proofs.YtcgdloldkcmhnaaGreatW.PrintLast Go.Proofs.YtcgdloldkcmhnaaGreatW.PrintMore Go.Proofs.YtcgdloldkcmhnaaGreat.Flow
set_option maxHeartbeats 8000000 in
set_option maxRecDepth 100000 in
theorem begin_walk (n h : Nat) (b : Bool) (A : Option Addr) (c : Nat) (l : List Arc) (gp : Nat) (use : Arc → Bool) (keeps : Nat → Bool) (w : World) (hn : NetIn n h l) (hlc : l.length ≤ c) (hr : Kd.C kArc w A l.length l)
  (hU : ∀ x W, x ∈ l → Below w.heap.size w W → Calls Tryz.prog 50 #[.pointer (some ⟨gp, 0, none⟩), .agg #[.int .i64 x.f0, .int .i64 x.f1, .int .i64 x.f2, .int .i64 x.f3]] W fun e w' => e = .returned (.bool (use x)) ∧ Below W.heap.size W w')
  (hK : ∀ (v : Nat) W, v < n → Below w.heap.size w W → Calls Tryz.prog 47 #[.pointer (some ⟨gp, 0, none⟩), .int .i64 v] W fun e w' => e = .returned (.bool (keeps v)) ∧ Below W.heap.size W w') :
  Calls Tryz.prog 60 #[.agg #[.int .i64 n, .bool b, .slice A l.length c], .int .i64 h, .func (.func 50) #[.pointer (some ⟨gp, 0, none⟩)] #[], .func (.func 47) #[.pointer (some ⟨gp, 0, none⟩)] #[]] w fun e w' => ∃ (gg : Nat), e = .returned (.pointer (some ⟨gg, 0, none⟩)) ∧ ∃ (v : Value) (B : MB), GrI w gg (((h + 1) * n : Nat) + 2 : Nat) n v (bA l use keeps n h (h + 1)).arcs B (bA l use keeps n h (h + 1)).md w' := by
 have HN := zh hn
 have HLC := zh hlc
 have HR := zh hr
 have HU := zh hU
 have HK := zh hK
 have hn1 := hn.n1
 have hh1 := hn.h1
 have hll := hn.ll
 have hM := hn.hn
 clear hn hlc hr hU hK
 obtain ⟨M, hM2⟩ : ∃ M : Nat, M = (h + 1) * n := ⟨_, rfl⟩
 rw [← hM2] at hM ⊢
 have e1 : IntKind.i64.wrap ((h : Int) + 1) = (h : Int) + 1 := IntWalk.i64_in _ (by omega)
 have e2 : IntKind.i64.wrap (((h : Int) + 1) * (n : Int)) = (M : Int) := by
  rw [hM2, Int.natCast_mul]
  exact IntWalk.i64_in _ (by have := Int.ofNat_le.2 hM; rw [hM2, Int.natCast_mul] at this; have h9 := Int.mul_nonneg (a := ((h : Int) + 1)) (b := (n : Int)) (by omega) (by omega); have h8 : ((h + 1 : Nat) : Int) = (h : Int) + 1 := rfl; rw [h8] at this; omega)
 have HM2 := zh hM2
 clear hM2
 have hmm := @run_makeMap Tryz.prog
 have hu := Tryz.underlying33
 have hu2 := Tryz.underlying125
 go_enter Tryz.func60, Tryz.ntmps60
 go_wp2
 have HP := zh (begin_start w #[.int .i64 n, .bool b, .slice A l.length c] 33 ((M : Int) + 2) n _ rfl)
 generalize ((((((w.alloc (.cells #[.int .i64 n, .bool b, .slice A l.length c] 33)).alloc (.map #[] 0)).alloc (.map #[] 0)).alloc (.map #[] 0)).alloc (.map #[] 0)).alloc (.cells #[.int .i64 ((M : Int) + 2), .bool false, .slice none 0 0, .map (some (w.heap.size + 1)), .map (some (w.heap.size + 1 + 1)), .map (some (w.heap.size + 1 + 1 + 1)), .map (some (w.heap.size + 1 + 1 + 1 + 1)), .int .i64 n] 125)) = W0 at HP ⊢
 obtain ⟨B, HP⟩ : ∃ B, Hid (W0.heap[w.heap.size]? = some (.cells #[.int .i64 n, .bool b, .slice A l.length c] 33 (0, 0)) ∧ GrI w (w.heap.size + 1 + 1 + 1 + 1 + 1) ((M : Int) + 2) n (.slice none 0 0) [] B (BSt.md ⟨[], [], []⟩) W0) := ⟨_, HP⟩
 generalize w.heap.size + 1 + 1 + 1 + 1 + 1 = gg at HP ⊢
 clear hmm e2
 go_loopg [34] (h + 2) (fun k cv W => ∃ (a : Nat) (v : Value), a ≤ h + 1 ∧ cv = .int .i64 a ∧ k = h + 2 - a ∧ Hid (W.heap[w.heap.size]? = some (.cells #[.int .i64 n, .bool b, .slice A l.length c] 33 (0, 0)) ∧ GrI w gg ((M : Int) + 2) n v (bA l use keeps n h a).arcs B (bA l use keeps n h a).md W))
 case atStart => exact ⟨0, _, Nat.zero_le _, rfl, rfl, HP⟩
 case round =>
  obtain ⟨a, v, ha, rfl, rfl, HI⟩ := hrel
  clear HP
  by_cases hlt : a ≤ h
  ·have hlt2 : (a : Int) < (h : Int) + 1 := by omega
   have x0 : wr.cell? ⟨w.heap.size, 0, none⟩ = some (.int .i64 n) := (blk_cell HI.out.1 0).trans rfl
   have x2 : wr.cell? ⟨w.heap.size, 2, none⟩ = some (.slice A l.length c) := (blk_cell HI.out.1 2).trans rfl
   go_wp2
   go_loopg [40] (l.length + 1) (fun k iv W => ∃ (j : Nat) (v : Value), j ≤ l.length ∧ iv = .int .i64 j ∧ k = l.length + 1 - j ∧ Hid (W.heap[w.heap.size]? = some (.cells #[.int .i64 n, .bool b, .slice A l.length c] 33 (0, 0)) ∧ GrI w gg ((M : Int) + 2) n v (bM l use n h a (bA l use keeps n h a) j).arcs B (bM l use n h a (bA l use keeps n h a) j).md W))
   case atStart => exact ⟨0, v, Nat.zero_le _, rfl, rfl, HI⟩
   case round =>
    obtain ⟨j, v1, hj, rfl, rfl, HJ⟩ := hrel
    clear HI x0 x2
    by_cases hjl : j < l.length
    ·obtain ⟨ad, ea, y0, y1, y2, y3⟩ := at_T104 (Kd.C_below HR.out HJ.out.2.low) (j : Int) (by omega) (by omega)
     subst ea
     rw [Int.toNat_natCast] at y0 y1 y2 y3
     obtain ⟨x, hx⟩ : ∃ x, x = arcAt l j := ⟨_, rfl⟩
     have hx2 : rd_T104 l (j : Int) = x := by rw [hx]; rfl
     rw [hx2] at y0 y1 y2 y3
     have j0 : (0 : Int) ≤ (j : Int) := by omega
     have j1 : (j : Int) < (l.length : Int) := by omega
     have HX := zh hx
     clear hx hx2
     have hti : 0 ≤ x.f3 ∧ x.f3 ≤ 1048576 := by have := HN.out.time j hjl; rw [← HX.out] at this; exact this
     have hti0 := hti.1
     have hti1 := hti.2
     clear hti
     obtain ⟨s1, hs1⟩ : ∃ s1, s1 = bM l use n h a (bA l use keeps n h a) j := ⟨_, rfl⟩
     have HI0 : Hid (GrI w gg ((M : Int) + 2) n v1 s1.arcs B s1.md wr) := zh (by rw [hs1]; exact HJ.out.2)
     have HS1 := zh hs1
     clear hs1
     have HB0 := zh HJ.out.1
     by_cases htm : (a : Int) + x.f3 ≤ (h : Int)
     ·have htd : decide ((a : Int) + x.f3 ≤ (h : Int)) = true := by simpa using htm
      cases hux : use x with
      |true =>
       have HUX := zh hux
       clear hux
       go_wp2_with (go_at_call 50; refine (HU.out x _ ?s1 ?s2).mono ?_; (case s1 => rw [HX.out]; exact mem_arcAt hjl); (case s2 => exact below_alloc HI0.out.low _); rintro e w1 ⟨rfl, hb⟩; rw [HUX.out]; have HB1 := zh hb; clear hb)
       have HI1 := zh ((HI0.out.below (below_alloc (Below.refl _ _) _)).below HB1.out)
       have HV1 := zh (blk_below (heap_alloc_new wr (.cells #[.int .i64 x.f0, .int .i64 x.f1, .int .i64 x.f2, .int .i64 x.f3] 104)) HB1.out)
       have HO1 := zh (Kd.R_lt HI0.out.ar)
       have HB2 := zh (blk_below (blk_alloc HB0.out _) HB1.out)
       generalize wr.heap.size = av at *
       have g3 := HI1.out.cells.2.2.2.1
       have v0 : w1.cell? ⟨av, 0, none⟩ = some (.int .i64 x.f0) := (blk_cell HV1.out 0).trans rfl
       have v1' : w1.cell? ⟨av, 1, none⟩ = some (.int .i64 x.f1) := (blk_cell HV1.out 1).trans rfl
       have v2 : w1.cell? ⟨av, 2, none⟩ = some (.int .i64 x.f2) := (blk_cell HV1.out 2).trans rfl
       have v3 : w1.cell? ⟨av, 3, none⟩ = some (.int .i64 x.f3) := (blk_cell HV1.out 3).trans rfl
       have hen := HN.out.ends j hjl
       rw [← HX.out] at hen
       have hf0 : 0 ≤ x.f0 ∧ x.f0 ≤ 1000 := by omega
       have hf1 : 0 ≤ x.f1 ∧ x.f1 ≤ 1000 := by omega
       have hn8 : (0 : Int) ≤ n ∧ (n : Int) ≤ 1000 := by omega
       have e3 : IntKind.i64.wrap ((a : Int) + x.f3) = (a : Int) + x.f3 := IntWalk.i64_in _ (by omega)
       have hale : 0 ≤ (a : Int) ∧ (a : Int) ≤ 10000 := by omega
       have hale2 : 0 ≤ (a : Int) + x.f3 ∧ (a : Int) + x.f3 ≤ 10000 := by omega
       have HF0 := zh hf0; have HF1 := zh hf1; have HN8 := zh hn8; have HA1 := zh hale; have HA2 := zh hale2
       have HNE : Hid (¬ (av = gg ∨ some av = v1.ownBlock)) := zh (by
        rintro (e9 | e9)
        ·exact blk_ne HV1.out HI1.out.bx (by decide) e9
        ·exact absurd (HO1.out av e9.symm) (by omega))
       have HSL : Hid (s1.le 14000) := zh (by
        have h7 := bM_le l use n h a (bA_le l use keeps n h a) j
        have h8 := HN.out.room hlt
        rw [← HS1.out] at h7
        exact ⟨by have := h7.1; omega, by have := h7.2.1; omega, by have := h7.2.2; omega⟩)
       clear hen hf0 hf1 hn8 hale hale2 y0 y1 y2 y3
       go_region_held3 (fun w' => w'.cell? ⟨gg, 3, none⟩ = some (.map (some B.m)) ∧ w'.cell? ⟨av, 0, none⟩ = some (.int .i64 x.f0) ∧ w'.cell? ⟨av, 1, none⟩ = some (.int .i64 x.f1) ∧ w'.cell? ⟨av, 2, none⟩ = some (.int .i64 x.f2) ∧ w'.cell? ⟨av, 3, none⟩ = some (.int .i64 x.f3)) (first | go_keep | exact HS9.out | exact HS10.out) ((first
        |(go_at_call 63; (with_reducible refine (gat_walk w gg ((M : Int) + 2) n v1 s1.arcs B s1.md _ _ _ ?s1 HN8.out ?s2 ?s3).mono ?_); (case s1 => exact HI1.out.below zD); (case s2 => first | exact HF0.out | exact HF1.out); (case s3 => first | exact HA1.out | exact HA2.out); rintro e w' ⟨rfl, rfl⟩)
        |(go_at_call 62; (with_reducible refine (add_walk w gg ((M : Int) + 2) n v1 s1.arcs B s1.md _ _ _ _ ?s1 ?s2).mono ?_); (case s1 => exact HI1.out.below zD); (case s2 => have := HSL.out.1; omega); rintro e w2 ⟨rfl, v9, hI, hk, hs⟩; have hv9 := blk_kept (show _ from blk_below HV1.out zD) hk HNE.out; have HS9 : Hid (w2.cell? ⟨gg, 3, none⟩ = some (.map (some B.m)) ∧ w2.cell? ⟨av, 0, none⟩ = some (.int .i64 x.f0) ∧ w2.cell? ⟨av, 1, none⟩ = some (.int .i64 x.f1) ∧ w2.cell? ⟨av, 2, none⟩ = some (.int .i64 x.f2) ∧ w2.cell? ⟨av, 3, none⟩ = some (.int .i64 x.f3)) := zh ⟨hI.cells.2.2.2.1, (blk_cell hv9 0).trans rfl, (blk_cell hv9 1).trans rfl, (blk_cell hv9 2).trans rfl, (blk_cell hv9 3).trans rfl⟩; obtain ⟨w3, hrun, hI3, hk3, hs3⟩ := hI.putm (show s1.mv.length ≤ 1000000 by have := HSL.out.2.1; omega) (x := (j : Int)) (y := (a : Int)) (i := (s1.arcs.length : Int)) (by omega) (by omega) (by have := HSL.out.1; omega); have hv10 := blk_kept hv9 hk3 (fun e => mapAs_ne hI.mm hv9 e.symm); have HS10 : Hid (w3.cell? ⟨gg, 3, none⟩ = some (.map (some B.m)) ∧ w3.cell? ⟨av, 0, none⟩ = some (.int .i64 x.f0) ∧ w3.cell? ⟨av, 1, none⟩ = some (.int .i64 x.f1) ∧ w3.cell? ⟨av, 2, none⟩ = some (.int .i64 x.f2) ∧ w3.cell? ⟨av, 3, none⟩ = some (.int .i64 x.f3)) := zh ⟨hI3.cells.2.2.2.1, (blk_cell hv10 0).trans rfl, (blk_cell hv10 1).trans rfl, (blk_cell hv10 2).trans rfl, (blk_cell hv10 3).trans rfl⟩; have HI3 := zh hI3; have HK3 := zh hk3; have HST3 := zh hs3; have HK2 := zh hk; have HST2 := zh hs; have HMM := zh hI.mm; clear hv10 hI3 hk3 hs3 hI hk hs hv9)))
       all_goals
        go_wp2
        go_roundg (l.length - j)
        case measure => omega
        case rel =>
         refine ⟨j + 1, v9, by omega, by go_num, by omega, zh ⟨?_, ?_⟩⟩
         ·have h6 := blk_kept (show _ from blk_below HB2.out zD) HK2.out (fun e9 => e9.elim (fun e8 => blk_ne HB2.out HI1.out.bx (by decide) e8) (fun e8 => Kd.R_ne HI1.out.ar HB2.out (by decide) e8))
          exact blk_kept h6 HK3.out (fun e9 => mapAs_ne HMM.out h6 e9.symm)
         ·have h7 : bM l use n h a (bA l use keeps n h a) (j + 1) = ⟨s1.arcs ++ [⟨(a : Int) * n + x.f0, ((a : Int) + x.f3) * n + x.f1, x.f2, 0⟩], s1.mv ++ [((j : Int), (a : Int), (s1.arcs.length : Int))], s1.wt⟩ := by
           rw [bM, ← HS1.out, ← HX.out, if_pos ⟨htm, HUX.out⟩]
          rw [h7, md_pushm]
          exact HI3.out
      |false =>
       have HUX := zh hux
       clear hux
       go_wp2_with (go_at_call 50; refine (HU.out x _ ?s1 ?s2).mono ?_; (case s1 => rw [HX.out]; exact mem_arcAt hjl); (case s2 => exact below_alloc HI0.out.low _); rintro e w1 ⟨rfl, hb⟩; rw [HUX.out]; have HB1 := zh hb; clear hb)
       go_roundg (l.length - j)
       case measure => omega
       case rel =>
        refine ⟨j + 1, v1, by omega, by go_num, by omega, zh ⟨blk_below (blk_alloc HB0.out _) HB1.out, ?_⟩⟩
        have h7 : bM l use n h a (bA l use keeps n h a) (j + 1) = s1 := by
         rw [bM, ← HS1.out, ← HX.out, if_neg (fun e => by have := HUX.out; rw [e.2] at this; cases this)]
        rw [h7]
        exact (HI0.out.below (below_alloc (Below.refl _ _) _)).below HB1.out
     ·have htd : decide ((a : Int) + x.f3 ≤ (h : Int)) = false := by simpa using htm
      go_wp2
      go_roundg (l.length - j)
      case measure => omega
      case rel =>
       refine ⟨j + 1, v1, by omega, by go_num, by omega, zh ⟨blk_alloc HB0.out _, ?_⟩⟩
       have h7 : bM l use n h a (bA l use keeps n h a) (j + 1) = s1 := by
        rw [bM, ← HS1.out, ← HX.out, if_neg (fun e => by have := e.1; omega)]
       rw [h7]
       exact HI0.out.below (below_alloc (Below.refl _ _) _)
    ·have hj2 : ¬ (j : Int) < (l.length : Int) := by omega
     have e : j = l.length := by omega
     subst e
     have x0 : wr.cell? ⟨w.heap.size, 0, none⟩ = some (.int .i64 n) := (blk_cell HJ.out.1 0).trans rfl
     go_wp2
     go_loopg [83] (n + 1) (fun k iv W => ∃ (u : Nat) (v : Value), u ≤ n ∧ iv = .int .i64 u ∧ k = n + 1 - u ∧ Hid (W.heap[w.heap.size]? = some (.cells #[.int .i64 n, .bool b, .slice A l.length c] 33 (0, 0)) ∧ GrI w gg ((M : Int) + 2) n v (bW keeps n h a (bM l use n h a (bA l use keeps n h a) l.length) u).arcs B (bW keeps n h a (bM l use n h a (bA l use keeps n h a) l.length) u).md W))
     case atStart => exact ⟨0, v1, Nat.zero_le _, rfl, rfl, HJ⟩
     case round =>
      obtain ⟨u, v2, hu9, rfl, rfl, HV⟩ := hrel
      clear HJ x0
      by_cases hul : u < n
      ·have hul2 : (u : Int) < (n : Int) := by omega
       obtain ⟨s2, hs2⟩ : ∃ s2, s2 = bW keeps n h a (bM l use n h a (bA l use keeps n h a) l.length) u := ⟨_, rfl⟩
       have HI0 : Hid (GrI w gg ((M : Int) + 2) n v2 s2.arcs B s2.md wr) := zh (by rw [hs2]; exact HV.out.2)
       have HB0 := zh HV.out.1
       have HS2 := zh hs2
       clear hs2
       by_cases hah : (a : Int) < (h : Int)
       ·have hahd : decide ((a : Int) < (h : Int)) = true := by simpa using hah
        cases hkx : keeps u with
        |true =>
         have HKX := zh hkx
         clear hkx
         go_wp2_with (go_at_call 47; refine (HK.out u _ hul ?s2).mono ?_; (case s2 => exact HI0.out.low); rintro e w1 ⟨rfl, hb⟩; rw [HKX.out]; have HB1 := zh hb; clear hb)
         have HI1 := zh (HI0.out.below HB1.out)
         have HB2 := zh (blk_below HB0.out HB1.out)
         have g4 := HI1.out.cells.2.2.2.2.1
         have hf0 : 0 ≤ (u : Int) ∧ (u : Int) ≤ 1000 := by omega
         have hn8 : (0 : Int) ≤ n ∧ (n : Int) ≤ 1000 := by omega
         have e3 : IntKind.i64.wrap ((a : Int) + 1) = (a : Int) + 1 := IntWalk.i64_in _ (by omega)
         have hale : 0 ≤ (a : Int) ∧ (a : Int) ≤ 10000 := by omega
         have hale2 : 0 ≤ (a : Int) + 1 ∧ (a : Int) + 1 ≤ 10000 := by omega
         have HF0 := zh hf0; have HN8 := zh hn8; have HA1 := zh hale; have HA2 := zh hale2
         have HSL : Hid (s2.le 14000) := zh (by
          have h7 := bW_le keeps n h a (bM_le l use n h a (bA_le l use keeps n h a) l.length) u
          have h8 := HN.out.room hlt
          rw [← HS2.out] at h7
          exact ⟨by have := h7.1; omega, by have := h7.2.1; omega, by have := h7.2.2; omega⟩)
         clear hf0 hn8 hale hale2
         go_region_held3 (fun w' => w'.cell? ⟨gg, 4, none⟩ = some (.map (some B.w))) (first | go_keep | exact HS9.out | exact HS10.out) ((first
          |(go_at_call 63; (with_reducible refine (gat_walk w gg ((M : Int) + 2) n v2 s2.arcs B s2.md _ _ _ ?s1 HN8.out ?s2 ?s3).mono ?_); (case s1 => exact HI1.out.below zD); (case s2 => exact HF0.out); (case s3 => first | exact HA1.out | exact HA2.out); rintro e w' ⟨rfl, rfl⟩)
          |(go_at_call 62; (with_reducible refine (add_walk w gg ((M : Int) + 2) n v2 s2.arcs B s2.md _ _ _ _ ?s1 ?s2).mono ?_); (case s1 => exact HI1.out.below zD); (case s2 => have := HSL.out.1; omega); rintro e w2 ⟨rfl, v9, hI, hk, hs⟩; have HS9 := zh hI.cells.2.2.2.2.1; obtain ⟨w3, hrun, hI3, hk3, hs3⟩ := hI.putw (show s2.wt.length ≤ 1000000 by have := HSL.out.2.2; omega) (x := (u : Int)) (y := (a : Int)) (i := (s2.arcs.length : Int)) (by omega) (by omega) (by have := HSL.out.1; omega); have HS10 := zh hI3.cells.2.2.2.2.1; have HI3 := zh hI3; have HK3 := zh hk3; have HK2 := zh hk; have HMM := zh hI.mw; clear hI3 hk3 hs3 hI hk hs)))
         all_goals
          go_wp2
          go_roundg (n - u)
          case measure => omega
          case rel =>
           refine ⟨u + 1, v9, by omega, by go_num, by omega, zh ⟨?_, ?_⟩⟩
           ·have h6 := blk_kept (show _ from blk_below HB2.out zD) HK2.out (fun e9 => e9.elim (fun e8 => blk_ne HB2.out HI1.out.bx (by decide) e8) (fun e8 => Kd.R_ne HI1.out.ar HB2.out (by decide) e8))
            exact blk_kept h6 HK3.out (fun e9 => mapAs_ne HMM.out h6 e9.symm)
           ·have h7 : bW keeps n h a (bM l use n h a (bA l use keeps n h a) l.length) (u + 1) = ⟨s2.arcs ++ [⟨(a : Int) * n + u, ((a : Int) + 1) * n + u, 1099511627776, 0⟩], s2.mv, s2.wt ++ [((u : Int), (a : Int), (s2.arcs.length : Int))]⟩ := by
             rw [bW, ← HS2.out, if_pos ⟨hah, HKX.out⟩]
            rw [h7, md_pushw]
            exact HI3.out
        |false =>
         have HKX := zh hkx
         clear hkx
         go_wp2_with (go_at_call 47; refine (HK.out u _ hul ?s2).mono ?_; (case s2 => exact HI0.out.low); rintro e w1 ⟨rfl, hb⟩; rw [HKX.out]; have HB1 := zh hb; clear hb)
         go_roundg (n - u)
         case measure => omega
         case rel =>
          refine ⟨u + 1, v2, by omega, by go_num, by omega, zh ⟨blk_below HB0.out HB1.out, ?_⟩⟩
          have h7 : bW keeps n h a (bM l use n h a (bA l use keeps n h a) l.length) (u + 1) = s2 := by
           rw [bW, ← HS2.out, if_neg (fun e => by have := HKX.out; rw [e.2] at this; cases this)]
          rw [h7]
          exact HI0.out.below HB1.out
       ·have hahd : decide ((a : Int) < (h : Int)) = false := by simpa using hah
        go_wp2
        go_roundg (n - u)
        case measure => omega
        case rel =>
         refine ⟨u + 1, v2, by omega, by go_num, by omega, zh ⟨HB0.out, ?_⟩⟩
         have h7 : bW keeps n h a (bM l use n h a (bA l use keeps n h a) l.length) (u + 1) = s2 := by
          rw [bW, ← HS2.out, if_neg (fun e => by have := e.1; omega)]
         rw [h7]
         exact HI0.out
      ·have hul2 : ¬ (u : Int) < (n : Int) := by omega
       have e : u = n := by omega
       subst e
       go_wp2
       go_roundg (h + 1 - a)
       case measure => omega
       case rel => exact ⟨a + 1, v2, by omega, by go_num, by omega, HV⟩
  ·have hlt2 : ¬ (a : Int) < (h : Int) + 1 := by omega
   have e : a = h + 1 := by omega
   subst e
   go_wp2
   go_ret
   exact ⟨gg, rfl, v, B, HI.out.2⟩
end Go.Proofs.YtcgdloldkcmhnaaGreat.H
end
section
namespace Go.Proofs.YtcgdloldkcmhnaaGreat.PrintE
open Go.Proofs.YtcgdloldkcmhnaaGreat.PrintC Go.RowKit Go.Proofs.YtcgdloldkcmhnaaGreat.H Go.Proofs.YtcgdloldkcmhnaaGreatW.PrintWords Go.Proofs.YtcgdloldkcmhnaaGreatW.PrintLast Go.Proofs.YtcgdloldkcmhnaaGreatW.PrintMore
attribute [local go_sem] max2_int min2_int max_two min_two max_three min_three max_four min_four
set_option linter.unusedVariables false
set_option linter.unusedSimpArgs false
structure S59 where
 f0 : Int
 f1 : Int
def z59 : S59 := ⟨(0 : Int), (0 : Int)⟩
def k59 : Kd S59 := Kd.iso (Kd.pair (Kd.int .i64) (Kd.int .i64)) (fun x : S59 => (x.f0, x.f1))
theorem k59_open {w : World} {x : S59} {cs : List Value} (h : k59.K w x cs) : cs = [.int .i64 x.f0, .int .i64 x.f1] := by
 obtain ⟨_, _, rfl, rfl, rfl⟩ := h
 exact rfl
theorem k59_mk (w : World) (x : S59)  : k59.K w x [.int .i64 x.f0, .int .i64 x.f1] := ⟨[.int .i64 x.f0], [.int .i64 x.f1], rfl, rfl, rfl⟩
theorem k59_mkM (w : World) (base : Nat) (ok : Nat → Prop) (x : S59)  : k59.M w base ok x [.int .i64 x.f0, .int .i64 x.f1] := ⟨[.int .i64 x.f0], [.int .i64 x.f1], rfl, rfl, rfl⟩
def rd_T59 (xs : List S59) (i : Int) : S59 := xs.getD i.toNat z59
theorem at_T59 {w : World} {A : Option Addr} {n : Nat} {xs : List S59} (h : Kd.C k59 w A n xs) (i : Int) (h0 : 0 ≤ i) (h1 : i < n) : ∃ ad , A = some ad ∧ w.cell? (ad.add (i.toNat * 2)) = some (.int .i64 (rd_T59 xs i).f0) ∧ w.cell? ⟨(ad.add (i.toNat * 2)).block, (ad.add (i.toNat * 2)).off + 1, none⟩ = some (.int .i64 (rd_T59 xs i).f1) := by
 obtain ⟨ad, c, e, _, hK, hc0⟩ := Kd.C_get h z59 i h0 h1
 have hc : ∀ j u, c[j]? = some u → w.cell? (ad.add (i.toNat * 2 + j)) = some u := hc0
 obtain rfl := k59_open hK
 exact ⟨ad, e, hc 0 _ rfl, by rw [← add_field _ _ 1 (by omega)]; exact hc 1 _ rfl⟩
structure S110 where
 f0 : Int
 f1 : Int
def z110 : S110 := ⟨(0 : Int), (0 : Int)⟩
def k110 : Kd S110 := Kd.iso (Kd.pair (Kd.int .i64) (Kd.int .i64)) (fun x : S110 => (x.f0, x.f1))
theorem k110_open {w : World} {x : S110} {cs : List Value} (h : k110.K w x cs) : cs = [.int .i64 x.f0, .int .i64 x.f1] := by
 obtain ⟨_, _, rfl, rfl, rfl⟩ := h
 exact rfl
theorem k110_mk (w : World) (x : S110)  : k110.K w x [.int .i64 x.f0, .int .i64 x.f1] := ⟨[.int .i64 x.f0], [.int .i64 x.f1], rfl, rfl, rfl⟩
theorem k110_mkM (w : World) (base : Nat) (ok : Nat → Prop) (x : S110)  : k110.M w base ok x [.int .i64 x.f0, .int .i64 x.f1] := ⟨[.int .i64 x.f0], [.int .i64 x.f1], rfl, rfl, rfl⟩
def rd_T110 (xs : List S110) (i : Int) : S110 := xs.getD i.toNat z110
theorem at_T110 {w : World} {A : Option Addr} {n : Nat} {xs : List S110} (h : Kd.C k110 w A n xs) (i : Int) (h0 : 0 ≤ i) (h1 : i < n) : ∃ ad , A = some ad ∧ w.cell? (ad.add (i.toNat * 2)) = some (.int .i64 (rd_T110 xs i).f0) ∧ w.cell? ⟨(ad.add (i.toNat * 2)).block, (ad.add (i.toNat * 2)).off + 1, none⟩ = some (.int .i64 (rd_T110 xs i).f1) := by
 obtain ⟨ad, c, e, _, hK, hc0⟩ := Kd.C_get h z110 i h0 h1
 have hc : ∀ j u, c[j]? = some u → w.cell? (ad.add (i.toNat * 2 + j)) = some u := hc0
 obtain rfl := k110_open hK
 exact ⟨ad, e, hc 0 _ rfl, by rw [← add_field _ _ 1 (by omega)]; exact hc 1 _ rfl⟩
structure S76 where
 f0 : Int
 f1 : Int
 f2 : Int
def z76 : S76 := ⟨(0 : Int), (0 : Int), (0 : Int)⟩
def k76 : Kd S76 := Kd.iso (Kd.pair (Kd.int .i64) (Kd.pair (Kd.int .i64) (Kd.int .i64))) (fun x : S76 => (x.f0, x.f1, x.f2))
theorem k76_open {w : World} {x : S76} {cs : List Value} (h : k76.K w x cs) : cs = [.int .i64 x.f0, .int .i64 x.f1, .int .i64 x.f2] := by
 obtain ⟨_, _, rfl, rfl, ⟨_, _, rfl, rfl, rfl⟩⟩ := h
 exact rfl
theorem k76_openM {w : World} {base : Nat} {ok : Nat → Prop} {x : S76} {cs : List Value} (h : k76.M w base ok x cs) : cs = [.int .i64 x.f0, .int .i64 x.f1, .int .i64 x.f2] := by
 obtain ⟨_, _, rfl, rfl, ⟨_, _, rfl, rfl, rfl⟩⟩ := h
 exact rfl
theorem k76_mk (w : World) (x : S76)  : k76.K w x [.int .i64 x.f0, .int .i64 x.f1, .int .i64 x.f2] := ⟨[.int .i64 x.f0], [.int .i64 x.f1, .int .i64 x.f2], rfl, rfl, ⟨[.int .i64 x.f1], [.int .i64 x.f2], rfl, rfl, rfl⟩⟩
theorem k76_mkM (w : World) (base : Nat) (ok : Nat → Prop) (x : S76)  : k76.M w base ok x [.int .i64 x.f0, .int .i64 x.f1, .int .i64 x.f2] := ⟨[.int .i64 x.f0], [.int .i64 x.f1, .int .i64 x.f2], rfl, rfl, ⟨[.int .i64 x.f1], [.int .i64 x.f2], rfl, rfl, rfl⟩⟩
def rd_T76 (xs : List S76) (i : Int) : S76 := xs.getD i.toNat z76
theorem at_T76 {w : World} {A : Option Addr} {n : Nat} {xs : List S76} (h : Kd.C k76 w A n xs) (i : Int) (h0 : 0 ≤ i) (h1 : i < n) : ∃ ad , A = some ad ∧ w.cell? (ad.add (i.toNat * 3)) = some (.int .i64 (rd_T76 xs i).f0) ∧ w.cell? ⟨(ad.add (i.toNat * 3)).block, (ad.add (i.toNat * 3)).off + 1, none⟩ = some (.int .i64 (rd_T76 xs i).f1) ∧ w.cell? ⟨(ad.add (i.toNat * 3)).block, (ad.add (i.toNat * 3)).off + 2, none⟩ = some (.int .i64 (rd_T76 xs i).f2) := by
 obtain ⟨ad, c, e, _, hK, hc0⟩ := Kd.C_get h z76 i h0 h1
 have hc : ∀ j u, c[j]? = some u → w.cell? (ad.add (i.toNat * 3 + j)) = some u := hc0
 obtain rfl := k76_open hK
 exact ⟨ad, e, hc 0 _ rfl, by rw [← add_field _ _ 1 (by omega)]; exact hc 1 _ rfl, by rw [← add_field _ _ 2 (by omega)]; exact hc 2 _ rfl⟩
end Go.Proofs.YtcgdloldkcmhnaaGreat.PrintE
end
section
namespace Go.Proofs.YtcgdloldkcmhnaaGreat.H
open Go Go.RowKit Go.Proofs.YtcgdloldkcmhnaaGreat.PrintC Go.Proofs.YtcgdloldkcmhnaaGreat.PrintE Go.Proofs.YtcgdloldkcmhnaaGreatW.PrintWords Go.Proofs.YtcgdloldkcmhnaaGreatW.PrintLast Go.Proofs.YtcgdloldkcmhnaaGreatW.PrintMore Go.Proofs.YtcgdloldkcmhnaaGreat.Flow
set_option linter.unusedVariables false
set_option linter.unusedSimpArgs false
abbrev Grp := S59
abbrev kGrp := k59
def placeCells (n : Int) (b : Bool) (A : Option Addr) (ll c : Nat) (Ap : Option Addr) (lp cp : Nat) (Aq : Option Addr) (lq cq : Nat) (bh br : Nat) : Array Value :=
 #[.int .i64 n, .bool b, .slice A ll c, .slice Ap lp cp, .slice Aq lq cq, .map (some bh), .map (some br)]
structure PlI (gp : Nat) (xs : Array Value) (bh br : Nat) (kh kr : Nat) (Dh Dr : DataW Unit) (W : World) : Prop where
 bx : W.heap[gp]? = some (.cells xs 115 (0, 0))
 mh : MapAs W 3 bh kh Dh
 mr : MapAs W 3 br kr Dr
 ne : bh ≠ br
section
variable {gp : Nat} {xs : Array Value} {bh br kh kr : Nat} {Dh Dr : DataW Unit} {W W1 : World}
theorem PlI.below (h : PlI gp xs bh br kh kr Dh Dr W) (hb : Below W.heap.size W W1) : PlI gp xs bh br kh kr Dh Dr W1 :=
 ⟨blk_below h.bx hb, mapAs_eq h.mh (hb.block _ h.mh.lt), mapAs_eq h.mr (hb.block _ h.mr.lt), h.ne⟩
end
def hasK (D : DataW Unit) (v : Int) : Bool := Maps.has D (.int .i64 v)
theorem look_int {W : World} {b k : Nat} {D : DataW Unit} (h : MapAs W 3 b k D) {v : Int} (hv : (Lit.int .i64 v).wf = true) :
  ∃ c : Int, (Instr.lookup 113 (.map (some b)) (.int .i64 v) true).run Tryz.prog W = .ok (.tuple #[.int .i64 c, .bool (hasK D v)]) W := by
 obtain ⟨u, ps, hrun, hR⟩ := h.look_ok intLaw Tryz.underlying113 (int_zero W) (plainElem_int Tryz.underlying3 (by decide)) (Maps.keyOf_int_mk Tryz.underlying3 hv)
 obtain ⟨c, rfl, _⟩ := plainElem_int_inv Tryz.underlying3 hR
 exact ⟨c, hrun⟩
theorem look_always {W0 : World} {b k : Nat} {D : DataW Unit} (h : MapAs W0 3 b k D) {v : Int} (hv : (Lit.int .i64 v).wf = true) :
  ∃ c : Int, ∀ W, Below W0.heap.size W0 W → (Instr.lookup 113 (.map (some b)) (.int .i64 v) true).run Tryz.prog W = .ok (.tuple #[.int .i64 c, .bool (hasK D v)]) W := by
 obtain ⟨q, hq⟩ : ∃ q : Int, D.atKey (.int .i64 v) (.lit (.int .i64 0)) = .lit (.int .i64 q) := by
  obtain ⟨u, ps, hrun, hR⟩ := h.look_ok intLaw Tryz.underlying113 (int_zero W0) (plainElem_int Tryz.underlying3 (by decide)) (Maps.keyOf_int_mk Tryz.underlying3 hv)
  obtain ⟨c, rfl, hc, _⟩ := plainElem_int_inv Tryz.underlying3 hR
  simp only [Prod.mk.injEq] at hc
  exact ⟨c, hc.1⟩
 refine ⟨q, fun W hb => ?_⟩
 obtain ⟨u, ps, hrun, hR⟩ := (mapAs_eq h (hb.block _ h.lt)).look_ok intLaw Tryz.underlying113 (int_zero W) (plainElem_int Tryz.underlying3 (by decide)) (Maps.keyOf_int_mk Tryz.underlying3 hv)
 obtain ⟨c, rfl, hc, _⟩ := plainElem_int_inv Tryz.underlying3 hR
 simp only [Prod.mk.injEq] at hc
 rw [hq] at hc
 rw [(Lit.int.inj (DataW.lit.inj hc.1)).2]
 exact hrun
set_option maxHeartbeats 1000000 in
theorem own_walk (gp : Nat) (n : Int) (b : Bool) (A : Option Addr) (ll c : Nat) (Ap : Option Addr) (lp cp : Nat) (Aq : Option Addr) (lq cq : Nat) (bh br kh kr : Nat) (Dh Dr : DataW Unit) (v : Int) (w : World) (h : PlI gp (placeCells n b A ll c Ap lp cp Aq lq cq bh br) bh br kh kr Dh Dr w) (hv : (Lit.int .i64 v).wf = true) :
  Calls Tryz.prog 79 #[.pointer (some ⟨gp, 0, none⟩), .int .i64 v] w fun e w' => e = .returned (.bool (hasK Dh v || hasK Dr v)) ∧ w' = w := by
 have x5 : w.cell? ⟨gp, 5, none⟩ = some (.map (some bh)) := (blk_cell h.bx 5).trans rfl
 have x6 : w.cell? ⟨gp, 6, none⟩ = some (.map (some br)) := (blk_cell h.bx 6).trans rfl
 obtain ⟨c1, h1⟩ := look_int h.mh hv
 obtain ⟨c2, h2⟩ := look_int h.mr hv
 have hu := Tryz.underlying115
 clear h
 cases ha : hasK Dh v <;> cases hb : hasK Dr v <;> rw [ha] at h1 <;> rw [hb] at h2 <;> clear ha hb
 all_goals
  go_enter Tryz.func79, Tryz.ntmps79
  go_wp2
  go_ret
  exact ⟨rfl, rfl⟩
set_option maxHeartbeats 1000000 in
theorem use_walk (gp : Nat) (n : Int) (b : Bool) (A : Option Addr) (ll c : Nat) (Ap : Option Addr) (lp cp : Nat) (Aq : Option Addr) (lq cq : Nat) (bh br kh kr : Nat) (Dh Dr : DataW Unit) (x : Arc) (w : World) (h : PlI gp (placeCells n b A ll c Ap lp cp Aq lq cq bh br) bh br kh kr Dh Dr w) (hv : (Lit.int .i64 x.f0).wf = true) :
  Calls Tryz.prog 50 #[.pointer (some ⟨gp, 0, none⟩), .agg #[.int .i64 x.f0, .int .i64 x.f1, .int .i64 x.f2, .int .i64 x.f3]] w fun e w' => e = .returned (.bool (!hasK Dr x.f0)) ∧ Below w.heap.size w w' := by
 have HI := zh h
 have HV := zh hv
 have x6 : w.cell? ⟨gp, 6, none⟩ = some (.map (some br)) := (blk_cell h.bx 6).trans rfl
 have hu := Tryz.underlying115
 have hu2 := Tryz.underlying104
 clear h hv
 obtain ⟨hr, hhr⟩ : ∃ hr, hr = hasK Dr x.f0 := ⟨_, rfl⟩
 obtain ⟨c2, h2⟩ : ∃ c2 : Int, ∀ W, Below w.heap.size w W → (Instr.lookup 113 (.map (some br)) (.int .i64 x.f0) true).run Tryz.prog W = .ok (.tuple #[.int .i64 c2, .bool hr]) W := by
  rw [hhr]
  exact look_always HI.out.mr HV.out
 rw [← hhr]
 clear hhr
 have H2 := zh h2
 clear h2
 go_enter Tryz.func50, Tryz.ntmps50
 go_wp2
 have y0 : (w.alloc (.cells #[.int .i64 x.f0, .int .i64 x.f1, .int .i64 x.f2, .int .i64 x.f3] 104)).cell? ⟨w.heap.size, 0, none⟩ = some (.int .i64 x.f0) := (blk_cell (heap_alloc_new _ _) 0).trans rfl
 have z0 := H2.out (w.alloc (.cells #[.int .i64 x.f0, .int .i64 x.f1, .int .i64 x.f2, .int .i64 x.f3] 104)) (by repeat (first | (with_reducible exact Below.refl _ _) | apply below_drew | apply below_alloc))
 have y6 : (w.alloc (.cells #[.int .i64 x.f0, .int .i64 x.f1, .int .i64 x.f2, .int .i64 x.f3] 104)).cell? ⟨gp, 6, none⟩ = some (.map (some br)) := pw_cell_below (below_alloc (Below.refl _ _) _) x6
 go_region_held3 (fun w' => w'.cell? ⟨gp, 6, none⟩ = some (.map (some br)) ∧ w'.cell? ⟨w.heap.size, 0, none⟩ = some (.int .i64 x.f0) ∧ (Instr.lookup 113 (.map (some br)) (.int .i64 x.f0) true).run Tryz.prog w' = .ok (.tuple #[.int .i64 c2, .bool hr]) w') (first | exact ⟨y6, y0, H2.out _ (below_drew (below_alloc (Below.refl _ _) _))⟩ | exact ⟨y6, y0, H2.out _ (below_alloc (Below.refl _ _) _)⟩ | go_keep) (fail)
 all_goals
  go_wp2
  go_ret
  exact ⟨rfl, below_drew (below_alloc (Below.refl _ _) _)⟩
set_option maxHeartbeats 1000000 in
theorem keeps_walk (gp : Nat) (n : Int) (b : Bool) (A : Option Addr) (ll c : Nat) (Ap : Option Addr) (lp cp : Nat) (Aq : Option Addr) (lq cq : Nat) (bh br kh kr : Nat) (Dh Dr : DataW Unit) (v : Int) (w : World) (h : PlI gp (placeCells n b A ll c Ap lp cp Aq lq cq bh br) bh br kh kr Dh Dr w) (hv : (Lit.int .i64 v).wf = true) :
  Calls Tryz.prog 47 #[.pointer (some ⟨gp, 0, none⟩), .int .i64 v] w fun e w' => e = .returned (.bool (b || (hasK Dh v || hasK Dr v))) ∧ w' = w := by
 have x1 : w.cell? ⟨gp, 1, none⟩ = some (.bool b) := (blk_cell h.bx 1).trans rfl
 have hu := Tryz.underlying115
 have HI := zh h
 have HV := zh hv
 clear h hv
 cases b with
 |true =>
  go_enter Tryz.func47, Tryz.ntmps47
  go_wp2
  go_ret
  exact ⟨rfl, rfl⟩
 |false =>
  go_enter Tryz.func47, Tryz.ntmps47
  go_wp2_with (go_at_call 79; (with_reducible refine (own_walk gp n false A ll c Ap lp cp Aq lq cq bh br kh kr Dh Dr v _ HI.out HV.out).mono ?_); rintro e w' ⟨rfl, rfl⟩)
  go_ret
  exact ⟨by simp, rfl⟩
section
variable {gp : Nat} {xs : Array Value} {bh br kh kr : Nat} {Dh Dr : DataW Unit} {W W1 : World}
theorem PlI.puth (h : PlI gp xs bh br kh kr Dh Dr W) {D : DataW Unit} (hm : MapAs W1 3 bh (kh + 1) D) (h3 : W.grownBy W1 (some bh)) : PlI gp xs bh br (kh + 1) kr D Dr W1 ∧ Kept W W1 (fun k => k = bh) ∧ Stay W W1 := by
 have hne : ∀ {g : Nat}, g ≠ bh → g < W.heap.size → W1.heap[g]? = W.heap[g]? := fun {g} hg hlt => h3.block g hlt (fun e => hg (by injection e))
 exact ⟨⟨(hne (mapAs_ne h.mh h.bx).symm (blk_lt h.bx)).trans h.bx, hm, mapAs_eq h.mr (hne h.ne.symm h.mr.lt), h.ne⟩, ⟨h3.size, fun k hk hn => h3.block k hk (fun e => hn (by injection e))⟩, h3.os, h3.tape, h3.output⟩
theorem PlI.putr (h : PlI gp xs bh br kh kr Dh Dr W) {D : DataW Unit} (hm : MapAs W1 3 br (kr + 1) D) (h3 : W.grownBy W1 (some br)) : PlI gp xs bh br kh (kr + 1) Dh D W1 ∧ Kept W W1 (fun k => k = br) ∧ Stay W W1 := by
 have hne : ∀ {g : Nat}, g ≠ br → g < W.heap.size → W1.heap[g]? = W.heap[g]? := fun {g} hg hlt => h3.block g hlt (fun e => hg (by injection e))
 exact ⟨⟨(hne (mapAs_ne h.mr h.bx).symm (blk_lt h.bx)).trans h.bx, mapAs_eq h.mh (hne h.ne h.mh.lt), hm, h.ne⟩, ⟨h3.size, fun k hk hn => h3.block k hk (fun e => hn (by injection e))⟩, h3.os, h3.tape, h3.output⟩
theorem grown_kept {w W W1 : World} {b : Nat} (h : Kept w W (fun k => k = b)) (hs : Stay w W) (h3 : W.grownBy W1 (some b)) : Kept w W1 (fun k => k = b) ∧ Stay w W1 :=
 ⟨Kept.of_grown h3 h (fun k e => .inl (by injection e with e; exact e.symm)), hs.then_ ⟨h3.os, h3.tape, h3.output⟩⟩
end
def takeC (n : Int) (Dh Dr : DataW Unit) (g : Grp) : Int :=
 if g.f0 < 0 ∨ n ≤ g.f0 ∨ g.f1 < 0 ∨ hasK Dh g.f0 = true ∨ hasK Dr g.f0 = true then 210 else if 1048576 < g.f1 then 2 else 0
def TookH (gp : Nat) (xs : Array Value) (bh br kh kr : Nat) (Dh Dr : DataW Unit) (n : Int) (g : Grp) (w : World) (e : Ending) (w' : World) : Prop :=
 e = .returned (.int .i64 (takeC n Dh Dr g)) ∧ (takeC n Dh Dr g = 0 → PlI gp xs bh br (kh + 1) kr (Dh.put (.int .i64 g.f0) (.lit (.int .i64 g.f1))) Dr w') ∧ Kept w w' (fun k => k = bh) ∧ Stay w w'
def TookR (gp : Nat) (xs : Array Value) (bh br kh kr : Nat) (Dh Dr : DataW Unit) (n : Int) (g : Grp) (w : World) (e : Ending) (w' : World) : Prop :=
 e = .returned (.int .i64 (takeC n Dh Dr g)) ∧ (takeC n Dh Dr g = 0 → PlI gp xs bh br kh (kr + 1) Dh (Dr.put (.int .i64 g.f0) (.lit (.int .i64 g.f1))) w') ∧ Kept w w' (fun k => k = br) ∧ Stay w w'
theorem takeC_bad {n : Int} {Dh Dr : DataW Unit} {g : Grp} {b1 b2 b3 b4 b5 : Bool} (e1 : decide (g.f0 < 0) = b1) (e2 : decide (n ≤ g.f0) = b2) (e3 : decide (g.f1 < 0) = b3) (e4 : b4 = hasK Dh g.f0) (e5 : b5 = hasK Dr g.f0) (hb : (b1 || b2 || b3 || b4 || b5) = true) : takeC n Dh Dr g = 210 := by
 unfold takeC
 refine if_pos ?_
 rw [← e4, ← e5]
 subst e1 e2 e3
 simp only [Bool.or_eq_true, decide_eq_true_eq] at hb
 rcases hb with (((h | h) | h) | h) | h
 ·exact .inl h
 ·exact .inr (.inl h)
 ·exact .inr (.inr (.inl h))
 ·exact .inr (.inr (.inr (.inl h)))
 ·exact .inr (.inr (.inr (.inr h)))
theorem takeC_good {n : Int} {Dh Dr : DataW Unit} {g : Grp} (e1 : decide (g.f0 < 0) = false) (e2 : decide (n ≤ g.f0) = false) (e3 : decide (g.f1 < 0) = false) (e4 : false = hasK Dh g.f0) (e5 : false = hasK Dr g.f0) : takeC n Dh Dr g = if 1048576 < g.f1 then 2 else 0 := by
 unfold takeC
 refine if_neg ?_
 rw [← e4, ← e5]
 simp only [decide_eq_false_iff_not] at e1 e2 e3
 rintro (h | h | h | h | h)
 ·exact e1 h
 ·exact e2 h
 ·exact e3 h
 ·cases h
 ·cases h
set_option maxHeartbeats 4000000 in
set_option maxRecDepth 100000 in
theorem takeh_walk (gp : Nat) (n : Int) (b : Bool) (A : Option Addr) (ll c : Nat) (Ap : Option Addr) (lp cp : Nat) (Aq : Option Addr) (lq cq : Nat) (bh br kh kr : Nat) (Dh Dr : DataW Unit) (g : Grp) (w : World) (h : PlI gp (placeCells n b A ll c Ap lp cp Aq lq cq bh br) bh br kh kr Dh Dr w) (hk : kh ≤ 1000000) (hv : (Lit.int .i64 g.f0).wf = true) (hv2 : (Lit.int .i64 g.f1).wf = true) :
  Calls Tryz.prog 83 #[.pointer (some ⟨gp, 0, none⟩), .agg #[.int .i64 g.f0, .int .i64 g.f1], .map (some bh)] w (TookH gp (placeCells n b A ll c Ap lp cp Aq lq cq bh br) bh br kh kr Dh Dr n g w) := by
 have HI := zh h
 have HV := zh hv
 have HV2 := zh hv2
 have HK := zh hk
 have x0 : w.cell? ⟨gp, 0, none⟩ = some (.int .i64 n) := (blk_cell h.bx 0).trans rfl
 have x5 : w.cell? ⟨gp, 5, none⟩ = some (.map (some bh)) := (blk_cell h.bx 5).trans rfl
 have x6 : w.cell? ⟨gp, 6, none⟩ = some (.map (some br)) := (blk_cell h.bx 6).trans rfl
 have hu := Tryz.underlying115
 have hu2 := Tryz.underlying59
 have hu3 := Tryz.underlying33
 clear h hv hv2 hk
 obtain ⟨ha, hha⟩ : ∃ ha, ha = hasK Dh g.f0 := ⟨_, rfl⟩
 obtain ⟨hr, hhr⟩ : ∃ hr, hr = hasK Dr g.f0 := ⟨_, rfl⟩
 obtain ⟨c1, h1⟩ : ∃ c1 : Int, ∀ W, Below w.heap.size w W → (Instr.lookup 113 (.map (some bh)) (.int .i64 g.f0) true).run Tryz.prog W = .ok (.tuple #[.int .i64 c1, .bool ha]) W := by
  rw [hha]
  exact look_always HI.out.mh HV.out
 obtain ⟨c2, h2⟩ : ∃ c2 : Int, ∀ W, Below w.heap.size w W → (Instr.lookup 113 (.map (some br)) (.int .i64 g.f0) true).run Tryz.prog W = .ok (.tuple #[.int .i64 c2, .bool hr]) W := by
  rw [hhr]
  exact look_always HI.out.mr HV.out
 have H1 := zh h1
 have H2 := zh h2
 have HHA := zh hha
 have HHR := zh hhr
 clear h1 h2 hha hhr
 go_enter Tryz.func83, Tryz.ntmps83
 go_wp2
 have HB0 := zh (below_alloc (Below.refl w.heap.size w) (.cells #[.int .i64 g.f0, .int .i64 g.f1] 59))
 have HG0 := zh (heap_alloc_new w (.cells #[.int .i64 g.f0, .int .i64 g.f1] 59))
 obtain ⟨W0, hW0⟩ : ∃ W0, W0 = w.alloc (.cells #[.int .i64 g.f0, .int .i64 g.f1] 59) := ⟨_, rfl⟩
 rw [← hW0] at HB0 HG0 ⊢
 clear hW0
 have y0 : W0.cell? ⟨w.heap.size, 0, none⟩ = some (.int .i64 g.f0) := (blk_cell HG0.out 0).trans rfl
 have y1 : W0.cell? ⟨w.heap.size, 1, none⟩ = some (.int .i64 g.f1) := (blk_cell HG0.out 1).trans rfl
 have z0 : W0.cell? ⟨gp, 0, none⟩ = some (.int .i64 n) := pw_cell_below HB0.out x0
 have z5 : W0.cell? ⟨gp, 5, none⟩ = some (.map (some bh)) := pw_cell_below HB0.out x5
 have z6 : W0.cell? ⟨gp, 6, none⟩ = some (.map (some br)) := pw_cell_below HB0.out x6
 clear x0 x5 x6
 go_region_held3 (fun w' => w'.cell? ⟨gp, 5, none⟩ = some (.map (some bh)) ∧ w'.cell? ⟨w.heap.size, 0, none⟩ = some (.int .i64 g.f0) ∧ (Instr.lookup 113 (.map (some bh)) (.int .i64 g.f0) true).run Tryz.prog w' = .ok (.tuple #[.int .i64 c1, .bool ha]) w') (first | exact ⟨z5, y0, H1.out _ (below_drew HB0.out)⟩ | exact ⟨z5, y0, H1.out _ HB0.out⟩ | go_keep) (fail)
 go_wp2
 go_region_held3 (fun w' => w'.cell? ⟨gp, 6, none⟩ = some (.map (some br)) ∧ w'.cell? ⟨w.heap.size, 0, none⟩ = some (.int .i64 g.f0) ∧ (Instr.lookup 113 (.map (some br)) (.int .i64 g.f0) true).run Tryz.prog w' = .ok (.tuple #[.int .i64 c2, .bool hr]) w') (first | exact ⟨z6, y0, H2.out _ (below_drew (below_drew HB0.out))⟩ | exact ⟨z6, y0, H2.out _ (below_drew HB0.out)⟩ | go_keep) (fail)
 go_wp2
 have hb2 : Below w.heap.size w W0.drew.drew := below_drew (below_drew HB0.out)
 have HB2 := zh hb2
 have v0 : W0.drew.drew.cell? ⟨w.heap.size, 0, none⟩ = some (.int .i64 g.f0) := y0
 have v1 : W0.drew.drew.cell? ⟨w.heap.size, 1, none⟩ = some (.int .i64 g.f1) := y1
 have v2 : W0.drew.drew.cell? ⟨gp, 0, none⟩ = some (.int .i64 n) := z0
 clear hb2 y0 y1 z0 z5 z6 HG0 HB0
 generalize W0.drew.drew = W2 at HB2 v0 v1 v2 ⊢
 have HI2 := zh (HI.out.below HB2.out)
 have HBK : Hid (∀ m, Kept w (W2.drewN m) (fun k => k = bh) ∧ Stay w (W2.drewN m)) := zh (fun m => ⟨Kept.of_below (pw_below_drewN HB2.out m) _, Stay.of_below (pw_below_drewN HB2.out m)⟩)
 clear HB2
 cases hd1 : decide (g.f0 < 0) <;> cases hd2 : decide (n ≤ g.f0) <;> cases hd3 : decide (g.f1 < 0) <;> cases ha <;> cases hr
 all_goals
  go_quiet (fail)
  go_wp2_with (at_mapUpdate; refine wpList_mapUpdate_own _ rfl _ _ _ 113 rfl 3 3 intLaw Tryz.underlying113 _ bh kh Dh rfl ((HI2.out.below (pw_below_drewN (Below.refl _ _) _)).mh) (by have := HK.out; unfold maxLen; omega) _ _ (.int .i64 g.f0) rfl rfl (Maps.keyOf_int_mk Tryz.underlying3 HV.out) _ [] (plainElem_int Tryz.underlying3 HV2.out) ?_; intro w9 hown hgrow; have HO9 := zh hown; have HG9 := zh hgrow; clear hown hgrow)
 all_goals first
  |(go_ret; exact ⟨congrArg (fun z => Ending.returned (.int .i64 z)) (takeC_bad hd1 hd2 hd3 HHA.out HHR.out rfl).symm, fun e => absurd ((takeC_bad hd1 hd2 hd3 HHA.out HHR.out rfl).symm.trans e) (by decide), HBK.out _⟩)
  |skip
 ·have hgt : 1048576 < g.f1 := by assumption
  have hc : takeC n Dh Dr g = 2 := by rw [takeC_good hd1 hd2 hd3 HHA.out HHR.out, if_pos hgt]
  go_ret
  exact ⟨congrArg (fun z => Ending.returned (.int .i64 z)) hc.symm, fun e => absurd (hc.symm.trans e) (by decide), HBK.out _⟩
 ·have hgt : g.f1 ≤ 1048576 := by assumption
  have hc : takeC n Dh Dr g = 0 := by rw [takeC_good hd1 hd2 hd3 HHA.out HHR.out, if_neg (by omega)]
  go_ret
  exact ⟨congrArg (fun z => Ending.returned (.int .i64 z)) hc.symm, fun _ => ((HI2.out.below (pw_below_drewN (Below.refl _ _) _)).puth HO9.out HG9.out).1, grown_kept (HBK.out _).1 (HBK.out _).2 HG9.out⟩
set_option maxHeartbeats 4000000 in
set_option maxRecDepth 100000 in
theorem taker_walk (gp : Nat) (n : Int) (b : Bool) (A : Option Addr) (ll c : Nat) (Ap : Option Addr) (lp cp : Nat) (Aq : Option Addr) (lq cq : Nat) (bh br kh kr : Nat) (Dh Dr : DataW Unit) (g : Grp) (w : World) (h : PlI gp (placeCells n b A ll c Ap lp cp Aq lq cq bh br) bh br kh kr Dh Dr w) (hk : kr ≤ 1000000) (hv : (Lit.int .i64 g.f0).wf = true) (hv2 : (Lit.int .i64 g.f1).wf = true) :
  Calls Tryz.prog 83 #[.pointer (some ⟨gp, 0, none⟩), .agg #[.int .i64 g.f0, .int .i64 g.f1], .map (some br)] w (TookR gp (placeCells n b A ll c Ap lp cp Aq lq cq bh br) bh br kh kr Dh Dr n g w) := by
 have HI := zh h
 have HV := zh hv
 have HV2 := zh hv2
 have HK := zh hk
 have x0 : w.cell? ⟨gp, 0, none⟩ = some (.int .i64 n) := (blk_cell h.bx 0).trans rfl
 have x5 : w.cell? ⟨gp, 5, none⟩ = some (.map (some bh)) := (blk_cell h.bx 5).trans rfl
 have x6 : w.cell? ⟨gp, 6, none⟩ = some (.map (some br)) := (blk_cell h.bx 6).trans rfl
 have hu := Tryz.underlying115
 have hu2 := Tryz.underlying59
 have hu3 := Tryz.underlying33
 clear h hv hv2 hk
 obtain ⟨ha, hha⟩ : ∃ ha, ha = hasK Dh g.f0 := ⟨_, rfl⟩
 obtain ⟨hr, hhr⟩ : ∃ hr, hr = hasK Dr g.f0 := ⟨_, rfl⟩
 obtain ⟨c1, h1⟩ : ∃ c1 : Int, ∀ W, Below w.heap.size w W → (Instr.lookup 113 (.map (some bh)) (.int .i64 g.f0) true).run Tryz.prog W = .ok (.tuple #[.int .i64 c1, .bool ha]) W := by
  rw [hha]
  exact look_always HI.out.mh HV.out
 obtain ⟨c2, h2⟩ : ∃ c2 : Int, ∀ W, Below w.heap.size w W → (Instr.lookup 113 (.map (some br)) (.int .i64 g.f0) true).run Tryz.prog W = .ok (.tuple #[.int .i64 c2, .bool hr]) W := by
  rw [hhr]
  exact look_always HI.out.mr HV.out
 have H1 := zh h1
 have H2 := zh h2
 have HHA := zh hha
 have HHR := zh hhr
 clear h1 h2 hha hhr
 go_enter Tryz.func83, Tryz.ntmps83
 go_wp2
 have HB0 := zh (below_alloc (Below.refl w.heap.size w) (.cells #[.int .i64 g.f0, .int .i64 g.f1] 59))
 have HG0 := zh (heap_alloc_new w (.cells #[.int .i64 g.f0, .int .i64 g.f1] 59))
 obtain ⟨W0, hW0⟩ : ∃ W0, W0 = w.alloc (.cells #[.int .i64 g.f0, .int .i64 g.f1] 59) := ⟨_, rfl⟩
 rw [← hW0] at HB0 HG0 ⊢
 clear hW0
 have y0 : W0.cell? ⟨w.heap.size, 0, none⟩ = some (.int .i64 g.f0) := (blk_cell HG0.out 0).trans rfl
 have y1 : W0.cell? ⟨w.heap.size, 1, none⟩ = some (.int .i64 g.f1) := (blk_cell HG0.out 1).trans rfl
 have z0 : W0.cell? ⟨gp, 0, none⟩ = some (.int .i64 n) := pw_cell_below HB0.out x0
 have z5 : W0.cell? ⟨gp, 5, none⟩ = some (.map (some bh)) := pw_cell_below HB0.out x5
 have z6 : W0.cell? ⟨gp, 6, none⟩ = some (.map (some br)) := pw_cell_below HB0.out x6
 clear x0 x5 x6
 go_region_held3 (fun w' => w'.cell? ⟨gp, 5, none⟩ = some (.map (some bh)) ∧ w'.cell? ⟨w.heap.size, 0, none⟩ = some (.int .i64 g.f0) ∧ (Instr.lookup 113 (.map (some bh)) (.int .i64 g.f0) true).run Tryz.prog w' = .ok (.tuple #[.int .i64 c1, .bool ha]) w') (first | exact ⟨z5, y0, H1.out _ (below_drew HB0.out)⟩ | exact ⟨z5, y0, H1.out _ HB0.out⟩ | go_keep) (fail)
 go_wp2
 go_region_held3 (fun w' => w'.cell? ⟨gp, 6, none⟩ = some (.map (some br)) ∧ w'.cell? ⟨w.heap.size, 0, none⟩ = some (.int .i64 g.f0) ∧ (Instr.lookup 113 (.map (some br)) (.int .i64 g.f0) true).run Tryz.prog w' = .ok (.tuple #[.int .i64 c2, .bool hr]) w') (first | exact ⟨z6, y0, H2.out _ (below_drew (below_drew HB0.out))⟩ | exact ⟨z6, y0, H2.out _ (below_drew HB0.out)⟩ | go_keep) (fail)
 go_wp2
 have hb2 : Below w.heap.size w W0.drew.drew := below_drew (below_drew HB0.out)
 have HB2 := zh hb2
 have v0 : W0.drew.drew.cell? ⟨w.heap.size, 0, none⟩ = some (.int .i64 g.f0) := y0
 have v1 : W0.drew.drew.cell? ⟨w.heap.size, 1, none⟩ = some (.int .i64 g.f1) := y1
 have v2 : W0.drew.drew.cell? ⟨gp, 0, none⟩ = some (.int .i64 n) := z0
 clear hb2 y0 y1 z0 z5 z6 HG0 HB0
 generalize W0.drew.drew = W2 at HB2 v0 v1 v2 ⊢
 have HI2 := zh (HI.out.below HB2.out)
 have HBK : Hid (∀ m, Kept w (W2.drewN m) (fun k => k = br) ∧ Stay w (W2.drewN m)) := zh (fun m => ⟨Kept.of_below (pw_below_drewN HB2.out m) _, Stay.of_below (pw_below_drewN HB2.out m)⟩)
 clear HB2
 cases hd1 : decide (g.f0 < 0) <;> cases hd2 : decide (n ≤ g.f0) <;> cases hd3 : decide (g.f1 < 0) <;> cases ha <;> cases hr
 all_goals
  go_quiet (fail)
  go_wp2_with (at_mapUpdate; refine wpList_mapUpdate_own _ rfl _ _ _ 113 rfl 3 3 intLaw Tryz.underlying113 _ br kr Dr rfl ((HI2.out.below (pw_below_drewN (Below.refl _ _) _)).mr) (by have := HK.out; unfold maxLen; omega) _ _ (.int .i64 g.f0) rfl rfl (Maps.keyOf_int_mk Tryz.underlying3 HV.out) _ [] (plainElem_int Tryz.underlying3 HV2.out) ?_; intro w9 hown hgrow; have HO9 := zh hown; have HG9 := zh hgrow; clear hown hgrow)
 all_goals first
  |(go_ret; exact ⟨congrArg (fun z => Ending.returned (.int .i64 z)) (takeC_bad hd1 hd2 hd3 HHA.out HHR.out rfl).symm, fun e => absurd ((takeC_bad hd1 hd2 hd3 HHA.out HHR.out rfl).symm.trans e) (by decide), HBK.out _⟩)
  |skip
 ·have hgt : 1048576 < g.f1 := by assumption
  have hc : takeC n Dh Dr g = 2 := by rw [takeC_good hd1 hd2 hd3 HHA.out HHR.out, if_pos hgt]
  go_ret
  exact ⟨congrArg (fun z => Ending.returned (.int .i64 z)) hc.symm, fun e => absurd (hc.symm.trans e) (by decide), HBK.out _⟩
 ·have hgt : g.f1 ≤ 1048576 := by assumption
  have hc : takeC n Dh Dr g = 0 := by rw [takeC_good hd1 hd2 hd3 HHA.out HHR.out, if_neg (by omega)]
  go_ret
  exact ⟨congrArg (fun z => Ending.returned (.int .i64 z)) hc.symm, fun _ => ((HI2.out.below (pw_below_drewN (Below.refl _ _) _)).putr HO9.out HG9.out).1, grown_kept (HBK.out _).1 (HBK.out _).2 HG9.out⟩
def putG (D : DataW Unit) (g : Grp) : DataW Unit := D.put (.int .i64 g.f0) (.lit (.int .i64 g.f1))
def putGs (l : List Grp) : DataW Unit := l.foldl putG (.map [])
theorem putGs_snoc (l : List Grp) (g : Grp) : putGs (l ++ [g]) = putG (putGs l) g := by unfold putGs; rw [List.foldl_append]; rfl
def thF (n : Int) (Dr : DataW Unit) : DataW Unit → List Grp → Int
 |_, [] => 0
 |D, g :: l => if takeC n D Dr g = 0 then thF n Dr (putG D g) l else takeC n D Dr g
def trF (n : Int) (Dh : DataW Unit) : DataW Unit → List Grp → Int
 |_, [] => 0
 |D, g :: l => if takeC n Dh D g = 0 then trF n Dh (putG D g) l else takeC n Dh D g
def groupsC (n : Int) (p q : List Grp) : Int :=
 if p.length = 0 ∨ q.length = 0 then 210 else if thF n (.map []) (.map []) p = 0 then trF n (putGs p) (.map []) q else thF n (.map []) (.map []) p
theorem takeC_or (n : Int) (Dh Dr : DataW Unit) (g : Grp) : takeC n Dh Dr g = 210 ∨ takeC n Dh Dr g = 2 ∨ takeC n Dh Dr g = 0 := by
 unfold takeC
 split
 ·exact .inl rfl
 ·split
  ·exact .inr (.inl rfl)
  ·exact .inr (.inr rfl)
def grpAt (l : List Grp) (i : Nat) : Grp := rd_T59 l (i : Int)
theorem grp_drop {l : List Grp} {i : Nat} (h : i < l.length) : l.drop i = grpAt l i :: l.drop (i + 1) := by
 rw [List.drop_eq_getElem_cons h]
 unfold grpAt rd_T59
 rw [Int.toNat_natCast, List.getD_eq_getElem?_getD, List.getElem?_eq_getElem h]
 rfl
theorem grp_take {l : List Grp} {i : Nat} (h : i < l.length) : l.take (i + 1) = l.take i ++ [grpAt l i] := by
 rw [List.take_add_one, List.getElem?_eq_getElem h]
 unfold grpAt rd_T59
 rw [Int.toNat_natCast, List.getD_eq_getElem?_getD, List.getElem?_eq_getElem h]
 rfl
theorem grp_mem {l : List Grp} {i : Nat} (h : i < l.length) : grpAt l i ∈ l := by
 unfold grpAt rd_T59
 rw [Int.toNat_natCast, List.getD_eq_getElem?_getD, List.getElem?_eq_getElem h]
 exact List.getElem_mem h
def GrpsWf (l : List Grp) : Prop := ∀ g, g ∈ l → (Lit.int .i64 g.f0).wf = true ∧ (Lit.int .i64 g.f1).wf = true
def GroupsAt (gp : Nat) (xs : Array Value) (bh br : Nat) (n : Int) (p q : List Grp) (w : World) (e : Ending) (w' : World) : Prop :=
 e = .returned (.int .i64 (groupsC n p q)) ∧ (groupsC n p q = 0 → PlI gp xs bh br p.length q.length (putGs p) (putGs q) w') ∧ Kept w w' (fun k => k = bh ∨ k = br) ∧ Stay w w'
set_option maxHeartbeats 8000000 in
set_option maxRecDepth 100000 in
theorem groups_walk (gp : Nat) (n : Int) (b : Bool) (A : Option Addr) (ll c : Nat) (Ap : Option Addr) (cp : Nat) (Aq : Option Addr) (cq : Nat) (bh br : Nat) (p q : List Grp) (w : World) (h : PlI gp (placeCells n b A ll c Ap p.length cp Aq q.length cq bh br) bh br 0 0 (.map []) (.map []) w)
  (hp : Kd.C kGrp w Ap p.length p) (hq : Kd.C kGrp w Aq q.length q) (wp : GrpsWf p) (wq : GrpsWf q) (lp : p.length ≤ 1000000) (lq : q.length ≤ 1000000)
  (hsep : ∀ W, Kept w W (fun k => k = bh ∨ k = br) → Kd.C kGrp W Ap p.length p ∧ Kd.C kGrp W Aq q.length q) :
  Calls Tryz.prog 57 #[.pointer (some ⟨gp, 0, none⟩)] w (GroupsAt gp (placeCells n b A ll c Ap p.length cp Aq q.length cq bh br) bh br n p q w) := by
 have HI := zh h
 have HWP := zh wp
 have HWQ := zh wq
 have HSEP := zh hsep
 have HLP := zh lp
 have HLQ := zh lq
 have x3 : w.cell? ⟨gp, 3, none⟩ = some (.slice Ap p.length cp) := (blk_cell h.bx 3).trans rfl
 have x4 : w.cell? ⟨gp, 4, none⟩ = some (.slice Aq q.length cq) := (blk_cell h.bx 4).trans rfl
 have hu := Tryz.underlying115
 have hu2 := Tryz.underlying59
 clear h hp hq wp wq hsep
 by_cases hp0 : p.length = 0
 ·have hc : Hid (groupsC n p q = 210) := zh (if_pos (.inl hp0))
  rw [hp0] at x3
  clear hp0
  go_enter Tryz.func57, Tryz.ntmps57
  go_wp2
  go_ret
  exact ⟨congrArg (fun z => Ending.returned (.int .i64 z)) hc.out.symm, fun e => absurd (hc.out.symm.trans e) (by decide), Kept.refl _ _, rfl, rfl, rfl⟩
 ·by_cases hq0 : q.length = 0
  ·have hc : Hid (groupsC n p q = 210) := zh (if_pos (.inr hq0))
   rw [hq0] at x4
   have hpd : ((p.length : Int) == 0) = false := beq_eq_false_iff_ne.2 (by omega)
   clear hq0 hp0
   go_enter Tryz.func57, Tryz.ntmps57
   go_wp2
   go_ret
   exact ⟨congrArg (fun z => Ending.returned (.int .i64 z)) hc.out.symm, fun e => absurd (hc.out.symm.trans e) (by decide), Kept.refl _ _, rfl, rfl, rfl⟩
  ·have hpd : ((p.length : Int) == 0) = false := beq_eq_false_iff_ne.2 (by omega)
   have hqd : ((q.length : Int) == 0) = false := beq_eq_false_iff_ne.2 (by omega)
   have HC0 : Hid (groupsC n p q = if thF n (.map []) (.map []) p = 0 then trF n (putGs p) (.map []) q else thF n (.map []) (.map []) p) := zh (if_neg (fun e => e.elim hp0 hq0))
   clear hp0 hq0
   go_enter Tryz.func57, Tryz.ntmps57
   go_wp2
   clear hpd hqd
   go_loopg [28] (p.length + 1) (fun k iv W => ∃ i : Nat, i ≤ p.length ∧ iv = .int .i64 i ∧ k = p.length + 1 - i ∧ Hid (PlI gp (placeCells n b A ll c Ap p.length cp Aq q.length cq bh br) bh br i 0 (putGs (p.take i)) (.map []) W ∧ Kept w W (fun k => k = bh ∨ k = br) ∧ Stay w W ∧ thF n (.map []) (.map []) p = thF n (.map []) (putGs (p.take i)) (p.drop i)))
   case atStart => exact ⟨0, Nat.zero_le _, rfl, rfl, zh ⟨HI.out, Kept.refl _ _, ⟨rfl, rfl, rfl⟩, rfl⟩⟩
   case round =>
    obtain ⟨i, hi, rfl, rfl, HL⟩ := hrel
    clear x3 x4
    by_cases hlt : i < p.length
    ·have i0 : (0 : Int) ≤ (i : Int) := by omega
     have i1 : (i : Int) < (p.length : Int) := by omega
     obtain ⟨ad, ea, y0, y1⟩ := at_T59 (HSEP.out _ HL.out.2.1).1 (i : Int) i0 i1
     subst ea
     rw [Int.toNat_natCast] at y0 y1
     obtain ⟨g, hg⟩ : ∃ g, g = grpAt p i := ⟨_, rfl⟩
     have hg2 : rd_T59 p (i : Int) = g := by rw [hg]; rfl
     rw [hg2] at y0 y1
     have HG := zh hg
     have HI0 := zh HL.out.1
     have hth : thF n (.map []) (.map []) p = if takeC n (putGs (p.take i)) (.map []) g = 0 then thF n (.map []) (putG (putGs (p.take i)) g) (p.drop (i + 1)) else takeC n (putGs (p.take i)) (.map []) g := by
      rw [HL.out.2.2.2, grp_drop hlt, ← hg]
      rfl
     have HTH := zh hth
     have HWG := zh (show (Lit.int .i64 g.f0).wf = true ∧ (Lit.int .i64 g.f1).wf = true by rw [hg]; exact HWP.out _ (grp_mem hlt))
     clear hg hg2 hth
     have x5 : wr.cell? ⟨gp, 5, none⟩ = some (.map (some bh)) := (blk_cell HI0.out.bx 5).trans rfl
     obtain ⟨D, hD⟩ : ∃ D, D = putGs (p.take i) := ⟨_, rfl⟩
     rw [← hD] at HTH HI0
     have HD := zh hD
     clear hD
     go_wp2
     have HV0 := zh (heap_alloc_new wr (.cells #[.int .i64 g.f0, .int .i64 g.f1] 59))
     have HB0 := zh (below_alloc (Below.refl wr.heap.size wr) (.cells #[.int .i64 g.f0, .int .i64 g.f1] 59))
     obtain ⟨W0, hW0⟩ : ∃ W0, W0 = wr.alloc (.cells #[.int .i64 g.f0, .int .i64 g.f1] 59) := ⟨_, rfl⟩
     rw [← hW0] at HV0 HB0 ⊢
     clear hW0
     have v0 : W0.cell? ⟨wr.heap.size, 0, none⟩ = some (.int .i64 g.f0) := (blk_cell HV0.out 0).trans rfl
     have v1 : W0.cell? ⟨wr.heap.size, 1, none⟩ = some (.int .i64 g.f1) := (blk_cell HV0.out 1).trans rfl
     have v5 : W0.cell? ⟨gp, 5, none⟩ = some (.map (some bh)) := pw_cell_below HB0.out x5
     have HI1 := zh (HI0.out.below HB0.out)
     have HKP := zh (HL.out.2.1.below HB0.out)
     have HST := zh (HL.out.2.2.1.then_ (Stay.of_below HB0.out))
     generalize wr.heap.size = av at *
     clear x5 y0 y1
     have HKK : Hid (i ≤ 1000000) := zh (by have := HLP.out; omega)
     rcases takeC_or n D (.map []) g with hc | hc | hc
     all_goals
      have HC := zh hc
      clear hc
      go_region_held3 (fun w' => w'.cell? ⟨av, 0, none⟩ = some (.int .i64 g.f0) ∧ w'.cell? ⟨av, 1, none⟩ = some (.int .i64 g.f1) ∧ w'.cell? ⟨gp, 5, none⟩ = some (.map (some bh))) (first | exact HS9.out | go_keep) ((go_at_call 83; (with_reducible refine (takeh_walk gp n b A ll c (some ad) p.length cp Aq q.length cq bh br i 0 D (.map []) g _ ?s1 HKK.out HWG.out.1 HWG.out.2).mono ?_); (case s1 => exact HI1.out.below zD); rintro e w2 ⟨rfl, hP, hk, hs⟩; rw [HC.out]; have hv9 := blk_kept (show _ from blk_below HV0.out zD) hk (fun e9 => mapAs_ne HI1.out.mh HV0.out e9.symm); have hx9 := blk_kept (HI1.out.below zD).bx hk (fun e9 => mapAs_ne HI1.out.mh HI1.out.bx e9.symm); have HS9 : Hid (w2.cell? ⟨av, 0, none⟩ = some (.int .i64 g.f0) ∧ w2.cell? ⟨av, 1, none⟩ = some (.int .i64 g.f1) ∧ w2.cell? ⟨gp, 5, none⟩ = some (.map (some bh))) := zh ⟨(blk_cell hv9 0).trans rfl, (blk_cell hv9 1).trans rfl, (blk_cell hx9 5).trans rfl⟩; have HP := zh hP; have HK2 := zh (((HKP.out.below (show Below W0.heap.size W0 _ by repeat (first | (with_reducible exact Below.refl _ _) | apply below_drew))).then_ hk (fun k e9 => .inl (.inl e9)))); have HS2 := zh ((HST.out.then_ (Stay.of_below (show Below W0.heap.size W0 _ by repeat (first | (with_reducible exact Below.refl _ _) | apply below_drew)))).then_ hs); clear hP hk hs hv9 hx9))
      go_wp2
     ·have e1 : thF n (.map []) (.map []) p = 210 := by rw [HTH.out, HC.out]; rfl
      have e2 : groupsC n p q = 210 := by rw [HC0.out, e1]; rfl
      go_ret
      exact ⟨congrArg (fun z => Ending.returned (.int .i64 z)) e2.symm, fun e => absurd (e2.symm.trans e) (by decide), HK2.out, HS2.out⟩
     ·have e1 : thF n (.map []) (.map []) p = 2 := by rw [HTH.out, HC.out]; rfl
      have e2 : groupsC n p q = 2 := by rw [HC0.out, e1]; rfl
      go_ret
      exact ⟨congrArg (fun z => Ending.returned (.int .i64 z)) e2.symm, fun e => absurd (e2.symm.trans e) (by decide), HK2.out, HS2.out⟩
     ·go_roundg (p.length - i)
      case measure => omega
      case rel =>
       have e1 : putGs (p.take (i + 1)) = putG D g := by rw [grp_take hlt, putGs_snoc, ← HG.out, HD.out]
       refine ⟨i + 1, by omega, by go_num, by omega, zh ⟨?_, HK2.out, HS2.out, ?_⟩⟩
       ·rw [e1]
        exact HP.out HC.out
       ·rw [HTH.out, if_pos HC.out, e1]
    ·have e : i = p.length := by omega
     subst e
     have hI := HL.out.1
     have hth := HL.out.2.2.2
     rw [List.take_length] at hI hth
     rw [List.drop_length] at hth
     have HTH : Hid (thF n (.map []) (.map []) p = 0) := zh hth
     have HC1 : Hid (groupsC n p q = trF n (putGs p) (.map []) q) := zh (by rw [HC0.out, HTH.out, if_pos rfl])
     have HI0 := zh hI
     have HKP := zh HL.out.2.1
     have HST := zh HL.out.2.2.1
     have x4 : wr.cell? ⟨gp, 4, none⟩ = some (.slice Aq q.length cq) := (blk_cell hI.bx 4).trans rfl
     clear hI hth HL
     go_wp2
     go_loopg [48] (q.length + 1) (fun k iv W => ∃ i : Nat, i ≤ q.length ∧ iv = .int .i64 i ∧ k = q.length + 1 - i ∧ Hid (PlI gp (placeCells n b A ll c Ap p.length cp Aq q.length cq bh br) bh br p.length i (putGs p) (putGs (q.take i)) W ∧ Kept w W (fun k => k = bh ∨ k = br) ∧ Stay w W ∧ trF n (putGs p) (.map []) q = trF n (putGs p) (putGs (q.take i)) (q.drop i)))
     case atStart => exact ⟨0, Nat.zero_le _, rfl, rfl, zh ⟨HI0.out, HKP.out, HST.out, rfl⟩⟩
     case round =>
      obtain ⟨i, hi, rfl, rfl, HL⟩ := hrel
      clear x4 HI0 HKP HST
      by_cases hlt : i < q.length
      ·have i0 : (0 : Int) ≤ (i : Int) := by omega
       have i1 : (i : Int) < (q.length : Int) := by omega
       obtain ⟨ad, ea, y0, y1⟩ := at_T59 (HSEP.out _ HL.out.2.1).2 (i : Int) i0 i1
       subst ea
       rw [Int.toNat_natCast] at y0 y1
       obtain ⟨g, hg⟩ : ∃ g, g = grpAt q i := ⟨_, rfl⟩
       have hg2 : rd_T59 q (i : Int) = g := by rw [hg]; rfl
       rw [hg2] at y0 y1
       have HG := zh hg
       have HI0 := zh HL.out.1
       have hth : trF n (putGs p) (.map []) q = if takeC n (putGs p) (putGs (q.take i)) g = 0 then trF n (putGs p) (putG (putGs (q.take i)) g) (q.drop (i + 1)) else takeC n (putGs p) (putGs (q.take i)) g := by
        rw [HL.out.2.2.2, grp_drop hlt, ← hg]
        rfl
       have HTH := zh hth
       have HWG := zh (show (Lit.int .i64 g.f0).wf = true ∧ (Lit.int .i64 g.f1).wf = true by rw [hg]; exact HWQ.out _ (grp_mem hlt))
       clear hg hg2 hth
       have x6 : wr.cell? ⟨gp, 6, none⟩ = some (.map (some br)) := (blk_cell HI0.out.bx 6).trans rfl
       obtain ⟨D, hD⟩ : ∃ D, D = putGs (q.take i) := ⟨_, rfl⟩
       rw [← hD] at HTH HI0
       have HD := zh hD
       clear hD
       go_wp2
       have HV0 := zh (heap_alloc_new wr (.cells #[.int .i64 g.f0, .int .i64 g.f1] 59))
       have HB0 := zh (below_alloc (Below.refl wr.heap.size wr) (.cells #[.int .i64 g.f0, .int .i64 g.f1] 59))
       obtain ⟨W0, hW0⟩ : ∃ W0, W0 = wr.alloc (.cells #[.int .i64 g.f0, .int .i64 g.f1] 59) := ⟨_, rfl⟩
       rw [← hW0] at HV0 HB0 ⊢
       clear hW0
       have v0 : W0.cell? ⟨wr.heap.size, 0, none⟩ = some (.int .i64 g.f0) := (blk_cell HV0.out 0).trans rfl
       have v1 : W0.cell? ⟨wr.heap.size, 1, none⟩ = some (.int .i64 g.f1) := (blk_cell HV0.out 1).trans rfl
       have v5 : W0.cell? ⟨gp, 6, none⟩ = some (.map (some br)) := pw_cell_below HB0.out x6
       have HI1 := zh (HI0.out.below HB0.out)
       have HKP := zh (HL.out.2.1.below HB0.out)
       have HST := zh (HL.out.2.2.1.then_ (Stay.of_below HB0.out))
       generalize wr.heap.size = av at *
       clear x6 y0 y1
       have HKK : Hid (i ≤ 1000000) := zh (by have := HLQ.out; omega)
       rcases takeC_or n (putGs p) D g with hc | hc | hc
       all_goals
        have HC := zh hc
        clear hc
        go_region_held3 (fun w' => w'.cell? ⟨av, 0, none⟩ = some (.int .i64 g.f0) ∧ w'.cell? ⟨av, 1, none⟩ = some (.int .i64 g.f1) ∧ w'.cell? ⟨gp, 6, none⟩ = some (.map (some br))) (first | exact HS9.out | go_keep) ((go_at_call 83; (with_reducible refine (taker_walk gp n b A ll c Ap p.length cp (some ad) q.length cq bh br p.length i (putGs p) D g _ ?s1 HKK.out HWG.out.1 HWG.out.2).mono ?_); (case s1 => exact HI1.out.below zD); rintro e w2 ⟨rfl, hP, hk, hs⟩; rw [HC.out]; have hv9 := blk_kept (show _ from blk_below HV0.out zD) hk (fun e9 => mapAs_ne HI1.out.mr HV0.out e9.symm); have hx9 := blk_kept (HI1.out.below zD).bx hk (fun e9 => mapAs_ne HI1.out.mr HI1.out.bx e9.symm); have HS9 : Hid (w2.cell? ⟨av, 0, none⟩ = some (.int .i64 g.f0) ∧ w2.cell? ⟨av, 1, none⟩ = some (.int .i64 g.f1) ∧ w2.cell? ⟨gp, 6, none⟩ = some (.map (some br))) := zh ⟨(blk_cell hv9 0).trans rfl, (blk_cell hv9 1).trans rfl, (blk_cell hx9 6).trans rfl⟩; have HP := zh hP; have HK2 := zh (((HKP.out.below (show Below W0.heap.size W0 _ by repeat (first | (with_reducible exact Below.refl _ _) | apply below_drew))).then_ hk (fun k e9 => .inl (.inr e9)))); have HS2 := zh ((HST.out.then_ (Stay.of_below (show Below W0.heap.size W0 _ by repeat (first | (with_reducible exact Below.refl _ _) | apply below_drew)))).then_ hs); clear hP hk hs hv9 hx9))
        go_wp2
       ·have e1 : trF n (putGs p) (.map []) q = 210 := by rw [HTH.out, HC.out]; rfl
        have e2 : groupsC n p q = 210 := by rw [HC1.out, e1]
        go_ret
        exact ⟨congrArg (fun z => Ending.returned (.int .i64 z)) e2.symm, fun e => absurd (e2.symm.trans e) (by decide), HK2.out, HS2.out⟩
       ·have e1 : trF n (putGs p) (.map []) q = 2 := by rw [HTH.out, HC.out]; rfl
        have e2 : groupsC n p q = 2 := by rw [HC1.out, e1]
        go_ret
        exact ⟨congrArg (fun z => Ending.returned (.int .i64 z)) e2.symm, fun e => absurd (e2.symm.trans e) (by decide), HK2.out, HS2.out⟩
       ·go_roundg (q.length - i)
        case measure => omega
        case rel =>
         have e1 : putGs (q.take (i + 1)) = putG D g := by rw [grp_take hlt, putGs_snoc, ← HG.out, HD.out]
         refine ⟨i + 1, by omega, by go_num, by omega, zh ⟨?_, HK2.out, HS2.out, ?_⟩⟩
         ·rw [e1]
          exact HP.out HC.out
         ·rw [HTH.out, if_pos HC.out, e1]
      ·have e : i = q.length := by omega
       subst e
       have hI := HL.out.1
       have hth := HL.out.2.2.2
       rw [List.take_length] at hI hth
       rw [List.drop_length] at hth
       have hC2 : groupsC n p q = 0 := by rw [HC1.out]; exact hth
       have HC2 := zh hC2
       have HI0 := zh hI
       clear hI hth hC2
       go_wp2
       go_ret
       exact ⟨congrArg (fun z => Ending.returned (.int .i64 z)) HC2.out.symm, fun _ => HI0.out, HL.out.2.1, HL.out.2.2.1⟩
theorem heapGrp : Kd.Heap kGrp := Kd.heap_iso _ (Kd.heap_pair (Kd.heap_int _) (Kd.heap_int _))
def begunF (k : Nat) (n : Int) (b : Bool) (l : List Arc) (p q : List Grp) (h : Int) : Option Int :=
 (netfmt_Check.f k n b l).bind fun c1 => if c1 = 0 then (if groupsC n p q = 0 then (span_Horizon.f h).bind fun c3 => if c3 = 0 then (expand_Fits.f k n b l h).bind fun t => if t = true then some 0 else some 2 else some c3 else some (groupsC n p q)) else some c1
def BegunAt (n : Int) (b : Bool) (A : Option Addr) (c : Nat) (l : List Arc) (Ap : Option Addr) (cp : Nat) (p : List Grp) (Aq : Option Addr) (cq : Nat) (q : List Grp) (r : Int) (w : World) (e : Ending) (w' : World) : Prop :=
 Below w.heap.size w w' ∧ ((r ≠ 0 ∧ e = .returned (.tuple #[.pointer none, .int .i64 r])) ∨ (r = 0 ∧ ∃ gp bh br, e = .returned (.tuple #[.pointer (some ⟨gp, 0, none⟩), .int .i64 0]) ∧ w.heap.size ≤ gp ∧ PlI gp (placeCells n b A l.length c Ap p.length cp Aq q.length cq bh br) bh br p.length q.length (putGs p) (putGs q) w'))
theorem place_new (w1 : World) (n : Int) (b : Bool) (A : Option Addr) (ll c : Nat) (Ap : Option Addr) (lp cp : Nat) (Aq : Option Addr) (lq cq : Nat) :
  PlI (w1.heap.size + 1 + 1) (placeCells n b A ll c Ap lp cp Aq lq cq w1.heap.size (w1.heap.size + 1)) w1.heap.size (w1.heap.size + 1) 0 0 (.map []) (.map []) (((w1.alloc (.map #[] 0)).alloc (.map #[] 0)).alloc (.cells (placeCells n b A ll c Ap lp cp Aq lq cq w1.heap.size (w1.heap.size + 1)) 115)) := by
 have made : ∀ (W : World) (b : Nat), b = W.heap.size → MapAs (W.alloc (.map #[] 0)) 3 b 0 (.map []) := fun W b e => by
  rw [e]
  exact World.ownsMap_made _ _ _ _
 have later : ∀ {W W1 : World} {b : Nat}, MapAs W 3 b 0 (.map []) → Below W.heap.size W W1 → MapAs W1 3 b 0 (.map []) := fun h hb => mapAs_eq h (hb.block _ h.lt)
 refine ⟨alloc_at (by simp only [alloc_size]), ?_, ?_, by omega⟩
 ·exact later (made w1 _ rfl) (by repeat (first | (with_reducible exact Below.refl _ _) | apply below_alloc))
 ·exact later (made (w1.alloc (.map #[] 0)) _ (by simp only [alloc_size])) (by repeat (first | (with_reducible exact Below.refl _ _) | apply below_alloc))
set_option maxHeartbeats 8000000 in
set_option maxRecDepth 100000 in
theorem begun_walk (k : Nat) (n : Int) (b : Bool) (A : Option Addr) (c : Nat) (l : List Arc) (Ap : Option Addr) (cp : Nat) (p : List Grp) (Aq : Option Addr) (cq : Nat) (q : List Grp) (h r : Int) (w : World) (hr : Kd.C kArc w A l.length l) (hc : l.length ≤ c)
  (hp : Kd.C kGrp w Ap p.length p) (hq : Kd.C kGrp w Aq q.length q) (wp : GrpsWf p) (wq : GrpsWf q) (lp : p.length ≤ 1000000) (lq : q.length ≤ 1000000) (hF : begunF k n b l p q h = some r) :
  Calls Tryz.prog 25 #[.agg #[.int .i64 n, .bool b, .slice A l.length c], .slice Ap p.length cp, .slice Aq q.length cq, .int .i64 h] w (BegunAt n b A c l Ap cp p Aq cq q r w) := by
 have HR := zh hr
 have HC := zh hc
 have HP := zh hp
 have HQ := zh hq
 have HWP := zh wp
 have HWQ := zh wq
 have HLP := zh lp
 have HLQ := zh lq
 have hu := Tryz.underlying33
 have hu2 := Tryz.underlying115
 have hmm := @run_makeMap Tryz.prog
 clear hr hc hp hq wp wq lp lq
 unfold begunF at hF
 obtain ⟨c1, hc1, hF⟩ := Option.bind_eq_some_iff.1 hF
 have HC1 := zh hc1
 clear hc1
 by_cases h1 : c1 = 0
 ·rw [if_pos h1] at hF
  subst h1
  by_cases h2 : groupsC n p q = 0
  ·rw [if_pos h2] at hF
   obtain ⟨c3, hc3, hF⟩ := Option.bind_eq_some_iff.1 hF
   have HG := zh h2
   have HH := zh hc3
   clear h2 hc3
   by_cases h3 : c3 = 0
   ·rw [if_pos h3] at hF
    subst h3
    obtain ⟨t, ht, hF⟩ := Option.bind_eq_some_iff.1 hF
    have HT := zh ht
    clear ht
    cases t with
    |true =>
     rw [if_pos rfl] at hF
     injection hF with hF
     subst hF
     go_enter Tryz.func25, Tryz.ntmps25
     go_wp2_with (first
      |(go_at_call 56; (with_reducible refine (netfmt_Check.calls k n b A c l 0 _ ?s1 HC.out HC1.out).mono ?_); (case s1 => exact Kd.C_below HR.out (below_alloc (Below.refl _ _) _)); rintro e w1 ⟨rfl, hb⟩; have HB1 := zh (below_step (below_alloc (Below.refl w.heap.size w) (.cells #[.int .i64 n, .bool b, .slice A l.length c] 33)) hb); have HN1 := zh (blk_below (heap_alloc_new w (.cells #[.int .i64 n, .bool b, .slice A l.length c] 33)) hb); have x0 : w1.cell? ⟨w.heap.size, 0, none⟩ = some (.int .i64 n) := (blk_cell HN1.out 0).trans rfl; have x1 : w1.cell? ⟨w.heap.size, 1, none⟩ = some (.bool b) := (blk_cell HN1.out 1).trans rfl; have x2 : w1.cell? ⟨w.heap.size, 2, none⟩ = some (.slice A l.length c) := (blk_cell HN1.out 2).trans rfl; clear hb)
      |(go_at_call 57; have hP0 := place_new w1 n b A l.length c Ap p.length cp Aq q.length cq; have hb9 : Below w.heap.size w (((w1.alloc (.map #[] 0)).alloc (.map #[] 0)).alloc (.cells (placeCells n b A l.length c Ap p.length cp Aq q.length cq w1.heap.size (w1.heap.size + 1)) 115)) := below_alloc (below_alloc (below_alloc HB1.out _) _) _; have hn9 := blk_alloc (blk_alloc (blk_alloc HN1.out (.map #[] 0)) (.map #[] 0)) (.cells (placeCells n b A l.length c Ap p.length cp Aq q.length cq w1.heap.size (w1.heap.size + 1)) 115); (refine (groups_walk (w1.heap.size + 1 + 1) n b A l.length c Ap cp Aq cq w1.heap.size (w1.heap.size + 1) p q _ hP0 (Kd.C_below HP.out hb9) (Kd.C_below HQ.out hb9) HWP.out HWQ.out HLP.out HLQ.out ?s1).mono ?_); (case s1 => exact fun W hk => ⟨Kd.C_kept_came heapGrp HP.out hb9 (fun k e => by have := HB1.out.size; omega) W hk, Kd.C_kept_came heapGrp HQ.out hb9 (fun k e => by have := HB1.out.size; omega) W hk⟩); rintro e w2 ⟨rfl, hPP, hk, hs⟩; have HPP := zh hPP; have HB2 := zh (below_kept hb9 hk hs (fun k e => by have := HB1.out.size; omega) hb9.size); have HN2 := zh (blk_kept hn9 hk (fun e => e.elim (fun e8 => mapAs_ne hP0.mh hn9 e8.symm) (fun e8 => mapAs_ne hP0.mr hn9 e8.symm))); have HGE := zh (show w.heap.size ≤ w1.heap.size + 1 + 1 by have := HB1.out.size; omega); clear hP0 hb9 hn9 hPP hk hs x0 x1 x2; rw [HG.out]; have y0 : w2.cell? ⟨w.heap.size, 0, none⟩ = some (.int .i64 n) := (blk_cell HN2.out 0).trans rfl; have y1 : w2.cell? ⟨w.heap.size, 1, none⟩ = some (.bool b) := (blk_cell HN2.out 1).trans rfl; have y2 : w2.cell? ⟨w.heap.size, 2, none⟩ = some (.slice A l.length c) := (blk_cell HN2.out 2).trans rfl)
      |(go_at_call 58; (with_reducible refine (span_Horizon.calls h 0 _ HH.out).mono ?_); rintro e w3 ⟨rfl, hd⟩; obtain ⟨m, rfl⟩ := hd)
      |(go_at_call 59; (with_reducible refine (expand_Fits.calls k n b A c l h true _ ?s1 HC.out HT.out).mono ?_); (case s1 => exact Kd.C_below HR.out (pw_below_drewN HB2.out _)); rintro e w4 ⟨rfl, hb⟩; have HB4 := zh (below_step (pw_below_drewN HB2.out _) hb); have HW4 := zh (below_step (pw_below_drewN (Below.refl w2.heap.size w2) _) hb); clear hb))
     go_ret2
     exact ⟨HB4.out, .inr ⟨rfl, w1.heap.size + 1 + 1, w1.heap.size, w1.heap.size + 1, rfl, HGE.out, (HPP.out HG.out).below HW4.out⟩⟩
    |false =>
     rw [if_neg (by decide)] at hF
     injection hF with hF
     subst hF
     go_enter Tryz.func25, Tryz.ntmps25
     go_wp2_with (first
      |(go_at_call 56; (with_reducible refine (netfmt_Check.calls k n b A c l 0 _ ?s1 HC.out HC1.out).mono ?_); (case s1 => exact Kd.C_below HR.out (below_alloc (Below.refl _ _) _)); rintro e w1 ⟨rfl, hb⟩; have HB1 := zh (below_step (below_alloc (Below.refl w.heap.size w) (.cells #[.int .i64 n, .bool b, .slice A l.length c] 33)) hb); have HN1 := zh (blk_below (heap_alloc_new w (.cells #[.int .i64 n, .bool b, .slice A l.length c] 33)) hb); have x0 : w1.cell? ⟨w.heap.size, 0, none⟩ = some (.int .i64 n) := (blk_cell HN1.out 0).trans rfl; have x1 : w1.cell? ⟨w.heap.size, 1, none⟩ = some (.bool b) := (blk_cell HN1.out 1).trans rfl; have x2 : w1.cell? ⟨w.heap.size, 2, none⟩ = some (.slice A l.length c) := (blk_cell HN1.out 2).trans rfl; clear hb)
      |(go_at_call 57; have hP0 := place_new w1 n b A l.length c Ap p.length cp Aq q.length cq; have hb9 : Below w.heap.size w (((w1.alloc (.map #[] 0)).alloc (.map #[] 0)).alloc (.cells (placeCells n b A l.length c Ap p.length cp Aq q.length cq w1.heap.size (w1.heap.size + 1)) 115)) := below_alloc (below_alloc (below_alloc HB1.out _) _) _; have hn9 := blk_alloc (blk_alloc (blk_alloc HN1.out (.map #[] 0)) (.map #[] 0)) (.cells (placeCells n b A l.length c Ap p.length cp Aq q.length cq w1.heap.size (w1.heap.size + 1)) 115); (refine (groups_walk (w1.heap.size + 1 + 1) n b A l.length c Ap cp Aq cq w1.heap.size (w1.heap.size + 1) p q _ hP0 (Kd.C_below HP.out hb9) (Kd.C_below HQ.out hb9) HWP.out HWQ.out HLP.out HLQ.out ?s1).mono ?_); (case s1 => exact fun W hk => ⟨Kd.C_kept_came heapGrp HP.out hb9 (fun k e => by have := HB1.out.size; omega) W hk, Kd.C_kept_came heapGrp HQ.out hb9 (fun k e => by have := HB1.out.size; omega) W hk⟩); rintro e w2 ⟨rfl, hPP, hk, hs⟩; have HPP := zh hPP; have HB2 := zh (below_kept hb9 hk hs (fun k e => by have := HB1.out.size; omega) hb9.size); have HN2 := zh (blk_kept hn9 hk (fun e => e.elim (fun e8 => mapAs_ne hP0.mh hn9 e8.symm) (fun e8 => mapAs_ne hP0.mr hn9 e8.symm))); have HGE := zh (show w.heap.size ≤ w1.heap.size + 1 + 1 by have := HB1.out.size; omega); clear hP0 hb9 hn9 hPP hk hs x0 x1 x2; rw [HG.out]; have y0 : w2.cell? ⟨w.heap.size, 0, none⟩ = some (.int .i64 n) := (blk_cell HN2.out 0).trans rfl; have y1 : w2.cell? ⟨w.heap.size, 1, none⟩ = some (.bool b) := (blk_cell HN2.out 1).trans rfl; have y2 : w2.cell? ⟨w.heap.size, 2, none⟩ = some (.slice A l.length c) := (blk_cell HN2.out 2).trans rfl)
      |(go_at_call 58; (with_reducible refine (span_Horizon.calls h 0 _ HH.out).mono ?_); rintro e w3 ⟨rfl, hd⟩; obtain ⟨m, rfl⟩ := hd)
      |(go_at_call 59; (with_reducible refine (expand_Fits.calls k n b A c l h false _ ?s1 HC.out HT.out).mono ?_); (case s1 => exact Kd.C_below HR.out (pw_below_drewN HB2.out _)); rintro e w4 ⟨rfl, hb⟩; have HB4 := zh (below_step (pw_below_drewN HB2.out _) hb); have HW4 := zh (below_step (pw_below_drewN (Below.refl w2.heap.size w2) _) hb); clear hb))
     go_ret2
     exact ⟨HB4.out, .inl ⟨by decide, rfl⟩⟩
   ·rw [if_neg h3] at hF
    injection hF with hF
    subst hF
    have e1 : (c3 != 0) = true := bne_iff_ne.2 h3
    have e2 : (c3 == 0) = false := beq_eq_false_iff_ne.2 h3
    have H3 := zh h3
    clear h3
    go_enter Tryz.func25, Tryz.ntmps25
    go_wp2_with (first
     |(go_at_call 56; (with_reducible refine (netfmt_Check.calls k n b A c l 0 _ ?s1 HC.out HC1.out).mono ?_); (case s1 => exact Kd.C_below HR.out (below_alloc (Below.refl _ _) _)); rintro e w1 ⟨rfl, hb⟩; have HB1 := zh (below_step (below_alloc (Below.refl w.heap.size w) (.cells #[.int .i64 n, .bool b, .slice A l.length c] 33)) hb); have HN1 := zh (blk_below (heap_alloc_new w (.cells #[.int .i64 n, .bool b, .slice A l.length c] 33)) hb); have x0 : w1.cell? ⟨w.heap.size, 0, none⟩ = some (.int .i64 n) := (blk_cell HN1.out 0).trans rfl; have x1 : w1.cell? ⟨w.heap.size, 1, none⟩ = some (.bool b) := (blk_cell HN1.out 1).trans rfl; have x2 : w1.cell? ⟨w.heap.size, 2, none⟩ = some (.slice A l.length c) := (blk_cell HN1.out 2).trans rfl; clear hb)
     |(go_at_call 57; have hP0 := place_new w1 n b A l.length c Ap p.length cp Aq q.length cq; have hb9 : Below w.heap.size w (((w1.alloc (.map #[] 0)).alloc (.map #[] 0)).alloc (.cells (placeCells n b A l.length c Ap p.length cp Aq q.length cq w1.heap.size (w1.heap.size + 1)) 115)) := below_alloc (below_alloc (below_alloc HB1.out _) _) _; have hn9 := blk_alloc (blk_alloc (blk_alloc HN1.out (.map #[] 0)) (.map #[] 0)) (.cells (placeCells n b A l.length c Ap p.length cp Aq q.length cq w1.heap.size (w1.heap.size + 1)) 115); (refine (groups_walk (w1.heap.size + 1 + 1) n b A l.length c Ap cp Aq cq w1.heap.size (w1.heap.size + 1) p q _ hP0 (Kd.C_below HP.out hb9) (Kd.C_below HQ.out hb9) HWP.out HWQ.out HLP.out HLQ.out ?s1).mono ?_); (case s1 => exact fun W hk => ⟨Kd.C_kept_came heapGrp HP.out hb9 (fun k e => by have := HB1.out.size; omega) W hk, Kd.C_kept_came heapGrp HQ.out hb9 (fun k e => by have := HB1.out.size; omega) W hk⟩); rintro e w2 ⟨rfl, hPP, hk, hs⟩; have HPP := zh hPP; have HB2 := zh (below_kept hb9 hk hs (fun k e => by have := HB1.out.size; omega) hb9.size); have HN2 := zh (blk_kept hn9 hk (fun e => e.elim (fun e8 => mapAs_ne hP0.mh hn9 e8.symm) (fun e8 => mapAs_ne hP0.mr hn9 e8.symm))); have HGE := zh (show w.heap.size ≤ w1.heap.size + 1 + 1 by have := HB1.out.size; omega); clear hP0 hb9 hn9 hPP hk hs x0 x1 x2; rw [HG.out]; have y0 : w2.cell? ⟨w.heap.size, 0, none⟩ = some (.int .i64 n) := (blk_cell HN2.out 0).trans rfl; have y1 : w2.cell? ⟨w.heap.size, 1, none⟩ = some (.bool b) := (blk_cell HN2.out 1).trans rfl; have y2 : w2.cell? ⟨w.heap.size, 2, none⟩ = some (.slice A l.length c) := (blk_cell HN2.out 2).trans rfl)
     |(go_at_call 58; (with_reducible refine (span_Horizon.calls h c3 _ HH.out).mono ?_); rintro e w3 ⟨rfl, hd⟩; obtain ⟨m, rfl⟩ := hd))
    go_ret2
    exact ⟨pw_below_drewN HB2.out _, .inl ⟨H3.out, rfl⟩⟩
  ·rw [if_neg h2] at hF
   injection hF with hF
   have e1 : (r != 0) = true := bne_iff_ne.2 (by rw [← hF]; exact h2)
   have e2 : (r == 0) = false := beq_eq_false_iff_ne.2 (by rw [← hF]; exact h2)
   have HG := zh hF
   have H2 := zh h2
   clear hF h2
   go_enter Tryz.func25, Tryz.ntmps25
   go_wp2_with (first
    |(go_at_call 56; (with_reducible refine (netfmt_Check.calls k n b A c l 0 _ ?s1 HC.out HC1.out).mono ?_); (case s1 => exact Kd.C_below HR.out (below_alloc (Below.refl _ _) _)); rintro e w1 ⟨rfl, hb⟩; have HB1 := zh (below_step (below_alloc (Below.refl w.heap.size w) (.cells #[.int .i64 n, .bool b, .slice A l.length c] 33)) hb); have HN1 := zh (blk_below (heap_alloc_new w (.cells #[.int .i64 n, .bool b, .slice A l.length c] 33)) hb); have x0 : w1.cell? ⟨w.heap.size, 0, none⟩ = some (.int .i64 n) := (blk_cell HN1.out 0).trans rfl; have x1 : w1.cell? ⟨w.heap.size, 1, none⟩ = some (.bool b) := (blk_cell HN1.out 1).trans rfl; have x2 : w1.cell? ⟨w.heap.size, 2, none⟩ = some (.slice A l.length c) := (blk_cell HN1.out 2).trans rfl; clear hb)
    |(go_at_call 57; have hP0 := place_new w1 n b A l.length c Ap p.length cp Aq q.length cq; have hb9 : Below w.heap.size w (((w1.alloc (.map #[] 0)).alloc (.map #[] 0)).alloc (.cells (placeCells n b A l.length c Ap p.length cp Aq q.length cq w1.heap.size (w1.heap.size + 1)) 115)) := below_alloc (below_alloc (below_alloc HB1.out _) _) _; have hn9 := blk_alloc (blk_alloc (blk_alloc HN1.out (.map #[] 0)) (.map #[] 0)) (.cells (placeCells n b A l.length c Ap p.length cp Aq q.length cq w1.heap.size (w1.heap.size + 1)) 115); (refine (groups_walk (w1.heap.size + 1 + 1) n b A l.length c Ap cp Aq cq w1.heap.size (w1.heap.size + 1) p q _ hP0 (Kd.C_below HP.out hb9) (Kd.C_below HQ.out hb9) HWP.out HWQ.out HLP.out HLQ.out ?s1).mono ?_); (case s1 => exact fun W hk => ⟨Kd.C_kept_came heapGrp HP.out hb9 (fun k e => by have := HB1.out.size; omega) W hk, Kd.C_kept_came heapGrp HQ.out hb9 (fun k e => by have := HB1.out.size; omega) W hk⟩); rintro e w2 ⟨rfl, hPP, hk, hs⟩; have HPP := zh hPP; have HB2 := zh (below_kept hb9 hk hs (fun k e => by have := HB1.out.size; omega) hb9.size); have HN2 := zh (blk_kept hn9 hk (fun e => e.elim (fun e8 => mapAs_ne hP0.mh hn9 e8.symm) (fun e8 => mapAs_ne hP0.mr hn9 e8.symm))); have HGE := zh (show w.heap.size ≤ w1.heap.size + 1 + 1 by have := HB1.out.size; omega); clear hP0 hb9 hn9 hPP hk hs x0 x1 x2; rw [HG.out]; have y0 : w2.cell? ⟨w.heap.size, 0, none⟩ = some (.int .i64 n) := (blk_cell HN2.out 0).trans rfl; have y1 : w2.cell? ⟨w.heap.size, 1, none⟩ = some (.bool b) := (blk_cell HN2.out 1).trans rfl; have y2 : w2.cell? ⟨w.heap.size, 2, none⟩ = some (.slice A l.length c) := (blk_cell HN2.out 2).trans rfl))
   go_ret2
   exact ⟨HB2.out, .inl ⟨by rw [← HG.out]; exact H2.out, rfl⟩⟩
 ·rw [if_neg h1] at hF
  injection hF with hF
  subst hF
  have e1 : (c1 != 0) = true := bne_iff_ne.2 h1
  have e2 : (c1 == 0) = false := beq_eq_false_iff_ne.2 h1
  have H1 := zh h1
  clear h1
  go_enter Tryz.func25, Tryz.ntmps25
  go_wp2_with (go_at_call 56; (with_reducible refine (netfmt_Check.calls k n b A c l c1 _ ?s1 HC.out HC1.out).mono ?_); (case s1 => exact Kd.C_below HR.out (below_alloc (Below.refl _ _) _)); rintro e w1 ⟨rfl, hb⟩; have HB1 := zh hb; clear hb)
  go_ret2
  exact ⟨below_step (below_alloc (Below.refl _ _) _) HB1.out, .inl ⟨H1.out, rfl⟩⟩
end Go.Proofs.YtcgdloldkcmhnaaGreat.H
end
section
namespace Go.Proofs.YtcgdloldkcmhnaaGreat.H
open Go Go.RowKit Go.Proofs.YtcgdloldkcmhnaaGreat.PrintC Go.Proofs.YtcgdloldkcmhnaaGreatW.PrintWords Go.Proofs.YtcgdloldkcmhnaaGreatW.PrintLast Go.Proofs.YtcgdloldkcmhnaaGreatW.PrintMore Go.Proofs.YtcgdloldkcmhnaaGreat.Flow
set_option linter.unusedVariables false
set_option linter.unusedSimpArgs false
theorem sumN_bd (n : Nat) (g : Nat → Int) (c : Int) (h : ∀ i, i < n → -c ≤ g i ∧ g i ≤ c) : -(n * c) ≤ sumN n g ∧ sumN n g ≤ n * c := by
 refine ⟨?_, sumN_mul_le n g c (fun i hi => (h i hi).2)⟩
 have h1 := sumN_mul_le n (fun i => 0 - g i) c (fun i hi => by have := (h i hi).1; omega)
 rw [sumN_sub, sumN_zero n (fun _ _ => rfl)] at h1
 omega
theorem wr_add (S d : Int) (h1 : -200000000000000000 ≤ S) (h2 : S ≤ 200000000000000000) (h3 : 0 ≤ d) (h4 : d ≤ 1099511627776) : wrap64 (S + d) = S + (d - 0) := by unfold wrap64; omega
theorem wr_sub (S d : Int) (h1 : -200000000000000000 ≤ S) (h2 : S ≤ 200000000000000000) (h3 : 0 ≤ d) (h4 : d ≤ 1099511627776) : wrap64 (S - d) = S + (0 - d) := by unfold wrap64; omega
theorem wr_both (S d : Int) (h1 : -200000000000000000 ≤ S) (h2 : S ≤ 200000000000000000) (h3 : 0 ≤ d) (h4 : d ≤ 1099511627776) : wrap64 (wrap64 (S + d) - d) = S + (d - d) := by unfold wrap64; omega
theorem value_f (N : Nat) (b : Bool) {l : List Arc} {f : List Int} (s : Int) (hn : NetOk N l) (hf : FlowOk l f) : ∃ k, maxflow_Value.f k N b l s f = some (leaves l.length (frOf l) (toOf l) (dOf f) s) := by
 have hll := hn.ll
 let g : Nat → Int := fun i => (if frOf l i = s then dOf f i else 0) - (if toOf l i = s then dOf f i else 0)
 have hg : ∀ i, i < l.length → 0 ≤ dOf f i ∧ dOf f i ≤ 1099511627776 := fun i hi => by
  have h1 := hf.wit i (by omega) (by omega)
  have h2 := hn.caps i (by omega) (by omega)
  exact ⟨h1.1, Int.le_trans h1.2 h2⟩
 have hb : ∀ i, i < l.length → -1099511627776 ≤ g i ∧ g i ≤ 1099511627776 := fun i hi => by
  have := hg i hi
  show -1099511627776 ≤ (if frOf l i = s then dOf f i else 0) - (if toOf l i = s then dOf f i else 0) ∧ (if frOf l i = s then dOf f i else 0) - (if toOf l i = s then dOf f i else 0) ≤ 1099511627776
  split <;> split <;> omega
 have go : ∀ (m i : Nat), i + m = l.length → ∃ k, maxflow_Value.l0 k s f (sumN i g) l (l.length : Int) (i : Int) = some (sumN l.length g) := by
  intro m
  induction m with
  |zero =>
   intro i hi
   have e : i = l.length := by omega
   subst e
   exact ⟨1, by rw [maxflow_Value.l0, if_neg (by omega)]⟩
  |succ m ih =>
   intro i hi
   have hil : i < l.length := by omega
   obtain ⟨k, hk⟩ := ih (i + 1) (by omega)
   refine ⟨k + 1, ?_⟩
   have h1 := sumN_bd i g 1099511627776 (fun j hj => hb j (by omega))
   have h2 := hg i hil
   have h3 : (i : Int) < (f.length : Int) := by rw [hf.len]; omega
   have e4 : rd f (i : Int) = dOf f i := rfl
   have e5 : (rd_T104 l (i : Int)).f0 = frOf l i := rfl
   have e6 : (rd_T104 l (i : Int)).f1 = toOf l i := rfl
   have hi6 : i ≤ 4611686018427387904 := by omega
   rw [sumN] at hk
   generalize hS : sumN i g = S at h1 hk
   have hS1 : -200000000000000000 ≤ S := by omega
   have hS2 : S ≤ 200000000000000000 := by omega
   clear h1
   have gi : g i = (if frOf l i = s then dOf f i else 0) - (if toOf l i = s then dOf f i else 0) := rfl
   rw [gi] at hk
   generalize hd : dOf f i = d at h2 hk
   rw [maxflow_Value.l0, if_pos (by omega), if_pos (by omega), if_pos (by omega), e4, e5, e6, w1n i hi6, hd]
   by_cases c1 : frOf l i = s
   ·by_cases c2 : toOf l i = s
    ·rw [if_pos c1, if_pos c2]
     rw [if_pos c1, if_pos c2] at hk
     rw [if_pos h3, wr_both S d hS1 hS2 h2.1 h2.2]
     exact hk
    ·rw [if_pos c1, if_neg c2]
     rw [if_pos c1, if_neg c2] at hk
     rw [if_pos h3, wr_add S d hS1 hS2 h2.1 h2.2]
     exact hk
   ·by_cases c2 : toOf l i = s
    ·rw [if_neg c1, if_pos c2]
     rw [if_neg c1, if_pos c2] at hk
     rw [if_pos h3, wr_sub S d hS1 hS2 h2.1 h2.2]
     exact hk
    ·rw [if_neg c1, if_neg c2]
     rw [if_neg c1, if_neg c2] at hk
     rw [Int.sub_zero, Int.add_zero] at hk
     exact hk
 exact go l.length 0 (by omega)
theorem value_at (k N : Nat) (b : Bool) (A : Option Addr) (c : Nat) (l : List Arc) (s : Int) (Af : Option Addr) (cf : Nat) (f : List Int) (m : Nat) (hm : f.length = m) (r : Int) (w : World) (hr : Kd.C kArc w A l.length l) (hc : l.length ≤ c) (hF : Kd.C (Kd.int .i64) w Af f.length f) (hcf : m ≤ cf) (h : maxflow_Value.f k N b l s f = some r) :
  Calls Tryz.prog 85 #[.agg #[.int .i64 N, .bool b, .slice A l.length c], .int .i64 s, .slice Af m cf] w fun e w' => e = .returned (.int .i64 r) ∧ Below w.heap.size w w' := by
 subst hm
 exact maxflow_Value.calls k N b A c l s Af cf f r w hr hc hF hcf h
def SolvedAt (w0 : World) (gg N N1 M : Nat) (n : Int) (v : Value) (arcs : List Arc) (B : MB) (D : MD) (w : World) (e : Ending) (w' : World) : Prop :=
 ∃ (bf : Nat) (f : List Int) (S : Int → Bool), e = .returned (.agg #[.pointer (some ⟨gg, 0, none⟩), .slice (some ⟨bf, 0, none⟩) arcs.length arcs.length, .int .i64 (leaves arcs.length (frOf arcs) (toOf arcs) (dOf f) N)]) ∧ GrI w0 gg M n v arcs B D w' ∧ IntBlk w' bf f ∧ w.heap.size ≤ bf ∧ FlowOk arcs f ∧ Top arcs.length (frOf arcs) (toOf arcs) M N N1 (capOf arcs) (dOf f) S ∧ Below w.heap.size w w'
set_option maxHeartbeats 4000000 in
set_option maxRecDepth 100000 in
theorem solve_walk (w0 : World) (gg N N1 M : Nat) (e1 : N1 = N + 1) (e2 : M = N + 2) (n : Int) (v : Value) (arcs : List Arc) (B : MB) (D : MD) (w : World) (h : GrI w0 gg M n v arcs B D w) (hn : NetOk M arcs) (hcap : ∀ i : Int, 0 ≤ i → i < arcs.length → 0 ≤ (rd_T104 arcs i).f2) :
  Calls Tryz.prog 64 #[.pointer (some ⟨gg, 0, none⟩)] w (SolvedAt w0 gg N N1 M n v arcs B D w) := by
 obtain ⟨A, c, rfl⟩ := Kd.R_slice h.ar
 have HI := zh h
 have HN := zh hn
 have HC := zh hcap
 have hn1 := hn.n1
 have HE1 := zh e1
 have HE2 := zh e2
 clear h hn hcap e1 e2
 have hu := Tryz.underlying33
 have hu2 := Tryz.underlying125
 have hu3 := Tryz.underlying70
 go_enter Tryz.func64, Tryz.ntmps64
 go_wp2_with (first
  |(go_at_call 61; (with_reducible refine (ends_walk w0 gg N N1 M HE1.out HE2.out n (.slice A arcs.length c) arcs B D _ ?s1 ?s2).mono ?_); (case s1 => exact HI.out.below (below_alloc (Below.refl _ _) _)); (case s2 => omega); rintro e w1 ⟨rfl, hb⟩; have HI1 := zh ((HI.out.below (below_alloc (Below.refl _ _) _)).below hb); have x0 := HI1.out.cells.1; have x1 := HI1.out.cells.2.1; have x2 := HI1.out.cells.2.2.1; have HB1 := zh (below_step (below_alloc (Below.refl _ _) _) hb); have HR1 := zh (blk_below (heap_alloc_new w (.cells #[.pointer none, .slice none 0 0, .int .i64 0] 70)) hb); clear hb)
  |(go_at_call 84; (with_reducible refine (fill_walk M N N1 false A c arcs _ HN.out HC.out ?s1 ?s2 ?s3 ?s4 ?s5).mono ?_); (case s1 => have := HE2.out; omega); (case s2 => have := HE2.out; have := HE1.out; omega); (case s3 => have := HE1.out; omega); (case s4 => exact (Kd.R_reads' HI1.out.ar).2.1); (case s5 => exact (Kd.R_reads' HI1.out.ar).2.2); rintro e w2 ⟨bf, f, S, rfl, h1, h2, h3, h4, h5⟩; have HI2 := zh (HI1.out.below h5); have H2 := zh h2; have H3 := zh h3; have H4 := zh h4; have HB2 := zh (below_step HB1.out h5); have HR2 := zh (blk_below HR1.out h5); have H1 := zh (Nat.le_trans HB1.out.size h1); have z0 := HI2.out.cells.1; have z1 := HI2.out.cells.2.1; have z2 := HI2.out.cells.2.2.1; have HFL := zh h3.len; clear h1 h2 h3 h4 h5 x0 x1 x2)
  |(go_at_call 85; obtain ⟨k, hk⟩ := value_f M false (N : Int) HN.out H3.out; (with_reducible refine (value_at k M false A c arcs (N : Int) (some ⟨bf, 0, none⟩) arcs.length f arcs.length HFL.out _ _ ?s1 ?s2 ?s3 ?s4 hk).mono ?_); (case s1 => exact (Kd.R_reads' HI2.out.ar).2.2); (case s2 => exact (Kd.R_reads' HI2.out.ar).2.1); (case s3 => exact H2.out.reads (by rw [HFL.out]; have := HN.out.ll; omega)); (case s4 => exact Nat.le_refl _); rintro e w3 ⟨rfl, hb⟩; have HI3 := zh (HI2.out.below hb); have H5 := zh (blk_below H2.out hb); have HB3 := zh (below_step HB2.out hb); have HR3 := zh (blk_below HR2.out hb); have y0 : w3.cell? ⟨w.heap.size, 0, none⟩ = some (.pointer none) := (blk_cell HR3.out 0).trans rfl; have y1 : w3.cell? ⟨w.heap.size, 1, none⟩ = some (.slice none 0 0) := (blk_cell HR3.out 1).trans rfl; have y2 : w3.cell? ⟨w.heap.size, 2, none⟩ = some (.int .i64 0) := (blk_cell HR3.out 2).trans rfl; have f0 := blk_frozen HR3.out 0; have f1 := blk_frozen HR3.out 1; have f2 := blk_frozen HR3.out 2; clear hb hk z0 z1 z2))
 have HSZ := zh HI.out.low.size
 refine bodyPost_ret (results_cell_row rfl _ _ w.heap.size 70 #[.pointer (some ⟨gg, 0, none⟩), .slice (some ⟨bf, 0, none⟩) arcs.length arcs.length, .int .i64 (leaves arcs.length (frOf arcs) (toOf arcs) (dOf f) N)] (0, 0) _ rfl (blk_put (cs := #[.pointer (some ⟨gg, 0, none⟩), .slice (some ⟨bf, 0, none⟩) arcs.length arcs.length, .int .i64 0]) (blk_put (cs := #[.pointer (some ⟨gg, 0, none⟩), .slice none 0 0, .int .i64 0]) (blk_put (cs := #[.pointer none, .slice none 0 0, .int .i64 0]) HR3.out 0 (.pointer (some ⟨gg, 0, none⟩)) rfl) 1 (.slice (some ⟨bf, 0, none⟩) arcs.length arcs.length) rfl) 2 (.int .i64 (leaves arcs.length (frOf arcs) (toOf arcs) (dOf f) N)) rfl) hu3 rfl (by kernel_rfl)) rfl ?_
 have k1 := blk_put (cs := #[.pointer none, .slice none 0 0, .int .i64 0]) HR3.out 0 (.pointer (some ⟨gg, 0, none⟩)) rfl
 have k2 := blk_put (cs := #[.pointer (some ⟨gg, 0, none⟩), .slice none 0 0, .int .i64 0]) k1 1 (.slice (some ⟨bf, 0, none⟩) arcs.length arcs.length) rfl
 have hne : bf ≠ w.heap.size := blk_ne H5.out HR3.out (by decide)
 refine ⟨bf, f, S, rfl, (((HI3.out.set HR3.out (by decide) (by decide) HSZ.out 0 _).set k1 (by decide) (by decide) HSZ.out 1 _).set k2 (by decide) (by decide) HSZ.out 2 _), ?_, H1.out, H3.out, H4.out, below_set (below_set (below_set HB3.out (Nat.le_refl _)) (Nat.le_refl _)) (Nat.le_refl _)⟩
 unfold IntBlk
 rw [Below.heap_setCell _ ⟨w.heap.size, 2, none⟩ _ _ hne, Below.heap_setCell _ ⟨w.heap.size, 1, none⟩ _ _ hne, Below.heap_setCell _ ⟨w.heap.size, 0, none⟩ _ _ hne]
 exact H5.out
end Go.Proofs.YtcgdloldkcmhnaaGreat.H
end
section
namespace Go.Proofs.YtcgdloldkcmhnaaGreat.H
open Go Go.RowKit Go.Proofs.YtcgdloldkcmhnaaGreat.PrintC Go.Proofs.YtcgdloldkcmhnaaGreat.PrintE Go.Proofs.YtcgdloldkcmhnaaGreatW.PrintWords Go.Proofs.YtcgdloldkcmhnaaGreatW.PrintLast Go.Proofs.YtcgdloldkcmhnaaGreatW.PrintMore Go.Proofs.YtcgdloldkcmhnaaGreat.Flow
abbrev Slot := S110
abbrev kSlot := k110
theorem infoSlot : (Tryz.prog.info? 110).map (fun i => (i.zero, i.size, i.bytes)) = some (some (.agg #[.int .i64 0, .int .i64 0]), 2, 16) := by kernel_rfl
def slotsOf (n : Nat) (d : List Int) : Nat → List Slot
 |0 => []
 |i + 1 => slotsOf n d i ++ (if 0 ≤ rd d (i : Int) then [⟨((i : Int) % (n : Int)), ((i : Int) / (n : Int))⟩] else [])
theorem slotsOf_len (n : Nat) (d : List Int) : ∀ i, (slotsOf n d i).length ≤ i
 |0 => Nat.le_refl _
 |i + 1 => by
  have := slotsOf_len n d i
  unfold slotsOf
  rw [List.length_append]
  split <;> simp <;> omega
theorem slot_empty {W : World} {g base : Nat} (hb : W.heap[g]? = some (.cells #[] 110 (0, 0))) (hg : base ≤ g) : Kd.R kSlot 110 W base (fun _ => True) (.slice (some ⟨g, 0, none⟩) 0 0) [] := by
 exact ⟨fun _ _ => trivial, [], ⟨rfl, .inr ⟨g, 0, #[], rfl, hg, hb, Nat.le_refl _, by decide, rfl, rfl⟩⟩, ⟨rfl, fun j p hj => by simp at hj⟩⟩
theorem bool_cell {W : World} {base g cv : Nat} {ok : Nat → Prop} {bl : List Bool} (h : Kd.R Kd.bool 4 W base ok (.slice (some ⟨g, 0, none⟩) bl.length cv) bl) (i : Nat) (hi : i < bl.length) : W.cell? ⟨g, i, none⟩ = some (.bool (bl.getD i false)) := by
 obtain ⟨ce, hl, hM, hcc, _⟩ := Kd.R_elem h false (i : Int) (by omega) (by omega)
 have hM2 : ce = [.bool (bl.getD i false)] := by rw [Int.toNat_natCast] at hM; exact hM
 subst hM2
 have := hcc 0 _ rfl
 rw [Int.toNat_natCast, show Kd.bool.sz = 1 from rfl, Nat.mul_one, Nat.add_zero] at this
 exact this
theorem behind_at (n s : Nat) (b : Bool) (A : Option Addr) (c : Nat) (l : List Arc) (Af : Option Addr) (cf : Nat) (f : List Int) (m : Nat) (hm : f.length = m) (w : World) (hn : NetOk n l) (hf : FlowOk l f) (hs : s < n)
  (hlc : l.length ≤ c) (hr : Kd.C k104 w A l.length l) (hF : Kd.C (Kd.int .i64) w Af f.length f) (hfc : m ≤ cf) :
  Calls Tryz.prog 69 #[.agg #[.int .i64 n, .bool b, .slice A l.length c], .slice Af m cf, .int .i64 s] w fun e w' => ∃ (v : Value) (d : List Int) (rows : List (List Stp)), e = .returned v ∧ Kd.R Kd.bool 4 w' w.heap.size (fun _ => True) v (d.map fun x => decide (0 ≤ x)) ∧ d.length = n ∧ RowsOk n l rows ∧ Bf n s (Lk l f rows) (dOf d) ∧ Below w.heap.size w w' := by
 subst hm
 exact behind_walk n s b A c l Af cf f w hn hf hs hlc hr hF hfc
def SlotsAt (N : Nat) (n : Nat) (arcs : List Arc) (f : List Int) (M : Nat) (w : World) (e : Ending) (w' : World) : Prop :=
 ∃ (v : Value) (d : List Int) (rows : List (List Stp)), e = .returned v ∧ Kd.R kSlot 110 w' w.heap.size (fun _ => True) v (slotsOf n d N) ∧ d.length = M ∧ RowsOk M arcs rows ∧ Bf M N (Lk arcs f rows) (dOf d) ∧ Below w.heap.size w w'
set_option maxHeartbeats 4000000 in
set_option maxRecDepth 100000 in
theorem slots_walk (w0 : World) (gg N N1 M : Nat) (e1 : N1 = N + 1) (e2 : M = N + 2) (n : Nat) (v : Value) (arcs : List Arc) (B : MB) (D : MD) (bf : Nat) (f : List Int) (val : Int) (w : World) (h : GrI w0 gg M n v arcs B D w) (hn : NetOk M arcs) (hn0 : 0 < n) (hF : IntBlk w bf f) (hf : FlowOk arcs f) :
  Calls Tryz.prog 39 #[.agg #[.pointer (some ⟨gg, 0, none⟩), .slice (some ⟨bf, 0, none⟩) arcs.length arcs.length, .int .i64 val], .int .i64 n] w (SlotsAt N n arcs f M w) := by
 obtain ⟨A, c, rfl⟩ := Kd.R_slice h.ar
 have HI := zh h
 have HN := zh hn
 have HFB := zh hF
 have HF := zh hf
 have hn1 := hn.n1
 have HE1 := zh e1
 have HE2 := zh e2
 clear h hn hF hf e1 e2
 have hu := Tryz.underlying33
 have hu2 := Tryz.underlying125
 have hu3 := Tryz.underlying70
 go_enter Tryz.func39, Tryz.ntmps39
 go_wp2_with (go_at_call 61; (with_reducible refine (ends_walk w0 gg N N1 M HE1.out HE2.out n (.slice A arcs.length c) arcs B D _ ?s1 ?s2).mono ?_); (case s1 => exact HI.out.below (below_alloc (Below.refl _ _) _)); (case s2 => omega); rintro e w1 ⟨rfl, hb⟩; have HB1 := zh hb; clear hb)
 obtain ⟨w2, hw2⟩ : ∃ w2, w2 = w1.alloc (.cells #[] 110) := ⟨_, rfl⟩
 have HB2 : Hid (Below w.heap.size w w2) := zh (by rw [hw2]; exact below_alloc (below_step (below_alloc (Below.refl _ _) _) HB1.out) _)
 have HX2 : Hid (w2.heap[w.heap.size]? = some (.cells #[.pointer (some ⟨gg, 0, none⟩), .slice (some ⟨bf, 0, none⟩) arcs.length arcs.length, .int .i64 val] 70 (0, 0))) := zh (by rw [hw2]; exact blk_alloc (blk_below (heap_alloc_new _ _) HB1.out) _)
 have HO2 : Hid (Kd.R kSlot 110 w2 w.heap.size (fun _ => True) (.slice (some ⟨w1.heap.size, 0, none⟩) 0 0) []) := zh (slot_empty (by rw [hw2]; exact alloc_at rfl) (by have := HB1.out.size; simp at this; omega))
 rw [← hw2]
 clear hw2
 have HI2 := zh (HI.out.below HB2.out)
 have HF2 : Hid (IntBlk w2 bf f) := zh (blk_below HFB.out HB2.out)
 generalize w1.heap.size = go at *
 have x0 : w2.cell? ⟨w.heap.size, 0, none⟩ = some (.pointer (some ⟨gg, 0, none⟩)) := (blk_cell HX2.out 0).trans rfl
 have x1 : w2.cell? ⟨w.heap.size, 1, none⟩ = some (.slice (some ⟨bf, 0, none⟩) arcs.length arcs.length) := (blk_cell HX2.out 1).trans rfl
 have y0 := HI2.out.cells.1
 have y1 := HI2.out.cells.2.1
 have y2 := HI2.out.cells.2.2.1
 have HFL := zh HF.out.len
 have n0 : (0 : Int) ≤ (N : Int) := by omega
 have n1 : (N : Int) ≤ (M : Int) := by have := HE2.out; omega
 go_region_held3 (fun w' => w'.cell? ⟨w.heap.size, 0, none⟩ = some (.pointer (some ⟨gg, 0, none⟩)) ∧ w'.cell? ⟨w.heap.size, 1, none⟩ = some (.slice (some ⟨bf, 0, none⟩) arcs.length arcs.length) ∧ w'.cell? ⟨gg, 0, none⟩ = some (.int .i64 M) ∧ w'.cell? ⟨gg, 1, none⟩ = some (.bool false) ∧ w'.cell? ⟨gg, 2, none⟩ = some (.slice A arcs.length c)) (first | go_keep | exact HS9.out) ((go_at_call 69; (with_reducible refine (behind_at M N false A c arcs (some ⟨bf, 0, none⟩) arcs.length f arcs.length HFL.out _ HN.out HF.out ?s1 ?s2 ?s3 ?s4 ?s5).mono ?_); (case s1 => have := HE2.out; omega); (case s2 => exact (Kd.R_reads' HI2.out.ar).2.1); (case s3 => exact Kd.C_below (Kd.R_reads' HI2.out.ar).2.2 zD); (case s4 => exact (show IntBlk _ bf f from blk_below HF2.out zD).reads (by rw [HFL.out]; have := HN.out.ll; omega)); (case s5 => exact Nat.le_refl _); rintro e w3 ⟨v3, d, rows, rfl, h1, h2, h3, h4, h5⟩; have hb3 : Below w2.heap.size w2 w3 := below_step zD h5; have HS9 : Hid (w3.cell? ⟨w.heap.size, 0, none⟩ = some (.pointer (some ⟨gg, 0, none⟩)) ∧ w3.cell? ⟨w.heap.size, 1, none⟩ = some (.slice (some ⟨bf, 0, none⟩) arcs.length arcs.length) ∧ w3.cell? ⟨gg, 0, none⟩ = some (.int .i64 M) ∧ w3.cell? ⟨gg, 1, none⟩ = some (.bool false) ∧ w3.cell? ⟨gg, 2, none⟩ = some (.slice A arcs.length c)) := zh ⟨pw_cell_below hb3 x0, pw_cell_below hb3 x1, pw_cell_below hb3 y0, pw_cell_below hb3 y1, pw_cell_below hb3 y2⟩; obtain ⟨Av, cv, rfl⟩ := Kd.R_slice h1; have hlen : (d.map fun x => decide (0 ≤ x)).length = M := (by rw [List.length_map]; exact h2); obtain ⟨gv, cv2, ev, hgv, _, _⟩ := Kd.R_form h1 (by rw [hlen]; have := HE2.out; omega); injection ev with ev1 ev2 ev3; subst ev1; clear ev2 ev3; rw [hlen] at h1; have hcv := (Kd.R_reads' h1).2.1; have n2 : (N : Int) ≤ (cv : Int) := (by omega); have HD1 := zh h1; have HD2 := zh h2; have HD3 := zh h3; have HD4 := zh h4; have HB3 := zh hb3; have HLEN := zh hlen; clear h1 h2 h3 h4 h5 hb3 hlen))
 have HD5 := zh hgv
 have HR3 : Hid (Kd.R kSlot 110 w3 w.heap.size (fun _ => True) (.slice (some ⟨go, 0, none⟩) (slotsOf n d 0).length 0) (slotsOf n d 0)) := zh (Kd.R_below HO2.out HB3.out)
 have HB4 := zh (below_step HB2.out HB3.out)
 have HBASE : Hid (w.heap.size ≤ w2.drew.heap.size) := zh HB2.out.size
 clear hgv hcv x0 x1 y0 y1 y2 HS9
 generalize w2.drew.heap.size = base at *
 go_wp2
 go_loopg [7, 29] (N + 1) (fun k ov iv W => ∃ (i : Nat) (Ao : Option Addr) (co : Nat), i ≤ N ∧ ov = .slice Ao (slotsOf n d i).length co ∧ iv = .int .i64 i ∧ k = N + 1 - i ∧ Hid (Kd.R kSlot 110 W w.heap.size (fun _ => True) (.slice Ao (slotsOf n d i).length co) (slotsOf n d i) ∧ Kd.R Kd.bool 4 W base (fun _ => True) (.slice (some ⟨gv, 0, none⟩) M cv) (d.map fun x => decide (0 ≤ x)) ∧ Below w.heap.size w W))
 case atStart => exact ⟨0, some ⟨go, 0, none⟩, 0, Nat.zero_le _, rfl, rfl, rfl, zh ⟨HR3.out, HD1.out, HB4.out⟩⟩
 case round =>
  obtain ⟨i, Ao, co, hi, rfl, rfl, rfl, HL⟩ := hrel
  clear HR3 HB4 HD1
  by_cases hlt : i < N
  ·have hlt2 : (i : Int) < (N : Int) := by omega
   have i0 : (0 : Int) ≤ (i : Int) := by omega
   have hbc := HL.out.2.1
   have hbl := HLEN.out
   have hMd := HE2.out
   rw [← hbl] at hbc
   have hcell := bool_cell hbc i (by omega)
   have hget : (d.map fun x => decide (0 ≤ x)).getD i false = decide (0 ≤ rd d (i : Int)) := by
    have h9 : i < d.length := by have := HD2.out; omega
    unfold rd
    rw [Int.toNat_natCast, List.getD_eq_getElem?_getD, List.getElem?_map, List.getD_eq_getElem?_getD, List.getElem?_eq_getElem h9]
    rfl
   rw [hget] at hcell
   clear hbc hbl hget hMd
   by_cases hd9 : 0 ≤ rd d (i : Int)
   ·have hdd : decide (0 ≤ rd d (i : Int)) = true := by simpa using hd9
    rw [hdd] at hcell
    have HDD := zh hd9
    clear hdd hd9
    obtain ⟨m, hm⟩ : ∃ m, m = (slotsOf n d i).length := ⟨_, rfl⟩
    have HM := zh hm
    rw [← hm]
    clear hm
    have n9 : (1 : Int) ≤ (n : Int) := by omega
    have hnz : ¬ n = 0 := by omega
    have e7 : IntKind.i64.wrap ((i : Int) / (n : Int)) = (i : Int) / (n : Int) := by
     have h8 : (i : Int) / (n : Int) = ((i / n : Nat) : Int) := rfl
     have h7 : i / n ≤ i := Nat.div_le_self _ _
     rw [h8]
     generalize i / n = q at h7
     exact IntWalk.i64_in _ (by omega)
    have er : (i : Int).tmod (n : Int) = (i : Int) % (n : Int) := rfl
    have HLE := zh (slotsOf_len n d i)
    go_wp2
    rename_i K9 aK9
    go_region_law (((repeat rw [drew_of_alloc]); refine Kd.R_append_step kSlot (w0 := w) w.heap.size (by rfl) (.tmp 35) (.tmp 43) 50 110 (.agg #[.int .i64 0, .int .i64 0]) 16 (by rfl) Tryz.underlying50 infoSlot rfl (by decide) (by decide) (.slice Ao m co) (slotsOf n d i) ⟨((i : Int) % (n : Int)), ((i : Int) / (n : Int))⟩ [.int .i64 ((i : Int) % (n : Int)), .int .i64 ((i : Int) / (n : Int))] (fun _ => True) (fun _ => False) (by rfl) (by rfl) (k110_mkM _ _ _ (⟨((i : Int) % (n : Int)), ((i : Int) / (n : Int))⟩ : Slot)) (fun _ hk => hk.elim) (fun _ _ => trivial) (by rw [HM.out]; exact Kd.R_below HL.out.1 zD) (below_step HL.out.2.2 zD) (HL.out.2.2.size) (by have := HLE.out; omega) ?_; intro v1 w9 ho hb hg hat))
    obtain ⟨A1, c1, rfl⟩ := Kd.R_slice ho
    have hb9 : Kd.R Kd.bool 4 w9 base (fun _ => True) (.slice (some ⟨gv, 0, none⟩) M cv) (d.map fun x => decide (0 ≤ x)) := Kd.R_over' (Kd.R_below HL.out.2.1 zD) (v := .slice Ao m co) (by rw [HM.out]; exact Kd.R_typed (Kd.R_below HL.out.1 zD)) (by decide) hg
    have hs9 : slotsOf n d (i + 1) = slotsOf n d i ++ [⟨(i : Int) % (n : Int), (i : Int) / (n : Int)⟩] := by
     rw [slotsOf, if_pos HDD.out]
    rw [← hs9] at ho
    have hl9 : (slotsOf n d i ++ [(⟨(i : Int) % (n : Int), (i : Int) / (n : Int)⟩ : Slot)]).length = (slotsOf n d (i + 1)).length := by rw [hs9]
    have HF9 := zh (And.intro ho (And.intro hb9 hb))
    have HL9 := zh hl9
    clear ho hb hg hat hb9 hs9 hl9 er e7
    go_wp2
    go_roundg (N - i)
    case measure => omega
    case rel => exact ⟨i + 1, A1, c1, by omega, by rw [← HL9.out]; first | rfl | simp, by go_num, by omega, HF9⟩
   ·have hdd : decide (0 ≤ rd d (i : Int)) = false := by simpa using hd9
    rw [hdd] at hcell
    have HDD := zh hd9
    clear hdd hd9
    have hs9 : slotsOf n d (i + 1) = slotsOf n d i := by
     rw [slotsOf, if_neg HDD.out, List.append_nil]
    have HS9 := zh hs9
    clear hs9
    go_wp2
    go_roundg (N - i)
    case measure => omega
    case rel => exact ⟨i + 1, Ao, co, by omega, by rw [HS9.out], by go_num, by omega, zh (by rw [HS9.out]; exact HL.out)⟩
  ·have hlt2 : ¬ (i : Int) < (N : Int) := by omega
   have e : i = N := by omega
   subst e
   go_wp2
   go_ret
   exact ⟨_, d, rows, rfl, HL.out.1, HD2.out, HD3.out, HD4.out, HL.out.2.2⟩
def ArcOk (M : Int) (x : Arc) : Prop := (0 ≤ x.f0 ∧ x.f0 < M) ∧ (0 ≤ x.f1 ∧ x.f1 < M) ∧ 0 ≤ x.f2 ∧ x.f2 ≤ 1099511627776
theorem idx_lt {a n h x : Int} (h0 : 0 ≤ a) (h1 : a ≤ h) (x0 : 0 ≤ x) (x1 : x < n) : 0 ≤ a * n + x ∧ a * n + x < (h + 1) * n := by
 have hn : 0 ≤ n := by omega
 have h2 := Int.mul_nonneg h0 hn
 have h3 : (a + 1) * n ≤ (h + 1) * n := Int.mul_le_mul_of_nonneg_right (by omega) hn
 rw [Int.add_mul, Int.one_mul] at h3
 omega
theorem bM_ok {n h : Nat} {l : List Arc} (hn : NetIn n h l) (hc : ∀ i : Nat, i < l.length → 0 ≤ (arcAt l i).f2 ∧ (arcAt l i).f2 ≤ 1048576) (use : Arc → Bool) (a : Nat) {s : BSt} {M : Int} (hM : ((h : Int) + 1) * n ≤ M) (hs : ∀ x, x ∈ s.arcs → ArcOk M x) : ∀ j, j ≤ l.length → ∀ x, x ∈ (bM l use n h a s j).arcs → ArcOk M x
 |0, _ => hs
 |j + 1, hj => by
  intro x hx
  unfold bM at hx
  simp only at hx
  split at hx
  ·rename_i hcond
   rcases List.mem_append.1 hx with hx | hx
   ·exact bM_ok hn hc use a hM hs j (by omega) x hx
   ·rw [List.mem_singleton] at hx
    subst hx
    have he := hn.ends j (by omega)
    have ht := hn.time j (by omega)
    have h1 := idx_lt (a := (a : Int)) (n := n) (h := h) (by omega) (by omega) he.1.1 he.1.2
    have h2 := idx_lt (a := (a : Int) + (arcAt l j).f3) (n := n) (h := h) (by omega) hcond.1 he.2.1 he.2.2
    have h3 := hc j (by omega)
    exact ⟨⟨h1.1, by show (a : Int) * n + (arcAt l j).f0 < M; omega⟩, ⟨h2.1, by show ((a : Int) + (arcAt l j).f3) * n + (arcAt l j).f1 < M; omega⟩, h3.1, by show (arcAt l j).f2 ≤ _; omega⟩
  ·exact bM_ok hn hc use a hM hs j (by omega) x hx
theorem bW_ok {n h : Nat} (keeps : Nat → Bool) (a : Nat) {s : BSt} {M : Int} (hM : ((h : Int) + 1) * n ≤ M) (hs : ∀ x, x ∈ s.arcs → ArcOk M x) : ∀ v, v ≤ n → ∀ x, x ∈ (bW keeps n h a s v).arcs → ArcOk M x
 |0, _ => hs
 |v + 1, hv => by
  intro x hx
  unfold bW at hx
  simp only at hx
  split at hx
  ·rename_i hcond
   rcases List.mem_append.1 hx with hx | hx
   ·exact bW_ok keeps a hM hs v (by omega) x hx
   ·rw [List.mem_singleton] at hx
    subst hx
    have h1 := idx_lt (a := (a : Int)) (n := n) (h := h) (x := (v : Int)) (by omega) (by omega) (by omega) (by omega)
    have h2 := idx_lt (a := (a : Int) + 1) (n := n) (h := h) (x := (v : Int)) (by omega) (by omega) (by omega) (by omega)
    exact ⟨⟨h1.1, by show (a : Int) * n + (v : Int) < M; omega⟩, ⟨h2.1, by show ((a : Int) + 1) * n + (v : Int) < M; omega⟩, by show (0 : Int) ≤ 1099511627776; decide, Int.le_refl _⟩
  ·exact bW_ok keeps a hM hs v (by omega) x hx
theorem bA_ok {n h : Nat} {l : List Arc} (hn : NetIn n h l) (hc : ∀ i : Nat, i < l.length → 0 ≤ (arcAt l i).f2 ∧ (arcAt l i).f2 ≤ 1048576) (use : Arc → Bool) (keeps : Nat → Bool) {M : Int} (hM : ((h : Int) + 1) * n ≤ M) : ∀ a x, x ∈ (bA l use keeps n h a).arcs → ArcOk M x
 |0, x, hx => by cases hx
 |a + 1, x, hx => bW_ok keeps a hM (bM_ok hn hc use a hM (bA_ok hn hc use keeps hM a) l.length (Nat.le_refl _)) n (Nat.le_refl _) x hx
def pArcs (N : Nat) (p : List Grp) : List Arc := p.map fun g => ⟨(N : Int), g.f0, g.f1, 0⟩
def qArcs (N1 n h : Nat) (q : List Grp) : List Arc := q.map fun g => ⟨(h : Int) * n + g.f0, (N1 : Int), g.f1, 0⟩
def evArcs (l : List Arc) (use : Arc → Bool) (keeps : Nat → Bool) (n h N N1 : Nat) (p q : List Grp) : List Arc := (bA l use keeps n h (h + 1)).arcs ++ pArcs N p ++ qArcs N1 n h q
theorem pArcs_snoc (N : Nat) (p : List Grp) (g : Grp) : pArcs N (p ++ [g]) = pArcs N p ++ [⟨(N : Int), g.f0, g.f1, 0⟩] := by unfold pArcs; rw [List.map_append]; rfl
theorem qArcs_snoc (N1 n h : Nat) (q : List Grp) (g : Grp) : qArcs N1 n h (q ++ [g]) = qArcs N1 n h q ++ [⟨(h : Int) * n + g.f0, (N1 : Int), g.f1, 0⟩] := by unfold qArcs; rw [List.map_append]; rfl
def GrpsIn (n : Nat) (p : List Grp) : Prop := ∀ g, g ∈ p → (0 ≤ g.f0 ∧ g.f0 < n) ∧ 0 ≤ g.f1 ∧ g.f1 ≤ 1048576
theorem evArcs_ok {n h N N1 M : Nat} {l : List Arc} (hn : NetIn n h l) (hc : ∀ i : Nat, i < l.length → 0 ≤ (arcAt l i).f2 ∧ (arcAt l i).f2 ≤ 1048576) (use : Arc → Bool) (keeps : Nat → Bool) {p q : List Grp} (hp : GrpsIn n p) (hq : GrpsIn n q) (eN : N = (h + 1) * n) (e1 : N1 = N + 1) (e2 : M = N + 2) :
  ∀ x, x ∈ evArcs l use keeps n h N N1 p q → ArcOk M x := by
 have hN : (N : Int) = ((h : Int) + 1) * n := by rw [eN, Int.natCast_mul]; rfl
 intro x hx
 rcases List.mem_append.1 hx with hx | hx
 ·rcases List.mem_append.1 hx with hx | hx
  ·exact bA_ok hn hc use keeps (M := M) (by omega) _ x hx
  ·obtain ⟨g, hg, rfl⟩ := List.mem_map.1 hx
   have h1 := hp g hg
   have h2 : (n : Int) ≤ ((h : Int) + 1) * n := by
    have := idx_lt (a := (h : Int)) (n := n) (h := h) (x := (0 : Int)) (by omega) (by omega) (by omega) (by have := hn.n0; omega)
    have h3 := Int.mul_nonneg (show (0 : Int) ≤ h by omega) (show (0 : Int) ≤ n by omega)
    rw [Int.add_mul, Int.one_mul]
    omega
   exact ⟨⟨by show (0 : Int) ≤ (N : Int); omega, by show (N : Int) < (M : Int); omega⟩, ⟨h1.1.1, by show g.f0 < (M : Int); omega⟩, h1.2.1, by show g.f1 ≤ _; omega⟩
 ·obtain ⟨g, hg, rfl⟩ := List.mem_map.1 hx
  have h1 := hq g hg
  have h2 := idx_lt (a := (h : Int)) (n := n) (h := h) (by omega) (by omega) h1.1.1 h1.1.2
  exact ⟨⟨h2.1, by show (h : Int) * n + g.f0 < (M : Int); omega⟩, ⟨by show (0 : Int) ≤ (N1 : Int); omega, by show (N1 : Int) < (M : Int); omega⟩, h1.2.1, by show g.f1 ≤ _; omega⟩
theorem evArcs_len {n h N N1 : Nat} {l : List Arc} (hn : NetIn n h l) (use : Arc → Bool) (keeps : Nat → Bool) (p q : List Grp) : (evArcs l use keeps n h N N1 p q).length ≤ 14000 + p.length + q.length := by
 unfold evArcs pArcs qArcs
 rw [List.length_append, List.length_append, List.length_map, List.length_map]
 have h1 := (bA_le l use keeps n h (h + 1)).1
 have h2 := hn.hn
 have h3 := hn.hl
 rw [Nat.mul_add] at h1
 omega
theorem netOk_of {M : Nat} {arcs : List Arc} (h0 : 0 < M) (h1 : M ≤ 10000) (hl : arcs.length ≤ 100000) (h : ∀ x, x ∈ arcs → ArcOk M x) : NetOk M arcs ∧ ∀ i : Int, 0 ≤ i → i < arcs.length → 0 ≤ (rd_T104 arcs i).f2 := by
 have key : ∀ i : Int, 0 ≤ i → i < arcs.length → ArcOk M (rd_T104 arcs i) := fun i h0 h1 => by
  obtain ⟨k, rfl⟩ := Int.eq_ofNat_of_zero_le h0
  exact h _ (mem_arcAt (by omega))
 exact ⟨⟨h0, h1, hl, fun i a b => ⟨(key i a b).1, (key i a b).2.1⟩, fun i a b => (key i a b).2.2.2⟩, fun i a b => (key i a b).2.2.1⟩
theorem GrI.loose {w0 : World} {gg : Nat} {N n : Int} {v : Value} {arcs : List Arc} {B : MB} {D : MD} {W : World} (h : GrI w0 gg N n v arcs B D W) : GrI (bare W) gg N n v arcs B D W :=
 ⟨h.bx, Kd.R_lower h.ar (Nat.zero_le _), h.mm, h.mw, h.mf, h.ml, below_bare W W ⟨rfl, rfl, rfl⟩, Nat.zero_le _, Nat.zero_le _, Nat.zero_le _, Nat.zero_le _, Nat.zero_le _, h.n1, h.n2, h.n3, h.n4, h.n5, h.n6⟩
set_option linter.unusedVariables false
set_option linter.unusedSimpArgs false
def useOf (q : List Grp) (x : Arc) : Bool := !hasK (putGs q) x.f0
def keepsOf (b : Bool) (p q : List Grp) (v : Nat) : Bool := b || (hasK (putGs p) (v : Int) || hasK (putGs q) (v : Int))
def SolvedP (n h : Nat) (b : Bool) (l : List Arc) (p q : List Grp) (N N1 M : Nat) (w : World) (e : Ending) (w' : World) : Prop :=
 ∃ (w0 : World) (gg : Nat) (v : Value) (B : MB) (bf : Nat) (f : List Int) (S : Int → Bool),
  e = .returned (.agg #[.pointer (some ⟨gg, 0, none⟩), .slice (some ⟨bf, 0, none⟩) (evArcs l (useOf q) (keepsOf b p q) n h N N1 p q).length (evArcs l (useOf q) (keepsOf b p q) n h N N1 p q).length, .int .i64 (leaves (evArcs l (useOf q) (keepsOf b p q) n h N N1 p q).length (frOf (evArcs l (useOf q) (keepsOf b p q) n h N N1 p q)) (toOf (evArcs l (useOf q) (keepsOf b p q) n h N N1 p q)) (dOf f) N)]) ∧
  GrI w0 gg M n v (evArcs l (useOf q) (keepsOf b p q) n h N N1 p q) B (bA l (useOf q) (keepsOf b p q) n h (h + 1)).md w' ∧ IntBlk w' bf f ∧ FlowOk (evArcs l (useOf q) (keepsOf b p q) n h N N1 p q) f ∧
  Top (evArcs l (useOf q) (keepsOf b p q) n h N N1 p q).length (frOf (evArcs l (useOf q) (keepsOf b p q) n h N N1 p q)) (toOf (evArcs l (useOf q) (keepsOf b p q) n h N N1 p q)) M N N1 (capOf (evArcs l (useOf q) (keepsOf b p q) n h N N1 p q)) (dOf f) S ∧ Below w.heap.size w w'
set_option maxHeartbeats 8000000 in
set_option maxRecDepth 100000 in
theorem solved_walk (n h : Nat) (b : Bool) (A : Option Addr) (c : Nat) (l : List Arc) (Ap : Option Addr) (cp : Nat) (p : List Grp) (Aq : Option Addr) (cq : Nat) (q : List Grp) (gp bh br N N1 M : Nat) (eN : N = (h + 1) * n) (e1 : N1 = N + 1) (e2 : M = N + 2) (w : World)
  (hP : PlI gp (placeCells n b A l.length c Ap p.length cp Aq q.length cq bh br) bh br p.length q.length (putGs p) (putGs q) w) (hr : Kd.C kArc w A l.length l) (hlc : l.length ≤ c) (hp : Kd.C kGrp w Ap p.length p) (hq : Kd.C kGrp w Aq q.length q)
  (hn : NetIn n h l) (hc : ∀ i : Nat, i < l.length → 0 ≤ (arcAt l i).f2 ∧ (arcAt l i).f2 ≤ 1048576) (gp1 : GrpsIn n p) (gq1 : GrpsIn n q) (lp : p.length ≤ 1000) (lq : q.length ≤ 1000) :
  Calls Tryz.prog 26 #[.pointer (some ⟨gp, 0, none⟩), .int .i64 h] w (SolvedP n h b l p q N N1 M w) := by
 have HP := zh hP
 have HR := zh hr
 have HLC := zh hlc
 have HPR := zh hp
 have HQR := zh hq
 have HN := zh hn
 have HC := zh hc
 have HGP := zh gp1
 have HGQ := zh gq1
 have HEN := zh eN
 have HE1 := zh e1
 have HE2 := zh e2
 have HLP := zh lp
 have HLQ := zh lq
 have hn1 := hn.n1
 have hh1 := hn.h1
 have hN : N ≤ 4000 := by rw [eN]; exact hn.hn
 have x0 : w.cell? ⟨gp, 0, none⟩ = some (.int .i64 n) := (blk_cell hP.bx 0).trans rfl
 have x1 : w.cell? ⟨gp, 1, none⟩ = some (.bool b) := (blk_cell hP.bx 1).trans rfl
 have x2 : w.cell? ⟨gp, 2, none⟩ = some (.slice A l.length c) := (blk_cell hP.bx 2).trans rfl
 have x3 : w.cell? ⟨gp, 3, none⟩ = some (.slice Ap p.length cp) := (blk_cell hP.bx 3).trans rfl
 have x4 : w.cell? ⟨gp, 4, none⟩ = some (.slice Aq q.length cq) := (blk_cell hP.bx 4).trans rfl
 have z0 := pw_cell_below (below_alloc (Below.refl w.heap.size w) (.cells #[.pointer none, .slice none 0 0, .int .i64 0] 70)) x0
 have z1 := pw_cell_below (below_alloc (Below.refl w.heap.size w) (.cells #[.pointer none, .slice none 0 0, .int .i64 0] 70)) x1
 have z2 := pw_cell_below (below_alloc (Below.refl w.heap.size w) (.cells #[.pointer none, .slice none 0 0, .int .i64 0] 70)) x2
 have z3 := pw_cell_below (below_alloc (Below.refl w.heap.size w) (.cells #[.pointer none, .slice none 0 0, .int .i64 0] 70)) x3
 have z4 := pw_cell_below (below_alloc (Below.refl w.heap.size w) (.cells #[.pointer none, .slice none 0 0, .int .i64 0] 70)) x4
 have HB0 := zh (below_alloc (Below.refl w.heap.size w) (.cells #[.pointer none, .slice none 0 0, .int .i64 0] 70))
 have HRC0 := zh (heap_alloc_new w (.cells #[.pointer none, .slice none 0 0, .int .i64 0] 70))
 have X3 := zh x3
 have X4 := zh x4
 clear x0 x1 x2 x3 x4
 have HW : Hid (∀ x, x ∈ l → (Lit.int .i64 x.f0).wf = true) := zh (fun x hx => by
  obtain ⟨i, hi, rfl⟩ := List.getElem_of_mem hx
  have h9 := (hn.ends i hi).1
  have h8 : arcAt l i = l[i] := by
   unfold arcAt rd_T104
   rw [Int.toNat_natCast, List.getD_eq_getElem?_getD, List.getElem?_eq_getElem hi]
   rfl
  rw [h8] at h9
  exact small_wf h9.1 (by omega))
 have hu := Tryz.underlying115
 have hu2 := Tryz.underlying59
 have hu3 := Tryz.underlying70
 have hu4 := Tryz.underlying33
 clear hP hr hlc hp hq hn hc gp1 gq1 eN e1 e2
 go_enter Tryz.func26, Tryz.ntmps26
 go_wp2_with (first
  |(go_at_call 60; refine (begin_walk n h b A c l gp (useOf q) (keepsOf b p q) _ HN.out HLC.out (Kd.C_below HR.out HB0.out) (fun x W hx hb => (use_walk gp n b A l.length c Ap p.length cp Aq q.length cq bh br p.length q.length (putGs p) (putGs q) x W (HP.out.below (below_step HB0.out hb)) (HW.out x hx)).mono (fun _ _ h9 => h9)) (fun v W hv hb => (keeps_walk gp n b A l.length c Ap p.length cp Aq q.length cq bh br p.length q.length (putGs p) (putGs q) v W (HP.out.below (below_step HB0.out hb)) (small_wf (by omega) (by omega))).mono (fun _ _ h9 => ⟨h9.1, by rw [h9.2]; exact Below.refl _ _⟩))).mono ?_; rintro e w1 ⟨gg, rfl, v, B, hI⟩; have hlow := hI.low; obtain ⟨s0, hs0⟩ : ∃ s0, s0 = bA l (useOf q) (keepsOf b p q) n h (h + 1) := ⟨_, rfl⟩; have hI2 : GrI (w.alloc (.cells #[.pointer none, .slice none 0 0, .int .i64 0] 70)) gg M n v s0.arcs B s0.md w1 := (by rw [hs0, HE2.out, HEN.out]; exact hI); have HS0 := zh hs0; obtain ⟨w0, hw0⟩ : ∃ w0, w0 = w.alloc (.cells #[.pointer none, .slice none 0 0, .int .i64 0] 70) := ⟨_, rfl⟩; rw [← hw0] at hI2; have HW00 : Hid (Below w.heap.size w w0) := zh (by rw [hw0]; exact HB0.out); have HRC00 : Hid (w0.heap[w.heap.size]? = some (.cells #[.pointer none, .slice none 0 0, .int .i64 0] 70 (0, 0))) := zh (by rw [hw0]; exact HRC0.out); have HI0 := zh hI2; clear hI2 hs0 hw0; have HB1 := zh (below_step HB0.out hlow); have HRC1 := zh (blk_below HRC0.out hlow); have a3 := pw_cell_below hlow z3; have a4 := pw_cell_below hlow z4; clear hI hlow z0 z1 z2 z3 z4)
  |(go_at_call 61; (with_reducible refine (ends_walk w0 gg N N1 M HE1.out HE2.out n v s0.arcs B s0.md _ ?s1 ?s2).mono ?_); (case s1 => exact HI0.out); (case s2 => have := HE2.out; omega); rintro e w2 ⟨rfl, hb⟩; have HI1 := zh (HI0.out.below hb); have HB2 := zh (below_step HB1.out hb); have HRC2 := zh (blk_below HRC1.out hb); have b3 := pw_cell_below hb a3; have b4 := pw_cell_below hb a4; clear hb a3 a4))
 go_loopg [32] (p.length + 1) (fun k iv W => ∃ (i : Nat) (v1 : Value), i ≤ p.length ∧ iv = .int .i64 i ∧ k = p.length + 1 - i ∧ Hid (GrI w0 gg M n v1 (s0.arcs ++ pArcs N (p.take i)) B s0.md W))
 case atStart => exact ⟨0, v, Nat.zero_le _, rfl, rfl, zh (by rw [List.take_zero]; show GrI w0 gg M n v (s0.arcs ++ []) B s0.md w2; rw [List.append_nil]; exact HI1.out)⟩
 case round =>
  obtain ⟨i, v1, hi, rfl, rfl, HL⟩ := hrel
  clear b3 b4 HI1 HB2 HRC2
  by_cases hlt : i < p.length
  ·have i0 : (0 : Int) ≤ (i : Int) := by omega
   have i1 : (i : Int) < (p.length : Int) := by omega
   have HBW := zh (below_step HW00.out HL.out.low)
   obtain ⟨ad, ea, y0, y1⟩ := at_T59 (Kd.C_below HPR.out HBW.out) (i : Int) i0 i1
   subst ea
   rw [Int.toNat_natCast] at y0 y1
   obtain ⟨g, hg⟩ : ∃ g, g = grpAt p i := ⟨_, rfl⟩
   have hg2 : rd_T59 p (i : Int) = g := by rw [hg]; rfl
   rw [hg2] at y0 y1
   have HG := zh hg
   have hgin := HGP.out g (by rw [hg]; exact grp_mem hlt)
   have HGIN := zh hgin
   have hf0 : 0 ≤ g.f0 ∧ g.f0 ≤ 1000 := by omega
   have HF0 := zh hf0
   have HN8 := zh (show (0 : Int) ≤ (n : Int) ∧ (n : Int) ≤ 1000 by omega)
   have HA0 := zh (show (0 : Int) ≤ (0 : Int) ∧ (0 : Int) ≤ 10000 by omega)
   have HAH := zh (show (0 : Int) ≤ (h : Int) ∧ (h : Int) ≤ 10000 by omega)
   clear hg hg2 hgin hf0
   go_wp2
   have Hv := zh (heap_alloc_new wr (.cells #[.int .i64 g.f0, .int .i64 g.f1] 59))
   have HBA := zh (below_alloc (Below.refl wr.heap.size wr) (.cells #[.int .i64 g.f0, .int .i64 g.f1] 59))
   obtain ⟨W0, hW0⟩ : ∃ W0, W0 = wr.alloc (.cells #[.int .i64 g.f0, .int .i64 g.f1] 59) := ⟨_, rfl⟩
   rw [← hW0] at Hv HBA ⊢
   clear hW0
   have v0' : W0.cell? ⟨wr.heap.size, 0, none⟩ = some (.int .i64 g.f0) := (blk_cell Hv.out 0).trans rfl
   have v1' : W0.cell? ⟨wr.heap.size, 1, none⟩ = some (.int .i64 g.f1) := (blk_cell Hv.out 1).trans rfl
   have HI1 := zh (HL.out.below HBA.out)
   generalize wr.heap.size = av at *
   clear y0 y1
   obtain ⟨arcs, harcs⟩ : ∃ arcs, arcs = s0.arcs ++ pArcs N (p.take i) := ⟨_, rfl⟩
   rw [← harcs] at HI1
   have HARC := zh harcs
   have HAL : Hid (arcs.length ≤ 100000) := zh (by
    rw [harcs]
    have h1 := (bA_le l (useOf q) (keepsOf b p q) n h (h + 1)).1
    have h2 := HN.out.hn
    have h3 := HN.out.hl
    rw [← HS0.out, Nat.mul_add] at h1
    simp only [List.length_append, pArcs, List.length_map, List.length_take]
    have h4 := HLP.out
    have h5 := HLQ.out
    omega)
   clear harcs
   have HNE : Hid (¬ (av = gg ∨ some av = v1.ownBlock)) := zh (by
    rintro (e9 | e9)
    ·exact blk_ne Hv.out HI1.out.bx (by decide) e9
    ·exact Kd.R_ne HI1.out.ar Hv.out (by decide) e9)
   go_region_held3 (fun w' => w'.cell? ⟨av, 0, none⟩ = some (.int .i64 g.f0) ∧ w'.cell? ⟨av, 1, none⟩ = some (.int .i64 g.f1)) (first | exact HS9.out | go_keep) ((first
    |(go_at_call 63; (with_reducible refine (gat_walk w0 gg M n v1 arcs B s0.md g.f0 0 _ ?s1 HN8.out HF0.out HA0.out).mono ?_); (case s1 => exact HI1.out.below zD); rintro e w' ⟨rfl, rfl⟩; rw [show (0 : Int) * (n : Int) + g.f0 = g.f0 by omega])
    |(go_at_call 62; (with_reducible refine (add_walk w0 gg M n v1 arcs B s0.md _ _ _ _ ?s1 HAL.out).mono ?_); (case s1 => exact HI1.out.below zD); rintro e w9 ⟨rfl, v9, hI, hk, hs⟩; have hv9 := blk_kept (show _ from blk_below Hv.out zD) hk HNE.out; have HS9 : Hid (w9.cell? ⟨av, 0, none⟩ = some (.int .i64 g.f0) ∧ w9.cell? ⟨av, 1, none⟩ = some (.int .i64 g.f1)) := zh ⟨(blk_cell hv9 0).trans rfl, (blk_cell hv9 1).trans rfl⟩; have HI9 := zh hI; clear hI hk hs hv9)))
   all_goals
    go_wp2
    go_roundg (p.length - i)
    case measure => omega
    case rel => exact ⟨i + 1, v9, by omega, by go_num, by omega, zh (by rw [grp_take hlt, pArcs_snoc, ← HG.out, ← List.append_assoc, ← HARC.out]; exact HI9.out)⟩
  ·have e : i = p.length := by omega
   subst e
   have HL1 : Hid (GrI w0 gg M n v1 (s0.arcs ++ pArcs N p) B s0.md wr) := zh (by have h9 := HL.out; rw [List.take_length] at h9; exact h9)
   have b4 := pw_cell_below (below_step HW00.out HL1.out.low) X4.out
   clear HL
   go_wp2
   go_loopg [51] (q.length + 1) (fun k iv W => ∃ (i : Nat) (v1 : Value), i ≤ q.length ∧ iv = .int .i64 i ∧ k = q.length + 1 - i ∧ Hid (GrI w0 gg M n v1 (s0.arcs ++ pArcs N p ++ qArcs N1 n h (q.take i)) B s0.md W))
   case atStart => exact ⟨0, v1, Nat.zero_le _, rfl, rfl, zh (by rw [List.take_zero]; show GrI w0 gg M n v1 (s0.arcs ++ pArcs N p ++ []) B s0.md wr; rw [List.append_nil]; exact HL1.out)⟩
   case round =>
    obtain ⟨i, v1, hi, rfl, rfl, HL⟩ := hrel
    clear b4 HL1
    by_cases hlt : i < q.length
    ·have i0 : (0 : Int) ≤ (i : Int) := by omega
     have i1 : (i : Int) < (q.length : Int) := by omega
     have HBW := zh (below_step HW00.out HL.out.low)
     obtain ⟨ad, ea, y0, y1⟩ := at_T59 (Kd.C_below HQR.out HBW.out) (i : Int) i0 i1
     subst ea
     rw [Int.toNat_natCast] at y0 y1
     obtain ⟨g, hg⟩ : ∃ g, g = grpAt q i := ⟨_, rfl⟩
     have hg2 : rd_T59 q (i : Int) = g := by rw [hg]; rfl
     rw [hg2] at y0 y1
     have HG := zh hg
     have hgin := HGQ.out g (by rw [hg]; exact grp_mem hlt)
     have HGIN := zh hgin
     have hf0 : 0 ≤ g.f0 ∧ g.f0 ≤ 1000 := by omega
     have HF0 := zh hf0
     have HN8 := zh (show (0 : Int) ≤ (n : Int) ∧ (n : Int) ≤ 1000 by omega)
     have HA0 := zh (show (0 : Int) ≤ (0 : Int) ∧ (0 : Int) ≤ 10000 by omega)
     have HAH := zh (show (0 : Int) ≤ (h : Int) ∧ (h : Int) ≤ 10000 by omega)
     clear hg hg2 hgin hf0
     go_wp2
     have Hv1 := zh (heap_alloc_new wr (.cells #[.int .i64 g.f0, .int .i64 g.f1] 59))
     have HBA := zh (below_alloc (Below.refl wr.heap.size wr) (.cells #[.int .i64 g.f0, .int .i64 g.f1] 59))
     obtain ⟨W0, hW0⟩ : ∃ W0, W0 = wr.alloc (.cells #[.int .i64 g.f0, .int .i64 g.f1] 59) := ⟨_, rfl⟩
     rw [← hW0] at Hv1 HBA ⊢
     clear hW0
     have v0' : W0.cell? ⟨wr.heap.size, 0, none⟩ = some (.int .i64 g.f0) := (blk_cell Hv1.out 0).trans rfl
     have v1' : W0.cell? ⟨wr.heap.size, 1, none⟩ = some (.int .i64 g.f1) := (blk_cell Hv1.out 1).trans rfl
     have HI1 := zh (HL.out.below HBA.out)
     generalize wr.heap.size = av at *
     clear y0 y1
     obtain ⟨arcs, harcs⟩ : ∃ arcs, arcs = s0.arcs ++ pArcs N p ++ qArcs N1 n h (q.take i) := ⟨_, rfl⟩
     rw [← harcs] at HI1
     have HARC := zh harcs
     have HAL : Hid (arcs.length ≤ 100000) := zh (by
      rw [harcs]
      have h1 := (bA_le l (useOf q) (keepsOf b p q) n h (h + 1)).1
      have h2 := HN.out.hn
      have h3 := HN.out.hl
      rw [← HS0.out, Nat.mul_add] at h1
      simp only [List.length_append, pArcs, qArcs, List.length_map, List.length_take]
      have h4 := HLP.out
      have h5 := HLQ.out
      omega)
     clear harcs
     have HNE : Hid (¬ (av = gg ∨ some av = v1.ownBlock)) := zh (by
      rintro (e9 | e9)
      ·exact blk_ne Hv1.out HI1.out.bx (by decide) e9
      ·exact Kd.R_ne HI1.out.ar Hv1.out (by decide) e9)
     go_region_held3 (fun w' => w'.cell? ⟨av, 0, none⟩ = some (.int .i64 g.f0) ∧ w'.cell? ⟨av, 1, none⟩ = some (.int .i64 g.f1)) (first | exact HS9.out | go_keep) ((first
      |(go_at_call 63; (with_reducible refine (gat_walk w0 gg M n v1 arcs B s0.md g.f0 (h : Int) _ ?s1 HN8.out HF0.out HAH.out).mono ?_); (case s1 => exact HI1.out.below zD); rintro e w' ⟨rfl, rfl⟩)
      |(go_at_call 62; (with_reducible refine (add_walk w0 gg M n v1 arcs B s0.md _ _ _ _ ?s1 HAL.out).mono ?_); (case s1 => exact HI1.out.below zD); rintro e w9 ⟨rfl, v9, hI, hk, hs⟩; have hv9 := blk_kept (show _ from blk_below Hv1.out zD) hk HNE.out; have HS9 : Hid (w9.cell? ⟨av, 0, none⟩ = some (.int .i64 g.f0) ∧ w9.cell? ⟨av, 1, none⟩ = some (.int .i64 g.f1)) := zh ⟨(blk_cell hv9 0).trans rfl, (blk_cell hv9 1).trans rfl⟩; have HI9 := zh hI; clear hI hk hs hv9)))
     all_goals
      go_wp2
      go_roundg (q.length - i)
      case measure => omega
      case rel => exact ⟨i + 1, v9, by omega, by go_num, by omega, zh (by rw [grp_take hlt, qArcs_snoc, ← HG.out, ← List.append_assoc, ← HARC.out]; exact HI9.out)⟩
    ·have e : i = q.length := by omega
     subst e
     have hf := HL.out
     rw [List.take_length] at hf
     have hev : s0.arcs ++ pArcs N p ++ qArcs N1 n h q = evArcs l (useOf q) (keepsOf b p q) n h N N1 p q := by rw [HS0.out]; rfl
     rw [hev] at hf
     have hok := netOk_of (M := M) (arcs := evArcs l (useOf q) (keepsOf b p q) n h N N1 p q) (by have := HE2.out; omega) (by have := HE2.out; omega) (by have := evArcs_len (N := N) (N1 := N1) HN.out (useOf q) (keepsOf b p q) p q; omega) (evArcs_ok HN.out HC.out (useOf q) (keepsOf b p q) HGP.out HGQ.out HEN.out HE1.out HE2.out)
     obtain ⟨arcs, harcs⟩ : ∃ arcs, arcs = evArcs l (useOf q) (keepsOf b p q) n h N N1 p q := ⟨_, rfl⟩
     rw [← harcs] at hf hok
     have HF := zh hf
     have HOK := zh hok
     have HARC := zh harcs
     clear hf hev hok harcs
     go_wp2_with (go_at_call 64; (with_reducible refine (solve_walk w0 gg N N1 M HE1.out HE2.out n v1 arcs B s0.md _ HF.out HOK.out.1 HOK.out.2).mono ?_); rintro e w9 ⟨bf, f, S, rfl, h1, h2, h3, h4, h5, h6⟩; have K1 := zh h1; have K2 := zh h2; have K4 := zh h4; have K5 := zh h5; have HRC9 := zh (blk_below HRC00.out h1.low); have HB9 := zh (below_step HW00.out h1.low); have HSZ9 := zh (blk_lt HRC00.out); have y0 : w9.cell? ⟨w.heap.size, 0, none⟩ = some (.pointer none) := (blk_cell HRC9.out 0).trans rfl; have y1 : w9.cell? ⟨w.heap.size, 1, none⟩ = some (.slice none 0 0) := (blk_cell HRC9.out 1).trans rfl; have y2 : w9.cell? ⟨w.heap.size, 2, none⟩ = some (.int .i64 0) := (blk_cell HRC9.out 2).trans rfl; have f0 := blk_frozen HRC9.out 0; have f1 := blk_frozen HRC9.out 1; have f2 := blk_frozen HRC9.out 2; clear h1 h2 h3 h4 h5 h6)
     refine bodyPost_ret (results_cell_row rfl _ _ w.heap.size 70 #[.pointer (some ⟨gg, 0, none⟩), .slice (some ⟨bf, 0, none⟩) arcs.length arcs.length, .int .i64 (leaves arcs.length (frOf arcs) (toOf arcs) (dOf f) N)] (0, 0) _ rfl (blk_put (cs := #[.pointer (some ⟨gg, 0, none⟩), .slice (some ⟨bf, 0, none⟩) arcs.length arcs.length, .int .i64 0]) (blk_put (cs := #[.pointer (some ⟨gg, 0, none⟩), .slice none 0 0, .int .i64 0]) (blk_put (cs := #[.pointer none, .slice none 0 0, .int .i64 0]) HRC9.out 0 (.pointer (some ⟨gg, 0, none⟩)) rfl) 1 (.slice (some ⟨bf, 0, none⟩) arcs.length arcs.length) rfl) 2 (.int .i64 (leaves arcs.length (frOf arcs) (toOf arcs) (dOf f) N)) rfl) hu3 rfl (by kernel_rfl)) rfl ?_
     have k1 := blk_put (cs := #[.pointer none, .slice none 0 0, .int .i64 0]) HRC9.out 0 (.pointer (some ⟨gg, 0, none⟩)) rfl
     have k2 := blk_put (cs := #[.pointer (some ⟨gg, 0, none⟩), .slice none 0 0, .int .i64 0]) k1 1 (.slice (some ⟨bf, 0, none⟩) arcs.length arcs.length) rfl
     have hne : bf ≠ w.heap.size := blk_ne K2.out HRC9.out (by decide)
     have hg9 := ((K1.out.loose.set HRC9.out (by decide) (by decide) (Nat.zero_le _) 0 (.pointer (some ⟨gg, 0, none⟩))).set k1 (by decide) (by decide) (Nat.zero_le _) 1 (.slice (some ⟨bf, 0, none⟩) arcs.length arcs.length)).set k2 (by decide) (by decide) (Nat.zero_le _) 2 (.int .i64 (leaves arcs.length (frOf arcs) (toOf arcs) (dOf f) N))
     have hi9 : IntBlk (((w9.setCell ⟨w.heap.size, 0, none⟩ (.pointer (some ⟨gg, 0, none⟩))).setCell ⟨w.heap.size, 1, none⟩ (.slice (some ⟨bf, 0, none⟩) arcs.length arcs.length)).setCell ⟨w.heap.size, 2, none⟩ (.int .i64 (leaves arcs.length (frOf arcs) (toOf arcs) (dOf f) N))) bf f := by
      unfold IntBlk
      rw [Below.heap_setCell _ ⟨w.heap.size, 2, none⟩ _ _ hne, Below.heap_setCell _ ⟨w.heap.size, 1, none⟩ _ _ hne, Below.heap_setCell _ ⟨w.heap.size, 0, none⟩ _ _ hne]
      exact K2.out
     have hb9 := below_set (g := w.heap.size) (j := 2) (v := .int .i64 (leaves arcs.length (frOf arcs) (toOf arcs) (dOf f) N)) (below_set (g := w.heap.size) (j := 1) (v := .slice (some ⟨bf, 0, none⟩) arcs.length arcs.length) (below_set (g := w.heap.size) (j := 0) (v := .pointer (some ⟨gg, 0, none⟩)) HB9.out (Nat.le_refl _)) (Nat.le_refl _)) (Nat.le_refl _)
     have k4 := K4.out
     have k5 := K5.out
     have h0 := HARC.out
     have hs0 := HS0.out
     clear HF HOK HARC K1 K2 K4 K5 y0 y1 y2 f0 f1 f2 HL
     subst h0
     subst hs0
     exact ⟨_, gg, v1, B, bf, f, S, rfl, hg9, hi9, k4, k5, hb9⟩
set_option linter.unusedVariables false
set_option linter.unusedSimpArgs false
open Classical in
noncomputable def mfVal (arcs : List Arc) (M N N1 : Nat) : Int :=
 if h : ∃ f : List Int, ∃ S, FlowOk arcs f ∧ Top arcs.length (frOf arcs) (toOf arcs) M N N1 (capOf arcs) (dOf f) S then leaves arcs.length (frOf arcs) (toOf arcs) (dOf h.choose) N else 0
theorem ends_arcs {M : Nat} {arcs : List Arc} (h : ∀ x, x ∈ arcs → ArcOk M x) : Flow.Ends arcs.length (frOf arcs) (toOf arcs) M := fun i hi => ⟨(h _ (mem_arcAt hi)).1, (h _ (mem_arcAt hi)).2.1⟩
theorem mfVal_eq {arcs : List Arc} {M N N1 : Nat} (ha : ∀ x, x ∈ arcs → ArcOk M x) (hN : N < M) {f : List Int} {S : Int → Bool} (hf : FlowOk arcs f) (ht : Top arcs.length (frOf arcs) (toOf arcs) M N N1 (capOf arcs) (dOf f) S) : mfVal arcs M N N1 = leaves arcs.length (frOf arcs) (toOf arcs) (dOf f) N := by
 unfold mfVal
 have h : ∃ f : List Int, ∃ S, FlowOk arcs f ∧ Top arcs.length (frOf arcs) (toOf arcs) M N N1 (capOf arcs) (dOf f) S := ⟨f, S, hf, ht⟩
 rw [dif_pos h]
 obtain ⟨S2, h2, h3⟩ := h.choose_spec
 exact top_value (ends_arcs ha) ⟨by omega, by omega⟩ ht h3
noncomputable def mostV (n h : Nat) (b : Bool) (l : List Arc) (p q : List Grp) : Int :=
 mfVal (evArcs l (useOf q) (keepsOf b p q) n h ((h + 1) * n) ((h + 1) * n + 1) p q) ((h + 1) * n + 2) ((h + 1) * n) ((h + 1) * n + 1)
theorem NetIn.le {n h k : Nat} {l : List Arc} (hn : NetIn n h l) (hk : k ≤ h) : NetIn n k l :=
 ⟨hn.n0, hn.n1, by have := hn.h1; omega, Nat.le_trans (Nat.mul_le_mul (by omega) (Nat.le_refl _)) hn.hn, Nat.le_trans (Nat.mul_le_mul (by omega) (Nat.le_refl _)) hn.hl, hn.ends, hn.time⟩
structure PlaceOk (n h : Nat) (l : List Arc) (p q : List Grp) : Prop where
 net : NetIn n h l
 caps : ∀ i : Nat, i < l.length → 0 ≤ (arcAt l i).f2 ∧ (arcAt l i).f2 ≤ 1048576
 gp : GrpsIn n p
 gq : GrpsIn n q
 lp : p.length ≤ 1000
 lq : q.length ≤ 1000
theorem PlaceOk.le {n h k : Nat} {l : List Arc} {p q : List Grp} (hn : PlaceOk n h l p q) (hk : k ≤ h) : PlaceOk n k l p q := ⟨hn.net.le hk, hn.caps, hn.gp, hn.gq, hn.lp, hn.lq⟩
theorem PlaceOk.arcs {n h : Nat} {l : List Arc} {p q : List Grp} (hn : PlaceOk n h l p q) (b : Bool) : ∀ x, x ∈ evArcs l (useOf q) (keepsOf b p q) n h ((h + 1) * n) ((h + 1) * n + 1) p q → ArcOk ((h + 1) * n + 2 : Nat) x :=
 evArcs_ok hn.net hn.caps (useOf q) (keepsOf b p q) hn.gp hn.gq rfl rfl rfl
theorem PlaceOk.netOk {n h : Nat} {l : List Arc} {p q : List Grp} (hn : PlaceOk n h l p q) (b : Bool) : NetOk ((h + 1) * n + 2) (evArcs l (useOf q) (keepsOf b p q) n h ((h + 1) * n) ((h + 1) * n + 1) p q) ∧ ∀ i : Int, 0 ≤ i → i < (evArcs l (useOf q) (keepsOf b p q) n h ((h + 1) * n) ((h + 1) * n + 1) p q).length → 0 ≤ (rd_T104 (evArcs l (useOf q) (keepsOf b p q) n h ((h + 1) * n) ((h + 1) * n + 1) p q) i).f2 :=
 netOk_of (by omega) (by have := hn.net.hn; omega) (by have := evArcs_len (N := (h + 1) * n) (N1 := (h + 1) * n + 1) hn.net (useOf q) (keepsOf b p q) p q; have := hn.lp; have := hn.lq; omega) (hn.arcs b)
theorem field_value (g : Option Addr) (A : Option Addr) (m c : Nat) (z : Int) (W : World) : (Instr.field 70 (.agg #[.pointer g, .slice A m c, .int .i64 z]) 2).run Tryz.prog W = .ok (.int .i64 z) W := by kernel_rfl
def AskAt (n : Nat) (b : Bool) (l : List Arc) (p q : List Grp) (all : Int) (k : Nat) (w : World) (e : Ending) (w' : World) : Prop :=
 e = .returned (.bool (mostV n k b l p q == all)) ∧ Below w.heap.size w w'
set_option maxHeartbeats 4000000 in
set_option maxRecDepth 100000 in
theorem ask_walk (n h k : Nat) (hk : k ≤ h) (b : Bool) (A : Option Addr) (c : Nat) (l : List Arc) (Ap : Option Addr) (cp : Nat) (p : List Grp) (Aq : Option Addr) (cq : Nat) (q : List Grp) (gp bh br pb ab : Nat) (all : Int) (w : World)
  (hP : PlI gp (placeCells n b A l.length c Ap p.length cp Aq q.length cq bh br) bh br p.length q.length (putGs p) (putGs q) w) (hr : Kd.C kArc w A l.length l) (hlc : l.length ≤ c) (hp : Kd.C kGrp w Ap p.length p) (hq : Kd.C kGrp w Aq q.length q)
  (ho : PlaceOk n h l p q) (h1 : w.heap[pb]? = some (.cells #[.pointer (some ⟨gp, 0, none⟩)] 64 (0, 0))) (h2 : w.heap[ab]? = some (.cells #[.int .i64 all] 3 (0, 0))) :
  Calls Tryz.prog 38 #[.int .i64 k, .pointer (some ⟨pb, 0, none⟩), .pointer (some ⟨ab, 0, none⟩)] w (AskAt n b l p q all k w) := by
 have HP := zh hP
 have HR := zh hr
 have HLC := zh hlc
 have HPR := zh hp
 have HQR := zh hq
 have HO := zh (ho.le hk)
 have x0 : w.cell? ⟨pb, 0, none⟩ = some (.pointer (some ⟨gp, 0, none⟩)) := (blk_cell h1 0).trans rfl
 have x1 : w.cell? ⟨ab, 0, none⟩ = some (.int .i64 all) := (blk_cell h2 0).trans rfl
 have hfl := field_value
 clear hP hr hlc hp hq ho h1 h2 hk
 go_enter Tryz.func38, Tryz.ntmps38
 go_wp2
 go_region_held3 (fun w' => w'.cell? ⟨pb, 0, none⟩ = some (.pointer (some ⟨gp, 0, none⟩)) ∧ w'.cell? ⟨ab, 0, none⟩ = some (.int .i64 all)) (first | exact HS9.out | go_keep) ((go_at_call 26; refine (solved_walk n k b A c l Ap cp p Aq cq q gp bh br ((k + 1) * n) ((k + 1) * n + 1) ((k + 1) * n + 2) rfl rfl rfl _ (HP.out.below zD) (Kd.C_below HR.out zD) HLC.out (Kd.C_below HPR.out zD) (Kd.C_below HQR.out zD) HO.out.net HO.out.caps HO.out.gp HO.out.gq HO.out.lp HO.out.lq).mono ?_; rintro e w9 ⟨w0, gg, v, B, bf, f, S, rfl, k1, k2, k3, k4, k5⟩; have hb9 : Below w.heap.size w w9 := below_step zD k5; have HB9 := zh hb9; have HS9 : Hid (w9.cell? ⟨pb, 0, none⟩ = some (.pointer (some ⟨gp, 0, none⟩)) ∧ w9.cell? ⟨ab, 0, none⟩ = some (.int .i64 all)) := zh ⟨pw_cell_below hb9 x0, pw_cell_below hb9 x1⟩; have hv9 : leaves _ _ _ (dOf f) _ = mostV n k b l p q := (mfVal_eq (HO.out.arcs b) (by omega) k3 k4).symm; rw [hv9]; clear k1 k2 k3 k4 k5 hb9 hv9))
 all_goals
  go_wp2
  go_ret
  exact ⟨rfl, HB9.out⟩
def bsr (holds : Nat → Bool) (lo hi : Nat) : Nat :=
 if lo < hi then (if holds ((lo + hi) / 2) = true then bsr holds lo ((lo + hi) / 2) else bsr holds ((lo + hi) / 2 + 1) hi) else lo
termination_by hi - lo
theorem bsr_yes {holds : Nat → Bool} {lo hi : Nat} (h : lo < hi) (hh : holds ((lo + hi) / 2) = true) : bsr holds lo hi = bsr holds lo ((lo + hi) / 2) := by rw [bsr, if_pos h, if_pos hh]
theorem bsr_no {holds : Nat → Bool} {lo hi : Nat} (h : lo < hi) (hh : holds ((lo + hi) / 2) = false) : bsr holds lo hi = bsr holds ((lo + hi) / 2 + 1) hi := by rw [bsr, if_pos h, if_neg (by rw [hh]; decide)]
theorem bsr_end {holds : Nat → Bool} {lo hi : Nat} (h : ¬ lo < hi) : bsr holds lo hi = lo := by rw [bsr, if_neg h]
def FirstAt (holds : Nat → Bool) (most : Nat) (w : World) (e : Ending) (w' : World) : Prop :=
 e = .returned (.tuple #[.int .i64 (if holds most = true then (bsr holds 0 most : Int) else 0), .bool (holds most)]) ∧ Below w.heap.size w w'
set_option maxHeartbeats 4000000 in
set_option maxRecDepth 100000 in
theorem first_walk (n h : Nat) (b : Bool) (A : Option Addr) (c : Nat) (l : List Arc) (Ap : Option Addr) (cp : Nat) (p : List Grp) (Aq : Option Addr) (cq : Nat) (q : List Grp) (gp bh br pb ab : Nat) (all : Int) (w : World)
  (hP : PlI gp (placeCells n b A l.length c Ap p.length cp Aq q.length cq bh br) bh br p.length q.length (putGs p) (putGs q) w) (hr : Kd.C kArc w A l.length l) (hlc : l.length ≤ c) (hp : Kd.C kGrp w Ap p.length p) (hq : Kd.C kGrp w Aq q.length q)
  (ho : PlaceOk n h l p q) (h1 : w.heap[pb]? = some (.cells #[.pointer (some ⟨gp, 0, none⟩)] 64 (0, 0))) (h2 : w.heap[ab]? = some (.cells #[.int .i64 all] 3 (0, 0))) :
  Calls Tryz.prog 37 #[.int .i64 h, .func (.func 38) #[] #[.pointer (some ⟨pb, 0, none⟩), .pointer (some ⟨ab, 0, none⟩)]] w (FirstAt (fun k => mostV n k b l p q == all) h w) := by
 have HASK : Hid (∀ (k : Nat) W, k ≤ h → Below w.heap.size w W → Calls Tryz.prog 38 #[.int .i64 k, .pointer (some ⟨pb, 0, none⟩), .pointer (some ⟨ab, 0, none⟩)] W (AskAt n b l p q all k W)) := zh (fun k W hk hb =>
  ask_walk n h k hk b A c l Ap cp p Aq cq q gp bh br pb ab all W (hP.below hb) (Kd.C_below hr hb) hlc (Kd.C_below hp hb) (Kd.C_below hq hb) ho (blk_below h1 hb) (blk_below h2 hb))
 have hh : h ≤ 4000 := ho.net.h1
 obtain ⟨holds, hholds⟩ : ∃ holds : Nat → Bool, holds = fun k => mostV n k b l p q == all := ⟨_, rfl⟩
 have HA2 : Hid (∀ (k : Nat) W, k ≤ h → Below w.heap.size w W → Calls Tryz.prog 38 #[.int .i64 k, .pointer (some ⟨pb, 0, none⟩), .pointer (some ⟨ab, 0, none⟩)] W fun e w' => e = .returned (.bool (holds k)) ∧ Below W.heap.size W w') := zh (fun k W hk hb => by
  rw [hholds]
  exact (HASK.out k W hk hb).mono (fun _ _ h9 => h9))
 rw [← hholds]
 clear hholds HASK hP hr hlc hp hq ho h1 h2
 cases hm : holds h with
 |false =>
  have HM := zh hm
  clear hm
  go_enter Tryz.func37, Tryz.ntmps37
  go_wp2_with (go_at_call 38; refine (HA2.out h _ (Nat.le_refl _) (Below.refl _ _)).mono ?_; rintro e w1 ⟨rfl, hb⟩; rw [HM.out]; have HB := zh hb; clear hb)
  go_ret2
  exact ⟨by rw [HM.out]; rfl, HB.out⟩
 |true =>
  have HM := zh hm
  clear hm
  go_enter Tryz.func37, Tryz.ntmps37
  go_wp2_with (go_at_call 38; refine (HA2.out h _ (Nat.le_refl _) (Below.refl _ _)).mono ?_; rintro e w1 ⟨rfl, hb⟩; rw [HM.out]; have HB := zh hb; clear hb)
  go_loopg [6, 7] (h + 1) (fun k lv hv W => ∃ lo hi : Nat, lo ≤ hi ∧ hi ≤ h ∧ lv = .int .i64 lo ∧ hv = .int .i64 hi ∧ k = hi - lo + 1 ∧ Hid (Below w.heap.size w W ∧ bsr holds lo hi = bsr holds 0 h))
  case atStart => exact ⟨0, h, Nat.zero_le _, Nat.le_refl _, rfl, rfl, rfl, zh ⟨HB.out, rfl⟩⟩
  case round =>
   obtain ⟨lo, hi, hlo, hhi, rfl, rfl, rfl, HL⟩ := hrel
   clear HB
   by_cases hlt : lo < hi
   ·have hlt2 : (lo : Int) < (hi : Int) := by omega
    obtain ⟨m, hm⟩ : ∃ m, m = (lo + hi) / 2 := ⟨_, rfl⟩
    have hm2 : ((lo : Int) + (hi : Int)) / 2 = (m : Int) := by omega
    have hml : lo ≤ m := by omega
    have hmh : m < hi := by omega
    have HMM := zh hm
    clear hm
    cases hmm : holds m with
    |true =>
     have HX := zh hmm
     clear hmm
     go_wp2_with (go_at_call 38; refine (HA2.out m _ (by omega) HL.out.1).mono ?_; rintro e w2 ⟨rfl, hb⟩; rw [HX.out]; have HB := zh hb; clear hb)
     go_roundg (m - lo + 1)
     case measure => omega
     case rel => exact ⟨lo, m, by omega, by omega, rfl, rfl, rfl, zh ⟨below_step HL.out.1 HB.out, by rw [← HL.out.2, bsr_yes hlt (by rw [← HMM.out]; exact HX.out), ← HMM.out]⟩⟩
    |false =>
     have HX := zh hmm
     clear hmm
     go_wp2_with (go_at_call 38; refine (HA2.out m _ (by omega) HL.out.1).mono ?_; rintro e w2 ⟨rfl, hb⟩; rw [HX.out]; have HB := zh hb; clear hb)
     go_roundg (hi - (m + 1) + 1)
     case measure => omega
     case rel => exact ⟨m + 1, hi, by omega, by omega, by go_num, rfl, rfl, zh ⟨below_step HL.out.1 HB.out, by rw [← HL.out.2, bsr_no hlt (by rw [← HMM.out]; exact HX.out), ← HMM.out]⟩⟩
   ·have hlt2 : ¬ (lo : Int) < (hi : Int) := by omega
    go_wp2
    go_ret2
    have h9 := HL.out.2
    rw [bsr_end hlt] at h9
    have h8 : Ending.returned (.tuple #[.int .i64 (lo : Int), .bool true]) = Ending.returned (.tuple #[.int .i64 (if holds h = true then (bsr holds 0 h : Int) else 0), .bool (holds h)]) := by rw [HM.out, if_pos rfl, h9]
    exact ⟨h8, HL.out.1⟩
theorem nodup_le : ∀ (n : Nat) (l : List Nat), l.Nodup → (∀ x, x ∈ l → x < n) → l.length ≤ n
 |0, l, _, h => by
  cases l with
  |nil => exact Nat.le_refl _
  |cons a l => exact absurd (h a (List.mem_cons_self ..)) (Nat.not_lt_zero _)
 |n + 1, l, hd, h => by
  by_cases hm : n ∈ l
  ·have h1 := nodup_le n (l.erase n) (hd.erase n) (fun x hx => by
    have h2 := h x (List.mem_of_mem_erase hx)
    have h3 : x ≠ n := fun e => by
     subst e
     exact (hd.not_mem_erase) hx
    omega)
   rw [List.length_erase_of_mem hm] at h1
   omega
  ·have h1 := nodup_le n l hd (fun x hx => by
    have h2 := h x hx
    have h3 : x ≠ n := fun e => hm (e ▸ hx)
    omega)
   omega
theorem isMap_putG {D : DataW Unit} (h : Maps.IsMap D) (g : Grp) : Maps.IsMap (putG D g) := h.put _ _
theorem hasK_put {D : DataW Unit} (h : Maps.IsMap D) (g : Grp) (x : Int) : hasK (putG D g) x = (decide (g.f0 = x) || hasK D x) := by
 unfold hasK putG
 by_cases e : g.f0 = x
 ·rw [e, Maps.has_put_same h (by trivial)]
  simp
 ·rw [Maps.has_put_other (fun e2 => e (by injection e2 with _ e2; exact e2.symm))]
  simp [e]
theorem hasK_empty (x : Int) : hasK (.map []) x = false := rfl
theorem hasK_putGs (l : List Grp) (x : Int) : hasK (putGs l) x = l.any fun g => decide (g.f0 = x) := by
 have : ∀ (l : List Grp) (D : DataW Unit), Maps.IsMap D → hasK (l.foldl putG D) x = (hasK D x || l.any fun g => decide (g.f0 = x)) := fun l => by
  induction l with
  |nil => intro D _; simp
  |cons g l ih =>
   intro D h
   rw [List.foldl_cons, ih _ (isMap_putG h g), hasK_put h, List.any_cons]
   cases decide (g.f0 = x) <;> cases hasK D x <;> simp
 unfold putGs
 rw [this l _ Maps.isMap_empty, hasK_empty]
 simp
theorem takeC_zero {n : Int} {Dh Dr : DataW Unit} {g : Grp} (h : takeC n Dh Dr g = 0) : (0 ≤ g.f0 ∧ g.f0 < n) ∧ (0 ≤ g.f1 ∧ g.f1 ≤ 1048576) ∧ hasK Dh g.f0 = false ∧ hasK Dr g.f0 = false := by
 unfold takeC at h
 split at h
 ·cases h
 ·rename_i h1
  split at h
  ·cases h
  ·rename_i h2
   simp only [not_or] at h1
   obtain ⟨a, b, c, d, e⟩ := h1
   exact ⟨⟨by omega, by omega⟩, ⟨by omega, by omega⟩, by simpa using d, by simpa using e⟩
theorem thF_zero {n : Int} {Dr : DataW Unit} : ∀ (l : List Grp) {D : DataW Unit}, Maps.IsMap D → thF n Dr D l = 0 →
  (∀ g, g ∈ l → (0 ≤ g.f0 ∧ g.f0 < n) ∧ (0 ≤ g.f1 ∧ g.f1 ≤ 1048576) ∧ hasK D g.f0 = false ∧ hasK Dr g.f0 = false) ∧ (l.map fun g => g.f0).Nodup
 |[], _, _, _ => ⟨fun g hg => (by cases hg), List.nodup_nil⟩
 |g :: l, D, hm, h => by
  unfold thF at h
  by_cases hc : takeC n D Dr g = 0
  ·rw [if_pos hc] at h
   obtain ⟨h1, h2⟩ := thF_zero l (isMap_putG hm g) h
   have h3 := takeC_zero hc
   refine ⟨fun x hx => ?_, ?_⟩
   ·rcases List.mem_cons.1 hx with rfl | hx
    ·exact h3
    ·have h4 := h1 x hx
     rw [hasK_put hm] at h4
     exact ⟨h4.1, h4.2.1, by have := h4.2.2.1; simp at this; exact this.2, h4.2.2.2⟩
   ·rw [List.map_cons, List.nodup_cons]
    refine ⟨fun hx => ?_, h2⟩
    obtain ⟨x, hx, e⟩ := List.mem_map.1 hx
    have h4 := (h1 x hx).2.2.1
    rw [hasK_put hm, e] at h4
    simp at h4
  ·rw [if_neg hc] at h
   exact absurd h hc
theorem trF_zero {n : Int} {Dh : DataW Unit} : ∀ (l : List Grp) {D : DataW Unit}, Maps.IsMap D → trF n Dh D l = 0 →
  (∀ g, g ∈ l → (0 ≤ g.f0 ∧ g.f0 < n) ∧ (0 ≤ g.f1 ∧ g.f1 ≤ 1048576) ∧ hasK Dh g.f0 = false ∧ hasK D g.f0 = false) ∧ (l.map fun g => g.f0).Nodup
 |[], _, _, _ => ⟨fun g hg => (by cases hg), List.nodup_nil⟩
 |g :: l, D, hm, h => by
  unfold trF at h
  by_cases hc : takeC n Dh D g = 0
  ·rw [if_pos hc] at h
   obtain ⟨h1, h2⟩ := trF_zero l (isMap_putG hm g) h
   have h3 := takeC_zero hc
   refine ⟨fun x hx => ?_, ?_⟩
   ·rcases List.mem_cons.1 hx with rfl | hx
    ·exact h3
    ·have h4 := h1 x hx
     rw [hasK_put hm] at h4
     exact ⟨h4.1, h4.2.1, h4.2.2.1, by have := h4.2.2.2; simp at this; exact this.2⟩
   ·rw [List.map_cons, List.nodup_cons]
    refine ⟨fun hx => ?_, h2⟩
    obtain ⟨x, hx, e⟩ := List.mem_map.1 hx
    have h4 := (h1 x hx).2.2.2
    rw [hasK_put hm, e] at h4
    simp at h4
  ·rw [if_neg hc] at h
   exact absurd h hc
theorem len_of_nodup {n : Nat} {l : List Grp} (h : ∀ g, g ∈ l → 0 ≤ g.f0 ∧ g.f0 < n) (hd : (l.map fun g => g.f0).Nodup) : l.length ≤ n := by
 have h1 := nodup_le n (l.map fun g => g.f0.toNat) (by
  have h2 : l.Pairwise fun a b => a.f0 ≠ b.f0 := List.pairwise_map.1 hd
  exact List.pairwise_map.2 (h2.imp_of_mem (fun {a b} ha hb hab => by
   have h3 := h a ha
   have h4 := h b hb
   omega))) (fun x hx => by
  obtain ⟨g, hg, rfl⟩ := List.mem_map.1 hx
  have := h g hg
  omega)
 rw [List.length_map] at h1
 exact h1
structure GroupsOk (n : Int) (p q : List Grp) : Prop where
 p0 : p ≠ []
 q0 : q ≠ []
 gp : ∀ g, g ∈ p → (0 ≤ g.f0 ∧ g.f0 < n) ∧ 0 ≤ g.f1 ∧ g.f1 ≤ 1048576
 gq : ∀ g, g ∈ q → (0 ≤ g.f0 ∧ g.f0 < n) ∧ 0 ≤ g.f1 ∧ g.f1 ≤ 1048576
 dp : (p.map fun g => g.f0).Nodup
 dq : (q.map fun g => g.f0).Nodup
 apart : ∀ g, g ∈ q → ∀ x, x ∈ p → x.f0 ≠ g.f0
theorem groupsC_zero {n : Int} {p q : List Grp} (h : groupsC n p q = 0) : GroupsOk n p q := by
 unfold groupsC at h
 split at h
 ·cases h
 ·rename_i h0
  simp only [not_or] at h0
  split at h
  ·rename_i h1
   obtain ⟨a1, a2⟩ := thF_zero p Maps.isMap_empty h1
   obtain ⟨b1, b2⟩ := trF_zero q Maps.isMap_empty h
   refine ⟨fun e => h0.1 (by rw [e]; rfl), fun e => h0.2 (by rw [e]; rfl), fun g hg => ⟨(a1 g hg).1, (a1 g hg).2.1⟩, fun g hg => ⟨(b1 g hg).1, (b1 g hg).2.1⟩, a2, b2, fun g hg x hx e => ?_⟩
   have h2 := (b1 g hg).2.2.1
   rw [hasK_putGs, List.any_eq_false] at h2
   exact h2 x hx (by simpa using e)
  ·exact absurd h (by assumption)
theorem arc_zero {k : Nat} {n a b c d : Int} (h : netfmt_arc.f k n a b c d = some 0) : (0 ≤ a ∧ a < n) ∧ (0 ≤ b ∧ b < n) ∧ (0 ≤ c ∧ c ≤ 1048576) ∧ 0 ≤ d ∧ d ≤ 1048576 := by
 unfold netfmt_arc.f at h
 cases k with
 |zero => split at h <;> simp [netfmt_arc.j0] at h
 |succ k =>
  split at h
  ·simp [netfmt_arc.j0] at h
  ·rename_i h1
   simp only [netfmt_arc.j0] at h
   split at h
   ·cases h
   ·rename_i h2
    split at h
    ·cases h
    ·split at h
     ·cases h
     ·unfold mn at h1
      unfold mx at h2
      simp only [decide_eq_true_eq] at h2
      omega
theorem check_go {n : Int} {b : Bool} {l l2 : List Arc} : ∀ (d k i : Nat), i + d = l.length → netfmt_Check.l0 k l (l.length : Int) (i : Int) n b l2 = some 0 → l.length ≤ 200 → ∀ j : Nat, i ≤ j → j < l.length → ∃ k2, netfmt_arc.f k2 n (arcAt l j).f0 (arcAt l j).f1 (arcAt l j).f2 (arcAt l j).f3 = some 0
 |0, k, i, hi, _, _ => fun j h1 h2 => by omega
 |d + 1, k, i, hi, h, hl => fun j h1 h2 => by
  cases k with
  |zero => simp [netfmt_Check.l0] at h
  |succ k =>
   rw [netfmt_Check.l0, if_pos (by omega), if_pos (by omega), if_pos (by omega)] at h
   obtain ⟨t, ht, h⟩ := Option.bind_eq_some_iff.1 h
   by_cases h0 : t = 0
   ·rw [if_pos h0, w1n i (by omega)] at h
    by_cases e : j = i
    ·subst e
     subst h0
     exact ⟨k, ht⟩
    ·exact check_go d k (i + 1) (by omega) h hl j (by omega) h2
   ·rw [if_neg h0] at h
    injection h with h
    exact absurd h h0
structure NetGood (n : Int) (l : List Arc) : Prop where
 n0 : 1 ≤ n
 n1 : n ≤ 50
 ll : l.length ≤ 200
 arc : ∀ j : Nat, j < l.length → (0 ≤ (arcAt l j).f0 ∧ (arcAt l j).f0 < n) ∧ (0 ≤ (arcAt l j).f1 ∧ (arcAt l j).f1 < n) ∧ (0 ≤ (arcAt l j).f2 ∧ (arcAt l j).f2 ≤ 1048576) ∧ 0 ≤ (arcAt l j).f3 ∧ (arcAt l j).f3 ≤ 1048576
theorem check_zero {k : Nat} {n : Int} {b : Bool} {l : List Arc} (h : netfmt_Check.f k n b l = some 0) : NetGood n l := by
 unfold netfmt_Check.f netfmt_nodes.f at h
 obtain ⟨t, ht, h⟩ := Option.bind_eq_some_iff.1 h
 by_cases h0 : t = 0
 ·rw [if_pos h0] at h
  subst h0
  split at ht
  ·cases ht
  ·split at ht
   ·cases ht
   ·by_cases h2 : (l.length : Int) > 200
    ·rw [if_pos h2] at h
     cases h
    ·rw [if_neg h2] at h
     exact ⟨by omega, by omega, by omega, fun j hj => by
      obtain ⟨k2, h3⟩ := check_go l.length k 0 (by omega) h (by omega) j (Nat.zero_le _) hj
      exact arc_zero h3⟩
 ·rw [if_neg h0] at h
  injection h with h
  exact absurd h h0
theorem begun_zero {k : Nat} {n h : Int} {b : Bool} {l : List Arc} {p q : List Grp} (hF : begunF k n b l p q h = some 0) :
  ∃ nn hh : Nat, n = nn ∧ h = hh ∧ PlaceOk nn hh l p q ∧ GroupsOk nn p q ∧ NetGood nn l ∧ hh ≤ 1024 ∧ (hh + 1) * nn ≤ 4000 ∧ (hh + 1) * l.length ≤ 10000 := by
 unfold begunF at hF
 obtain ⟨c1, h1, hF⟩ := Option.bind_eq_some_iff.1 hF
 by_cases e1 : c1 = 0
 ·rw [if_pos e1] at hF
  subst e1
  have hg := check_zero h1
  by_cases e2 : groupsC n p q = 0
  ·rw [if_pos e2] at hF
   have hgr := groupsC_zero e2
   obtain ⟨c3, h3, hF⟩ := Option.bind_eq_some_iff.1 hF
   by_cases e3 : c3 = 0
   ·rw [if_pos e3] at hF
    subst e3
    obtain ⟨t, ht, hF⟩ := Option.bind_eq_some_iff.1 hF
    cases t with
    |false => rw [if_neg (by decide)] at hF; cases hF
    |true =>
     have hz : 0 ≤ h ∧ h ≤ 1024 := by
      unfold span_Horizon.f at h3
      split at h3
      ·cases h3
      ·split at h3
       ·cases h3
       ·omega
     unfold expand_Fits.f at ht
     rw [h1, Option.bind_some, if_pos rfl, h3, Option.bind_some, if_pos rfl] at ht
     obtain ⟨nn, rfl⟩ := Int.eq_ofNat_of_zero_le (show 0 ≤ n by have := hg.n0; omega)
     obtain ⟨hh, rfl⟩ := Int.eq_ofNat_of_zero_le hz.1
     have hn1 := hg.n1
     have hll := hg.ll
     have b1 := mul_bd (a := (hh : Int) + 1) (n := (nn : Int)) (A := 1025) (N := 50) (by omega) (by omega) (by omega) hn1
     have b2 := mul_bd (a := (hh : Int) + 1) (n := (l.length : Int)) (A := 1025) (N := 200) (by omega) (by omega) (by omega) (by omega)
     have w1 : wrap64 ((hh : Int) + 1) = (hh : Int) + 1 := by unfold wrap64; omega
     rw [w1] at ht
     clear w1
     have w2 : wrap64 (((hh : Int) + 1) * (nn : Int)) = ((hh : Int) + 1) * (nn : Int) := by
      generalize ((hh : Int) + 1) * (nn : Int) = z at b1
      unfold wrap64
      omega
     have w3 : wrap64 (((hh : Int) + 1) * (l.length : Int)) = ((hh : Int) + 1) * (l.length : Int) := by
      generalize ((hh : Int) + 1) * (l.length : Int) = z at b2
      unfold wrap64
      omega
     rw [w2, w3] at ht
     clear w2 w3
     have m1 : ((hh : Int) + 1) * (nn : Int) = (((hh + 1) * nn : Nat) : Int) := by rw [Int.natCast_mul]; rfl
     have m2 : ((hh : Int) + 1) * (l.length : Int) = (((hh + 1) * l.length : Nat) : Int) := by rw [Int.natCast_mul]; rfl
     rw [m1, m2] at ht
     split at ht
     ·rename_i hle
      injection ht with ht
      have hle2 : (((hh + 1) * l.length : Nat) : Int) ≤ 10000 := by simpa using ht
      have lp := len_of_nodup (n := nn) (fun g hg => (hgr.gp g hg).1) hgr.dp
      have lq := len_of_nodup (n := nn) (fun g hg => (hgr.gq g hg).1) hgr.dq
      refine ⟨nn, hh, rfl, rfl, ⟨⟨?_, by omega, by omega, by omega, by omega, fun i hi => ⟨(hg.arc i hi).1, (hg.arc i hi).2.1⟩, fun i hi => (hg.arc i hi).2.2.2⟩, fun i hi => (hg.arc i hi).2.2.1, hgr.gp, hgr.gq, by omega, by omega⟩, hgr, hg, by omega, by omega, by omega⟩
      have := hg.n0
      omega
     ·cases ht
   ·rw [if_neg e3] at hF
    injection hF with hF
    exact absurd hF e3
  ·rw [if_neg e2] at hF
   injection hF with hF
   exact absurd hF e2
 ·rw [if_neg e1] at hF
  injection hF with hF
  exact absurd hF e1
section
variable {n : Nat} {l : List Arc} {f : List Int} {rows : List (List Stp)} {d : Nat → Int} {s : Nat}
theorem reach_sub (hf : FlowOk l f) (hr : RowsOk n l rows) (hb : Bf n s (Lk l f rows) d) {T : Int → Bool} (hc : Closed l.length (frOf l) (toOf l) (capOf l) (dOf f) T) (hs : T s = true) : ∀ (k u : Nat), u < n → d u = k → T u = true := by
 intro k
 induction k with
 |zero =>
  intro u hu e
  rcases hb.2.2.1 u hu (by omega) with rfl | ⟨p, _, h0, h1, _⟩
  ·exact hs
  ·omega
 |succ k ih =>
  intro u hu e
  rcases hb.2.2.1 u hu (by omega) with rfl | ⟨p, hp, h0, h1, x, hx, ht, hrm⟩
  ·exact hs
  ·have hT := ih p hp (by omega)
   obtain ⟨a0, a1, a2⟩ := hr.row p hp x hx
   obtain ⟨i, hi⟩ := Int.eq_ofNat_of_zero_le a0
   have hc2 := hc i (by omega)
   have hw := hf.wit x.f0 a0 a1
   unfold rmv at hrm
   unfold src at a2
   unfold tgt at ht
   rw [hi] at hrm a2 ht hw
   cases hb2 : x.f1 with
   |true =>
    rw [hb2, if_pos rfl] at hrm a2 ht
    have e1 : frOf l i = (u : Int) := ht
    have e2 : toOf l i = (p : Int) := a2
    rw [e1, e2] at hc2
    exact hc2.2 hT (by show 0 < rd f (i : Int); omega)
   |false =>
    rw [hb2] at hrm a2 ht
    simp only [Bool.false_eq_true, if_false] at hrm a2 ht
    have e1 : frOf l i = (p : Int) := a2
    have e2 : toOf l i = (u : Int) := ht
    rw [e1, e2] at hc2
    exact hc2.1 hT (by show rd f (i : Int) < (rd_T104 l (i : Int)).f2; omega)
theorem reach_mem (hf : FlowOk l f) (hr : RowsOk n l rows) (hb : Bf n s (Lk l f rows) d) {T : Int → Bool} (hc : Closed l.length (frOf l) (toOf l) (capOf l) (dOf f) T) (hs : T s = true) {u : Nat} (hu : u < n) (h : 0 ≤ d u) : T u = true := by
 obtain ⟨k, hk⟩ := Int.eq_ofNat_of_zero_le h
 exact reach_sub hf hr hb hc hs k u hu hk
def sideOf (d : Nat → Int) : Int → Bool := fun v => decide (0 ≤ d v.toNat)
theorem reach_top {N1 : Nat} (hn : NetOk n l) (hf : FlowOk l f) (hr : RowsOk n l rows) (hb : Bf n s (Lk l f rows) d) {S : Int → Bool} (ht : Top l.length (frOf l) (toOf l) n s N1 (capOf l) (dOf f) S) (h1 : N1 < n) : Top l.length (frOf l) (toOf l) n s N1 (capOf l) (dOf f) (sideOf d) := by
 refine ⟨ht.1, ht.2.1, bf_closed hn hf hr hb, ?_, ?_⟩
 ·unfold sideOf
  simp [hb.1]
 ·unfold sideOf
  simp only [Int.toNat_natCast, decide_eq_false_iff_not]
  intro h2
  have h3 := reach_mem hf hr hb ht.2.2.1 ht.2.2.2.1 h1 h2
  rw [ht.2.2.2.2] at h3
  cases h3
end
theorem slotsOf_same (n : Nat) {d d2 : List Int} : ∀ N : Nat, (∀ u : Nat, u < N → (0 ≤ dOf d u ↔ 0 ≤ dOf d2 u)) → slotsOf n d N = slotsOf n d2 N
 |0, _ => rfl
 |N + 1, h => by
  have h1 := h N (by omega)
  unfold dOf at h1
  rw [slotsOf, slotsOf, slotsOf_same n N (fun u hu => h u (by omega))]
  congr 1
  by_cases e : 0 ≤ rd d (N : Int)
  ·rw [if_pos e, if_pos (h1.1 e)]
  ·rw [if_neg e, if_neg (fun e2 => e (h1.2 e2))]
def Shown (arcs : List Arc) (M N N1 : Nat) (d : List Int) : Prop :=
 ∃ (f : List Int) (S : Int → Bool) (rows : List (List Stp)), FlowOk arcs f ∧ Top arcs.length (frOf arcs) (toOf arcs) M N N1 (capOf arcs) (dOf f) S ∧ RowsOk M arcs rows ∧ Bf M N (Lk arcs f rows) (dOf d)
def InAll (arcs : List Arc) (M N N1 : Nat) (u : Nat) : Prop := ∀ (f : List Int) (S : Int → Bool), FlowOk arcs f → Top arcs.length (frOf arcs) (toOf arcs) M N N1 (capOf arcs) (dOf f) S → S u = true
open Classical in
noncomputable def cutD (arcs : List Arc) (M N N1 : Nat) : List Int := (List.range N).map fun u => if InAll arcs M N N1 u then 0 else -1
theorem cutD_iff {arcs : List Arc} {M N N1 u : Nat} (hu : u < N) : 0 ≤ dOf (cutD arcs M N N1) u ↔ InAll arcs M N N1 u := by
 unfold dOf cutD
 unfold rd
 rw [Int.toNat_natCast, List.getD_eq_getElem?_getD, List.getElem?_map, List.getElem?_range hu, Option.map_some, Option.getD_some]
 split
 ·simpa
 ·simpa
noncomputable def cutOf (n : Nat) (arcs : List Arc) (M N N1 : Nat) : List Slot := slotsOf n (cutD arcs M N N1) N
theorem cutOf_eq {n : Nat} {arcs : List Arc} {M N N1 : Nat} (hn : NetOk M arcs) (hN : N < M) (h1 : N1 < M) {d : List Int} (h : Shown arcs M N N1 d) : cutOf n arcs M N N1 = slotsOf n d N := by
 obtain ⟨f, S, rows, a1, a2, a3, a4⟩ := h
 refine slotsOf_same n N (fun u hu => (cutD_iff hu).trans ⟨fun hA => ?_, fun hd f2 S2 b1 b2 => ?_⟩)
 ·have h2 := hA f (sideOf (dOf d)) a1 (reach_top hn a1 a3 a4 a2 h1)
  unfold sideOf at h2
  simpa using h2
 ·have hc := top_closed (ends_ok hn) ⟨by omega, by omega⟩ a2 b2
  exact reach_mem a1 a3 a4 hc b2.2.2.2.1 (by omega) hd
noncomputable def cutV (n h : Nat) (b : Bool) (l : List Arc) (p q : List Grp) : List Slot :=
 cutOf n (evArcs l (useOf q) (keepsOf b p q) n h ((h + 1) * n) ((h + 1) * n + 1) p q) ((h + 1) * n + 2) ((h + 1) * n) ((h + 1) * n + 1)
def okG (l : List Grp) : Bool := l.all (fun g => (Lit.int .i64 g.f0).wf && (Lit.int .i64 g.f1).wf) && decide (l.length ≤ 1000000)
theorem okG_wf {l : List Grp} (h : okG l = true) : GrpsWf l ∧ l.length ≤ 1000000 := by
 unfold okG at h
 rw [Bool.and_eq_true, decide_eq_true_eq] at h
 refine ⟨fun g hg => ?_, h.2⟩
 have := List.all_eq_true.1 h.1 g hg
 rw [Bool.and_eq_true] at this
 exact this
theorem begunF_mono (n : Int) (b : Bool) (l : List Arc) (p q : List Grp) (h : Int) (k : Nat) : LeO (begunF k n b l p q h) (begunF (k + 1) n b l p q h) := by
 intro r hr
 unfold begunF at hr ⊢
 obtain ⟨c1, h1, hr⟩ := Option.bind_eq_some_iff.1 hr
 rw [netfmt_Check.mono _ _ _ k c1 h1, Option.bind_some]
 split at hr
 ·split at hr
  ·obtain ⟨c3, h3, hr⟩ := Option.bind_eq_some_iff.1 hr
   rw [if_pos (by assumption), if_pos (by assumption), h3, Option.bind_some]
   split at hr
   ·obtain ⟨t, ht, hr⟩ := Option.bind_eq_some_iff.1 hr
    rw [if_pos (by assumption), expand_Fits.mono _ _ _ _ k t ht, Option.bind_some]
    exact hr
   ·rw [if_neg (by assumption)]
    exact hr
  ·rw [if_pos (by assumption), if_neg (by assumption)]
   exact hr
 ·rw [if_neg (by assumption)]
  exact hr
noncomputable def evac_Most.f (k : Nat) (n : Int) (b : Bool) (l : List Arc) (p q : List Grp) (h : Int) : Option (Int × Int) :=
 if okG p = true ∧ okG q = true then (begunF k n b l p q h).bind fun r => if r = 0 then some (mostV n.toNat h.toNat b l p q, 0) else some (0, r) else none
theorem evac_Most.mono : ∀ n b l p q h k, LeO (evac_Most.f k n b l p q h) (evac_Most.f (k + 1) n b l p q h) := by
 intro n b l p q h k r hr
 unfold evac_Most.f at hr ⊢
 split at hr
 ·rw [if_pos (by assumption)]
  obtain ⟨c, h1, hr⟩ := Option.bind_eq_some_iff.1 hr
  rw [begunF_mono n b l p q h k c h1]
  exact hr
 ·cases hr
set_option maxHeartbeats 4000000 in
set_option maxRecDepth 100000 in
theorem evac_Most.calls (k : Nat) (n : Int) (b : Bool) (A : Option Addr) (c : Nat) (l : List Arc) (Ap : Option Addr) (cp : Nat) (p : List Grp) (Aq : Option Addr) (cq : Nat) (q : List Grp) (h r1 r2 : Int) (w : World) (hr : Kd.C kArc w A l.length l) (hc : l.length ≤ c)
  (hp : Kd.C kGrp w Ap p.length p) (_ : p.length ≤ cp) (hq : Kd.C kGrp w Aq q.length q) (_ : q.length ≤ cq) (hF : evac_Most.f k n b l p q h = some (r1, r2)) :
  Calls Tryz.prog 9 #[.agg #[.int .i64 n, .bool b, .slice A l.length c], .slice Ap p.length cp, .slice Aq q.length cq, .int .i64 h] w fun e w' => e = .returned (.tuple #[.int .i64 r1, .int .i64 r2]) ∧ Below w.heap.size w w' := by
 unfold evac_Most.f at hF
 split at hF
 ·rename_i hok
  obtain ⟨wp, lp⟩ := okG_wf hok.1
  obtain ⟨wq, lq⟩ := okG_wf hok.2
  obtain ⟨r, hb, hF⟩ := Option.bind_eq_some_iff.1 hF
  have HR := zh hr
  have HC := zh hc
  have HP := zh hp
  have HQ := zh hq
  have HBG : Hid (∀ W, Below w.heap.size w W → Calls Tryz.prog 25 #[.agg #[.int .i64 n, .bool b, .slice A l.length c], .slice Ap p.length cp, .slice Aq q.length cq, .int .i64 h] W (BegunAt n b A c l Ap cp p Aq cq q r W)) := zh (fun W hW =>
   begun_walk k n b A c l Ap cp p Aq cq q h r W (Kd.C_below hr hW) hc (Kd.C_below hp hW) (Kd.C_below hq hW) wp wq lp lq hb)
  have hu := Tryz.underlying33
  clear hr hc hp hq wp lp wq lq hok
  by_cases h0 : r = 0
  ·rw [if_pos h0] at hF
   injection hF with hF
   injection hF with e1 e2
   subst h0 e1 e2
   obtain ⟨nn, hh, rfl, rfl, ho, -⟩ := begun_zero hb
   have HO := zh ho
   have hfl := field_value
   clear hb ho
   go_enter Tryz.func9, Tryz.ntmps9
   go_wp2_with (first
    |(go_at_call 25; (with_reducible refine (HBG.out _ ?s1).mono ?_); (case s1 => exact below_alloc (Below.refl _ _) _); rintro e w1 ⟨hb1, (⟨h9, _⟩ | ⟨_, gp, bh, br, rfl, hge, hPl⟩)⟩; (exact absurd rfl h9); have HB1 := zh (below_step (below_alloc (Below.refl w.heap.size w) (.cells #[.int .i64 nn, .bool b, .slice A l.length c] 33)) hb1); have HPL := zh hPl; clear hb1 hge hPl)
    |(go_at_call 26; refine (solved_walk nn hh b A c l Ap cp p Aq cq q gp bh br ((hh + 1) * nn) ((hh + 1) * nn + 1) ((hh + 1) * nn + 2) rfl rfl rfl _ HPL.out (Kd.C_below HR.out HB1.out) HC.out (Kd.C_below HP.out HB1.out) (Kd.C_below HQ.out HB1.out) HO.out.net HO.out.caps HO.out.gp HO.out.gq HO.out.lp HO.out.lq).mono ?_; rintro e w9 ⟨w0, gg, v, B, bf, f, S, rfl, k1, k2, k3, k4, k5⟩; have HB9 := zh (below_step HB1.out k5); have hv9 : leaves _ _ _ (dOf f) _ = mostV nn hh b l p q := (mfVal_eq (HO.out.arcs b) (by omega) k3 k4).symm; rw [hv9]; clear k1 k2 k3 k4 k5 hv9))
   go_ret2
   exact ⟨rfl, HB9.out⟩
  ·rw [if_neg h0] at hF
   injection hF with hF
   injection hF with e1 e2
   subst e1 e2
   have e1 : (r != 0) = true := bne_iff_ne.2 h0
   have e2 : (r == 0) = false := beq_eq_false_iff_ne.2 h0
   have H0 := zh h0
   clear h0 hb
   go_enter Tryz.func9, Tryz.ntmps9
   go_wp2_with (go_at_call 25; (with_reducible refine (HBG.out _ ?s1).mono ?_); (case s1 => exact below_alloc (Below.refl _ _) _); rintro e w1 ⟨hb1, (⟨_, rfl⟩ | ⟨h9, _⟩)⟩; rotate_left; (exact absurd h9 H0.out); have HB1 := zh (below_step (below_alloc (Below.refl w.heap.size w) (.cells #[.int .i64 n, .bool b, .slice A l.length c] 33)) hb1); clear hb1)
   go_ret2
   exact ⟨rfl, HB1.out⟩
 ·cases hF
noncomputable def evac_Cut.f (k : Nat) (n : Int) (b : Bool) (l : List Arc) (p q : List Grp) (h : Int) : Option (List Slot × Int) :=
 if okG p = true ∧ okG q = true then (begunF k n b l p q h).bind fun r => if r = 0 then some (cutV n.toNat h.toNat b l p q, 0) else some ([], r) else none
theorem evac_Cut.mono : ∀ n b l p q h k, LeO (evac_Cut.f k n b l p q h) (evac_Cut.f (k + 1) n b l p q h) := by
 intro n b l p q h k r hr
 unfold evac_Cut.f at hr ⊢
 split at hr
 ·rw [if_pos (by assumption)]
  obtain ⟨c, h1, hr⟩ := Option.bind_eq_some_iff.1 hr
  rw [begunF_mono n b l p q h k c h1]
  exact hr
 ·cases hr
def CutAt (r1 : List Slot) (r2 : Int) (w : World) (e : Ending) (w' : World) : Prop :=
 ∃ v : Value, e = .returned (.tuple #[v, .int .i64 r2]) ∧ Kd.R kSlot 110 w' w.heap.size (fun _ => True) v r1 ∧ Below w.heap.size w w'
set_option maxHeartbeats 4000000 in
set_option maxRecDepth 100000 in
theorem evac_Cut.calls (k : Nat) (n : Int) (b : Bool) (A : Option Addr) (c : Nat) (l : List Arc) (Ap : Option Addr) (cp : Nat) (p : List Grp) (Aq : Option Addr) (cq : Nat) (q : List Grp) (h : Int) (r1 : List Slot) (r2 : Int) (w : World) (hr : Kd.C kArc w A l.length l) (hc : l.length ≤ c)
  (hp : Kd.C kGrp w Ap p.length p) (_ : p.length ≤ cp) (hq : Kd.C kGrp w Aq q.length q) (_ : q.length ≤ cq) (hF : evac_Cut.f k n b l p q h = some (r1, r2)) :
  Calls Tryz.prog 16 #[.agg #[.int .i64 n, .bool b, .slice A l.length c], .slice Ap p.length cp, .slice Aq q.length cq, .int .i64 h] w (CutAt r1 r2 w) := by
 unfold evac_Cut.f at hF
 split at hF
 ·rename_i hok
  obtain ⟨wp, lp⟩ := okG_wf hok.1
  obtain ⟨wq, lq⟩ := okG_wf hok.2
  obtain ⟨r, hb, hF⟩ := Option.bind_eq_some_iff.1 hF
  have HR := zh hr
  have HC := zh hc
  have HP := zh hp
  have HQ := zh hq
  have HBG : Hid (∀ W, Below w.heap.size w W → Calls Tryz.prog 25 #[.agg #[.int .i64 n, .bool b, .slice A l.length c], .slice Ap p.length cp, .slice Aq q.length cq, .int .i64 h] W (BegunAt n b A c l Ap cp p Aq cq q r W)) := zh (fun W hW =>
   begun_walk k n b A c l Ap cp p Aq cq q h r W (Kd.C_below hr hW) hc (Kd.C_below hp hW) (Kd.C_below hq hW) wp wq lp lq hb)
  have hu := Tryz.underlying33
  clear hr hc hp hq wp lp wq lq hok
  by_cases h0 : r = 0
  ·rw [if_pos h0] at hF
   injection hF with hF
   injection hF with e1 e2
   subst h0 e1 e2
   obtain ⟨nn, hh, rfl, rfl, ho, -⟩ := begun_zero hb
   have HO := zh ho
   have hu2 := Tryz.underlying70
   clear hb ho
   go_enter Tryz.func16, Tryz.ntmps16
   go_wp2_with (first
    |(go_at_call 25; (with_reducible refine (HBG.out _ ?s1).mono ?_); (case s1 => exact below_alloc (Below.refl _ _) _); rintro e w1 ⟨hb1, (⟨h9, _⟩ | ⟨_, gp, bh, br, rfl, hge, hPl⟩)⟩; (exact absurd rfl h9); have HB1 := zh (below_step (below_alloc (Below.refl w.heap.size w) (.cells #[.int .i64 nn, .bool b, .slice A l.length c] 33)) hb1); have HPL := zh hPl; have HNX := zh (blk_below (heap_alloc_new w (.cells #[.int .i64 nn, .bool b, .slice A l.length c] 33)) hb1); clear hb1 hge hPl)
    |fail)
   have x0 : w1.cell? ⟨w.heap.size, 0, none⟩ = some (.int .i64 nn) := (blk_cell HNX.out 0).trans rfl
   go_region_held3 (fun w' => w'.cell? ⟨w.heap.size, 0, none⟩ = some (.int .i64 nn)) (first | exact HS9.out | exact HS10.out | go_keep) ((first
    |(go_at_call 26; refine (solved_walk nn hh b A c l Ap cp p Aq cq q gp bh br ((hh + 1) * nn) ((hh + 1) * nn + 1) ((hh + 1) * nn + 2) rfl rfl rfl _ (HPL.out.below zD) (Kd.C_below (Kd.C_below HR.out HB1.out) zD) HC.out (Kd.C_below (Kd.C_below HP.out HB1.out) zD) (Kd.C_below (Kd.C_below HQ.out HB1.out) zD) HO.out.net HO.out.caps HO.out.gp HO.out.gq HO.out.lp HO.out.lq).mono ?_; rintro e w9 ⟨w0, gg, v, B, bf, f, S, rfl, k1, k2, k3, k4, k5⟩; have hb9 : Below w1.heap.size w1 w9 := below_step zD k5; have HB9 := zh (below_step HB1.out hb9); have HS9 := zh (pw_cell_below hb9 x0); have K1 := zh k1; have K2 := zh k2; have K3 := zh k3; have K4 := zh k4; clear k1 k2 k3 k4 k5 hb9)
    |(go_at_call 39; refine (slots_walk w0 gg ((hh + 1) * nn) ((hh + 1) * nn + 1) ((hh + 1) * nn + 2) rfl rfl nn v _ B _ bf f _ _ (K1.out.below zD) (HO.out.netOk b).1 HO.out.net.n0 (show IntBlk _ bf f from blk_below K2.out zD) K3.out).mono ?_; rintro e w10 ⟨v10, d, rows, rfl, m1, m2, m3, m4, m5⟩; have hb10 : Below w9.heap.size w9 w10 := below_step zD m5; have HB10 := zh (below_step HB9.out hb10); have HS10 := zh (pw_cell_below hb10 HS9.out); have HM1 := zh (Kd.R_lower (base' := w.heap.size) m1 (Nat.le_trans HB9.out.size (show w9.heap.size ≤ _ from Nat.le_refl _))); have HCV : Hid (slotsOf nn d ((hh + 1) * nn) = cutV nn hh b l p q) := zh (cutOf_eq (HO.out.netOk b).1 (by omega) (by omega) ⟨f, S, rows, K3.out, K4.out, m3, m4⟩).symm; clear m1 m2 m3 m4 m5 hb10)))
   all_goals
    go_wp2
    go_ret2
    exact ⟨_, rfl, by have h9 := HM1.out; rw [HCV.out] at h9; exact h9, HB10.out⟩
  ·rw [if_neg h0] at hF
   injection hF with hF
   injection hF with e1 e2
   subst e1 e2
   have e1 : (r != 0) = true := bne_iff_ne.2 h0
   have e2 : (r == 0) = false := beq_eq_false_iff_ne.2 h0
   have H0 := zh h0
   clear h0 hb
   go_enter Tryz.func16, Tryz.ntmps16
   go_wp2_with (go_at_call 25; (with_reducible refine (HBG.out _ ?s1).mono ?_); (case s1 => exact below_alloc (Below.refl _ _) _); rintro e w1 ⟨hb1, (⟨_, rfl⟩ | ⟨h9, _⟩)⟩; rotate_left; (exact absurd h9 H0.out); have HB1 := zh (below_step (below_alloc (Below.refl w.heap.size w) (.cells #[.int .i64 n, .bool b, .slice A l.length c] 33)) hb1); clear hb1)
   go_ret2
   exact ⟨_, rfl, Kd.R_nil _ _ _ _ _, HB1.out⟩
 ·cases hF
def totalV (p : List Grp) : Int := p.foldl (fun s g => s + g.f1) 0
theorem totalV_snoc (p : List Grp) (g : Grp) : totalV (p ++ [g]) = totalV p + g.f1 := by unfold totalV; rw [List.foldl_append]; rfl
theorem totalV_bd {n : Nat} {p : List Grp} (h : GrpsIn n p) : ∀ i, i ≤ p.length → 0 ≤ totalV (p.take i) ∧ totalV (p.take i) ≤ i * 1048576
 |0, _ => by rw [List.take_zero]; exact ⟨Int.le_refl _, Int.le_refl _⟩
 |i + 1, hi => by
  have h1 := totalV_bd h i (by omega)
  have h2 := h _ (grp_mem (show i < p.length by omega))
  rw [grp_take (by omega), totalV_snoc]
  generalize totalV (p.take i) = T at h1 ⊢
  omega
set_option maxHeartbeats 2000000 in
set_option maxRecDepth 100000 in
theorem total_walk (nn : Nat) (gp : Nat) (n : Int) (b : Bool) (A : Option Addr) (ll c : Nat) (Ap : Option Addr) (cp : Nat) (p : List Grp) (Aq : Option Addr) (lq cq : Nat) (bh br kh kr : Nat) (Dh Dr : DataW Unit) (w : World) (h : PlI gp (placeCells n b A ll c Ap p.length cp Aq lq cq bh br) bh br kh kr Dh Dr w) (hp : Kd.C kGrp w Ap p.length p) (hg : GrpsIn nn p) (lp : p.length ≤ 1000) :
  Calls Tryz.prog 36 #[.pointer (some ⟨gp, 0, none⟩)] w fun e w' => e = .returned (.int .i64 (totalV p)) ∧ Below w.heap.size w w' := by
 have HP := zh hp
 have HG := zh hg
 have x3 : w.cell? ⟨gp, 3, none⟩ = some (.slice Ap p.length cp) := (blk_cell h.bx 3).trans rfl
 have hu2 := Tryz.underlying59
 clear h hp hg
 go_enter Tryz.func36, Tryz.ntmps36
 go_wp2
 go_loopg [3, 11] (p.length + 1) (fun k sv iv W => ∃ i : Nat, i ≤ p.length ∧ sv = .int .i64 (totalV (p.take i)) ∧ iv = .int .i64 i ∧ k = p.length + 1 - i ∧ Hid (Below w.heap.size w W))
 case atStart => exact ⟨0, Nat.zero_le _, rfl, rfl, rfl, zh (Below.refl _ _)⟩
 case round =>
  obtain ⟨i, hi, rfl, rfl, rfl, HB⟩ := hrel
  clear x3
  by_cases hlt : i < p.length
  ·have i0 : (0 : Int) ≤ (i : Int) := by omega
   have i1 : (i : Int) < (p.length : Int) := by omega
   obtain ⟨ad, ea, y0, y1⟩ := at_T59 (Kd.C_below HP.out HB.out) (i : Int) i0 i1
   subst ea
   rw [Int.toNat_natCast] at y0 y1
   obtain ⟨g, hg⟩ : ∃ g, g = grpAt p i := ⟨_, rfl⟩
   have hg2 : rd_T59 p (i : Int) = g := by rw [hg]; rfl
   rw [hg2] at y0 y1
   have hb := totalV_bd HG.out i (by omega)
   have hgin := (HG.out g (by rw [hg]; exact grp_mem hlt)).2
   have HGE := zh hg
   obtain ⟨T, hT⟩ : ∃ T, T = totalV (p.take i) := ⟨_, rfl⟩
   rw [← hT] at hb ⊢
   have HT := zh hT
   have t0 : 0 ≤ T := hb.1
   have t1 : T ≤ 2000000000 := by omega
   have g0 : 0 ≤ g.f1 := hgin.1
   have g1 : g.f1 ≤ 1048576 := hgin.2
   clear hg hg2 hT hb hgin
   go_wp2
   go_roundg (p.length - i)
   case measure => omega
   case rel => exact ⟨i + 1, by omega, by rw [grp_take hlt, totalV_snoc, ← HT.out, ← HGE.out], by go_num, by omega, zh (below_alloc HB.out _)⟩
  ·have e : i = p.length := by omega
   subst e
   go_wp2
   go_ret
   rw [List.take_length]
   exact ⟨rfl, HB.out⟩
theorem first_at (n h : Nat) (b : Bool) (A : Option Addr) (c : Nat) (l : List Arc) (Ap : Option Addr) (cp : Nat) (p : List Grp) (Aq : Option Addr) (cq : Nat) (q : List Grp) (gp bh br pb ab : Nat) (all : Int) (r1 : Int) (r2 : Bool) (w : World)
  (e1 : (if (mostV n h b l p q == all) = true then (bsr (fun k => mostV n k b l p q == all) 0 h : Int) else 0) = r1) (e2 : (mostV n h b l p q == all) = r2)
  (hP : PlI gp (placeCells n b A l.length c Ap p.length cp Aq q.length cq bh br) bh br p.length q.length (putGs p) (putGs q) w) (hr : Kd.C kArc w A l.length l) (hlc : l.length ≤ c) (hp : Kd.C kGrp w Ap p.length p) (hq : Kd.C kGrp w Aq q.length q)
  (ho : PlaceOk n h l p q) (h1 : w.heap[pb]? = some (.cells #[.pointer (some ⟨gp, 0, none⟩)] 64 (0, 0))) (h2 : w.heap[ab]? = some (.cells #[.int .i64 all] 3 (0, 0))) :
  Calls Tryz.prog 37 #[.int .i64 h, .func (.func 38) #[] #[.pointer (some ⟨pb, 0, none⟩), .pointer (some ⟨ab, 0, none⟩)]] w fun e w' => e = .returned (.tuple #[.int .i64 r1, .bool r2]) ∧ Below w.heap.size w w' := by
 subst e1 e2
 exact first_walk n h b A c l Ap cp p Aq cq q gp bh br pb ab all w hP hr hlc hp hq ho h1 h2
noncomputable def evac_Least.f (k : Nat) (n : Int) (b : Bool) (l : List Arc) (p q : List Grp) (h : Int) : Option (Int × Bool × Int) :=
 if okG p = true ∧ okG q = true then (begunF k n b l p q h).bind fun r => if r = 0 then some (if (mostV n.toNat h.toNat b l p q == totalV p) = true then (bsr (fun k => mostV n.toNat k b l p q == totalV p) 0 h.toNat : Int) else 0, mostV n.toNat h.toNat b l p q == totalV p, 0) else some (0, false, r) else none
theorem evac_Least.mono : ∀ n b l p q h k, LeO (evac_Least.f k n b l p q h) (evac_Least.f (k + 1) n b l p q h) := by
 intro n b l p q h k r hr
 unfold evac_Least.f at hr ⊢
 split at hr
 ·rw [if_pos (by assumption)]
  obtain ⟨c, h1, hr⟩ := Option.bind_eq_some_iff.1 hr
  rw [begunF_mono n b l p q h k c h1]
  exact hr
 ·cases hr
set_option maxHeartbeats 4000000 in
set_option maxRecDepth 100000 in
theorem evac_Least.calls (k : Nat) (n : Int) (b : Bool) (A : Option Addr) (c : Nat) (l : List Arc) (Ap : Option Addr) (cp : Nat) (p : List Grp) (Aq : Option Addr) (cq : Nat) (q : List Grp) (h r1 : Int) (r2 : Bool) (r3 : Int) (w : World) (hr : Kd.C kArc w A l.length l) (hc : l.length ≤ c)
  (hp : Kd.C kGrp w Ap p.length p) (_ : p.length ≤ cp) (hq : Kd.C kGrp w Aq q.length q) (_ : q.length ≤ cq) (hF : evac_Least.f k n b l p q h = some (r1, r2, r3)) :
  Calls Tryz.prog 15 #[.agg #[.int .i64 n, .bool b, .slice A l.length c], .slice Ap p.length cp, .slice Aq q.length cq, .int .i64 h] w fun e w' => e = .returned (.tuple #[.int .i64 r1, .bool r2, .int .i64 r3]) ∧ Below w.heap.size w w' := by
 unfold evac_Least.f at hF
 split at hF
 ·rename_i hok
  obtain ⟨wp, lp⟩ := okG_wf hok.1
  obtain ⟨wq, lq⟩ := okG_wf hok.2
  obtain ⟨r, hb, hF⟩ := Option.bind_eq_some_iff.1 hF
  have HR := zh hr
  have HC := zh hc
  have HP := zh hp
  have HQ := zh hq
  have HBG : Hid (∀ W, Below w.heap.size w W → Calls Tryz.prog 25 #[.agg #[.int .i64 n, .bool b, .slice A l.length c], .slice Ap p.length cp, .slice Aq q.length cq, .int .i64 h] W (BegunAt n b A c l Ap cp p Aq cq q r W)) := zh (fun W hW =>
   begun_walk k n b A c l Ap cp p Aq cq q h r W (Kd.C_below hr hW) hc (Kd.C_below hp hW) (Kd.C_below hq hW) wp wq lp lq hb)
  have hu := Tryz.underlying33
  clear hr hc hp hq wp lp wq lq hok
  by_cases h0 : r = 0
  ·rw [if_pos h0] at hF
   injection hF with hF
   injection hF with e1 e2
   injection e2 with e2 e3
   subst h0 e3
   obtain ⟨nn, hh, rfl, rfl, ho, -⟩ := begun_zero hb
   have HO := zh ho
   rw [Int.toNat_natCast, Int.toNat_natCast] at e1
   rw [Int.toNat_natCast, Int.toNat_natCast] at e2
   have HE1 := zh e1
   have HE2 := zh e2
   clear hb ho e1 e2
   go_enter Tryz.func15, Tryz.ntmps15
   go_wp2_with (first
    |(go_at_call 25; (with_reducible refine (HBG.out _ ?s1).mono ?_); (case s1 => exact below_alloc (Below.refl _ _) _); rintro e w1 ⟨hb1, (⟨h9, _⟩ | ⟨_, gp, bh, br, rfl, hge, hPl⟩)⟩; (exact absurd rfl h9); have HB1 := zh (below_step (below_alloc (Below.refl w.heap.size w) (.cells #[.int .i64 nn, .bool b, .slice A l.length c] 33)) hb1); have HPL := zh hPl; clear hb1 hge hPl)
    |(go_at_call 36; have hb2 := below_alloc (Below.refl w1.heap.size w1) (.cells #[.pointer (some ⟨gp, 0, none⟩)] 64); (with_reducible refine (total_walk nn gp nn b A l.length c Ap cp p Aq q.length cq bh br p.length q.length (putGs p) (putGs q) _ ?s1 ?s2 HO.out.gp HO.out.lp).mono ?_); (case s1 => exact HPL.out.below hb2); (case s2 => exact Kd.C_below HP.out (below_step HB1.out hb2)); rintro e w2 ⟨rfl, hb3⟩; have HB2 := zh (below_step hb2 hb3); have HPB := zh (blk_below (heap_alloc_new w1 (.cells #[.pointer (some ⟨gp, 0, none⟩)] 64)) hb3); clear hb2 hb3)
    |(go_at_call 37; have hb4 := below_alloc HB2.out (.cells #[.int .i64 (totalV p)] 3); (with_reducible refine (first_at nn hh b A c l Ap cp p Aq cq q gp bh br w1.heap.size w2.heap.size (totalV p) r1 r2 _ HE1.out HE2.out ?s1 ?s2 HC.out ?s3 ?s4 HO.out ?s5 ?s6).mono ?_); (case s1 => exact HPL.out.below hb4); (case s2 => exact Kd.C_below HR.out (below_step HB1.out hb4)); (case s3 => exact Kd.C_below HP.out (below_step HB1.out hb4)); (case s4 => exact Kd.C_below HQ.out (below_step HB1.out hb4)); (case s5 => exact blk_alloc HPB.out _); (case s6 => exact heap_alloc_new _ _); rintro e w3 ⟨rfl, hb5⟩; have HB3 := zh (below_step HB1.out (below_step hb4 hb5)); clear hb4 hb5))
   go_ret3
   exact ⟨rfl, HB3.out⟩
  ·rw [if_neg h0] at hF
   injection hF with hF
   injection hF with e1 e2
   injection e2 with e2 e3
   subst e1 e2 e3
   have e1 : (r != 0) = true := bne_iff_ne.2 h0
   have e2 : (r == 0) = false := beq_eq_false_iff_ne.2 h0
   have H0 := zh h0
   clear h0 hb
   go_enter Tryz.func15, Tryz.ntmps15
   go_wp2_with (go_at_call 25; (with_reducible refine (HBG.out _ ?s1).mono ?_); (case s1 => exact below_alloc (Below.refl _ _) _); rintro e w1 ⟨hb1, (⟨_, rfl⟩ | ⟨h9, _⟩)⟩; rotate_left; (exact absurd h9 H0.out); have HB1 := zh (below_step (below_alloc (Below.refl w.heap.size w) (.cells #[.int .i64 n, .bool b, .slice A l.length c] 33)) hb1); clear hb1)
   go_ret3
   exact ⟨rfl, below_alloc HB1.out _⟩
 ·cases hF
def cutA (S : Int → Bool) (x : Arc) : Int := if S x.f0 = true ∧ S x.f1 = false then x.f2 else 0
def cutL (S : Int → Bool) : List Arc → Int
 |[] => 0
 |x :: l => cutA S x + cutL S l
theorem cutL_append (S : Int → Bool) : ∀ a b : List Arc, cutL S (a ++ b) = cutL S a + cutL S b
 |[], b => by show cutL S b = 0 + cutL S b; omega
 |x :: a, b => by
  show cutA S x + cutL S (a ++ b) = cutA S x + cutL S a + cutL S b
  rw [cutL_append S a b]
  omega
theorem cutL_snoc (S : Int → Bool) (a : List Arc) (x : Arc) : cutL S (a ++ [x]) = cutL S a + cutA S x := by
 rw [cutL_append]
 show cutL S a + (cutA S x + 0) = _
 omega
theorem takes_cutL (S : Int → Bool) : ∀ (m : Nat) (arcs : List Arc), m = arcs.length → takes arcs.length (frOf arcs) (toOf arcs) (capOf arcs) S = cutL S arcs := by
 have key : ∀ (arcs : List Arc) (m : Nat), m ≤ arcs.length → sumN m (fun i => if S (frOf arcs i) = true ∧ S (toOf arcs i) = false then capOf arcs i else 0) = cutL S (arcs.take m) := by
  intro arcs m
  induction m with
  |zero => intro _; rw [List.take_zero]; rfl
  |succ m ih =>
   intro h
   have h1 : arcs.take (m + 1) = arcs.take m ++ [arcAt arcs m] := by
    rw [List.take_add_one, List.getElem?_eq_getElem (by omega)]
    unfold arcAt rd_T104
    rw [Int.toNat_natCast, List.getD_eq_getElem?_getD, List.getElem?_eq_getElem (by omega)]
    rfl
   rw [h1, cutL_snoc, sumN, ih (by omega)]
   rfl
 intro m arcs _
 have := key arcs arcs.length (Nat.le_refl _)
 rw [List.take_length] at this
 exact this
def mS (l : List Arc) (use : Arc → Bool) (n h : Int) (S : Int → Bool) (a : Nat) (j : Nat) : Int :=
 let x := arcAt l j
 if (a : Int) + x.f3 ≤ h ∧ use x = true then (if S ((a : Int) * n + x.f0) = true ∧ S (((a : Int) + x.f3) * n + x.f1) = false then x.f2 else 0) else 0
def wS (keeps : Nat → Bool) (n h : Int) (S : Int → Bool) (a : Nat) (v : Nat) : Int :=
 if (a : Int) < h ∧ keeps v = true then (if S ((a : Int) * n + v) = true ∧ S (((a : Int) + 1) * n + v) = false then 1099511627776 else 0) else 0
theorem cut_bM (l : List Arc) (use : Arc → Bool) (n h : Int) (S : Int → Bool) (a : Nat) (s : BSt) : ∀ j, cutL S (bM l use n h a s j).arcs = cutL S s.arcs + sumN j (mS l use n h S a)
 |0 => by show cutL S s.arcs = cutL S s.arcs + 0; omega
 |j + 1 => by
  have ih := cut_bM l use n h S a s j
  rw [sumN]
  unfold bM mS
  simp only
  by_cases hc : (a : Int) + (arcAt l j).f3 ≤ h ∧ use (arcAt l j) = true
  ·rw [if_pos hc, if_pos hc, cutL_snoc, ih]
   unfold cutA
   simp only
   unfold mS
   simp only
   omega
  ·rw [if_neg hc, if_neg hc, ih]
   unfold mS
   simp only
   omega
theorem cut_bW (keeps : Nat → Bool) (n h : Int) (S : Int → Bool) (a : Nat) (s : BSt) : ∀ v, cutL S (bW keeps n h a s v).arcs = cutL S s.arcs + sumN v (wS keeps n h S a)
 |0 => by show cutL S s.arcs = cutL S s.arcs + 0; omega
 |v + 1 => by
  have ih := cut_bW keeps n h S a s v
  rw [sumN]
  unfold bW wS
  simp only
  by_cases hc : (a : Int) < h ∧ keeps v = true
  ·rw [if_pos hc, if_pos hc, cutL_snoc, ih]
   unfold cutA
   simp only
   unfold wS
   omega
  ·rw [if_neg hc, if_neg hc, ih]
   unfold wS
   omega
theorem cut_bA (l : List Arc) (use : Arc → Bool) (keeps : Nat → Bool) (n h : Nat) (S : Int → Bool) : ∀ A, cutL S (bA l use keeps n h A).arcs = sumN A (fun a => sumN l.length (mS l use n h S a) + sumN n (wS keeps n h S a))
 |0 => rfl
 |A + 1 => by
  rw [bA, cut_bW, cut_bM, cut_bA l use keeps n h S A, sumN]
  omega
def gS (t : Grp → Bool) : List Grp → Int
 |[] => 0
 |g :: l => (if t g = true then g.f1 else 0) + gS t l
theorem cut_p (S : Int → Bool) (N : Nat) : ∀ p : List Grp, cutL S (pArcs N p) = gS (fun g => S N && !S g.f0) p
 |[] => rfl
 |g :: p => by
  show cutA S ⟨(N : Int), g.f0, g.f1, 0⟩ + cutL S (pArcs N p) = _
  rw [cut_p S N p, gS]
  congr 1
  unfold cutA
  simp only [Bool.and_eq_true, Bool.not_eq_true']
theorem cut_q (S : Int → Bool) (N1 n h : Nat) : ∀ q : List Grp, cutL S (qArcs N1 n h q) = gS (fun g => S ((h : Int) * n + g.f0) && !S N1) q
 |[] => rfl
 |g :: q => by
  show cutA S ⟨(h : Int) * n + g.f0, (N1 : Int), g.f1, 0⟩ + cutL S (qArcs N1 n h q) = _
  rw [cut_q S N1 n h q, gS]
  congr 1
  unfold cutA
  simp only [Bool.and_eq_true, Bool.not_eq_true']
theorem cut_ev (S : Int → Bool) (l : List Arc) (use : Arc → Bool) (keeps : Nat → Bool) (n h N N1 : Nat) (p q : List Grp) : cutL S (evArcs l use keeps n h N N1 p q) = sumN (h + 1) (fun a => sumN l.length (mS l use n h S a) + sumN n (wS keeps n h S a)) + gS (fun g => S N && !S g.f0) p + gS (fun g => S ((h : Int) * n + g.f0) && !S N1) q := by
 unfold evArcs
 rw [cutL_append, cutL_append, cut_bA, cut_p, cut_q]
theorem gS_le {t u : Grp → Bool} : ∀ {p : List Grp}, (∀ g, g ∈ p → 0 ≤ g.f1) → (∀ g, g ∈ p → t g = true → u g = true) → gS t p ≤ gS u p
 |[], _, _ => Int.le_refl _
 |g :: p, h0, h => by
  have h1 := gS_le (p := p) (fun x hx => h0 x (List.mem_cons_of_mem _ hx)) (fun x hx => h x (List.mem_cons_of_mem _ hx))
  have h2 := h0 g (List.mem_cons_self ..)
  have h3 := h g (List.mem_cons_self ..)
  rw [gS, gS]
  by_cases c : t g = true
  ·rw [if_pos c, if_pos (h3 c)]
   omega
  ·rw [if_neg c]
   split <;> omega
theorem gS_none : ∀ p : List Grp, gS (fun _ => false) p = 0
 |[] => rfl
 |g :: p => by rw [gS, gS_none p]; rfl
theorem gS_congr {t u : Grp → Bool} : ∀ {p : List Grp}, (∀ g, g ∈ p → t g = u g) → gS t p = gS u p
 |[], _ => rfl
 |g :: p, h => by
  rw [gS, gS, h g (List.mem_cons_self ..), gS_congr (p := p) (fun x hx => h x (List.mem_cons_of_mem _ hx))]
theorem gS_bd {n : Nat} (t : Grp → Bool) : ∀ {p : List Grp}, GrpsIn n p → 0 ≤ gS t p ∧ gS t p ≤ p.length * 1048576
 |[], _ => ⟨Int.le_refl _, Int.le_refl _⟩
 |g :: p, h => by
  have h1 := gS_bd t (p := p) (fun x hx => h x (List.mem_cons_of_mem _ hx))
  have h2 := (h g (List.mem_cons_self ..)).2
  rw [gS, List.length_cons]
  split <;> omega
theorem totalV_gS (p : List Grp) : totalV p = gS (fun _ => true) p := by
 have : ∀ (p : List Grp) (s : Int), p.foldl (fun s g => s + g.f1) s = s + gS (fun _ => true) p := by
  intro p
  induction p with
  |nil => intro s; show s = s + 0; omega
  |cons g p ih =>
   intro s
   rw [List.foldl_cons, ih, gS, if_pos rfl]
   omega
 unfold totalV
 rw [this]
 omega
def arcCells (l : List Arc) : List Value := l.flatMap fun x => [.int .i64 x.f0, .int .i64 x.f1, .int .i64 x.f2, .int .i64 x.f3]
theorem arcCells_get : ∀ (l : List Arc) (j : Nat) (x : Arc), l[j]? = some x → ∀ (i : Nat) (u : Value), ([.int .i64 x.f0, .int .i64 x.f1, .int .i64 x.f2, .int .i64 x.f3] : List Value)[i]? = some u → (arcCells l)[j * 4 + i]? = some u
 |[], j, x, h, _, _, _ => by simp at h
 |y :: l, 0, x, h, i, u, hu => by
  have e : y = x := by simpa using h
  subst e
  have hi : i < 4 := (List.getElem?_eq_some_iff.1 hu).1
  show ([Value.int .i64 y.f0, .int .i64 y.f1, .int .i64 y.f2, .int .i64 y.f3] ++ arcCells l)[0 * 4 + i]? = some u
  rw [Nat.zero_mul, Nat.zero_add, List.getElem?_append_left hi]
  exact hu
 |y :: l, j + 1, x, h, i, u, hu => by
  have h2 : l[j]? = some x := by simpa using h
  show ([Value.int .i64 y.f0, .int .i64 y.f1, .int .i64 y.f2, .int .i64 y.f3] ++ arcCells l)[(j + 1) * 4 + i]? = some u
  rw [show (j + 1) * 4 + i = 4 + (j * 4 + i) by omega, List.getElem?_append_right (by simp)]
  simp only [List.length_cons, List.length_nil, Nat.zero_add, Nat.reduceAdd, Nat.add_sub_cancel_left]
  exact arcCells_get l j x h2 i u hu
theorem arcs_read (W : World) (l : List Arc) (hl : l.length ≤ 100000) : Kd.C kArc (W.alloc (.cells (arcCells l).toArray 104)) (some ⟨W.heap.size, 0, none⟩) l.length l := by
 refine ⟨rfl, by omega, fun _ => ⟨_, rfl, fun j p hj => ⟨[.int .i64 p.f0, .int .i64 p.f1, .int .i64 p.f2, .int .i64 p.f3], rfl, k104_mk _ p, fun i u hu => ?_⟩⟩⟩
 have h1 := arcCells_get l j p hj i u hu
 have h2 : (W.alloc (.cells (arcCells l).toArray 104)).cell? ⟨W.heap.size, j * 4 + i, none⟩ = some u := by
  refine (blk_cell (heap_alloc_new _ _) (j * 4 + i)).trans ?_
  rw [List.getElem?_toArray]
  exact h1
 have h3 : (Addr.add ⟨W.heap.size, 0, none⟩ (j * kArc.sz + i)) = ⟨W.heap.size, j * 4 + i, none⟩ := by
  have : kArc.sz = 4 := rfl
  rw [this]
  unfold Addr.add
  split
  ·rename_i h4
   rw [h4]
  ·simp
 rw [h3]
 exact h2
theorem topEx {M N N1 : Nat} {arcs : List Arc} (hn : NetOk M arcs) (hcap : ∀ i : Int, 0 ≤ i → i < arcs.length → 0 ≤ (rd_T104 arcs i).f2) (hN : N < M) (h1 : N1 < M) (hne : N ≠ N1) : ∃ (f : List Int) (S : Int → Bool), FlowOk arcs f ∧ Top arcs.length (frOf arcs) (toOf arcs) M N N1 (capOf arcs) (dOf f) S := by
 obtain ⟨W⟩ : Nonempty World := ⟨World.unlaid Tryz.prog (Os.initial #[] #[] ByteArray.empty)⟩
 obtain ⟨e, w', fr, ⟨bf, f, S, -, -, -, h4, h5, -⟩, -⟩ := fill_walk M N N1 false (some ⟨W.heap.size, 0, none⟩) arcs.length arcs _ hn hcap hN h1 hne (Nat.le_refl _) (arcs_read W arcs hn.ll) []
 exact ⟨f, S, h4, h5⟩
theorem mf_cut {M N N1 : Nat} {arcs : List Arc} (ha : ∀ x, x ∈ arcs → ArcOk M x) (hn : NetOk M arcs) (hcap : ∀ i : Int, 0 ≤ i → i < arcs.length → 0 ≤ (rd_T104 arcs i).f2) (hN : N < M) (h1 : N1 < M) (hne : N ≠ N1) :
  (∃ S : Int → Bool, S N = true ∧ S N1 = false ∧ mfVal arcs M N N1 = cutL S arcs) ∧ ∀ S : Int → Bool, S N = true → S N1 = false → mfVal arcs M N N1 ≤ cutL S arcs := by
 obtain ⟨f, S, hf, ht⟩ := topEx hn hcap hN h1 hne
 rw [mfVal_eq ha hN hf ht]
 refine ⟨⟨S, ht.2.2.2.1, ht.2.2.2.2, ?_⟩, fun T t1 t2 => ?_⟩
 ·rw [← takes_cutL S _ arcs rfl]
  exact value_eq (ends_arcs ha) ht.1 ht.2.1 ⟨by omega, by omega⟩ ht.2.2.1 ht.2.2.2.1 ht.2.2.2.2
 ·rw [← takes_cutL T _ arcs rfl]
  exact value_le (ends_arcs ha) ht.1 ht.2.1 ⟨by omega, by omega⟩ t1 t2
def evCut (n h : Nat) (b : Bool) (l : List Arc) (p q : List Grp) (S : Int → Bool) : Int := cutL S (evArcs l (useOf q) (keepsOf b p q) n h ((h + 1) * n) ((h + 1) * n + 1) p q)
section
variable {n h : Nat} {l : List Arc} {p q : List Grp}
theorem PlaceOk.cut (ho : PlaceOk n h l p q) (b : Bool) : (∃ S : Int → Bool, S ((h + 1) * n : Nat) = true ∧ S ((h + 1) * n + 1 : Nat) = false ∧ mostV n h b l p q = evCut n h b l p q S) ∧ ∀ S : Int → Bool, S ((h + 1) * n : Nat) = true → S ((h + 1) * n + 1 : Nat) = false → mostV n h b l p q ≤ evCut n h b l p q S :=
 mf_cut (ho.arcs b) (ho.netOk b).1 (ho.netOk b).2 (by omega) (by omega) (by omega)
theorem mS_bd (ho : PlaceOk n h l p q) {use : Arc → Bool} (S : Int → Bool) (a j : Nat) (hj : j < l.length) (k : Int) : 0 ≤ mS l use n k S a j := by
 have := (ho.caps j hj).1
 unfold mS
 simp only
 split
 ·split <;> omega
 ·exact Int.le_refl _
theorem wS_bd (keeps : Nat → Bool) (n h : Int) (S : Int → Bool) (a v : Nat) : 0 ≤ wS keeps n h S a v := by
 unfold wS
 split
 ·split
  ·decide
  ·exact Int.le_refl _
 ·exact Int.le_refl _
theorem PlaceOk.le_total (ho : PlaceOk n h l p q) (b : Bool) : mostV n h b l p q ≤ totalV p := by
 have e1 : (((h + 1) * n : Nat) : Int) = ((h : Int) + 1) * n := by rw [Int.natCast_mul]; rfl
 obtain ⟨S, hz, hS, hS1⟩ : ∃ S : Int → Bool, (∀ x : Int, x < (((h + 1) * n : Nat) : Int) → S x = false) ∧ S (((h + 1) * n : Nat) : Int) = true ∧ S (((h + 1) * n + 1 : Nat) : Int) = false :=
  ⟨fun v => decide (v = (((h + 1) * n : Nat) : Int)), fun x hx => decide_eq_false (by omega), decide_eq_true rfl, decide_eq_false (by omega)⟩
 refine Int.le_trans ((ho.cut b).2 S hS hS1) ?_
 unfold evCut
 rw [cut_ev]
 have m0 : sumN (h + 1) (fun a => sumN l.length (mS l (useOf q) n h S a) + sumN n (wS (keepsOf b p q) n h S a)) = 0 := by
  refine sumN_zero _ (fun a ha => ?_)
  have z1 : sumN l.length (mS l (useOf q) n h S a) = 0 := sumN_zero _ (fun j hj => by
   have he := (ho.net.ends j hj).1
   have hx := idx_lt (a := (a : Int)) (n := n) (h := h) (by omega) (by omega) he.1 he.2
   unfold mS
   simp only
   rw [hz _ (by omega)]
   simp)
  have z2 : sumN n (wS (keepsOf b p q) n h S a) = 0 := sumN_zero _ (fun v hv => by
   have hx := idx_lt (a := (a : Int)) (n := n) (h := h) (x := (v : Int)) (by omega) (by omega) (by omega) (by omega)
   unfold wS
   rw [hz _ (by omega)]
   simp)
  rw [z1, z2]
  rfl
 have m1 : gS (fun g => S ((h : Int) * n + g.f0) && !S (((h + 1) * n + 1 : Nat) : Int)) q = 0 := by
  have : gS (fun g => S ((h : Int) * n + g.f0) && !S (((h + 1) * n + 1 : Nat) : Int)) q = gS (fun _ => false) q := gS_congr (fun g hg => by
   have he := (ho.gq g hg).1
   have hx := idx_lt (a := (h : Int)) (n := n) (h := h) (by omega) (by omega) he.1 he.2
   rw [hz _ (by omega)]
   rfl)
  rw [this, gS_none]
 rw [m0, m1, totalV_gS]
 have := gS_le (p := p) (t := fun g => S (((h + 1) * n : Nat) : Int) && !S g.f0) (u := fun _ => true) (fun g hg => (ho.gp g hg).2.1) (fun _ _ _ => rfl)
 omega
theorem sumN_ge : ∀ (n : Nat) {g : Nat → Int} (i : Nat), i < n → (∀ j, j < n → 0 ≤ g j) → g i ≤ sumN n g
 |0, _, i, h, _ => by omega
 |n + 1, g, i, h, h0 => by
  rw [sumN]
  have h1 := h0 n (by omega)
  have h2 := sumN_nonneg n (g := g) (fun j hj => h0 j (by omega))
  by_cases e : i = n
  ·subst e
   omega
  ·have := sumN_ge n i (by omega) (fun j hj => h0 j (by omega))
   omega
theorem PlaceOk.mono (ho : PlaceOk n (h + 1) l p q) (b : Bool) : mostV n h b l p q ≤ mostV n (h + 1) b l p q := by
 obtain ⟨⟨S', s1, s2, s3⟩, -⟩ := ho.cut b
 have ho0 : PlaceOk n h l p q := ho.le (by omega)
 have eN : (((h + 1) * n : Nat) : Int) = ((h : Int) + 1) * n := by rw [Int.natCast_mul]; rfl
 let S : Int → Bool := fun v => if v < (((h + 1) * n : Nat) : Int) then S' v else decide (v = (((h + 1) * n : Nat) : Int))
 have hS : ∀ v, v < (((h + 1) * n : Nat) : Int) → S v = S' v := fun v hv => if_pos hv
 have hSN : S (((h + 1) * n : Nat) : Int) = true := by show (if _ then _ else _) = true; rw [if_neg (by omega)]; simp
 have hSN1 : S (((h + 1) * n + 1 : Nat) : Int) = false := by show (if _ then _ else _) = false; rw [if_neg (by omega)]; exact decide_eq_false (by omega)
 refine Int.le_trans ((ho0.cut b).2 S hSN hSN1) ?_
 rw [s3]
 unfold evCut
 rw [cut_ev, cut_ev]
 have hlt : ∀ (a x : Int), 0 ≤ a → a ≤ h → 0 ≤ x → x < n → a * n + x < (((h + 1) * n : Nat) : Int) := fun a x a0 a1 x0 x1 => by
  have := idx_lt (a := a) (n := n) (h := h) (x := x) a0 a1 x0 x1
  omega
 have hM : ∀ a : Nat, a ≤ h → sumN l.length (mS l (useOf q) n h S a) ≤ sumN l.length (mS l (useOf q) n (h + 1 : Nat) S' a) := fun a ha => sumN_le _ (fun j hj => by
  have he := ho.net.ends j hj
  have ht := ho.net.time j hj
  have hc := (ho.caps j hj).1
  unfold mS
  simp only
  by_cases c : (a : Int) + (arcAt l j).f3 ≤ h ∧ useOf q (arcAt l j) = true
  ·have c2 : (a : Int) + (arcAt l j).f3 ≤ ((h + 1 : Nat) : Int) ∧ useOf q (arcAt l j) = true := ⟨by omega, c.2⟩
   rw [if_pos c, if_pos c2, hS _ (hlt _ _ (by omega) (by omega) he.1.1 he.1.2), hS _ (hlt _ _ (by omega) c.1 he.2.1 he.2.2)]
   exact Int.le_refl _
  ·rw [if_neg c]
   split
   ·split <;> omega
   ·exact Int.le_refl _)
 have hW : ∀ a : Nat, a < h → sumN n (wS (keepsOf b p q) n h S a) ≤ sumN n (wS (keepsOf b p q) n (h + 1 : Nat) S' a) := fun a ha => sumN_le _ (fun v hv => by
  unfold wS
  by_cases c : (a : Int) < h ∧ keepsOf b p q v = true
  ·have c2 : (a : Int) < ((h + 1 : Nat) : Int) ∧ keepsOf b p q v = true := ⟨by omega, c.2⟩
   rw [if_pos c, if_pos c2, hS _ (hlt _ _ (by omega) (by omega) (by omega) (by omega)), hS _ (hlt _ _ (by omega) (by omega) (by omega) (by omega))]
   exact Int.le_refl _
  ·rw [if_neg c]
   split
   ·split <;> omega
   ·exact Int.le_refl _)
 have hW0 : sumN n (wS (keepsOf b p q) n h S h) = 0 := sumN_zero _ (fun v hv => by
  unfold wS
  rw [if_neg (by omega)])
 have hP : gS (fun g => S (((h + 1) * n : Nat) : Int) && !S g.f0) p = gS (fun g => S' (((h + 1 + 1) * n : Nat) : Int) && !S' g.f0) p := gS_congr (fun g hg => by
  have hg1 := (ho.gp g hg).1
  have := hlt 0 g.f0 (by omega) (by omega) hg1.1 hg1.2
  rw [hSN, s1, hS _ (by omega)])
 have hA : sumN h (fun a => sumN l.length (mS l (useOf q) n h S a) + sumN n (wS (keepsOf b p q) n h S a)) ≤ sumN h (fun a => sumN l.length (mS l (useOf q) n (h + 1 : Nat) S' a) + sumN n (wS (keepsOf b p q) n (h + 1 : Nat) S' a)) := sumN_le _ (fun a ha => by
  have h1 := hM a (by omega)
  have h2 := hW a ha
  omega)
 have hQ : gS (fun g => S ((h : Int) * n + g.f0) && !S (((h + 1) * n + 1 : Nat) : Int)) q ≤ sumN n (wS (keepsOf b p q) n (h + 1 : Nat) S' h) + gS (fun g => S' (((h + 1 : Nat) : Int) * n + g.f0) && !S' (((h + 1 + 1) * n + 1 : Nat) : Int)) q := by
  have q0 := (gS_bd (fun g => S' (((h + 1 : Nat) : Int) * n + g.f0) && !S' (((h + 1 + 1) * n + 1 : Nat) : Int)) ho.gq).1
  have q1 := (gS_bd (fun g => S ((h : Int) * n + g.f0) && !S (((h + 1) * n + 1 : Nat) : Int)) ho.gq).2
  have q2 := ho.lq
  have w0 := sumN_nonneg n (g := wS (keepsOf b p q) n (h + 1 : Nat) S' h) (fun v _ => wS_bd _ _ _ _ _ _)
  by_cases hex : ∃ g, g ∈ q ∧ S' ((h : Int) * n + g.f0) = true ∧ S' (((h : Int) + 1) * n + g.f0) = false
  ·obtain ⟨g, hg, t1, t2⟩ := hex
   have hg1 := (ho.gq g hg).1
   obtain ⟨v, hv⟩ := Int.eq_ofNat_of_zero_le hg1.1
   have h3 := sumN_ge n (g := wS (keepsOf b p q) n (h + 1 : Nat) S' h) v (by omega) (fun v _ => wS_bd _ _ _ _ _ _)
   have h4 : wS (keepsOf b p q) n (h + 1 : Nat) S' h v = 1099511627776 := by
    have hk : keepsOf b p q v = true := by
     unfold keepsOf
     rw [hasK_putGs q, List.any_eq_true.2 ⟨g, hg, by simpa using hv⟩]
     simp
    unfold wS
    rw [if_pos ⟨by omega, hk⟩, ← hv, if_pos ⟨t1, t2⟩]
   omega
  ·have h3 := gS_le (p := q) (t := fun g => S ((h : Int) * n + g.f0) && !S (((h + 1) * n + 1 : Nat) : Int)) (u := fun g => S' (((h + 1 : Nat) : Int) * n + g.f0) && !S' (((h + 1 + 1) * n + 1 : Nat) : Int)) (fun g hg => (ho.gq g hg).2.1) (fun g hg ht => by
    have hg1 := (ho.gq g hg).1
    rw [hS _ (hlt _ _ (by omega) (by omega) hg1.1 hg1.2), Bool.and_eq_true] at ht
    rw [s2]
    have h4 : S' (((h + 1 : Nat) : Int) * n + g.f0) = true := by
     cases c : S' (((h + 1 : Nat) : Int) * n + g.f0) with
     |true => rfl
     |false => exact absurd ⟨g, hg, ht.1, c⟩ hex
    rw [h4]
    rfl)
   omega
 have hA2 : 0 ≤ sumN l.length (mS l (useOf q) n (h + 1 : Nat) S' (h + 1)) + sumN n (wS (keepsOf b p q) n (h + 1 : Nat) S' (h + 1)) := by
  have a1 := sumN_nonneg l.length (g := mS l (useOf q) n (h + 1 : Nat) S' (h + 1)) (fun j hj => mS_bd ho S' _ j hj _)
  have a2 := sumN_nonneg n (g := wS (keepsOf b p q) n (h + 1 : Nat) S' (h + 1)) (fun v _ => wS_bd _ _ _ _ _ _)
  omega
 have hMh := hM h (Nat.le_refl _)
 simp only [sumN]
 rw [hP]
 omega
theorem PlaceOk.mono_le {m : Nat} (b : Bool) : ∀ {h : Nat}, PlaceOk n h l p q → m ≤ h → mostV n m b l p q ≤ mostV n h b l p q
 |0, _, hm => by
  have : m = 0 := by omega
  subst this
  exact Int.le_refl _
 |h + 1, ho, hm => by
  by_cases e : m = h + 1
  ·subst e
   exact Int.le_refl _
  ·exact Int.le_trans (PlaceOk.mono_le b (ho.le (by omega)) (by omega)) (ho.mono b)
end
theorem arc_good {n a b c d : Int} (h : (0 ≤ a ∧ a < n) ∧ (0 ≤ b ∧ b < n) ∧ (0 ≤ c ∧ c ≤ 1048576) ∧ 0 ≤ d ∧ d ≤ 1048576) (k : Nat) : netfmt_arc.f (k + 1) n a b c d = some 0 := by
 unfold netfmt_arc.f
 have h1 : ¬ mn (mn (mn a b) c) d < 0 := by unfold mn; omega
 have h2 : ¬ mx a b ≥ n := by unfold mx; omega
 rw [if_neg h1, decide_eq_false h2]
 simp only [netfmt_arc.j0]
 rw [if_neg (by decide), if_neg (by omega), if_neg (by omega)]
theorem check_go2 {n : Int} {b : Bool} {l l2 : List Arc} (h : NetGood n l) : ∀ (d k i : Nat), i + d = l.length → d + 1 < k → netfmt_Check.l0 k l (l.length : Int) (i : Int) n b l2 = some 0
 |0, k, i, hi, hk => by
  obtain ⟨k, rfl⟩ : ∃ m, k = m + 1 := ⟨k - 1, by omega⟩
  rw [netfmt_Check.l0, if_neg (by omega)]
 |d + 1, k, i, hi, hk => by
  obtain ⟨k, rfl⟩ : ∃ m, k = m + 1 + 1 := ⟨k - 2, by omega⟩
  have hl := h.ll
  have e : netfmt_arc.f (k + 1) n (rd_T104 l (i : Int)).f0 (rd_T104 l (i : Int)).f1 (rd_T104 l (i : Int)).f2 (rd_T104 l (i : Int)).f3 = some 0 := arc_good (h.arc i (by omega)) k
  rw [netfmt_Check.l0, if_pos (by omega), if_pos (by omega), if_pos (by omega), e, Option.bind_some, if_pos rfl, w1n i (by omega)]
  exact check_go2 h d (k + 1) (i + 1) (by omega) (by omega)
theorem check_good {n : Int} {b : Bool} {l : List Arc} (h : NetGood n l) {k : Nat} (hk : 300 ≤ k) : netfmt_Check.f k n b l = some 0 := by
 have h1 := h.n0
 have h2 := h.n1
 have h3 := h.ll
 unfold netfmt_Check.f netfmt_nodes.f
 rw [if_neg (by omega), if_neg (by omega), Option.bind_some, if_pos rfl, if_neg (by omega)]
 exact check_go2 h l.length k 0 (by omega) (by omega)
theorem takeC_is {n : Int} {Dh Dr : DataW Unit} {g : Grp} (h1 : 0 ≤ g.f0 ∧ g.f0 < n) (h2 : 0 ≤ g.f1 ∧ g.f1 ≤ 1048576) (h3 : hasK Dh g.f0 = false) (h4 : hasK Dr g.f0 = false) : takeC n Dh Dr g = 0 := by
 unfold takeC
 rw [if_neg, if_neg (by omega)]
 rintro (h | h | h | h | h)
 ·omega
 ·omega
 ·omega
 ·rw [h3] at h; cases h
 ·rw [h4] at h; cases h
theorem thF_is {n : Int} {Dr : DataW Unit} : ∀ (l : List Grp) {D : DataW Unit}, Maps.IsMap D → (∀ g, g ∈ l → (0 ≤ g.f0 ∧ g.f0 < n) ∧ (0 ≤ g.f1 ∧ g.f1 ≤ 1048576) ∧ hasK D g.f0 = false ∧ hasK Dr g.f0 = false) → (l.map fun g => g.f0).Nodup → thF n Dr D l = 0
 |[], _, _, _, _ => rfl
 |g :: l, D, hm, h, hd => by
  have h1 := h g (List.mem_cons_self ..)
  rw [List.map_cons, List.nodup_cons] at hd
  unfold thF
  rw [if_pos (takeC_is h1.1 h1.2.1 h1.2.2.1 h1.2.2.2)]
  refine thF_is l (isMap_putG hm g) (fun x hx => ?_) hd.2
  have h2 := h x (List.mem_cons_of_mem _ hx)
  refine ⟨h2.1, h2.2.1, ?_, h2.2.2.2⟩
  rw [hasK_put hm, h2.2.2.1, decide_eq_false (fun e => hd.1 (by rw [e]; exact List.mem_map.2 ⟨x, hx, rfl⟩))]
  rfl
theorem trF_is {n : Int} {Dh : DataW Unit} : ∀ (l : List Grp) {D : DataW Unit}, Maps.IsMap D → (∀ g, g ∈ l → (0 ≤ g.f0 ∧ g.f0 < n) ∧ (0 ≤ g.f1 ∧ g.f1 ≤ 1048576) ∧ hasK Dh g.f0 = false ∧ hasK D g.f0 = false) → (l.map fun g => g.f0).Nodup → trF n Dh D l = 0
 |[], _, _, _, _ => rfl
 |g :: l, D, hm, h, hd => by
  have h1 := h g (List.mem_cons_self ..)
  rw [List.map_cons, List.nodup_cons] at hd
  unfold trF
  rw [if_pos (takeC_is h1.1 h1.2.1 h1.2.2.1 h1.2.2.2)]
  refine trF_is l (isMap_putG hm g) (fun x hx => ?_) hd.2
  have h2 := h x (List.mem_cons_of_mem _ hx)
  refine ⟨h2.1, h2.2.1, h2.2.2.1, ?_⟩
  rw [hasK_put hm, h2.2.2.2, decide_eq_false (fun e => hd.1 (by rw [e]; exact List.mem_map.2 ⟨x, hx, rfl⟩))]
  rfl
theorem groupsC_is {n : Int} {p q : List Grp} (h : GroupsOk n p q) : groupsC n p q = 0 := by
 unfold groupsC
 rw [if_neg (by
  rintro (e | e)
  ·exact h.p0 (List.length_eq_zero_iff.1 e)
  ·exact h.q0 (List.length_eq_zero_iff.1 e)), if_pos (thF_is p Maps.isMap_empty (fun g hg => ⟨(h.gp g hg).1, (h.gp g hg).2, rfl, rfl⟩) h.dp)]
 refine trF_is q Maps.isMap_empty (fun g hg => ⟨(h.gq g hg).1, (h.gq g hg).2, ?_, rfl⟩) h.dq
 rw [hasK_putGs, List.any_eq_false]
 intro x hx e
 exact h.apart g hg x hx (by simpa using e)
structure AskOk (n h : Nat) (l : List Arc) (p q : List Grp) : Prop where
 net : NetGood n l
 grp : GroupsOk n p q
 hh : h ≤ 1024
 hn : (h + 1) * n ≤ 4000
 hl : (h + 1) * l.length ≤ 10000
theorem AskOk.begun {n h : Nat} {l : List Arc} {p q : List Grp} (a : AskOk n h l p q) (b : Bool) {k : Nat} (hk : 300 ≤ k) : begunF k n b l p q h = some 0 := by
 have c1 := check_good (b := b) a.net hk
 have h1 := a.hh
 have h2 := a.hn
 have h3 := a.hl
 have h4 := a.net.n0
 have h5 := a.net.n1
 unfold begunF
 rw [c1, Option.bind_some, if_pos rfl, if_pos (groupsC_is a.grp)]
 have c3 : span_Horizon.f (h : Int) = some 0 := by
  unfold span_Horizon.f
  rw [if_neg (by omega), if_neg (by omega)]
 rw [c3, Option.bind_some, if_pos rfl]
 have m1 : ((h : Int) + 1) * (n : Int) = (((h + 1) * n : Nat) : Int) := by rw [Int.natCast_mul]; rfl
 have m2 : ((h : Int) + 1) * (l.length : Int) = (((h + 1) * l.length : Nat) : Int) := by rw [Int.natCast_mul]; rfl
 have w1 : wrap64 ((h : Int) + 1) = (h : Int) + 1 := by unfold wrap64; omega
 have c4 : expand_Fits.f k n b l h = some true := by
  unfold expand_Fits.f
  rw [c1, Option.bind_some, if_pos rfl, c3, Option.bind_some, if_pos rfl, w1, m1, m2]
  clear w1 m1 m2
  generalize (h + 1) * n = x at h2 ⊢
  generalize (h + 1) * l.length = y at h3 ⊢
  have e1 : wrap64 (x : Int) = x := by unfold wrap64; omega
  have e2 : wrap64 (y : Int) = y := by unfold wrap64; omega
  rw [e1, e2, if_pos (by omega), decide_eq_true (by omega)]
 rw [c4, Option.bind_some, if_pos rfl]
theorem AskOk.place {n h : Nat} {l : List Arc} {p q : List Grp} (a : AskOk n h l p q) : PlaceOk n h l p q := by
 obtain ⟨nn, hh, e1, e2, ho, -⟩ := begun_zero (a.begun true (Nat.le_refl 300))
 have e1' : n = nn := by omega
 have e2' : h = hh := by omega
 subst e1' e2'
 exact ho
theorem okG_of {n : Nat} {p : List Grp} (hn : n ≤ 50) (h : ∀ g, g ∈ p → (0 ≤ g.f0 ∧ g.f0 < n) ∧ 0 ≤ g.f1 ∧ g.f1 ≤ 1048576) (hl : p.length ≤ 1000) : okG p = true := by
 unfold okG
 rw [Bool.and_eq_true, decide_eq_true_eq]
 refine ⟨List.all_eq_true.2 (fun g hg => ?_), by omega⟩
 have := h g hg
 rw [Bool.and_eq_true]
 exact ⟨small_wf this.1.1 (by omega), small_wf this.2.1 (by omega)⟩
theorem AskOk.okp {n h : Nat} {l : List Arc} {p q : List Grp} (a : AskOk n h l p q) : okG p = true ∧ okG q = true :=
 ⟨okG_of (by have := a.net.n1; omega) a.grp.gp a.place.lp, okG_of (by have := a.net.n1; omega) a.grp.gq a.place.lq⟩
theorem AskOk.most {n h : Nat} {l : List Arc} {p q : List Grp} (a : AskOk n h l p q) (b : Bool) {k : Nat} (hk : 300 ≤ k) : evac_Most.f k n b l p q h = some (mostV n h b l p q, 0) := by
 unfold evac_Most.f
 rw [if_pos a.okp, a.begun b hk, Option.bind_some, if_pos rfl, Int.toNat_natCast, Int.toNat_natCast]
theorem AskOk.least {n h : Nat} {l : List Arc} {p q : List Grp} (a : AskOk n h l p q) (b : Bool) {k : Nat} (hk : 300 ≤ k) : evac_Least.f k n b l p q h = some (if (mostV n h b l p q == totalV p) = true then (bsr (fun k => mostV n k b l p q == totalV p) 0 h : Int) else 0, mostV n h b l p q == totalV p, 0) := by
 unfold evac_Least.f
 rw [if_pos a.okp, a.begun b hk, Option.bind_some, if_pos rfl, Int.toNat_natCast, Int.toNat_natCast]
theorem AskOk.le {n h m : Nat} {l : List Arc} {p q : List Grp} (a : AskOk n h l p q) (hm : m ≤ h) : AskOk n m l p q :=
 ⟨a.net, a.grp, by have := a.hh; omega, Nat.le_trans (Nat.mul_le_mul (by omega) (Nat.le_refl _)) a.hn, Nat.le_trans (Nat.mul_le_mul (by omega) (Nat.le_refl _)) a.hl⟩
end Go.Proofs.YtcgdloldkcmhnaaGreat.H
end
section
namespace Go.Proofs.YtcgdloldkcmhnaaGreat.PrintE
open Go.Proofs.YtcgdloldkcmhnaaGreat.PrintC Go.RowKit Go.Proofs.YtcgdloldkcmhnaaGreat.H Go.Proofs.YtcgdloldkcmhnaaGreatW.PrintWords Go.Proofs.YtcgdloldkcmhnaaGreatW.PrintLast Go.Proofs.YtcgdloldkcmhnaaGreatW.PrintMore
attribute [local go_sem] max2_int min2_int max_two min_two max_three min_three max_four min_four
set_option linter.unusedVariables false
set_option linter.unusedSimpArgs false
theorem eqA76 (d : Nat) (w : World) (x0 y0 : Int) (x1 y1 : Int) (x2 y2 : Int) :
  (Op.equalIn (d + 2) 76 (.agg #[.int .i64 x0, .int .i64 x1, .int .i64 x2]) (.agg #[.int .i64 y0, .int .i64 y1, .int .i64 y2])).run Tryz.prog w = .ok (x0 == y0 && (x1 == y1 && (x2 == y2))) w := by
 refine eqA_of Tryz.underlying76 (by kernel_rfl) ?_
 refine eqf_cons (by rfl) (by go_simp; rfl) (by go_simp; rfl) (by go_simp) ?_
 refine eqf_cons (by rfl) (by go_simp; rfl) (by go_simp; rfl) (by go_simp) ?_
 exact eqf_last (by rfl) (by go_simp; rfl) (by go_simp; rfl) (by go_simp)
end Go.Proofs.YtcgdloldkcmhnaaGreat.PrintE
end
section
namespace Go.Proofs.YtcgdloldkcmhnaaGreat.H
open Go Go.RowKit Go.Proofs.YtcgdloldkcmhnaaGreat.PrintC Go.Proofs.YtcgdloldkcmhnaaGreat.PrintE Go.Proofs.YtcgdloldkcmhnaaGreatW.PrintWords Go.Proofs.YtcgdloldkcmhnaaGreatW.PrintLast Go.Proofs.YtcgdloldkcmhnaaGreatW.PrintMore Go.Proofs.YtcgdloldkcmhnaaGreat.Flow
set_option linter.unusedVariables false
def arcV (n a b c d : Int) : Int := if a < 0 ∨ a ≥ n ∨ b < 0 ∨ b ≥ n ∨ c < 0 ∨ d < 0 then 51 else if c > 1048576 then 2 else if d > 1048576 then 2 else 0
theorem arc_p (k : Nat) (n a b c d : Int) : netfmt_arc.f (k + 1) n a b c d = some (arcV n a b c d) := by
 have jt : netfmt_arc.j0 (k + 1) true a b c d = some 51 := rfl
 have jf : netfmt_arc.j0 (k + 1) false a b c d = some (if c > 1048576 then 2 else if d > 1048576 then 2 else 0) := by
  simp only [netfmt_arc.j0]
  repeat' split
  all_goals first | rfl | contradiction
 unfold netfmt_arc.f arcV
 by_cases h1 : mn (mn (mn a b) c) d < 0
 ·rw [if_pos h1, jt, if_pos (by unfold mn at h1; omega)]
 ·rw [if_neg h1]
  by_cases h2 : mx a b ≥ n
  ·rw [decide_eq_true h2, jt, if_pos (by unfold mx at h2; omega)]
  ·rw [decide_eq_false h2, jf, if_neg (show ¬ (a < 0 ∨ a ≥ n ∨ b < 0 ∨ b ≥ n ∨ c < 0 ∨ d < 0) by unfold mn at h1; unfold mx at h2; omega)]
def arcsV (n : Int) : List Arc → Int
 |[] => 0
 |x :: l => if arcV n x.f0 x.f1 x.f2 x.f3 = 0 then arcsV n l else arcV n x.f0 x.f1 x.f2 x.f3
theorem arcsV_cons (n : Int) (x : Arc) (l : List Arc) : arcsV n (x :: l) = if arcV n x.f0 x.f1 x.f2 x.f3 = 0 then arcsV n l else arcV n x.f0 x.f1 x.f2 x.f3 := rfl
theorem drop_rd {l : List Arc} {i : Nat} (h : i < l.length) : l.drop i = rd_T104 l (i : Int) :: l.drop (i + 1) := by
 rw [List.drop_eq_getElem_cons h]
 unfold rd_T104
 rw [Int.toNat_natCast, List.getD_eq_getElem?_getD, List.getElem?_eq_getElem h]
 rfl
theorem drop_rdG {l : List Grp} {i : Nat} (h : i < l.length) : l.drop i = rd_T59 l (i : Int) :: l.drop (i + 1) := by
 rw [List.drop_eq_getElem_cons h]
 unfold rd_T59
 rw [Int.toNat_natCast, List.getD_eq_getElem?_getD, List.getElem?_eq_getElem h]
 rfl
theorem w_nat (i : Nat) (h : i ≤ 1000000) : wrap64 ((i : Int) + 1) = ((i + 1 : Nat) : Int) := by
 unfold wrap64
 omega
theorem arcs_p {n : Int} {b : Bool} {l l2 : List Arc} (hl : l.length ≤ 200) : ∀ (d k i : Nat), i + d = l.length → d + 1 < k → netfmt_Check.l0 k l (l.length : Int) (i : Int) n b l2 = some (arcsV n (l.drop i))
 |0, k, i, hi, hk => by
  obtain ⟨k, rfl⟩ : ∃ m, k = m + 1 := ⟨k - 1, by omega⟩
  rw [netfmt_Check.l0, if_neg (by omega), List.drop_of_length_le (by omega)]
  rfl
 |d + 1, k, i, hi, hk => by
  obtain ⟨k, rfl⟩ : ∃ m, k = m + 1 + 1 := ⟨k - 2, by omega⟩
  rw [netfmt_Check.l0, if_pos (by omega), if_pos (by omega), if_pos (by omega), arc_p, Option.bind_some, w_nat i (by omega), arcs_p hl d (k + 1) (i + 1) (by omega) (by omega), drop_rd (i := i) (by omega), arcsV_cons]
  split <;> rfl
def netV (n : Int) (l : List Arc) : Int := if n < 1 then 51 else if n > 50 then 2 else if (l.length : Int) > 200 then 2 else arcsV n l
theorem net_p {n : Int} {b : Bool} {l : List Arc} {k : Nat} (hk : 300 ≤ k) : netfmt_Check.f k n b l = some (netV n l) := by
 unfold netfmt_Check.f netfmt_nodes.f netV
 by_cases h1 : n < 1
 ·rw [if_pos h1, if_pos h1]; rfl
 rw [if_neg h1, if_neg h1]
 by_cases h2 : n > 50
 ·rw [if_pos h2, if_pos h2]; rfl
 rw [if_neg h2, if_neg h2, Option.bind_some, if_pos rfl]
 by_cases h3 : (l.length : Int) > 200
 ·rw [if_pos h3, if_pos h3]
 rw [if_neg h3, if_neg h3]
 exact arcs_p (by omega) l.length k 0 (by omega) (by omega)
def grpV (n : Int) (A : List Grp) (g : Grp) : Int := if g.f0 < 0 ∨ n ≤ g.f0 ∨ g.f1 < 0 ∨ (A.any fun x => decide (x.f0 = g.f0)) = true then 210 else if 1048576 < g.f1 then 2 else 0
def grpsV (n : Int) : List Grp → List Grp → Int
 |_, [] => 0
 |A, g :: L => if grpV n A g = 0 then grpsV n (A ++ [g]) L else grpV n A g
theorem grpsV_append (n : Int) : ∀ (L M A : List Grp), grpsV n A (L ++ M) = if grpsV n A L = 0 then grpsV n (A ++ L) M else grpsV n A L
 |[], M, A => by
  show grpsV n A M = if (0 : Int) = 0 then grpsV n (A ++ []) M else 0
  rw [if_pos rfl, List.append_nil]
 |g :: L, M, A => by
  show (if grpV n A g = 0 then grpsV n (A ++ [g]) (L ++ M) else grpV n A g) = if (if grpV n A g = 0 then grpsV n (A ++ [g]) L else grpV n A g) = 0 then grpsV n (A ++ g :: L) M else if grpV n A g = 0 then grpsV n (A ++ [g]) L else grpV n A g
  by_cases h : grpV n A g = 0
  ·rw [if_pos h, if_pos h, grpsV_append n L M (A ++ [g]), List.append_assoc]
   rfl
  ·rw [if_neg h, if_neg h, if_neg h]
theorem th_is (n : Int) : ∀ (L A : List Grp), thF n (.map []) (putGs A) L = grpsV n A L
 |[], A => rfl
 |g :: L, A => by
  have e : takeC n (putGs A) (.map []) g = grpV n A g := by
   unfold takeC grpV
   rw [hasK_putGs, hasK_empty]
   simp
  show (if takeC n (putGs A) (.map []) g = 0 then thF n (.map []) (putG (putGs A) g) L else takeC n (putGs A) (.map []) g) = if grpV n A g = 0 then grpsV n (A ++ [g]) L else grpV n A g
  rw [e, ← putGs_snoc, th_is n L (A ++ [g])]
theorem tr_is (n : Int) (B : List Grp) : ∀ (L A : List Grp), trF n (putGs B) (putGs A) L = grpsV n (B ++ A) L
 |[], A => rfl
 |g :: L, A => by
  have e : takeC n (putGs B) (putGs A) g = grpV n (B ++ A) g := by
   unfold takeC grpV
   rw [hasK_putGs, hasK_putGs, List.any_append]
   simp only [Bool.or_eq_true]
  show (if takeC n (putGs B) (putGs A) g = 0 then trF n (putGs B) (putG (putGs A) g) L else takeC n (putGs B) (putGs A) g) = if grpV n (B ++ A) g = 0 then grpsV n (B ++ A ++ [g]) L else grpV n (B ++ A) g
  rw [e, ← putGs_snoc, tr_is n B L (A ++ [g]), List.append_assoc]
theorem groupsC_eq (n : Int) (p q : List Grp) : groupsC n p q = if p.length = 0 ∨ q.length = 0 then 210 else grpsV n [] (p ++ q) := by
 unfold groupsC
 split
 ·rfl
 ·rw [grpsV_append, show (DataW.map [] : DataW Unit) = putGs [] from rfl, show thF n (putGs []) (putGs []) p = grpsV n [] p from th_is n p [], tr_is n p q []]
  rw [List.nil_append, List.append_nil]
def askedV (n : Int) (l : List Arc) (p q : List Grp) (h : Int) : Int :=
 if netV n l = 0 then (if groupsC n p q = 0 then (if h < 0 then 1 else if h > 1024 then 2 else if wrap64 (wrap64 (h + 1) * n) ≤ 4000 ∧ wrap64 (wrap64 (h + 1) * (l.length : Int)) ≤ 10000 then 0 else 2) else groupsC n p q) else netV n l
theorem asked_p {n : Int} {b : Bool} {l : List Arc} {p q : List Grp} {h : Int} {k : Nat} (hk : 300 ≤ k) : begunF k n b l p q h = some (askedV n l p q h) := by
 unfold begunF askedV expand_Fits.f span_Horizon.f
 rw [net_p hk, Option.bind_some]
 by_cases h1 : netV n l = 0
 case neg => rw [if_neg h1, if_neg h1]
 rw [if_pos h1, if_pos h1]
 by_cases h2 : groupsC n p q = 0
 case neg => rw [if_neg h2, if_neg h2]
 rw [if_pos h2, if_pos h2]
 by_cases h3 : h < 0
 ·rw [if_pos h3, if_pos h3]; rfl
 rw [if_neg h3, if_neg h3]
 by_cases h4 : h > 1024
 ·rw [if_pos h4, if_pos h4]; rfl
 rw [if_neg h4, if_neg h4, Option.bind_some, if_pos rfl, Option.bind_some, if_pos h1, Option.bind_some, if_pos rfl]
 by_cases h5 : wrap64 (wrap64 (h + 1) * n) ≤ 4000
 ·rw [if_pos h5, Option.bind_some]
  by_cases h6 : wrap64 (wrap64 (h + 1) * (l.length : Int)) ≤ 10000
  ·rw [if_pos (decide_eq_true h6), if_pos ⟨h5, h6⟩]
  ·rw [if_neg (by simpa using h6), if_neg (fun e => h6 e.2)]
 ·rw [if_neg h5, Option.bind_some, if_neg (by decide), if_neg (fun e => h5 e.1)]
end Go.Proofs.YtcgdloldkcmhnaaGreat.H
end
section
namespace Go.Proofs.YtcgdloldkcmhnaaGreat.H
open Go Go.ChangeShapes Go.WideShapes Go.ChangeAt Go.RowKit Go.Deep Go.Joins Go.Proofs.YtcgdloldkcmhnaaGreat.PrintC Go.Proofs.YtcgdloldkcmhnaaGreat.PrintE Go.Proofs.YtcgdloldkcmhnaaGreatW.PrintWords Go.Proofs.YtcgdloldkcmhnaaGreatW.PrintLast
theorem ownK : ownKnob Tryz.prog.godebug = none := by kernel_rfl
theorem laidOutK : laidOutB Tryz.prog = true := by kernel_rfl
noncomputable def laidWorld (os : Os) : World := World.holding Tryz.prog os ⟨#[], #[], []⟩
theorem wf_range {n : Int} (h : (Lit.int .i64 n).wf = true) : -9223372036854775808 ≤ n ∧ n ≤ 9223372036854775807 := by
 simp only [Lit.wf, Bool.and_eq_true, decide_eq_true_eq] at h
 exact h
section
variable {Hh : Type} {enc : TypeId × Value → Hh} {W : World} {base : Nat} {spare : Nat → Bool} {held : Bool}
theorem one_int {n : Nat} {v : Value} {y : DataW Hh × List MemPlace} (h : DataW.trod enc Tryz.prog W base spare held n 3 [v] = some y) : ∃ k, v = .int .i64 k ∧ (Lit.int .i64 k).wf = true := by
 obtain ⟨k, hc, _, hw⟩ := DataW.trod_int Tryz.underlying3 h
 simp only [List.cons.injEq, and_true] at hc
 exact ⟨k, hc, hw⟩
theorem one_bool {n : Nat} {v : Value} {y : DataW Hh × List MemPlace} (h : DataW.trod enc Tryz.prog W base spare held n 4 [v] = some y) : ∃ b, v = .bool b := by
 obtain ⟨b, hc, _⟩ := DataW.trod_bool Tryz.underlying4 h
 simp only [List.cons.injEq, and_true] at hc
 exact ⟨b, hc⟩
theorem arc_cells : Tryz.prog.cellsOf 104 = 4 := by kernel_rfl
theorem grp_cells : Tryz.prog.cellsOf 59 = 2 := by kernel_rfl
theorem int_cells : Tryz.prog.cellsOf 3 = 1 := by kernel_rfl
theorem net_cells : Tryz.prog.cellsOf 33 = 3 := by kernel_rfl
set_option maxRecDepth 100000 in
theorem opened_arcc {n : Nat} {cs : List Value} {y : DataW Hh × List MemPlace} (h : DataW.trod enc Tryz.prog W base spare held n 104 cs = some y) :
  ∃ a : Arc, cs = [.int .i64 a.f0, .int .i64 a.f1, .int .i64 a.f2, .int .i64 a.f3] := by
 obtain ⟨y0, y1, y2, y3, m, _, hl, h0, h1, h2, h3⟩ := trod_struct4 Tryz.underlying104 h
 rw [arc_cells] at hl
 match cs, hl with
 |[c0, c1, c2, c3], _ =>
  simp only [int_cells] at h0 h1 h2 h3
  obtain ⟨k0, rfl, r0⟩ := one_int h0
  obtain ⟨k1, rfl, r1⟩ := one_int h1
  obtain ⟨k2, rfl, r2⟩ := one_int h2
  obtain ⟨k3, rfl, r3⟩ := one_int h3
  exact ⟨⟨k0, k1, k2, k3⟩, rfl⟩
set_option maxRecDepth 100000 in
theorem opened_grpc {n : Nat} {cs : List Value} {y : DataW Hh × List MemPlace} (h : DataW.trod enc Tryz.prog W base spare held n 59 cs = some y) :
  ∃ a : Grp, cs = [.int .i64 a.f0, .int .i64 a.f1] ∧ (Lit.int .i64 a.f0).wf = true ∧ (Lit.int .i64 a.f1).wf = true := by
 obtain ⟨y0, y1, m, _, hl, h0, h1⟩ := trod_struct2 Tryz.underlying59 h
 rw [grp_cells] at hl
 match cs, hl with
 |[c0, c1], _ =>
  simp only [int_cells] at h0 h1
  obtain ⟨k0, rfl, r0⟩ := one_int h0
  obtain ⟨k1, rfl, r1⟩ := one_int h1
  exact ⟨⟨k0, k1⟩, rfl, r0, r1⟩
theorem kc_none2 {α : Type} (d : Kd α) : Kd.C d W none ([] : List α).length [] := ⟨rfl, by simp, fun h => by simp at h⟩
set_option maxRecDepth 100000 in
theorem opened_arcs {n : Nat} {v : Value} {y : DataW Hh × List MemPlace} (h : DataW.trod enc Tryz.prog W base spare held n 31 [v] = some y) :
  ∃ (A : Option Addr) (c : Nat) (l : List Arc), v = .slice A l.length c ∧ l.length ≤ c ∧ Kd.C kArc W A l.length l := by
 rcases open_slice Tryz.underlying31 h with ⟨hcs, _⟩ | ⟨a, len, cap, m, n', D, Pl, hcs, hb, hl, hm, hmm, hx, hi⟩
 ·simp only [List.cons.injEq, and_true] at hcs
  subst hcs
  exact ⟨none, 0, [], rfl, Nat.le_refl _, kc_none2 _⟩
 ·simp only [List.cons.injEq, and_true] at hcs
  subst hcs
  have hlm : len ≤ m := by
   rw [hmm]
   split
   ·exact hl
   ·exact Nat.le_refl _
  have hq : ∀ i, ∃ s : Arc, i < len → ∀ j u, [Value.int .i64 s.f0, .int .i64 s.f1, .int .i64 s.f2, .int .i64 s.f3][j]? = some u → W.cell? (a.add (i * 4 + j)) = some u := by
   intro i
   by_cases hlt : i < len
   ·obtain ⟨cs', hc, ht⟩ := hi i (by omega)
    obtain ⟨s, rfl⟩ := opened_arcc ht
    rw [arc_cells] at hc
    obtain ⟨_, _, hat⟩ := World.cells?_some hc
    refine ⟨s, fun _ j u hu => ?_⟩
    have hj : j < 4 := (List.getElem?_eq_some_iff.1 hu).1
    have h4 := hat j hj
    rw [← Go.Deep.add_add, h4, hu]
   ·exact ⟨⟨0, 0, 0, 0⟩, fun h => absurd h hlt⟩
  obtain ⟨g, hg⟩ := Classical.axiomOfChoice hq
  have hml : len ≤ 9223372036854775807 := by unfold maxLen at hm; omega
  refine ⟨some a, cap, (List.range len).map g, by simp, by simpa using hl, ⟨by simp, by simpa using hml, fun _ => ⟨a, rfl, fun j p hj => ?_⟩⟩⟩
  have hj1 : j < len := by have := (List.getElem?_eq_some_iff.1 hj).1; simpa using this
  have hj2 : g j = p := by
   have := hj
   simp [hj1] at this
   exact this
  subst hj2
  exact ⟨_, rfl, k104_mk W (g j), fun i u hu => hg j hj1 i u hu⟩
set_option maxRecDepth 100000 in
theorem opened_grps {n : Nat} {v : Value} {y : DataW Hh × List MemPlace} (h : DataW.trod enc Tryz.prog W base spare held n 34 [v] = some y) :
  ∃ (A : Option Addr) (c : Nat) (l : List Grp), v = .slice A l.length c ∧ l.length ≤ c ∧ Kd.C kGrp W A l.length l ∧ GrpsWf l := by
 rcases open_slice Tryz.underlying34 h with ⟨hcs, _⟩ | ⟨a, len, cap, m, n', D, Pl, hcs, hb, hl, hm, hmm, hx, hi⟩
 ·simp only [List.cons.injEq, and_true] at hcs
  subst hcs
  exact ⟨none, 0, [], rfl, Nat.le_refl _, kc_none2 _, fun g hg => nomatch hg⟩
 ·simp only [List.cons.injEq, and_true] at hcs
  subst hcs
  have hlm : len ≤ m := by
   rw [hmm]
   split
   ·exact hl
   ·exact Nat.le_refl _
  have hq : ∀ i, ∃ s : Grp, i < len → ((Lit.int .i64 s.f0).wf = true ∧ (Lit.int .i64 s.f1).wf = true) ∧ ∀ j u, [Value.int .i64 s.f0, .int .i64 s.f1][j]? = some u → W.cell? (a.add (i * 2 + j)) = some u := by
   intro i
   by_cases hlt : i < len
   ·obtain ⟨cs', hc, ht⟩ := hi i (by omega)
    obtain ⟨s, rfl, hr⟩ := opened_grpc ht
    rw [grp_cells] at hc
    obtain ⟨_, _, hat⟩ := World.cells?_some hc
    refine ⟨s, fun _ => ⟨hr, fun j u hu => ?_⟩⟩
    have hj : j < 2 := (List.getElem?_eq_some_iff.1 hu).1
    have h4 := hat j hj
    rw [← Go.Deep.add_add, h4, hu]
   ·exact ⟨⟨0, 0⟩, fun h => absurd h hlt⟩
  obtain ⟨g, hg⟩ := Classical.axiomOfChoice hq
  have hml : len ≤ 9223372036854775807 := by unfold maxLen at hm; omega
  refine ⟨some a, cap, (List.range len).map g, by simp, by simpa using hl, ⟨by simp, by simpa using hml, fun _ => ⟨a, rfl, fun j p hj => ?_⟩⟩, ?_⟩
  ·have hj1 : j < len := by have := (List.getElem?_eq_some_iff.1 hj).1; simpa using this
   have hj2 : g j = p := by
    have := hj
    simp [hj1] at this
    exact this
   subst hj2
   exact ⟨_, rfl, k59_mk W (g j), fun i u hu => (hg j hj1).2 i u hu⟩
  ·intro s hs
   obtain ⟨i, hi2, rfl⟩ := List.mem_map.1 hs
   exact (hg i (List.mem_range.1 hi2)).1
set_option maxRecDepth 100000 in
theorem opened_net {r : Reach} {b0 : Nat} {v : Value} {d : DataW Hh} {p : List MemPlace} (hv : Value.okWide Tryz.prog W r b0 33 v) (h : DataW.Trod enc Tryz.prog W base spare held 33 v d p) :
  ∃ (n : Int) (b : Bool) (A : Option Addr) (c : Nat) (l : List Arc), v = .agg #[.int .i64 n, .bool b, .slice A l.length c] ∧ l.length ≤ c ∧ Kd.C kArc W A l.length l ∧ True := by
 obtain ⟨v0, v1, v2, y0, y1, y2, n, rfl, _, _, h0, h1, h2⟩ := open_agg3 Tryz.underlying33 (by kernel_rfl) net_cells hv h
 obtain ⟨k0, rfl, r0⟩ := one_int h0
 obtain ⟨b, rfl⟩ := one_bool h1
 obtain ⟨A, c, l, rfl, g1, g2⟩ := opened_arcs h2
 exact ⟨k0, b, A, c, l, rfl, g1, g2, trivial⟩
theorem opened_groups {d : DataW Hh} {p : List MemPlace} {a : Option Addr} {len cap : Nat} (h : DataW.Trod enc Tryz.prog W base spare held 34 (.slice a len cap) d p) :
  ∃ l : List Grp, len = l.length ∧ l.length ≤ cap ∧ Kd.C kGrp W a l.length l ∧ GrpsWf l := by
 obtain ⟨n, hn⟩ := h
 obtain ⟨A, c, l, e, g1, g2, g3⟩ := opened_grps hn
 injection e with e1 e2 e3
 subst e1 e2 e3
 exact ⟨l, rfl, g1, g2, g3⟩
end
end Go.Proofs.YtcgdloldkcmhnaaGreat.H
end
section
namespace Go.Proofs.YtcgdloldkcmhnaaGreat.H
open Go Go.RowKit Go.Proofs.YtcgdloldkcmhnaaGreat.PrintC Go.Proofs.YtcgdloldkcmhnaaGreatW.PrintWords Go.Proofs.YtcgdloldkcmhnaaGreatW.PrintLast Go.Proofs.YtcgdloldkcmhnaaGreatW.PrintMore
set_option linter.unusedVariables false
set_option linter.unusedSimpArgs false
theorem mask32 (x : Int) : Go.bits .and .i64 x 4294967295 = x % 4294967296 := by
 have e : (BitVec.ofInt 64 4294967295).toNat = 2 ^ 32 - 1 := by decide
 show IntKind.i64.wrap (((BitVec.ofInt 64 x) &&& (BitVec.ofInt 64 4294967295)).toNat : Int) = _
 rw [BitVec.toNat_and, e, Nat.and_two_pow_sub_one_eq_mod, BitVec.toNat_ofInt]
 have h1 : ((x % (2 ^ 64 : Nat)).toNat % 2 ^ 32 : Nat) < 2 ^ 32 := Nat.mod_lt _ (by decide)
 have h2 : (((x % ((2 ^ 64 : Nat) : Int)).toNat % 2 ^ 32 : Nat) : Int) = x % 4294967296 := by
  rw [Int.natCast_emod, Int.toNat_of_nonneg (Int.emod_nonneg _ (by decide))]
  show x % 18446744073709551616 % 4294967296 = x % 4294967296
  omega
 rw [h2]
 exact IntWalk.i64_in _ (by omega)
def sumL : List Int → Int
 |[] => 0
 |x :: l => x + sumL l
theorem sumL_append : ∀ a b : List Int, sumL (a ++ b) = sumL a + sumL b
 |[], b => by rw [List.nil_append, sumL]; omega
 |x :: a, b => by rw [List.cons_append, sumL, sumL, sumL_append a b]; omega
theorem sumL_snoc (a : List Int) (x : Int) : sumL (a ++ [x]) = sumL a + x := by rw [sumL_append, sumL, sumL]; omega
def I64s (l : List Int) : Prop := ∀ x, x ∈ l → -9223372036854775808 ≤ x ∧ x ≤ 9223372036854775807
def halfH (l : List Int) : Int := sumL (l.map (· / 4294967296))
def halfL (l : List Int) : Int := sumL (l.map (· % 4294967296))
theorem half_snoc (a : List Int) (x : Int) : halfH (a ++ [x]) = halfH a + x / 4294967296 ∧ halfL (a ++ [x]) = halfL a + x % 4294967296 := by
 unfold halfH halfL
 rw [List.map_append, List.map_append]
 exact ⟨sumL_snoc _ _, sumL_snoc _ _⟩
theorem half_sum : ∀ l : List Int, halfH l * 4294967296 + halfL l = sumL l
 |[] => rfl
 |x :: l => by
  have := half_sum l
  unfold halfH halfL at this ⊢
  rw [List.map_cons, List.map_cons, sumL, sumL, sumL]
  omega
theorem half_bd : ∀ l : List Int, I64s l → -(l.length * 2147483648 : Int) ≤ halfH l ∧ halfH l ≤ l.length * 2147483648 ∧ 0 ≤ halfL l ∧ halfL l ≤ l.length * 4294967296
 |[], _ => by decide
 |x :: l, h => by
  have h1 := half_bd l (fun y hy => h y (List.mem_cons_of_mem _ hy))
  have h2 := h x (List.mem_cons_self ..)
  unfold halfH halfL at h1 ⊢
  rw [List.map_cons, List.map_cons, sumL, sumL, List.length_cons]
  omega
def fits (x : Int) : Bool := decide (-9223372036854775808 ≤ x ∧ x ≤ 9223372036854775807)
theorem take_snoc {l : List Int} {i : Nat} (h : i < l.length) : l.take (i + 1) = l.take i ++ [rd l (i : Int)] := by
 have e : rd l (i : Int) = l[i] := by
  unfold rd
  rw [Int.toNat_natCast, List.getD_eq_getElem?_getD, List.getElem?_eq_getElem h]
  rfl
 rw [List.take_add_one, List.getElem?_eq_getElem h, e]
 rfl
theorem rd_i64 {l : List Int} (h : I64s l) {i : Nat} (hi : i < l.length) : -9223372036854775808 ≤ rd l (i : Int) ∧ rd l (i : Int) ≤ 9223372036854775807 := by
 unfold rd
 rw [Int.toNat_natCast, List.getD_eq_getElem?_getD, List.getElem?_eq_getElem hi]
 exact h _ (List.getElem_mem hi)
def SumAt (l : List Int) (w : World) (e : Ending) (w' : World) : Prop := e = .returned (.tuple #[.int .i64 (if fits (sumL l) = true then sumL l else 0), .bool (fits (sumL l))]) ∧ Below w.heap.size w w'
set_option maxHeartbeats 4000000 in
set_option maxRecDepth 100000 in
theorem rsum_walk (A : Option Addr) (c : Nat) (l : List Int) (w : World) (hr : Kd.C (Kd.int .i64) w A l.length l) (hi : I64s l) (hl : l.length ≤ 1000000) :
  Calls Tryz.prog 31 #[.slice A l.length c] w (SumAt l w) := by
 have HR := zh hr
 have HI := zh hi
 clear hr hi
 go_enter Tryz.func31, Tryz.ntmps31
 go_wp2
 go_loopg [4, 5, 6] (l.length + 1) (fun k hv lv iv W => ∃ i : Nat, i ≤ l.length ∧ hv = .int .i64 (halfH (l.take i)) ∧ lv = .int .i64 (halfL (l.take i)) ∧ iv = .int .i64 i ∧ k = l.length + 1 - i ∧ Hid (Below w.heap.size w W))
 case atStart => exact ⟨0, Nat.zero_le _, rfl, rfl, rfl, rfl, zh (Below.refl _ _)⟩
 case round =>
  obtain ⟨i, hi, rfl, rfl, rfl, rfl, HB⟩ := hrel
  have hbd := half_bd (l.take i) (fun x hx => HI.out x (List.mem_of_mem_take hx))
  rw [List.length_take, Nat.min_eq_left hi] at hbd
  by_cases hlt : i < l.length
  ·have i0 : (0 : Int) ≤ (i : Int) := by omega
   have i1 : (i : Int) < (l.length : Int) := by omega
   obtain ⟨ae, eb, z0⟩ := Kd.at_int (Kd.C_below HR.out HB.out) (i : Int) i0 i1
   subst eb
   rw [Int.toNat_natCast] at z0
   have hx := rd_i64 HI.out hlt
   have hsn := half_snoc (l.take i) (rd l (i : Int))
   rw [← take_snoc hlt] at hsn
   have HSN := zh hsn
   clear hsn
   obtain ⟨x, hxe⟩ : ∃ x, x = rd l (i : Int) := ⟨_, rfl⟩
   rw [← hxe] at z0 hx
   have HXE := zh hxe
   clear hxe
   obtain ⟨H, hH⟩ : ∃ H, H = halfH (l.take i) := ⟨_, rfl⟩
   obtain ⟨L, hL⟩ : ∃ L, L = halfL (l.take i) := ⟨_, rfl⟩
   rw [← hH, ← hL] at hbd ⊢
   have HH := zh hH
   have HL := zh hL
   clear hH hL
   have e1 : x.fdiv 4294967296 = x / 4294967296 := Int.fdiv_eq_ediv_of_nonneg _ (by decide)
   have e2 : Go.bits .and .i64 x 4294967295 = x % 4294967296 := mask32 x
   have e3 : IntKind.i64.wrap (H + x / 4294967296) = H + x / 4294967296 := IntWalk.i64_in _ (by omega)
   have e4 : IntKind.i64.wrap (L + x % 4294967296) = L + x % 4294967296 := IntWalk.i64_in _ (by omega)
   go_wp2
   go_roundg (l.length - i)
   case measure => omega
   case rel => exact ⟨i + 1, by omega, by rw [HSN.out.1, ← HH.out, ← HXE.out], by rw [HSN.out.2, ← HL.out, ← HXE.out], by go_num, by omega, HB⟩
  ·have e : i = l.length := by omega
   subst e
   rw [List.take_length] at hbd ⊢
   have hs := half_sum l
   obtain ⟨T, hT⟩ : ∃ T, T = sumL l := ⟨_, rfl⟩
   rw [← hT] at hs
   have HTE := zh hT
   obtain ⟨H, hH⟩ : ∃ H, H = halfH l := ⟨_, rfl⟩
   obtain ⟨L, hL⟩ : ∃ L, L = halfL l := ⟨_, rfl⟩
   rw [← hH, ← hL] at hbd hs ⊢
   clear hH hL hT
   have e1 : L.fdiv 4294967296 = L / 4294967296 := Int.fdiv_eq_ediv_of_nonneg _ (by decide)
   have e2 : Go.bits .and .i64 L 4294967295 = L % 4294967296 := mask32 L
   have e3 : IntKind.i64.wrap (H + L / 4294967296) = H + L / 4294967296 := IntWalk.i64_in _ (by omega)
   obtain ⟨G, hG⟩ : ∃ G, G = H + L / 4294967296 := ⟨_, rfl⟩
   rw [← hG] at e3
   by_cases c1 : G < -2147483648
   ·have HF : Hid (fits T = false) := zh (by unfold fits; rw [decide_eq_false_iff_not]; omega)
    rw [hG] at e3 c1
    clear hs hbd
    go_wp2
    go_ret2
    unfold SumAt
    rw [← HTE.out, HF.out]
    exact ⟨rfl, HB.out⟩
   ·by_cases c2 : 2147483648 ≤ G
    ·have HF : Hid (fits T = false) := zh (by unfold fits; rw [decide_eq_false_iff_not]; omega)
     rw [hG] at e3 c1 c2
     clear hs hbd
     go_wp2
     go_ret2
     unfold SumAt
     rw [← HTE.out, HF.out]
     exact ⟨rfl, HB.out⟩
    ·have HF : Hid (fits T = true) := zh (by unfold fits; rw [decide_eq_true_eq]; omega)
     have e4 : IntKind.i64.wrap ((H + L / 4294967296) * 4294967296) = (H + L / 4294967296) * 4294967296 := IntWalk.i64_in _ (by omega)
     have e5 : IntKind.i64.wrap ((H + L / 4294967296) * 4294967296 + L % 4294967296) = T := by
      rw [show (H + L / 4294967296) * 4294967296 + L % 4294967296 = T by omega]
      exact IntWalk.i64_in _ (by omega)
     rw [hG] at e3 c1 c2
     clear hs hbd
     go_wp2
     go_ret2
     unfold SumAt
     rw [← HTE.out, HF.out]
     exact ⟨rfl, HB.out⟩
theorem SumAt.yes {l : List Int} {T : Int} {w w' : World} {e : Ending} (h : SumAt l w e w') (hT : sumL l = T) (hf : fits T = true) : e = .returned (.tuple #[.int .i64 T, .bool true]) ∧ Below w.heap.size w w' := by
 unfold SumAt at h
 rw [hT, hf] at h
 exact h
theorem SumAt.no {l : List Int} {T : Int} {w w' : World} {e : Ending} (h : SumAt l w e w') (hT : sumL l = T) (hf : fits T = false) : e = .returned (.tuple #[.int .i64 0, .bool false]) ∧ Below w.heap.size w w' := by
 unfold SumAt at h
 rw [hT, hf] at h
 exact h
end Go.Proofs.YtcgdloldkcmhnaaGreat.H
end
section
namespace Go.Proofs.YtcgdloldkcmhnaaGreat.H
open Go Go.RowKit Go.Proofs.YtcgdloldkcmhnaaGreat.PrintC Go.Proofs.YtcgdloldkcmhnaaGreat.PrintE Go.Proofs.YtcgdloldkcmhnaaGreatW.PrintWords
theorem infoNum : (Tryz.prog.info? 3).map (fun i => (i.zero, i.size, i.bytes)) = some (some (.int .i64 0), 1, 8) := by kernel_rfl
theorem infoMv : (Tryz.prog.info? 76).map (fun i => (i.zero, i.size, i.bytes)) = some (some (.agg #[.int .i64 0, .int .i64 0, .int .i64 0]), 3, 24) := by kernel_rfl
abbrev Mv := S76
abbrev kMv := k76
def sameK (a b : Mv) : Bool := decide (a.f0 = b.f0 ∧ a.f1 = b.f1)
theorem sameK_iff {a b : Mv} : sameK a b = true ↔ a.f0 = b.f0 ∧ a.f1 = b.f1 := decide_eq_true_iff
theorem sameK_sym {a b : Mv} (h : sameK a b = true) : sameK b a = true := by rw [sameK_iff] at h ⊢; exact ⟨h.1.symm, h.2.symm⟩
def amt (l : List Mv) (x : Mv) : Int := sumL ((l.filter (sameK x)).map (·.f2))
theorem amt_same {l : List Mv} {x y : Mv} (h : sameK x y = true) : amt l x = amt l y := by
 have e : sameK x = sameK y := by
  rw [sameK_iff] at h
  funext z
  unfold sameK
  rw [h.1, h.2]
 unfold amt
 rw [e]
def mlt (a b : Mv) : Prop := a.f1 < b.f1 ∨ a.f1 = b.f1 ∧ a.f0 < b.f0
theorem mlt_trans {a b c : Mv} (h : mlt a b) (k : mlt b c) : mlt a c := by
 unfold mlt at *
 omega
theorem mlt_of {a b : Mv} (h : ¬ mlt a b) (k : sameK b a = false) : mlt b a := by
 unfold sameK at k
 rw [decide_eq_false_iff_not] at k
 unfold mlt at *
 omega
def mvAt (l : List Mv) (i : Nat) : Mv := rd_T76 l (i : Int)
theorem mvAt_mem {l : List Mv} {i : Nat} (h : i < l.length) : mvAt l i ∈ l := by
 unfold mvAt rd_T76
 rw [Int.toNat_natCast, List.getD_eq_getElem?_getD, List.getElem?_eq_getElem h]
 exact List.getElem_mem h
theorem mvAt_take {l : List Mv} {i : Nat} (h : i < l.length) : l.take (i + 1) = l.take i ++ [mvAt l i] := by
 have e : mvAt l i = l[i] := by
  unfold mvAt rd_T76
  rw [Int.toNat_natCast, List.getD_eq_getElem?_getD, List.getElem?_eq_getElem h]
  rfl
 rw [List.take_add_one, List.getElem?_eq_getElem h, e]
 rfl
theorem mem_take_at {l : List Mv} {x : Mv} : ∀ {i : Nat}, i ≤ l.length → x ∈ l.take i → ∃ k, k < i ∧ x = mvAt l k
 |0, _, h => by simp at h
 |i + 1, hi, h => by
  rw [mvAt_take (by omega), List.mem_append, List.mem_singleton] at h
  rcases h with h | h
  ·obtain ⟨k, hk, e⟩ := mem_take_at (by omega) h
   exact ⟨k, by omega, e⟩
  ·exact ⟨i, by omega, h⟩
theorem at_mem_take {l : List Mv} : ∀ {i k : Nat}, i ≤ l.length → k < i → mvAt l k ∈ l.take i
 |i + 1, k, hi, hk => by
  rw [mvAt_take (by omega), List.mem_append, List.mem_singleton]
  by_cases e : k = i
  ·rw [e]
   exact .inr rfl
  ·exact .inl (at_mem_take (by omega) (by omega))
structure MgI (l : List Mv) (i : Nat) (m : List Mv) : Prop where
 srt : m.Pairwise mlt
 am : ∀ y, y ∈ m → y.f2 = amt l y ∧ y.f2 ≠ 0 ∧ ∃ x, x ∈ l.take i ∧ sameK x y = true
 all : ∀ x, x ∈ l.take i → fits (amt l x) = true ∧ (amt l x ≠ 0 → ∃ y, y ∈ m ∧ sameK x y = true)
abbrev MgOf (l m : List Mv) : Prop := MgI l l.length m
theorem MgI.zero (l : List Mv) : MgI l 0 [] := ⟨List.Pairwise.nil, fun _ h => (nomatch h), fun _ h => by simp at h⟩
section
variable {l m : List Mv} {i : Nat}
theorem MgI.had (h : MgI l i m) (hi : i < l.length) {k : Nat} (hk : k < i) (e : sameK (mvAt l k) (mvAt l i) = true) : MgI l (i + 1) m where
 srt := h.srt
 am y hy := by
  obtain ⟨a, b, x, hx, c⟩ := h.am y hy
  exact ⟨a, b, x, by rw [mvAt_take hi]; exact List.mem_append_left _ hx, c⟩
 all x hx := by
  rw [mvAt_take hi, List.mem_append, List.mem_singleton] at hx
  rcases hx with hx | rfl
  ·exact h.all x hx
  ·obtain ⟨a, b⟩ := h.all (mvAt l k) (at_mem_take (by omega) hk)
   rw [amt_same e] at a b
   refine ⟨a, fun g => ?_⟩
   obtain ⟨y, hy, c⟩ := b g
   rw [sameK_iff] at e c
   exact ⟨y, hy, by rw [sameK_iff]; exact ⟨e.1.symm.trans c.1, e.2.symm.trans c.2⟩⟩
theorem MgI.none (h : MgI l i m) (hi : i < l.length) (e : amt l (mvAt l i) = 0) : MgI l (i + 1) m where
 srt := h.srt
 am y hy := by
  obtain ⟨a, b, x, hx, c⟩ := h.am y hy
  exact ⟨a, b, x, by rw [mvAt_take hi]; exact List.mem_append_left _ hx, c⟩
 all x hx := by
  rw [mvAt_take hi, List.mem_append, List.mem_singleton] at hx
  rcases hx with hx | rfl
  ·exact h.all x hx
  ·rw [e]
   exact ⟨rfl, fun g => absurd rfl g⟩
theorem MgI.ins {a b : List Mv} {X : Mv} (h : MgI l i (a ++ b)) (hi : i < l.length) (hn : ∀ k, k < i → sameK (mvAt l k) (mvAt l i) = false) (hX : X = ⟨(mvAt l i).f0, (mvAt l i).f1, amt l (mvAt l i)⟩) (hf : fits (amt l (mvAt l i)) = true) (h0 : amt l (mvAt l i) ≠ 0) (hb : ∀ y, y ∈ b → mlt X y) (ha : ∀ (a' : List Mv) (y : Mv), a = a' ++ [y] → ¬ mlt X y) : MgI l (i + 1) (a ++ X :: b) where
 srt := by
  have hd : ∀ y, y ∈ a ++ b → sameK y X = false := fun y hy => by
   obtain ⟨_, _, x, hx, c⟩ := h.am y hy
   obtain ⟨k, hk, rfl⟩ := mem_take_at (by omega) hx
   have := hn k hk
   cases e : sameK y X with
   |false => rfl
   |true =>
    rw [sameK_iff] at c e
    rw [hX] at e
    have : sameK (mvAt l k) (mvAt l i) = true := sameK_iff.2 ⟨c.1.trans e.1, c.2.trans e.2⟩
    rw [hn k hk] at this
    cases this
  have hs := List.pairwise_append.1 h.srt
  have hal : ∀ y, y ∈ a → mlt y X := by
   rcases List.eq_nil_or_concat a with rfl | ⟨a', z, e⟩
   ·exact fun y hy => nomatch hy
   ·rw [List.concat_eq_append] at e
    subst e
    have hz := mlt_of (ha a' z rfl) (hd z (by simp))
    intro y hy
    rw [List.mem_append, List.mem_singleton] at hy
    rcases hy with hy | rfl
    ·exact mlt_trans ((List.pairwise_append.1 hs.1).2.2 y hy z (List.mem_singleton.2 rfl)) hz
    ·exact hz
  refine List.pairwise_append.2 ⟨hs.1, List.pairwise_cons.2 ⟨hb, hs.2.1⟩, fun y hy z hz => ?_⟩
  rcases List.mem_cons.1 hz with rfl | hz
  ·exact hal y hy
  ·exact hs.2.2 y hy z hz
 am y hy := by
  have hy2 : y = X ∨ y ∈ a ++ b := by
   rw [List.mem_append, List.mem_cons] at hy
   rw [List.mem_append]
   rcases hy with hy | rfl | hy
   ·exact .inr (.inl hy)
   ·exact .inl rfl
   ·exact .inr (.inr hy)
  rcases hy2 with rfl | hy2
  ·have e : sameK (mvAt l i) y = true := by rw [hX]; exact sameK_iff.2 ⟨rfl, rfl⟩
   refine ⟨?_, ?_, mvAt l i, by rw [mvAt_take hi]; simp, e⟩
   ·rw [← amt_same e, hX]
   ·rw [hX]
    exact h0
  ·obtain ⟨p, q, x, hx, c⟩ := h.am y hy2
   exact ⟨p, q, x, by rw [mvAt_take hi]; exact List.mem_append_left _ hx, c⟩
 all x hx := by
  rw [mvAt_take hi, List.mem_append, List.mem_singleton] at hx
  rcases hx with hx | rfl
  ·obtain ⟨p, q⟩ := h.all x hx
   refine ⟨p, fun g => ?_⟩
   obtain ⟨y, hy, c⟩ := q g
   refine ⟨y, ?_, c⟩
   rw [List.mem_append] at hy
   rw [List.mem_append, List.mem_cons]
   rcases hy with hy | hy
   ·exact .inl hy
   ·exact .inr (.inr hy)
  ·exact ⟨hf, fun _ => ⟨X, by simp, by rw [hX]; exact sameK_iff.2 ⟨rfl, rfl⟩⟩⟩
end
def MovesAt (l : List Mv) (w : World) (e : Ending) (w' : World) : Prop := Below w.heap.size w w' ∧ ((e = .returned (.tuple #[.slice none 0 0, .int .i64 10]) ∧ ∃ x, x ∈ l ∧ fits (amt l x) = false) ∨
 ∃ (m : List Mv) (A1 : Option Addr) (c1 : Nat), e = .returned (.tuple #[.slice A1 m.length c1, .int .i64 0]) ∧ Kd.R kMv 76 w' w.heap.size (fun _ => True) (.slice A1 m.length c1) m ∧ MgOf l m ∧ m.length ≤ l.length)
end Go.Proofs.YtcgdloldkcmhnaaGreat.H
end
section
namespace Go.Proofs.YtcgdloldkcmhnaaGreat.H
open Go Go.ChangeShapes Go.WideShapes Go.ChangeAt Go.RowKit Go.Deep Go.Joins Go.Proofs.YtcgdloldkcmhnaaGreat.PrintC Go.Proofs.YtcgdloldkcmhnaaGreat.PrintE Go.Proofs.YtcgdloldkcmhnaaGreatW.PrintWords Go.Proofs.YtcgdloldkcmhnaaGreatW.PrintLast
def SlWf (l : List Slot) : Prop := ∀ g, g ∈ l → (Lit.int .i64 g.f0).wf = true ∧ (Lit.int .i64 g.f1).wf = true
def MvWf (l : List Mv) : Prop := ∀ g, g ∈ l → (Lit.int .i64 g.f0).wf = true ∧ (Lit.int .i64 g.f1).wf = true ∧ (Lit.int .i64 g.f2).wf = true
section
variable {Hh : Type} {enc : TypeId × Value → Hh} {W : World} {base : Nat} {spare : Nat → Bool} {held : Bool}
theorem sl_cells : Tryz.prog.cellsOf 110 = 2 := by kernel_rfl
theorem mv_cells : Tryz.prog.cellsOf 76 = 3 := by kernel_rfl
set_option maxRecDepth 100000 in
theorem opened_slc {n : Nat} {cs : List Value} {y : DataW Hh × List MemPlace} (h : DataW.trod enc Tryz.prog W base spare held n 110 cs = some y) :
  ∃ a : Slot, cs = [.int .i64 a.f0, .int .i64 a.f1] ∧ (Lit.int .i64 a.f0).wf = true ∧ (Lit.int .i64 a.f1).wf = true := by
 obtain ⟨y0, y1, m, _, hl, h0, h1⟩ := trod_struct2 Tryz.underlying110 h
 rw [sl_cells] at hl
 match cs, hl with
 |[c0, c1], _ =>
  simp only [int_cells] at h0 h1
  obtain ⟨k0, rfl, r0⟩ := one_int h0
  obtain ⟨k1, rfl, r1⟩ := one_int h1
  exact ⟨⟨k0, k1⟩, rfl, r0, r1⟩
set_option maxRecDepth 100000 in
theorem opened_sls {n : Nat} {v : Value} {y : DataW Hh × List MemPlace} (h : DataW.trod enc Tryz.prog W base spare held n 50 [v] = some y) :
  ∃ (A : Option Addr) (c : Nat) (l : List Slot), v = .slice A l.length c ∧ l.length ≤ c ∧ Kd.C kSlot W A l.length l ∧ SlWf l := by
 rcases open_slice Tryz.underlying50 h with ⟨hcs, _⟩ | ⟨a, len, cap, m, n', D, Pl, hcs, hb, hl, hm, hmm, hx, hi⟩
 ·simp only [List.cons.injEq, and_true] at hcs
  subst hcs
  exact ⟨none, 0, [], rfl, Nat.le_refl _, kc_none2 _, fun g hg => nomatch hg⟩
 ·simp only [List.cons.injEq, and_true] at hcs
  subst hcs
  have hlm : len ≤ m := by
   rw [hmm]
   split
   ·exact hl
   ·exact Nat.le_refl _
  have hq : ∀ i, ∃ s : Slot, i < len → ((Lit.int .i64 s.f0).wf = true ∧ (Lit.int .i64 s.f1).wf = true) ∧ ∀ j u, [Value.int .i64 s.f0, .int .i64 s.f1][j]? = some u → W.cell? (a.add (i * 2 + j)) = some u := by
   intro i
   by_cases hlt : i < len
   ·obtain ⟨cs', hc, ht⟩ := hi i (by omega)
    obtain ⟨s, rfl, hr⟩ := opened_slc ht
    rw [sl_cells] at hc
    obtain ⟨_, _, hat⟩ := World.cells?_some hc
    refine ⟨s, fun _ => ⟨hr, fun j u hu => ?_⟩⟩
    have hj : j < 2 := (List.getElem?_eq_some_iff.1 hu).1
    have h4 := hat j hj
    rw [← Go.Deep.add_add, h4, hu]
   ·exact ⟨⟨0, 0⟩, fun h => absurd h hlt⟩
  obtain ⟨g, hg⟩ := Classical.axiomOfChoice hq
  have hml : len ≤ 9223372036854775807 := by unfold maxLen at hm; omega
  refine ⟨some a, cap, (List.range len).map g, by simp, by simpa using hl, ⟨by simp, by simpa using hml, fun _ => ⟨a, rfl, fun j p hj => ?_⟩⟩, ?_⟩
  ·have hj1 : j < len := by have := (List.getElem?_eq_some_iff.1 hj).1; simpa using this
   have hj2 : g j = p := by
    have := hj
    simp [hj1] at this
    exact this
   subst hj2
   exact ⟨_, rfl, k110_mk W (g j), fun i u hu => (hg j hj1).2 i u hu⟩
  ·intro s hs
   obtain ⟨i, hi2, rfl⟩ := List.mem_map.1 hs
   exact (hg i (List.mem_range.1 hi2)).1
set_option maxRecDepth 100000 in
theorem opened_mvc {n : Nat} {cs : List Value} {y : DataW Hh × List MemPlace} (h : DataW.trod enc Tryz.prog W base spare held n 76 cs = some y) :
  ∃ a : Mv, cs = [.int .i64 a.f0, .int .i64 a.f1, .int .i64 a.f2] ∧ (Lit.int .i64 a.f0).wf = true ∧ (Lit.int .i64 a.f1).wf = true ∧ (Lit.int .i64 a.f2).wf = true := by
 obtain ⟨y0, y1, y2, m, _, hl, h0, h1, h2⟩ := trod_struct3 Tryz.underlying76 h
 rw [mv_cells] at hl
 match cs, hl with
 |[c0, c1, c2], _ =>
  simp only [int_cells] at h0 h1 h2
  obtain ⟨k0, rfl, r0⟩ := one_int h0
  obtain ⟨k1, rfl, r1⟩ := one_int h1
  obtain ⟨k2, rfl, r2⟩ := one_int h2
  exact ⟨⟨k0, k1, k2⟩, rfl, r0, r1, r2⟩
set_option maxRecDepth 100000 in
theorem opened_mvs {n : Nat} {v : Value} {y : DataW Hh × List MemPlace} (h : DataW.trod enc Tryz.prog W base spare held n 40 [v] = some y) :
  ∃ (A : Option Addr) (c : Nat) (l : List Mv), v = .slice A l.length c ∧ l.length ≤ c ∧ Kd.C kMv W A l.length l ∧ MvWf l := by
 rcases open_slice Tryz.underlying40 h with ⟨hcs, _⟩ | ⟨a, len, cap, m, n', D, Pl, hcs, hb, hl, hm, hmm, hx, hi⟩
 ·simp only [List.cons.injEq, and_true] at hcs
  subst hcs
  exact ⟨none, 0, [], rfl, Nat.le_refl _, kc_none2 _, fun g hg => nomatch hg⟩
 ·simp only [List.cons.injEq, and_true] at hcs
  subst hcs
  have hlm : len ≤ m := by
   rw [hmm]
   split
   ·exact hl
   ·exact Nat.le_refl _
  have hq : ∀ i, ∃ s : Mv, i < len → ((Lit.int .i64 s.f0).wf = true ∧ (Lit.int .i64 s.f1).wf = true ∧ (Lit.int .i64 s.f2).wf = true) ∧ ∀ j u, [Value.int .i64 s.f0, .int .i64 s.f1, .int .i64 s.f2][j]? = some u → W.cell? (a.add (i * 3 + j)) = some u := by
   intro i
   by_cases hlt : i < len
   ·obtain ⟨cs', hc, ht⟩ := hi i (by omega)
    obtain ⟨s, rfl, hr⟩ := opened_mvc ht
    rw [mv_cells] at hc
    obtain ⟨_, _, hat⟩ := World.cells?_some hc
    refine ⟨s, fun _ => ⟨hr, fun j u hu => ?_⟩⟩
    have hj : j < 3 := (List.getElem?_eq_some_iff.1 hu).1
    have h4 := hat j hj
    rw [← Go.Deep.add_add, h4, hu]
   ·exact ⟨⟨0, 0, 0⟩, fun h => absurd h hlt⟩
  obtain ⟨g, hg⟩ := Classical.axiomOfChoice hq
  have hml : len ≤ 9223372036854775807 := by unfold maxLen at hm; omega
  refine ⟨some a, cap, (List.range len).map g, by simp, by simpa using hl, ⟨by simp, by simpa using hml, fun _ => ⟨a, rfl, fun j p hj => ?_⟩⟩, ?_⟩
  ·have hj1 : j < len := by have := (List.getElem?_eq_some_iff.1 hj).1; simpa using this
   have hj2 : g j = p := by
    have := hj
    simp [hj1] at this
    exact this
   subst hj2
   exact ⟨_, rfl, k76_mk W (g j), fun i u hu => (hg j hj1).2 i u hu⟩
  ·intro s hs
   obtain ⟨i, hi2, rfl⟩ := List.mem_map.1 hs
   exact (hg i (List.mem_range.1 hi2)).1
theorem opened_moves {d : DataW Hh} {p : List MemPlace} {a : Option Addr} {len cap : Nat} (h : DataW.Trod enc Tryz.prog W base spare held 40 (.slice a len cap) d p) :
  ∃ l : List Mv, len = l.length ∧ l.length ≤ cap ∧ Kd.C kMv W a l.length l ∧ MvWf l := by
 obtain ⟨n, hn⟩ := h
 obtain ⟨A, c, l, e, g1, g2, g3⟩ := opened_mvs hn
 injection e with e1 e2 e3
 subst e1 e2 e3
 exact ⟨l, rfl, g1, g2, g3⟩
theorem opened_slots {d : DataW Hh} {p : List MemPlace} {a : Option Addr} {len cap : Nat} (h : DataW.Trod enc Tryz.prog W base spare held 50 (.slice a len cap) d p) :
  ∃ l : List Slot, len = l.length ∧ l.length ≤ cap ∧ Kd.C kSlot W a l.length l ∧ SlWf l := by
 obtain ⟨n, hn⟩ := h
 obtain ⟨A, c, l, e, g1, g2, g3⟩ := opened_sls hn
 injection e with e1 e2 e3
 subst e1 e2 e3
 exact ⟨l, rfl, g1, g2, g3⟩
end
end Go.Proofs.YtcgdloldkcmhnaaGreat.H
end
section
namespace Go.Proofs.YtcgdloldkcmhnaaGreat.H
open Go Go.RowKit Go.Proofs.YtcgdloldkcmhnaaGreat.PrintC Go.Proofs.YtcgdloldkcmhnaaGreat.PrintE Go.Proofs.YtcgdloldkcmhnaaGreatW.PrintWords Go.Proofs.YtcgdloldkcmhnaaGreatW.PrintLast Go.Proofs.YtcgdloldkcmhnaaGreatW.PrintMore Go.Proofs.YtcgdloldkcmhnaaGreat.Flow
set_option linter.unusedVariables false
structure NetSm (m : Nat) (n : Int) (l : List Arc) : Prop where
 n2 : 2 ≤ n
 n5 : n ≤ 5
 ll : l.length ≤ m
 arc : ∀ x, x ∈ l → (0 ≤ x.f0 ∧ x.f0 < n) ∧ (0 ≤ x.f1 ∧ x.f1 < n) ∧ (0 ≤ x.f2 ∧ x.f2 ≤ 5) ∧ 0 ≤ x.f3 ∧ x.f3 ≤ 3
structure GI (n : Int) (p q : List Grp) : Prop where
 p0 : p ≠ []
 q0 : q ≠ []
 gp : ∀ g, g ∈ p → (0 ≤ g.f0 ∧ g.f0 < n) ∧ 0 ≤ g.f1 ∧ g.f1 ≤ 8
 gq : ∀ g, g ∈ q → (0 ≤ g.f0 ∧ g.f0 < n) ∧ 0 ≤ g.f1 ∧ g.f1 ≤ 8
 dp : (p.map fun g => g.f0).Nodup
 dq : (q.map fun g => g.f0).Nodup
 apart : ∀ g, g ∈ q → ∀ x, x ∈ p → x.f0 ≠ g.f0
theorem GI.ok {n : Int} {p q : List Grp} (h : GI n p q) : GroupsOk n p q :=
 ⟨h.p0, h.q0, fun g hg => ⟨(h.gp g hg).1, (h.gp g hg).2.1, by have := (h.gp g hg).2.2; omega⟩, fun g hg => ⟨(h.gq g hg).1, (h.gq g hg).2.1, by have := (h.gq g hg).2.2; omega⟩, h.dp, h.dq, h.apart⟩
theorem GI.swap {n : Int} {p q : List Grp} (h : GI n p q) : GI n q p := ⟨h.q0, h.p0, h.gq, h.gp, h.dq, h.dp, fun g hg x hx e => h.apart x hx g hg e.symm⟩
theorem GI.snoc {n : Int} {p q : List Grp} (h : GI n p q) {g : Grp} (hg : (0 ≤ g.f0 ∧ g.f0 < n) ∧ 0 ≤ g.f1 ∧ g.f1 ≤ 8) (h1 : ∀ x, x ∈ p → x.f0 ≠ g.f0) (h2 : ∀ x, x ∈ q → x.f0 ≠ g.f0) : GI n (p ++ [g]) q where
 p0 := by simp
 q0 := h.q0
 gp x hx := by
  rcases List.mem_append.1 hx with hx | hx
  ·exact h.gp x hx
  ·obtain rfl := List.mem_singleton.1 hx
   exact hg
 gq := h.gq
 dp := by
  rw [List.map_append, List.nodup_append]
  refine ⟨h.dp, by simp, fun a ha c hc => ?_⟩
  obtain ⟨x, hx, rfl⟩ := List.mem_map.1 ha
  have : c = g.f0 := by simpa using hc
  rw [this]
  exact h1 x hx
 dq := h.dq
 apart x hx y hy := by
  rcases List.mem_append.1 hy with hy | hy
  ·exact h.apart x hx y hy
  ·obtain rfl := List.mem_singleton.1 hy
   exact fun e => h2 x hx e.symm
theorem ask_of {m n h : Nat} {l : List Arc} {p q : List Grp} (hm : m ≤ 40) (hN : NetSm m n l) (hg : GI n p q) (hh : h ≤ 16) : AskOk n h l p q where
 net := ⟨by have := hN.n2; omega, by have := hN.n5; omega, by have := hN.ll; omega, fun j hj => by
  have := hN.arc _ (mem_arcAt hj)
  omega⟩
 grp := hg.ok
 hh := by omega
 hn := Nat.le_trans (Nat.mul_le_mul (show h + 1 ≤ 17 by omega) (show n ≤ 5 by have := hN.n5; omega)) (by decide)
 hl := Nat.le_trans (Nat.mul_le_mul (show h + 1 ≤ 17 by omega) (show l.length ≤ 40 by have := hN.ll; omega)) (by decide)
theorem bsr_first {holds : Nat → Bool} {top : Nat} (mono : ∀ a c, a ≤ c → c ≤ top → holds a = true → holds c = true) : ∀ (d lo hi : Nat), hi - lo ≤ d → lo ≤ hi → hi ≤ top → holds hi = true → (∀ k, k < lo → holds k = false) →
  holds (bsr holds lo hi) = true ∧ (∀ k, k < bsr holds lo hi → holds k = false) ∧ bsr holds lo hi ≤ hi
 |0, lo, hi, hd, hl, ht, hh, h0 => by
  rw [bsr_end (by omega)]
  have : lo = hi := by omega
  subst this
  exact ⟨hh, h0, Nat.le_refl _⟩
 |d + 1, lo, hi, hd, hl, ht, hh, h0 => by
  by_cases c : lo < hi
  ·cases cm : holds ((lo + hi) / 2) with
   |true =>
    rw [bsr_yes c cm]
    have := bsr_first mono d lo ((lo + hi) / 2) (by omega) (by omega) (by omega) cm h0
    exact ⟨this.1, this.2.1, by omega⟩
   |false =>
    rw [bsr_no c cm]
    refine bsr_first mono d ((lo + hi) / 2 + 1) hi (by omega) (by omega) ht hh (fun k hk => ?_)
    cases ck : holds k with
    |false => rfl
    |true =>
     rw [mono k ((lo + hi) / 2) (by omega) (by omega) ck] at cm
     cases cm
  ·rw [bsr_end c]
   have : lo = hi := by omega
   subst this
   exact ⟨hh, h0, Nat.le_refl _⟩
theorem AskOk.first {n h : Nat} {l : List Arc} {p q : List Grp} (a : AskOk n h l p q) (b : Bool) (he : mostV n h b l p q = totalV p) :
  mostV n (bsr (fun k => mostV n k b l p q == totalV p) 0 h) b l p q = totalV p ∧ (∀ k, k < bsr (fun k => mostV n k b l p q == totalV p) 0 h → mostV n k b l p q < totalV p) ∧ bsr (fun k => mostV n k b l p q == totalV p) 0 h ≤ h := by
 have hp := a.place
 obtain ⟨h1, h2, h3⟩ := bsr_first (holds := fun k => mostV n k b l p q == totalV p) (top := h) (fun x c hxc hc e => by
  have e : mostV n x b l p q = totalV p := by simpa using e
  have m1 := PlaceOk.mono_le b (hp.le hc) hxc
  have m2 := (hp.le hc).le_total b
  have : mostV n c b l p q = totalV p := by omega
  simpa using this) h 0 h (by omega) (by omega) (Nat.le_refl _) (by simpa using he) (fun k hk => by omega)
 refine ⟨by simpa using h1, fun k hk => ?_, h3⟩
 have m1 := (hp.le (show k ≤ h by omega)).le_total b
 have m2 : ¬ mostV n k b l p q = totalV p := by simpa using h2 k hk
 omega
abbrev lineL : List Arc := [⟨0, 1, 2, 1⟩, ⟨1, 2, 2, 1⟩]
abbrev pL : List Grp := [⟨0, 3⟩]
abbrev qL : List Grp := [⟨2, 5⟩]
theorem line_sm : NetSm 6 (3 : Nat) lineL where
 n2 := by decide
 n5 := by decide
 ll := by decide
 arc x hx := by
  simp only [lineL, List.mem_cons, List.not_mem_nil, or_false] at hx
  rcases hx with rfl | rfl <;> decide
theorem line_gi : GI (3 : Nat) pL qL where
 p0 := by simp
 q0 := by simp
 gp g hg := by
  obtain rfl := List.mem_singleton.1 hg
  decide
 gq g hg := by
  obtain rfl := List.mem_singleton.1 hg
  decide
 dp := by simp
 dq := by simp
 apart g hg x hx := by
  obtain rfl := List.mem_singleton.1 hg
  obtain rfl := List.mem_singleton.1 hx
  decide
theorem line_ask {h : Nat} (hh : h ≤ 16) : AskOk 3 h lineL pL qL := ask_of (m := 6) (by omega) line_sm line_gi hh
theorem useL (x : Arc) : useOf qL x = !decide (x.f0 = 2) := by
 unfold useOf
 rw [hasK_putGs]
 simp [eq_comm]
theorem keepsL (v : Nat) : keepsOf false pL qL v = (decide ((v : Int) = 0) || decide ((v : Int) = 2)) := by
 unfold keepsOf
 rw [hasK_putGs, hasK_putGs]
 simp [eq_comm]
theorem useL_is : useOf qL = fun x => !decide (x.f0 = 2) := funext useL
theorem keepsL_is : keepsOf false pL qL = fun v : Nat => (decide ((v : Int) = 0) || decide ((v : Int) = 2)) := funext keepsL
theorem line2 : evArcs lineL (useOf qL) (keepsOf false pL qL) 3 2 9 10 pL qL = [⟨0, 4, 2, 0⟩, ⟨1, 5, 2, 0⟩, ⟨0, 3, 1099511627776, 0⟩, ⟨2, 5, 1099511627776, 0⟩, ⟨3, 7, 2, 0⟩, ⟨4, 8, 2, 0⟩, ⟨3, 6, 1099511627776, 0⟩, ⟨5, 8, 1099511627776, 0⟩, ⟨9, 0, 3, 0⟩, ⟨8, 10, 5, 0⟩] := by
 rw [useL_is, keepsL_is]
 rfl
theorem line3 : evArcs lineL (useOf qL) (keepsOf false pL qL) 3 3 12 13 pL qL = [⟨0, 4, 2, 0⟩, ⟨1, 5, 2, 0⟩, ⟨0, 3, 1099511627776, 0⟩, ⟨2, 5, 1099511627776, 0⟩, ⟨3, 7, 2, 0⟩, ⟨4, 8, 2, 0⟩, ⟨3, 6, 1099511627776, 0⟩, ⟨5, 8, 1099511627776, 0⟩, ⟨6, 10, 2, 0⟩, ⟨7, 11, 2, 0⟩, ⟨6, 9, 1099511627776, 0⟩, ⟨8, 11, 1099511627776, 0⟩, ⟨12, 0, 3, 0⟩, ⟨11, 13, 5, 0⟩] := by
 rw [useL_is, keepsL_is]
 rfl
theorem line_two : mostV 3 2 false lineL pL qL = 2 := by
 obtain ⟨⟨S, h1, h2, h3⟩, h4⟩ := ((line_ask (h := 2) (by decide)).place).cut false
 have u := h4 (fun v => decide (v = 9) || decide (v = 0) || decide (v = 3) || decide (v = 6) || decide (v = 7)) (by decide) (by decide)
 unfold evCut at u h3
 rw [show evArcs lineL (useOf qL) (keepsOf false pL qL) 3 2 ((2 + 1) * 3) ((2 + 1) * 3 + 1) pL qL = _ from line2] at u h3
 have u2 : cutL (fun v => decide (v = 9) || decide (v = 0) || decide (v = 3) || decide (v = 6) || decide (v = 7)) [⟨0, 4, 2, 0⟩, ⟨1, 5, 2, 0⟩, ⟨0, 3, 1099511627776, 0⟩, ⟨2, 5, 1099511627776, 0⟩, ⟨3, 7, 2, 0⟩, ⟨4, 8, 2, 0⟩, ⟨3, 6, 1099511627776, 0⟩, ⟨5, 8, 1099511627776, 0⟩, ⟨9, 0, 3, 0⟩, ⟨8, 10, 5, 0⟩] = 2 := by decide +kernel
 rw [u2] at u
 have h1' : S 9 = true := h1
 have h2' : S 10 = false := h2
 have lo : 2 ≤ cutL S [⟨0, 4, 2, 0⟩, ⟨1, 5, 2, 0⟩, ⟨0, 3, 1099511627776, 0⟩, ⟨2, 5, 1099511627776, 0⟩, ⟨3, 7, 2, 0⟩, ⟨4, 8, 2, 0⟩, ⟨3, 6, 1099511627776, 0⟩, ⟨5, 8, 1099511627776, 0⟩, ⟨9, 0, 3, 0⟩, ⟨8, 10, 5, 0⟩] := by
  simp only [cutL, cutA, h1', h2']
  generalize S 0 = x0
  generalize S 1 = x1
  generalize S 2 = x2
  generalize S 3 = x3
  generalize S 4 = x4
  generalize S 5 = x5
  generalize S 6 = x6
  generalize S 7 = x7
  generalize S 8 = x8
  revert x0 x1 x2 x3 x4 x5 x6 x7 x8
  decide +kernel
 omega
theorem line_three : mostV 3 3 false lineL pL qL = 3 := by
 have hp := (line_ask (h := 3) (by decide)).place
 obtain ⟨⟨S, h1, h2, h3⟩, -⟩ := hp.cut false
 have u := hp.le_total false
 have ut : totalV pL = 3 := by decide
 rw [ut] at u
 unfold evCut at h3
 rw [show evArcs lineL (useOf qL) (keepsOf false pL qL) 3 3 ((3 + 1) * 3) ((3 + 1) * 3 + 1) pL qL = _ from line3] at h3
 have h1' : S 12 = true := h1
 have h2' : S 13 = false := h2
 have lo : 3 ≤ cutL S [⟨0, 4, 2, 0⟩, ⟨1, 5, 2, 0⟩, ⟨0, 3, 1099511627776, 0⟩, ⟨2, 5, 1099511627776, 0⟩, ⟨3, 7, 2, 0⟩, ⟨4, 8, 2, 0⟩, ⟨3, 6, 1099511627776, 0⟩, ⟨5, 8, 1099511627776, 0⟩, ⟨6, 10, 2, 0⟩, ⟨7, 11, 2, 0⟩, ⟨6, 9, 1099511627776, 0⟩, ⟨8, 11, 1099511627776, 0⟩, ⟨12, 0, 3, 0⟩, ⟨11, 13, 5, 0⟩] := by
  simp only [cutL, cutA, h1', h2']
  generalize S 0 = x0
  generalize S 1 = x1
  generalize S 2 = x2
  generalize S 3 = x3
  generalize S 4 = x4
  generalize S 5 = x5
  generalize S 6 = x6
  generalize S 7 = x7
  generalize S 8 = x8
  generalize S 9 = x9
  generalize S 10 = x10
  generalize S 11 = x11
  revert x0 x1 x2 x3 x4 x5 x6 x7 x8 x9 x10 x11
  decide +kernel
 omega
theorem line_bad {k : Nat} (hk : 300 ≤ k) : evac_Most.f k 3 false lineL pL pL 2 = some (0, 210) := by
 have c1 := check_good (b := false) (line_ask (h := 2) (by decide)).net hk
 have c2 : groupsC 3 pL pL = 210 := by decide +kernel
 have ok : okG pL = true ∧ okG pL = true := ⟨(line_ask (h := 2) (by decide)).okp.1, (line_ask (h := 2) (by decide)).okp.1⟩
 have hb : begunF k 3 false lineL pL pL 2 = some 210 := by
  unfold begunF
  rw [show netfmt_Check.f k 3 false lineL = some 0 from c1, Option.bind_some, if_pos rfl, c2, if_neg (by decide)]
 unfold evac_Most.f
 rw [if_pos ok, hb, Option.bind_some, if_neg (by decide)]
theorem line_most : evac_Most.f 300 3 false lineL pL qL 2 = some (2, 0) := by
 have h2 := (line_ask (h := 2) (by decide)).most false (k := 300) (by decide)
 rw [line_two] at h2
 exact h2
theorem line_least : evac_Least.f 300 3 false lineL pL qL 9 = some (3, true, 0) := by
 have h9 := (line_ask (h := 9) (by decide)).least false (k := 300) (by decide)
 have hp9 := (line_ask (h := 9) (by decide)).place
 have t3 : totalV pL = 3 := by decide
 have e9 : mostV 3 9 false lineL pL qL = totalV pL := by
  have m1 := PlaceOk.mono_le (m := 3) (h := 9) false hp9 (by decide)
  have m2 := hp9.le_total false
  rw [line_three] at m1
  omega
 obtain ⟨f1, f2, f3⟩ := (line_ask (h := 9) (by decide)).first false e9
 have hb : bsr (fun k => mostV 3 k false lineL pL qL == totalV pL) 0 9 = 3 := by
  generalize bsr (fun k => mostV 3 k false lineL pL qL == totalV pL) 0 9 = z at f1 f2 f3
  by_cases c : z < 3
  ·have m1 := PlaceOk.mono_le (m := z) (h := 2) false (hp9.le (by decide)) (by omega)
   rw [line_two] at m1
   omega
  ·by_cases c2 : 3 < z
   ·have := f2 3 c2
    rw [line_three] at this
    omega
   ·omega
 rw [hb, if_pos (by simpa using e9), e9] at h9
 rw [show (some (3, true, 0) : Option (Int × Bool × Int)) = some (((3 : Nat) : Int), totalV pL == totalV pL, 0) by simp]
 exact h9
set_option linter.unusedSimpArgs false
theorem arcs_blk {W : World} {g : Nat} {l : List Arc} (hl : l.length ≤ 100000) (h : W.heap[g]? = some (.cells (arcCells l).toArray 104 (0, 0))) : Kd.C kArc W (some ⟨g, 0, none⟩) l.length l := by
 refine ⟨rfl, by omega, fun _ => ⟨_, rfl, fun j p hj => ⟨[.int .i64 p.f0, .int .i64 p.f1, .int .i64 p.f2, .int .i64 p.f3], rfl, k104_mk _ p, fun i u hu => ?_⟩⟩⟩
 have h1 := arcCells_get l j p hj i u hu
 have h2 : W.cell? ⟨g, j * 4 + i, none⟩ = some u := by
  refine (blk_cell h (j * 4 + i)).trans ?_
  rw [List.getElem?_toArray]
  exact h1
 have h3 : (Addr.add ⟨g, 0, none⟩ (j * kArc.sz + i)) = ⟨g, j * 4 + i, none⟩ := by
  have : kArc.sz = 4 := rfl
  rw [this]
  unfold Addr.add
  split
  ·rename_i h4
   rw [h4]
  ·simp
 rw [h3]
 exact h2
theorem grp_blk {W : World} {g : Nat} {a b : Int} (h : W.heap[g]? = some (.cells #[.int .i64 a, .int .i64 b] 59 (0, 0))) : Kd.C kGrp W (some ⟨g, 0, none⟩) 1 [⟨a, b⟩] := by
 refine ⟨rfl, by simp, fun _ => ⟨_, rfl, fun j p hj => ?_⟩⟩
 have hj0 : j = 0 := by have := (List.getElem?_eq_some_iff.1 hj).1; simpa using this
 subst hj0
 have e : (⟨a, b⟩ : Grp) = p := by simpa using hj
 subst e
 refine ⟨[.int .i64 a, .int .i64 b], rfl, k59_mk _ ⟨a, b⟩, fun i u hu => ?_⟩
 match i, hu with
 |0, hu => exact (blk_cell h 0).trans hu
 |1, hu => exact (blk_cell h 1).trans hu
 |i + 2, hu => simp at hu
set_option maxHeartbeats 4000000 in
set_option maxRecDepth 100000 in
theorem line_walk (b : Bool) (w : World) : Calls Tryz.prog 22 #[.bool b] w fun e w' => ∃ g, e = .returned (.agg #[.int .i64 3, .bool b, .slice (some ⟨g, 0, none⟩) 2 2]) ∧ Kd.C kArc w' (some ⟨g, 0, none⟩) 2 lineL ∧ Below w.heap.size w w' := by
 have hu := Tryz.underlying33
 go_enter Tryz.func22, Tryz.ntmps22
 go_wp2
 refine bodyPost_ret (results_cell_row rfl _ _ w.heap.size 33 #[.int .i64 3, .bool b, .slice (some ⟨w.heap.size + 1, 0, none⟩) 2 2] (0, 0) _ rfl (blk_alloc (heap_alloc_new w _) _) hu rfl (by kernel_rfl)) rfl ?_
 exact ⟨_, rfl, arcs_blk (l := lineL) (by decide) (alloc_at (by simp)), below_alloc (below_alloc (Below.refl _ _) _) _⟩
theorem most_line {A Ap Aq : Option Addr} {w : World} (hA : Kd.C kArc w A 2 lineL) (hp : Kd.C kGrp w Ap 1 pL) (hq : Kd.C kGrp w Aq 1 qL) :
  Calls Tryz.prog 9 #[.agg #[.int .i64 3, .bool false, .slice A 2 2], .slice Ap 1 1, .slice Aq 1 1, .int .i64 2] w fun e w' => e = .returned (.tuple #[.int .i64 2, .int .i64 0]) ∧ Below w.heap.size w w' :=
 evac_Most.calls 300 3 false A 2 lineL Ap 1 pL Aq 1 qL 2 2 0 w hA (Nat.le_refl _) hp (Nat.le_refl _) hq (Nat.le_refl _) line_most
theorem least_line {A Ap Aq : Option Addr} {w : World} (hA : Kd.C kArc w A 2 lineL) (hp : Kd.C kGrp w Ap 1 pL) (hq : Kd.C kGrp w Aq 1 qL) :
  Calls Tryz.prog 15 #[.agg #[.int .i64 3, .bool false, .slice A 2 2], .slice Ap 1 1, .slice Aq 1 1, .int .i64 9] w fun e w' => e = .returned (.tuple #[.int .i64 3, .bool true, .int .i64 0]) ∧ Below w.heap.size w w' :=
 evac_Least.calls 300 3 false A 2 lineL Ap 1 pL Aq 1 qL 9 3 true 0 w hA (Nat.le_refl _) hp (Nat.le_refl _) hq (Nat.le_refl _) line_least
theorem bad_line {A Ap : Option Addr} {w : World} (hA : Kd.C kArc w A 2 lineL) (hp : Kd.C kGrp w Ap 1 pL) :
  Calls Tryz.prog 9 #[.agg #[.int .i64 3, .bool false, .slice A 2 2], .slice Ap 1 1, .slice Ap 1 1, .int .i64 2] w fun e w' => e = .returned (.tuple #[.int .i64 0, .int .i64 210]) ∧ Below w.heap.size w w' :=
 evac_Most.calls 300 3 false A 2 lineL Ap 1 pL Ap 1 pL 2 0 210 w hA (Nat.le_refl _) hp (Nat.le_refl _) hp (Nat.le_refl _) (line_bad (k := 300) (Nat.le_refl _))
set_option maxHeartbeats 4000000 in
set_option maxRecDepth 100000 in
theorem awake_walk (w : World) : Calls Tryz.prog 7 #[] w fun e w' => e = .returned (.bool true) ∧ Below w.heap.size w w' := by
 have hu := Tryz.underlying59
 have hu2 := Tryz.underlying34
 go_enter Tryz.func7, Tryz.ntmps7
 go_wp2_with (go_at_call 22; fail)
 have HP := zh (grp_blk (blk_alloc (heap_alloc_new w (.cells #[.int .i64 0, .int .i64 3] 59)) (.cells #[.int .i64 2, .int .i64 5] 59)))
 have HQ := zh (grp_blk (g := w.heap.size + 1) (alloc_at (W := w.alloc (.cells #[.int .i64 0, .int .i64 3] 59)) (o := .cells #[.int .i64 2, .int .i64 5] 59) (by simp)))
 have HB0 := zh (below_alloc (below_alloc (Below.refl w.heap.size w) (.cells #[.int .i64 0, .int .i64 3] 59)) (.cells #[.int .i64 2, .int .i64 5] 59))
 generalize ((w.alloc (.cells #[.int .i64 0, .int .i64 3] 59)).alloc (.cells #[.int .i64 2, .int .i64 5] 59)) = w1 at HP HQ HB0 ⊢
 have HB := zh (Below.refl w1.heap.size w1)
 go_wp2_with (first
  |(go_at_call 22; (with_reducible refine (line_walk false _).mono ?_); rintro e w2 ⟨g, rfl, hA, hb⟩; (try clear HA); have HA := zh hA; have HN := zh (below_step HB.out hb); clear HB; have HB := HN; clear HN hb hA)
  |(go_at_call 9; (with_reducible refine (most_line HA.out (Kd.C_below HP.out HB.out) (Kd.C_below HQ.out HB.out)).mono ?_); rintro e w2 ⟨rfl, hb⟩; have HN := zh (below_step HB.out hb); clear HB; have HB := HN; clear HN hb)
  |(go_at_call 15; (with_reducible refine (least_line HA.out (Kd.C_below HP.out HB.out) (Kd.C_below HQ.out HB.out)).mono ?_); rintro e w2 ⟨rfl, hb⟩; have HN := zh (below_step HB.out hb); clear HB; have HB := HN; clear HN hb)
  |(go_at_call 9; (with_reducible refine (bad_line HA.out (Kd.C_below HP.out HB.out)).mono ?_); rintro e w2 ⟨rfl, hb⟩; have HN := zh (below_step HB.out hb); clear HB; have HB := HN; clear HN hb))
 go_ret
 exact ⟨rfl, below_step HB0.out HB.out⟩
end Go.Proofs.YtcgdloldkcmhnaaGreat.H
end
section
namespace Go.Proofs.YtcgdloldkcmhnaaGreat.H
open Go Go.RowKit Go.Proofs.YtcgdloldkcmhnaaGreatW.PrintWords Go.Proofs.YtcgdloldkcmhnaaGreatW.PrintLast Go.Proofs.YtcgdloldkcmhnaaGreatW.PrintMore
section
variable {P : Program} {md : Region.Mode} {ops : Array Oper} {Q : Exit → Act → World → Prop} {S : World → Prop} {ds : List Nat}
theorem sS (i : Nat) {oi : Oper} {fuel : Nat} {l : Array Bool} {a : Act} {w w1 : World} (h : wpAnyLast P md ops Q S ds fuel (l.setIfInBounds i true) a w1)
  (hi : ops[i]? = some oi := by exact rfl) (hN : oi.dst = none := by exact rfl) (hr : readyB md ops l (l.setIfInBounds i true) i = true := by kernel_rfl) (hd : i ∈ ds := by decide) (hw : Region.wanted oi (yielded ops a.tmps) = true := by rfl)
  (hrun : (execOp a.eval oi).run P w = .ok .skip w1 := by (go_simp; rfl)) : wpAnyLast P md ops Q S ds (fuel + 1) l a w :=
 last_ _ hi hN hr hd fun _ hK => skip_ hw hN hrun (hK.out _ _ h)
theorem wT {fuel : Nat} {l : Array Bool} {a : Act} {w : World} (T : Bool × List (List Nat × List Nat)) (h : Hid (rtab md ops = T) → wpAnyLast P md ops Q S ds fuel l a w) (hT : rtab md ops = T := by kernel_rfl) : wpAnyLast P md ops Q S ds fuel l a w := h (zh hT)
theorem qP (n : Nat) {t : Tmp} {oi : Oper} {v : Value} {fuel : Nat} {l : Array Bool} {a a' : Act} {w : World} {T : Bool × List (List Nat × List Nat)} (hT : Hid (rtab md ops = T)) (h : wpAnyLast P md ops Q S ds fuel (l.setIfInBounds (n - (fuel + 1)) true) a' w) (hi : ops[n - (fuel + 1)]? = some oi := by exact rfl) (hN : oi.dst = some t := by exact rfl) (hc : anyT T l.toList (l.setIfInBounds (n - (fuel + 1)) true).toList (n - (fuel + 1)) = true := by kernel_rfl)
  (hQ : ∀ c a w, Q (.panic c) (a.put oi.dst v) w → Q (.panic c) a w := by exact fun _ _ _ h => h) (hy : Yields P ops oi v a := by first | (refine Or.inl ⟨by rfl, ?_⟩; intro w'; go_simp; with_reducible rfl) | exact Or.inr ⟨by rfl, rfl⟩)
  (ha : a.put (some t) v = a' := by (simp only [Act.put, List.setIfInBounds_toArray, List.set_cons_zero, List.set_cons_succ]; rfl)) : wpAnyLast P md ops Q S ds (fuel + 1) l a w := pure_ _ hi hN (any_of hT.out hc) hQ hy ha h
theorem qT (n : Nat) {t : Tmp} {oi : Oper} {v : Value} {fuel : Nat} {l : Array Bool} {a a' : Act} {w : World} {T : Bool × List (List Nat × List Nat)} (hT : Hid (rtab md ops = T)) (hS : S w) (h : wpAnyLast P md ops Q S ds fuel (l.setIfInBounds (n - (fuel + 1)) true) a' w) (hi : ops[n - (fuel + 1)]? = some oi := by exact rfl) (hN : oi.dst = some t := by exact rfl) (hc : takeT T ds l.toList (l.setIfInBounds (n - (fuel + 1)) true).toList (n - (fuel + 1)) = true := by kernel_rfl)
  (hQ : ∀ c a w, Q (.panic c) (a.put oi.dst v) w → Q (.panic c) a w := by exact fun _ _ _ h => h) (hy : YieldsIf P ops S oi v a := by (refine Or.inl ⟨by rfl, ?_⟩; intro w' hs'; (repeat (rcases hs' with ⟨_, hs'⟩)); go_simp; with_reducible rfl))
  (ha : a.put (some t) v = a' := by (simp only [Act.put, List.setIfInBounds_toArray, List.set_cons_zero, List.set_cons_succ]; rfl)) : wpAnyLast P md ops Q S ds (fuel + 1) l a w := take_ _ hi hN (take_of hT.out hc) hQ hy hS ha h
end
section
variable {P : Program} {ops : Array Oper} {Q : Exit → Act → World → Prop}
theorem gA {o : Oper} {rest : List Oper} {a : Act} {w0 W : World} {base : Nat} {α : Type} {d : Kd α} {T t : TypeId} {cs : α → List Value} (hk : AppK P d T t cs) {s x : Operand} {Ao : Option Addr} {co : Nat} (xs : List α) (p : α)
  (HO : d.R t W base (fun _ => True) (.slice Ao xs.length co) xs) (HB : Below base w0 W) (hbase : base ≤ W.heap.size) (hl : xs.length ≤ 1000000)
  (h : ∀ A1 c1 w1, d.R t w1 base (fun _ => True) (.slice A1 (xs.length + 1) c1) (xs ++ [p]) → Below base w0 w1 → W.grownBy w1 (Value.slice Ao xs.length co).ownBlock → wpList P ops Q rest (a.put o.dst (.slice A1 (xs.length + 1) c1)) w1)
  (hgd : o.guard = none := by exact rfl) (ho : o.op = .call { callee := .builtin .append, args := #[s, x], argTypes := #[T, T] } := by exact rfl) (hs : a.eval s = .slice Ao xs.length co := by exact rfl) (hx : a.eval x = .slice (some ⟨W.heap.size, 0, none⟩) 1 1 := by first | exact rfl | (simp; done) | (simp; rfl)) :
  wpList P ops Q (o :: rest) a (W.alloc (.cells (cs p).toArray t)) := by
 obtain ⟨z, bytes, h1, h2, h3, h4⟩ := hk.info
 refine Kd.R_append d (w0 := w0) base hgd s x T t z bytes ho hk.und h1 h2 hk.pos h3 _ xs p (cs p) (fun _ => True) (fun _ => False) hs hx (hk.made _ _ _ p) (fun _ hk => hk.elim) (fun _ _ => trivial) HO HB hbase (Nat.le_trans (Nat.mul_le_mul (Nat.succ_le_succ hl) h4) (by decide)) ?_
 intro v1 w1 o1 b1 g1 _
 obtain ⟨A1, c1, e1⟩ := Kd.R_slice o1
 rw [List.length_append] at e1
 subst e1
 exact h A1 c1 w1 o1 b1 g1
end
end Go.Proofs.YtcgdloldkcmhnaaGreat.H
end
section
namespace Go.Proofs.YtcgdloldkcmhnaaGreat.H
open Go Go.RowKit Go.Proofs.YtcgdloldkcmhnaaGreat.PrintC Go.Proofs.YtcgdloldkcmhnaaGreat.PrintE Go.Proofs.YtcgdloldkcmhnaaGreatW.PrintWords Go.Proofs.YtcgdloldkcmhnaaGreatW.PrintLast Go.Proofs.YtcgdloldkcmhnaaGreatW.PrintMore
set_option linter.unusedVariables false
set_option linter.unusedSimpArgs false
def arcOf (l : List Arc) (x : Mv) : Arc := rd_T104 l x.f0
def stock1 (l : List Arc) (v z : Int) (x : Mv) : Int := (if (arcOf l x).f1 = v ∧ x.f1 + (arcOf l x).f3 ≤ z then x.f2 else 0) - (if (arcOf l x).f0 = v ∧ x.f1 ≤ z then x.f2 else 0)
def stockV (l : List Arc) (m : List Mv) (v z : Int) : Int := sumL (m.map (stock1 l v z))
structure MvIn (l : List Arc) (x : Mv) : Prop where
 a0 : 0 ≤ x.f0
 a1 : x.f0 < l.length
 t0 : 0 ≤ x.f1
 t1 : x.f1 ≤ 100000
 n0 : 0 ≤ x.f2
 n1 : x.f2 ≤ 1099511627776
theorem stock_bd {l : List Arc} {v z : Int} : ∀ {m : List Mv}, (∀ x, x ∈ m → MvIn l x) → -(m.length * 1099511627776 : Int) ≤ stockV l m v z ∧ stockV l m v z ≤ m.length * 1099511627776
 |[], _ => by
  show -(0 * 1099511627776 : Int) ≤ 0 ∧ (0 : Int) ≤ 0 * 1099511627776
  decide
 |x :: m, h => by
  have h1 := stock_bd (v := v) (z := z) (m := m) (fun y hy => h y (List.mem_cons_of_mem _ hy))
  have h2 := h x (List.mem_cons_self ..)
  have h3 := h2.n0
  have h4 := h2.n1
  have h5 : -1099511627776 ≤ stock1 l v z x ∧ stock1 l v z x ≤ 1099511627776 := by
   unfold stock1
   split <;> split <;> omega
  unfold stockV at h1 ⊢
  rw [List.map_cons, sumL, List.length_cons]
  omega
theorem stock_snoc (l : List Arc) (v z : Int) {m : List Mv} {i : Nat} (h : i < m.length) : stockV l (m.take (i + 1)) v z = stockV l (m.take i) v z + stock1 l v z (mvAt m i) := by
 unfold stockV
 rw [mvAt_take h, List.map_append]
 exact sumL_snoc _ _
def stT6 : Bool × List (List Nat × List Nat) := (true, [([], []), ([0], [0]), ([], []), ([1, 2], [1, 2]), ([3], [3]), ([4], [4]), ([4], [4]), ([5, 6, 4], [4, 5, 6]), ([7, 4], [4, 7]), ([8, 4], [4, 8]), ([4], [4]), ([10, 4], [4, 10]), ([9, 11, 4], [4, 9, 11]), ([4], [4]), ([12, 13, 4], [4, 12, 13]), ([4, 14], [4, 14])])
set_option maxHeartbeats 8000000 in
set_option maxRecDepth 100000 in
theorem rstock_walk (n : Int) (b : Bool) (A : Option Addr) (c : Nat) (l : List Arc) (Am : Option Addr) (cm : Nat) (m : List Mv) (v z K : Int) (hK : K = stockV l m v z) (w : World) (hr : Kd.C k104 w A l.length l) (hm : Kd.C kMv w Am m.length m) (hok : ∀ x, x ∈ m → MvIn l x) (hti : ∀ i : Int, 0 ≤ i → i < l.length → 0 ≤ (rd_T104 l i).f3 ∧ (rd_T104 l i).f3 ≤ 1048576) (hml : m.length ≤ 100000) :
  Calls Tryz.prog 29 #[.agg #[.int .i64 n, .bool b, .slice A l.length c], .slice Am m.length cm, .int .i64 v, .int .i64 z] w fun e w' => e = .returned (.int .i64 K) ∧ Below w.heap.size w w' := by
 have hu := Tryz.underlying33
 have hu2 := Tryz.underlying76
 have hu3 := Tryz.underlying104
 have HR := zh hr
 have HM := zh hm
 have HOK := zh hok
 have HTI := zh hti
 have HK := zh hK
 clear hr hm hok hti hK
 go_enter Tryz.func29, Tryz.ntmps29
 obtain ⟨w1, hw1⟩ : ∃ w1, w1 = w.alloc (.cells #[.int .i64 n, .bool b, .slice A l.length c] 33) := ⟨_, rfl⟩
 have HX : Hid (w1.heap[w.heap.size]? = some (.cells #[.int .i64 n, .bool b, .slice A l.length c] 33 (0, 0)) ∧ Below w.heap.size w w1) := zh (by rw [hw1]; exact ⟨heap_alloc_new _ _, below_alloc (Below.refl _ _) _⟩)
 go_wp2
 rw [← hw1]
 clear hw1
 go_loopg [9, 10] (m.length + 1) (fun k kv iv W => ∃ i : Nat, i ≤ m.length ∧ kv = .int .i64 (stockV l (m.take i) v z) ∧ iv = .int .i64 i ∧ k = m.length + 1 - i ∧ Hid (W.heap[w.heap.size]? = some (.cells #[.int .i64 n, .bool b, .slice A l.length c] 33 (0, 0)) ∧ Below w.heap.size w W))
 case atStart => exact ⟨0, Nat.zero_le _, rfl, rfl, rfl, HX⟩
 case round =>
  obtain ⟨i, hi, rfl, rfl, rfl, HL⟩ := hrel
  clear HX
  by_cases hlt : i < m.length
  ·have i0 : (0 : Int) ≤ (i : Int) := by omega
   have i1 : (i : Int) < (m.length : Int) := by omega
   have hbd := stock_bd (v := v) (z := z) (m := m.take i) (fun x hx => HOK.out x (List.mem_of_mem_take hx))
   rw [List.length_take, Nat.min_eq_left hi] at hbd
   obtain ⟨X, hX⟩ : ∃ X, X = mvAt m i := ⟨_, rfl⟩
   have hXi := HOK.out X (by rw [hX]; exact mvAt_mem hlt)
   have a0 := hXi.a0
   have a1 := hXi.a1
   have t0 := hXi.t0
   have t1 := hXi.t1
   have n0 := hXi.n0
   have n1 := hXi.n1
   obtain ⟨ad, ea, -⟩ := at_T76 HM.out (i : Int) i0 i1
   subst ea
   obtain ⟨ae, eb, -⟩ := at_T104 HR.out X.f0 a0 a1
   subst eb
   have CM : Hid (∀ W, Below w.heap.size w W → W.cell? (ad.add (i * 3)) = some (.int .i64 X.f0) ∧ W.cell? ⟨(ad.add (i * 3)).block, (ad.add (i * 3)).off + 1, none⟩ = some (.int .i64 X.f1) ∧ W.cell? ⟨(ad.add (i * 3)).block, (ad.add (i * 3)).off + 2, none⟩ = some (.int .i64 X.f2)) := zh (fun W hW => by
    obtain ⟨ad2, e2, z0, z1, z2⟩ := at_T76 (Kd.C_below HM.out hW) (i : Int) i0 i1
    injection e2 with e2
    subst e2
    rw [Int.toNat_natCast] at z0 z1 z2
    rw [hX]
    exact ⟨z0, z1, z2⟩)
   obtain ⟨Y, hY⟩ : ∃ Y, Y = arcOf l X := ⟨_, rfl⟩
   have hY2 : rd_T104 l X.f0 = Y := by rw [hY]; rfl
   obtain ⟨ae2, e2, y0, y1, y2, y3⟩ := at_T104 (Kd.C_drew (Kd.C_below HR.out HL.out.2)) X.f0 a0 a1
   injection e2 with e2
   subst e2
   have hy3 := HTI.out X.f0 a0 a1
   rw [hY2] at y0 y1 y2 y3 hy3
   have HS := zh (stock_snoc l v z hlt)
   rw [← hX] at HS
   have HST : Hid (stock1 l v z X = (if Y.f1 = v ∧ X.f1 + Y.f3 ≤ z then X.f2 else 0) - (if Y.f0 = v ∧ X.f1 ≤ z then X.f2 else 0)) := zh (by rw [hY]; rfl)
   obtain ⟨T, hT⟩ : ∃ T, T = stockV l (m.take i) v z := ⟨_, rfl⟩
   rw [← hT] at hbd HS ⊢
   obtain ⟨x0, -, -⟩ := CM.out _ (below_drew1 HL.out.2)
   have z2 : wr.drew.cell? ⟨w.heap.size, 2, none⟩ = some (.slice (some ae) l.length c) := (blk_cell (blk_drew HL.out.1) 2).trans rfl
   have HO := zh (And.intro (blk_drew HL.out.1) (below_drew1 HL.out.2))
   clear hX hY hY2 hT HL hXi
   go_wp2
   refine stepS (S := fun w' => w'.cell? ⟨w.heap.size, 2, none⟩ = some (.slice (some ae) l.length c) ∧ w'.cell? (ad.add (i * 3)) = some (.int .i64 X.f0) ∧ w'.cell? (ae.add (X.f0.toNat * 4)) = some (.int .i64 Y.f0) ∧ w'.cell? ⟨(ae.add (X.f0.toNat * 4)).block, (ae.add (X.f0.toNat * 4)).off + 1, none⟩ = some (.int .i64 Y.f1) ∧ w'.cell? ⟨(ae.add (X.f0.toNat * 4)).block, (ae.add (X.f0.toNat * 4)).off + 2, none⟩ = some (.int .i64 Y.f2) ∧ w'.cell? ⟨(ae.add (X.f0.toNat * 4)).block, (ae.add (X.f0.toNat * 4)).off + 3, none⟩ = some (.int .i64 Y.f3)) (ds := [10]) 11 (by kernel_rfl) rfl ⟨z2, x0, y0, y1, y2, y3⟩ (fun hHeld => ?_)
   generalize wr.drew = wd at HO hHeld ⊢
   clear z2 x0 y0 y1 y2 y3
   repeat (first | refine rP 11 ?_ | refine rT 11 hHeld ?_)
   refine sB 9 hHeld (fun hHeld => ?_)
   refine sS 10 ?_
   refine done_ (by kernel_rfl) ?_
   obtain ⟨we, hwe⟩ : ∃ we, we = wd.alloc (.cells #[.int .i64 Y.f0, .int .i64 Y.f1, .int .i64 Y.f2, .int .i64 Y.f3] 104) := ⟨_, rfl⟩
   have HX : Hid (we.heap[wd.heap.size]? = some (.cells #[.int .i64 Y.f0, .int .i64 Y.f1, .int .i64 Y.f2, .int .i64 Y.f3] 104 (0, 0)) ∧ we.heap[w.heap.size]? = some (.cells #[.int .i64 n, .bool b, .slice (some ae) l.length c] 33 (0, 0)) ∧ Below w.heap.size w we) := zh (by rw [hwe]; exact ⟨heap_alloc_new _ _, blk_alloc HO.out.1 _, below_alloc HO.out.2 _⟩)
   rw [← hwe]
   clear hwe hHeld HO
   generalize wd.heap.size = g at HX ⊢
   obtain ⟨dA, hdA⟩ : ∃ dA, dA = (if Y.f1 = v ∧ X.f1 + Y.f3 ≤ z then X.f2 else 0) := ⟨_, rfl⟩
   obtain ⟨dB, hdB⟩ : ∃ dB, dB = (if Y.f0 = v ∧ X.f1 ≤ z then X.f2 else 0) := ⟨_, rfl⟩
   rw [← hdA, ← hdB] at HST
   have hA : ((Y.f1 == v) = false ∧ Hid (dA = 0)) ∨ ((Y.f1 == v) = true ∧ ¬ X.f1 + Y.f3 ≤ z ∧ Hid (dA = 0)) ∨ ((Y.f1 == v) = true ∧ X.f1 + Y.f3 ≤ z ∧ Hid (dA = X.f2)) := by
    by_cases h1 : Y.f1 = v
    ·by_cases h2 : X.f1 + Y.f3 ≤ z
     ·exact .inr (.inr ⟨beq_iff_eq.2 h1, h2, zh (by rw [hdA, if_pos ⟨h1, h2⟩])⟩)
     ·exact .inr (.inl ⟨beq_iff_eq.2 h1, h2, zh (by rw [hdA, if_neg (fun e => h2 e.2)])⟩)
    ·exact .inl ⟨beq_eq_false_iff_ne.2 h1, zh (by rw [hdA, if_neg (fun e => h1 e.1)])⟩
   have hB : ((Y.f0 == v) = false ∧ Hid (dB = 0)) ∨ ((Y.f0 == v) = true ∧ ¬ X.f1 ≤ z ∧ Hid (dB = 0)) ∨ ((Y.f0 == v) = true ∧ X.f1 ≤ z ∧ Hid (dB = X.f2)) := by
    by_cases h1 : Y.f0 = v
    ·by_cases h2 : X.f1 ≤ z
     ·exact .inr (.inr ⟨beq_iff_eq.2 h1, h2, zh (by rw [hdB, if_pos ⟨h1, h2⟩])⟩)
     ·exact .inr (.inl ⟨beq_iff_eq.2 h1, h2, zh (by rw [hdB, if_neg (fun e => h2 e.2)])⟩)
    ·exact .inl ⟨beq_eq_false_iff_ne.2 h1, zh (by rw [hdB, if_neg (fun e => h1 e.1)])⟩
   clear hdA hdB
   go_wp2
   have y0 : we.drew.cell? ⟨g, 0, none⟩ = some (.int .i64 Y.f0) := (blk_cell (blk_drew HX.out.1) 0).trans rfl
   have y1 : we.drew.cell? ⟨g, 1, none⟩ = some (.int .i64 Y.f1) := (blk_cell (blk_drew HX.out.1) 1).trans rfl
   have y3 : we.drew.cell? ⟨g, 3, none⟩ = some (.int .i64 Y.f3) := (blk_cell (blk_drew HX.out.1) 3).trans rfl
   obtain ⟨-, x1, x2⟩ := CM.out _ (below_drew1 HX.out.2.2)
   refine stepS (S := fun w' => w'.cell? ⟨g, 1, none⟩ = some (.int .i64 Y.f1) ∧ w'.cell? ⟨g, 3, none⟩ = some (.int .i64 Y.f3) ∧ w'.cell? ⟨(ad.add (i * 3)).block, (ad.add (i * 3)).off + 1, none⟩ = some (.int .i64 X.f1)) (ds := []) 16 (by kernel_rfl) rfl ⟨y1, y3, x1⟩ (fun hHeld => ?_)
   have HF := zh (And.intro (blk_drew HX.out.2.1) (below_drew1 HX.out.2.2))
   generalize we.drew = wf at HF hHeld y0 y1 y3 x1 x2 ⊢
   clear HX
   have e5 : IntKind.i64.wrap (X.f1 + Y.f3) = X.f1 + Y.f3 := IntWalk.i64_in _ (by omega)
   refine wT stT6 (fun hT => ?_)
   rcases hA with ⟨g1, HDA⟩ | ⟨g1, g2, HDA⟩ | ⟨g1, g2, HDA⟩
   all_goals
    as_aux_lemma =>
     repeat (first | refine qP 16 hT ?_ | refine qT 16 hT hHeld ?_)
     refine done_ (by kernel_rfl) ?_
     clear hHeld hT
     rcases hB with ⟨g3, HDB⟩ | ⟨g3, g4, HDB⟩ | ⟨g3, g4, HDB⟩
     all_goals (try (exfalso; omega))
     all_goals
      go_wp2
      go_roundg (m.length - i)
      case measure => omega
      case rel => exact ⟨i + 1, by omega, by rw [HS.out, HST.out, HDA.out, HDB.out]; go_num, by go_num, by omega, HF⟩
  ·have e : i = m.length := by omega
   subst e
   rw [List.take_length, ← HK.out]
   go_wp2
   go_ret
   exact ⟨rfl, HL.out.2⟩
end Go.Proofs.YtcgdloldkcmhnaaGreat.H
end
