/- The law EvacShows, walked. -/
import Derived.Test.YtcgdloldkcmhnaaU6
namespace Go.Proofs.Ytcgdloldkcmhnaa.H
open Go Go.RowKit Go.Proofs.Ytcgdloldkcmhnaa.PrintC Go.Proofs.Ytcgdloldkcmhnaa.PrintE Go.Proofs.YtcgdloldkcmhnaaW.PrintWords Go.Proofs.YtcgdloldkcmhnaaW.PrintLast Go.Proofs.YtcgdloldkcmhnaaW.PrintMore Go.Proofs.Ytcgdloldkcmhnaa.Flow
set_option linter.unusedVariables false
set_option linter.unusedSimpArgs false

section
variable {a0 : Int} {a1 : Bool} {l2 : List CBit} {a3 a4 a5 : Int} {l6 l7 : List Int} {l8 : List CBit3} {l9 : List Int} {A2 : Option Addr} {c2 : Nat} {A6 : Option Addr} {c6 : Nat} {A7 : Option Addr} {c7 : Nat} {A8 : Option Addr} {c8 : Nat} {A9 : Option Addr} {c9 : Nat} {w : World} {v : Value}
set_option maxHeartbeats 4000000 in
set_option maxRecDepth 100000 in
theorem shows_walk (o : CaseAt w v a0 a1 l2 a3 a4 a5 l6 l7 l8 l9 A2 c2 A6 c6 A7 c7 A8 c8 A9 c9) :
    Calls Try.prog 5 #[.agg (caseCells a0 a1 l2 a3 a4 a5 l6 l7 l8 l9 A2 c2 A6 c6 A7 c7 A8 c8 A9 c9)] w fun e w' => e = .returned (.bool true) ∧ Below w.heap.size w w' := by
  have HO := Lib.hid o
  have hu := Try.underlying32
  have hu2 := Try.underlying29
  clear o
  go_enter Try.func5, Try.ntmps5
  go_wp2_with (first
    | (go_at_call 13; (with_reducible refine (awake_walk _).mono ?_); rintro e w1 ⟨rfl, hb⟩; have HB1 := Lib.hid (below_step (below_alloc (Below.refl w.heap.size w) (.cells (caseCells a0 a1 l2 a3 a4 a5 l6 l7 l8 l9 A2 c2 A6 c6 A7 c7 A8 c8 A9 c9) 29)) hb); have HX1 := Lib.hid (blk_below (heap_alloc_new w (.cells (caseCells a0 a1 l2 a3 a4 a5 l6 l7 l8 l9 A2 c2 A6 c6 A7 c7 A8 c8 A9 c9) 29)) hb); have x0 := (blk_cell HX1.out 0).trans rfl; have x1 := (blk_cell HX1.out 1).trans rfl; have x2 := (blk_cell HX1.out 2).trans rfl; have x3 := (blk_cell HX1.out 3).trans rfl; have x4 := (blk_cell HX1.out 4).trans rfl; have x5 := (blk_cell HX1.out 5).trans rfl; have x6 := (blk_cell HX1.out 6).trans rfl; have x7 := (blk_cell HX1.out 7).trans rfl; have x8 := (blk_cell HX1.out 8).trans rfl; have x9 := (blk_cell HX1.out 9).trans rfl; clear hb)
    | (go_at_call 10; (with_reducible refine (read_at 6 6 rfl (by decide) (HO.out.below HB1.out)).mono ?_); rintro e w2 ⟨n, h, b, l, p, q, A, c, Ap, cp, Aq, cq, rfl, hA, hc, hp, hcp, hq, hcq, hN, hg, hh, hb⟩; have HB2 := Lib.hid (below_step HB1.out hb); have HA := Lib.hid hA; have HP := Lib.hid hp; have HQ := Lib.hid hq; have HC := Lib.hid (And.intro hc (And.intro hcp hcq)); have HK := Lib.hid (ask_of (m := 6) (by decide) hN hg (show h ≤ 16 by omega)); have HH := Lib.hid hh; clear x0 x1 x2 x3 x4 x5 x6 x7 x8 x9 hb hA hc hp hcp hq hcq hN hg hh))
  obtain ⟨T, hT⟩ : ∃ T, T = totalV p := ⟨_, rfl⟩
  have HT := Lib.hid hT
  clear hT
  by_cases he : mostV n h b l p q = totalV p
  · have f1 := HK.out.least b (k := 1500) (by decide)
    obtain ⟨m1, m2, m3⟩ := HK.out.first b he
    have hb9 : (mostV n h b l p q == totalV p) = true := by simpa using he
    rw [hb9, if_pos rfl] at f1
    generalize bsr (fun k => mostV n k b l p q == totalV p) 0 h = z at f1 m1 m2 m3
    have f2 := (HK.out.le m3).most b (k := 1500) (by decide)
    rw [m1, ← HT.out] at f2
    obtain ⟨Z, hZ⟩ : ∃ Z : Int, Z = z := ⟨_, rfl⟩
    rw [← hZ] at f1 f2
    have z1 : Z ≤ 7 := by have := HH.out; omega
    have F1 := Lib.hid f1
    have F2 := Lib.hid f2
    have t1 : (T != T) = false := by simp
    have t2 : (T == T) = true := by simp
    clear f1 f2 hb9 he
    by_cases h0 : z = 0
    · have z0 : 0 ≤ Z := by omega
      have z2 : Z ≤ 0 := by omega
      clear m1 m2 m3 hZ h0
      go_wp2_with (first
        | (go_at_call 11; (with_reducible refine (evac_Least.calls 1500 n b A c l Ap cp p Aq cq q h Z true 0 _ ?s1 HC.out.1 ?s2 HC.out.2.1 ?s3 HC.out.2.2 F1.out).mono ?_); (case s1 => exact Kd.C_below HA.out (below_alloc (Below.refl _ _) _)); (case s2 => exact Kd.C_below HP.out (below_alloc (Below.refl _ _) _)); (case s3 => exact Kd.C_below HQ.out (below_alloc (Below.refl _ _) _)); rintro e w3 ⟨rfl, hb⟩; have HB3 := Lib.hid (below_step (below_alloc HB2.out (.cells #[.int .i64 n, .bool b, .slice A l.length c] 32)) hb); have HW3 := Lib.hid (below_step (below_alloc (Below.refl w2.heap.size w2) (.cells #[.int .i64 n, .bool b, .slice A l.length c] 32)) hb); have HX3 := Lib.hid (blk_below (heap_alloc_new w2 (.cells #[.int .i64 n, .bool b, .slice A l.length c] 32)) hb); clear hb)
        | (go_at_call 15; (with_reducible refine (ebbtideref21_Total.calls 1500 Ap cp p T _ ?s1 HC.out.2.1 ?s2).mono ?_); (case s1 => exact Kd.C_below HP.out HW3.out); (case s2 => rw [HT.out]; exact total_f HK.out.place.gp HK.out.place.lp (by have := HK.out.place.lp; omega)); rintro e w4 ⟨rfl, hd⟩; obtain ⟨m, rfl⟩ := hd; have x0 : (w3.drewN m).cell? ⟨w2.heap.size, 0, none⟩ = some (.int .i64 n) := (blk_cell (blk_drewN HX3.out _) 0).trans rfl; have x1 : (w3.drewN m).cell? ⟨w2.heap.size, 1, none⟩ = some (.bool b) := (blk_cell (blk_drewN HX3.out _) 1).trans rfl; have x2 : (w3.drewN m).cell? ⟨w2.heap.size, 2, none⟩ = some (.slice A l.length c) := (blk_cell (blk_drewN HX3.out _) 2).trans rfl)
        | (go_at_call 14; (with_reducible refine (evac_Most.calls 1500 n b A c l Ap cp p Aq cq q Z T 0 _ ?s1 HC.out.1 ?s2 HC.out.2.1 ?s3 HC.out.2.2 F2.out).mono ?_); (case s1 => exact Kd.C_below HA.out (pw_below_drewN HW3.out _)); (case s2 => exact Kd.C_below HP.out (pw_below_drewN HW3.out _)); (case s3 => exact Kd.C_below HQ.out (pw_below_drewN HW3.out _)); rintro e w5 ⟨rfl, hb⟩; have HB5 := Lib.hid (below_step (pw_below_drewN HB3.out _) hb); have HW5 := Lib.hid (below_step (pw_below_drewN HW3.out _) hb); have HX5 := Lib.hid (blk_below (blk_drewN HX3.out _) hb); have y0 := (blk_cell HX5.out 0).trans rfl; have y1 := (blk_cell HX5.out 1).trans rfl; have y2 := (blk_cell HX5.out 2).trans rfl; clear hb x0 x1 x2))
      go_ret
      exact ⟨rfl, HB5.out⟩
    · have z0 : 1 ≤ Z := by omega
      have f3 := (HK.out.le (m := z - 1) (by omega)).most b (k := 1500) (by decide)
      have hlt : decide (mostV n (z - 1) b l p q < T) = true := decide_eq_true (by rw [HT.out]; exact m2 _ (by omega))
      rw [show ((z - 1 : Nat) : Int) = Z - 1 by omega] at f3
      generalize mostV n (z - 1) b l p q = V at f3 hlt
      have F3 := Lib.hid f3
      clear f3 m1 m2 m3 hZ h0
      go_wp2_with (first
        | (go_at_call 11; (with_reducible refine (evac_Least.calls 1500 n b A c l Ap cp p Aq cq q h Z true 0 _ ?s1 HC.out.1 ?s2 HC.out.2.1 ?s3 HC.out.2.2 F1.out).mono ?_); (case s1 => exact Kd.C_below HA.out (below_alloc (Below.refl _ _) _)); (case s2 => exact Kd.C_below HP.out (below_alloc (Below.refl _ _) _)); (case s3 => exact Kd.C_below HQ.out (below_alloc (Below.refl _ _) _)); rintro e w3 ⟨rfl, hb⟩; have HB3 := Lib.hid (below_step (below_alloc HB2.out (.cells #[.int .i64 n, .bool b, .slice A l.length c] 32)) hb); have HW3 := Lib.hid (below_step (below_alloc (Below.refl w2.heap.size w2) (.cells #[.int .i64 n, .bool b, .slice A l.length c] 32)) hb); have HX3 := Lib.hid (blk_below (heap_alloc_new w2 (.cells #[.int .i64 n, .bool b, .slice A l.length c] 32)) hb); clear hb)
        | (go_at_call 15; (with_reducible refine (ebbtideref21_Total.calls 1500 Ap cp p T _ ?s1 HC.out.2.1 ?s2).mono ?_); (case s1 => exact Kd.C_below HP.out HW3.out); (case s2 => rw [HT.out]; exact total_f HK.out.place.gp HK.out.place.lp (by have := HK.out.place.lp; omega)); rintro e w4 ⟨rfl, hd⟩; obtain ⟨m, rfl⟩ := hd; have x0 : (w3.drewN m).cell? ⟨w2.heap.size, 0, none⟩ = some (.int .i64 n) := (blk_cell (blk_drewN HX3.out _) 0).trans rfl; have x1 : (w3.drewN m).cell? ⟨w2.heap.size, 1, none⟩ = some (.bool b) := (blk_cell (blk_drewN HX3.out _) 1).trans rfl; have x2 : (w3.drewN m).cell? ⟨w2.heap.size, 2, none⟩ = some (.slice A l.length c) := (blk_cell (blk_drewN HX3.out _) 2).trans rfl)
        | (go_at_call 14; (with_reducible refine (evac_Most.calls 1500 n b A c l Ap cp p Aq cq q Z T 0 _ ?s1 HC.out.1 ?s2 HC.out.2.1 ?s3 HC.out.2.2 F2.out).mono ?_); (case s1 => exact Kd.C_below HA.out (pw_below_drewN HW3.out _)); (case s2 => exact Kd.C_below HP.out (pw_below_drewN HW3.out _)); (case s3 => exact Kd.C_below HQ.out (pw_below_drewN HW3.out _)); rintro e w5 ⟨rfl, hb⟩; have HB5 := Lib.hid (below_step (pw_below_drewN HB3.out _) hb); have HW5 := Lib.hid (below_step (pw_below_drewN HW3.out _) hb); have HX5 := Lib.hid (blk_below (blk_drewN HX3.out _) hb); have y0 := (blk_cell HX5.out 0).trans rfl; have y1 := (blk_cell HX5.out 1).trans rfl; have y2 := (blk_cell HX5.out 2).trans rfl; clear hb x0 x1 x2)
        | (go_at_call 14; (with_reducible refine (evac_Most.calls 1500 n b A c l Ap cp p Aq cq q (Z - 1) V 0 _ ?s1 HC.out.1 ?s2 HC.out.2.1 ?s3 HC.out.2.2 F3.out).mono ?_); (case s1 => exact Kd.C_below HA.out HW5.out); (case s2 => exact Kd.C_below HP.out HW5.out); (case s3 => exact Kd.C_below HQ.out HW5.out); rintro e w6 ⟨rfl, hb⟩; have HB6 := Lib.hid (below_step HB5.out hb); clear hb))
      go_ret
      exact ⟨rfl, HB6.out⟩
  · have f1 := HK.out.least b (k := 1500) (by decide)
    have f2 := HK.out.most b (k := 1500) (by decide)
    have hb9 : (mostV n h b l p q == totalV p) = false := by simpa using he
    have hlt : decide (mostV n h b l p q < T) = true := decide_eq_true (by rw [HT.out]; have := HK.out.place.le_total b; omega)
    rw [hb9, if_neg (by decide)] at f1
    have h0 : (0 : Int) ≤ (h : Int) := by omega
    have h1 : (h : Int) ≤ 7 := by have := HH.out; omega
    generalize mostV n h b l p q = V at f2 hlt
    have F1 := Lib.hid f1
    have F2 := Lib.hid f2
    clear f1 f2 hb9 he
    go_wp2_with (first
      | (go_at_call 11; (with_reducible refine (evac_Least.calls 1500 n b A c l Ap cp p Aq cq q h 0 false 0 _ ?s1 HC.out.1 ?s2 HC.out.2.1 ?s3 HC.out.2.2 F1.out).mono ?_); (case s1 => exact Kd.C_below HA.out (below_alloc (Below.refl _ _) _)); (case s2 => exact Kd.C_below HP.out (below_alloc (Below.refl _ _) _)); (case s3 => exact Kd.C_below HQ.out (below_alloc (Below.refl _ _) _)); rintro e w3 ⟨rfl, hb⟩; have HB3 := Lib.hid (below_step (below_alloc HB2.out (.cells #[.int .i64 n, .bool b, .slice A l.length c] 32)) hb); have HW3 := Lib.hid (below_step (below_alloc (Below.refl w2.heap.size w2) (.cells #[.int .i64 n, .bool b, .slice A l.length c] 32)) hb); have HX3 := Lib.hid (blk_below (heap_alloc_new w2 (.cells #[.int .i64 n, .bool b, .slice A l.length c] 32)) hb); clear hb)
      | (go_at_call 15; (with_reducible refine (ebbtideref21_Total.calls 1500 Ap cp p T _ ?s1 HC.out.2.1 ?s2).mono ?_); (case s1 => exact Kd.C_below HP.out HW3.out); (case s2 => rw [HT.out]; exact total_f HK.out.place.gp HK.out.place.lp (by have := HK.out.place.lp; omega)); rintro e w4 ⟨rfl, hd⟩; obtain ⟨m, rfl⟩ := hd; have x0 : (w3.drewN m).cell? ⟨w2.heap.size, 0, none⟩ = some (.int .i64 n) := (blk_cell (blk_drewN HX3.out _) 0).trans rfl; have x1 : (w3.drewN m).cell? ⟨w2.heap.size, 1, none⟩ = some (.bool b) := (blk_cell (blk_drewN HX3.out _) 1).trans rfl; have x2 : (w3.drewN m).cell? ⟨w2.heap.size, 2, none⟩ = some (.slice A l.length c) := (blk_cell (blk_drewN HX3.out _) 2).trans rfl)
      | (go_at_call 14; (with_reducible refine (evac_Most.calls 1500 n b A c l Ap cp p Aq cq q h V 0 _ ?s1 HC.out.1 ?s2 HC.out.2.1 ?s3 HC.out.2.2 F2.out).mono ?_); (case s1 => exact Kd.C_below HA.out (pw_below_drewN HW3.out _)); (case s2 => exact Kd.C_below HP.out (pw_below_drewN HW3.out _)); (case s3 => exact Kd.C_below HQ.out (pw_below_drewN HW3.out _)); rintro e w5 ⟨rfl, hb⟩; have HB5 := Lib.hid (below_step (pw_below_drewN HB3.out _) hb); clear hb))
    go_ret
    exact ⟨rfl, HB5.out⟩
end
end Go.Proofs.Ytcgdloldkcmhnaa.H
