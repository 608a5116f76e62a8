/- The law EvacLeast, walked. -/
import Derived.Test.YtcgdloldkcmhnaaV6
namespace Go.Proofs.Ytcgdloldkcmhnaa.H
open Go Go.RowKit Go.Proofs.Ytcgdloldkcmhnaa.PrintC Go.Proofs.Ytcgdloldkcmhnaa.PrintE Go.Proofs.YtcgdloldkcmhnaaW.PrintWords Go.Proofs.YtcgdloldkcmhnaaW.PrintLast Go.Proofs.YtcgdloldkcmhnaaW.PrintMore Go.Proofs.Ytcgdloldkcmhnaa.Flow
set_option linter.unusedVariables false
set_option linter.unusedSimpArgs false
theorem AskOk.least_first {n h : Nat} {l : List Arc} {p q : List Grp} (a : AskOk n h l p q) (b : Bool) : ∃ (Z : Int) (ok : Bool), evac_Least.f 1500 n b l p q h = some (Z, ok, 0) ∧
    ((ok = true ∧ ∃ z : Nat, Z = z ∧ z ≤ h ∧ mostV n z b l p q = totalV p ∧ ∀ j, j < z → mostV n j b l p q ≠ totalV p) ∨ (ok = false ∧ Z = 0 ∧ ∀ j, j ≤ h → mostV n j b l p q ≠ totalV p)) := by
  have f1 := a.least b (k := 1500) (by decide)
  by_cases he : mostV n h b l p q = totalV p
  · obtain ⟨m1, m2, m3⟩ := a.first b he
    have hb9 : (mostV n h b l p q == totalV p) = true := by simpa using he
    rw [hb9, if_pos rfl] at f1
    exact ⟨_, _, f1, .inl ⟨rfl, _, rfl, m3, m1, fun j hj e => by have := m2 j hj; omega⟩⟩
  · have hb9 : (mostV n h b l p q == totalV p) = false := by simpa using he
    rw [hb9, if_neg (by decide)] at f1
    exact ⟨_, _, f1, .inr ⟨rfl, rfl, fun j hj e => he (by have := PlaceOk.mono_le b a.place hj; have := a.place.le_total b; omega)⟩⟩
section
variable {a0 : Int} {a1 : Bool} {l2 : List CBit} {a3 a4 a5 : Int} {l6 l7 : List Int} {l8 : List CBit3} {l9 : List Int} {A2 : Option Addr} {c2 : Nat} {A6 : Option Addr} {c6 : Nat} {A7 : Option Addr} {c7 : Nat} {A8 : Option Addr} {c8 : Nat} {A9 : Option Addr} {c9 : Nat} {w : World} {v : Value}
set_option maxHeartbeats 4000000 in
set_option maxRecDepth 100000 in
theorem least21_walk (o : CaseAt w v a0 a1 l2 a3 a4 a5 l6 l7 l8 l9 A2 c2 A6 c6 A7 c7 A8 c8 A9 c9) :
    Calls Try.prog 3 #[.agg (caseCells a0 a1 l2 a3 a4 a5 l6 l7 l8 l9 A2 c2 A6 c6 A7 c7 A8 c8 A9 c9)] w fun e w' => e = .returned (.bool true) ∧ Below w.heap.size w w' := by
  have HO := Lib.hid o
  have hu := Try.underlying32
  have hu2 := Try.underlying29
  clear o
  go_enter Try.func3, Try.ntmps3
  go_wp2_with (go_at_call 10; have hb1 := below_alloc (Below.refl w.heap.size w) (.cells (caseCells a0 a1 l2 a3 a4 a5 l6 l7 l8 l9 A2 c2 A6 c6 A7 c7 A8 c8 A9 c9) 29); (with_reducible refine (read_at 6 6 rfl (by decide) (HO.out.below hb1)).mono ?_); rintro e w2 ⟨n, h, b, l, p, q, A, c, Ap, cp, Aq, cq, rfl, hA, hc, hp, hcp, hq, hcq, hN, hg, hh, hb⟩; have HB2 := Lib.hid (below_step hb1 hb); have HA := Lib.hid hA; have HP := Lib.hid hp; have HQ := Lib.hid hq; have HC := Lib.hid (And.intro hc (And.intro hcp hcq)); have HK := Lib.hid (ask_of (m := 6) (by decide) hN hg (show h ≤ 16 by omega)); clear hb1 hb hA hc hp hcp hq hcq hN hg hh)
  obtain ⟨Z, ok, f1, f2⟩ := HK.out.least_first b
  have F1 := Lib.hid f1
  have F2 := Lib.hid f2
  clear f1 f2
  obtain ⟨w3, hw3⟩ : ∃ w3, w3 = w2.alloc (.cells #[.int .i64 n, .bool b, .slice A l.length c] 32) := ⟨_, rfl⟩
  have HX : Hid (w3.heap[w2.heap.size]? = some (.cells #[.int .i64 n, .bool b, .slice A l.length c] 32 (0, 0)) ∧ Below w2.heap.size w2 w3) := Lib.hid (by rw [hw3]; exact ⟨heap_alloc_new _ _, below_alloc (Below.refl _ _) _⟩)
  have t1 : (Z == Z) = true := by simp
  have t2 : (Z != Z) = false := by simp
  have t3 : (ok == ok) = true := by simp
  have t4 : (ok != ok) = false := by simp
  go_wp2_with (first
    | (go_at_call 11; rw [← hw3]; go_loud ((with_reducible refine (evac_Least.calls 1500 n b A c l Ap cp p Aq cq q h Z ok 0 _ ?s1 HC.out.1 ?s2 HC.out.2.1 ?s3 HC.out.2.2 F1.out).mono ?_); (case s1 => exact Kd.C_below HA.out HX.out.2); (case s2 => exact Kd.C_below HP.out HX.out.2); (case s3 => exact Kd.C_below HQ.out HX.out.2); rintro e w4 ⟨rfl, hb⟩; have HX4 := Lib.hid (And.intro (blk_below HX.out.1 hb) (below_step HX.out.2 hb)); have x0 : w4.cell? ⟨w2.heap.size, 0, none⟩ = some (.int .i64 n) := (blk_cell HX4.out.1 0).trans rfl; have x1 : w4.cell? ⟨w2.heap.size, 1, none⟩ = some (.bool b) := (blk_cell HX4.out.1 1).trans rfl; have x2 : w4.cell? ⟨w2.heap.size, 2, none⟩ = some (.slice A l.length c) := (blk_cell HX4.out.1 2).trans rfl; clear hb))
    | (go_at_call 12; go_loud ((with_reducible refine (rleast_walk n h b A c l Ap cp p Aq cq q Z ok F2.out _ HK.out ?s1 ?s2 ?s3).mono ?_); (case s1 => exact Kd.C_below HA.out HX4.out.2); (case s2 => exact Kd.C_below HP.out HX4.out.2); (case s3 => exact Kd.C_below HQ.out HX4.out.2); rintro e w5 ⟨rfl, hb⟩; have HX5 := Lib.hid (below_step HX4.out.2 hb); clear hb))
    | (go_at_call 13; (with_reducible refine (awake_walk _).mono ?_); rintro e w6 ⟨rfl, hb⟩; have HX6 := Lib.hid (below_step HX5.out hb); clear hb))
  go_ret
  exact ⟨rfl, below_step HB2.out HX6.out⟩
end
end Go.Proofs.Ytcgdloldkcmhnaa.H
