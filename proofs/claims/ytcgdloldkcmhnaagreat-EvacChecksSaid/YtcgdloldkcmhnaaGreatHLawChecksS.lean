/- The law EvacChecks, walked. -/
import Derived.Test.YtcgdloldkcmhnaaGreatK6
namespace Go.Proofs.YtcgdloldkcmhnaaGreat.H
open Go Go.RowKit Go.Proofs.YtcgdloldkcmhnaaGreat.PrintC Go.Proofs.YtcgdloldkcmhnaaGreat.PrintE Go.Proofs.YtcgdloldkcmhnaaGreatW.PrintWords Go.Proofs.YtcgdloldkcmhnaaGreatW.PrintLast Go.Proofs.YtcgdloldkcmhnaaGreatW.PrintMore Go.Proofs.YtcgdloldkcmhnaaGreat.Flow
set_option linter.unusedVariables false
set_option linter.unusedSimpArgs false
theorem okG_mk {l : List Grp} (h : GrpsWf l) (hl : l.length ≤ 60) : okG l = true := by
 unfold okG
 rw [Bool.and_eq_true, decide_eq_true_eq]
 exact ⟨List.all_eq_true.2 (fun g hg => by rw [Bool.and_eq_true]; exact h g hg), by omega⟩
section
variable (n : Int) (b : Bool) (A : Option Addr) (c : Nat) (l : List Arc) (Ap : Option Addr) (cp : Nat) (p : List Grp) (Aq : Option Addr) (cq : Nat) (q : List Grp) (h : Int) (AL : Option Addr) (cL : Nat) (L : List Mv) (AX : Option Addr) (cX : Nat) (X : List Slot) (w : World)
/-- 0 and a code. -/
def BadRet (r : Int) (w : World) (e : Ending) (w' : World) : Prop := e = .returned (.tuple #[.int .i64 0, .int .i64 r]) ∧ Below w.heap.size w w'
set_option maxHeartbeats 4000000 in
set_option maxRecDepth 100000 in
theorem rchk_bad (r : Int) (hr : Kd.C kArc w A l.length l) (hp : Kd.C kGrp w Ap p.length p) (hq : Kd.C kGrp w Aq q.length q) (lp : p.length ≤ 1000) (lq : q.length ≤ 1000) (hF : askedV n l p q h = r) (h0 : r ≠ 0) :
  Calls Tryz.prog 11 #[.agg #[.int .i64 n, .bool b, .slice A l.length c], .slice Ap p.length cp, .slice Aq q.length cq, .int .i64 h, .slice AL L.length cL] w (BadRet r w) := by
 have HA := zh hr
 have HP := zh hp
 have HQ := zh hq
 have HF := zh hF
 have hu := Tryz.underlying33
 have e1 : (r != 0) = true := bne_iff_ne.2 h0
 have e2 : (r == 0) = false := beq_eq_false_iff_ne.2 h0
 clear hr hp hq hF h0
 go_enter Tryz.func11, Tryz.ntmps11
 go_wp2_with (go_at_call 14; (with_reducible refine (vasked_walk n b A c l Ap cp p Aq cq q h _ ?s1 ?s2 ?s3 lp lq).mono ?_); (case s1 => exact Kd.C_below HA.out (below_alloc (Below.refl _ _) _)); (case s2 => exact Kd.C_below HP.out (below_alloc (Below.refl _ _) _)); (case s3 => exact Kd.C_below HQ.out (below_alloc (Below.refl _ _) _)); rintro e w3 ⟨rfl, hb⟩; rw [HF.out]; have HB := zh (below_step (below_alloc (Below.refl w.heap.size w) (.cells #[.int .i64 n, .bool b, .slice A l.length c] 33)) hb); clear hb)
 go_ret2
 exact ⟨rfl, HB.out⟩
set_option maxHeartbeats 4000000 in
set_option maxRecDepth 100000 in
theorem rcap_bad (r : Int) (hr : Kd.C kArc w A l.length l) (hp : Kd.C kGrp w Ap p.length p) (hq : Kd.C kGrp w Aq q.length q) (lp : p.length ≤ 1000) (lq : q.length ≤ 1000) (hF : askedV n l p q h = r) (h0 : r ≠ 0) :
  Calls Tryz.prog 19 #[.agg #[.int .i64 n, .bool b, .slice A l.length c], .slice Ap p.length cp, .slice Aq q.length cq, .int .i64 h, .slice AX X.length cX] w (BadRet r w) := by
 have HA := zh hr
 have HP := zh hp
 have HQ := zh hq
 have HF := zh hF
 have hu := Tryz.underlying33
 have e1 : (r != 0) = true := bne_iff_ne.2 h0
 have e2 : (r == 0) = false := beq_eq_false_iff_ne.2 h0
 clear hr hp hq hF h0
 go_enter Tryz.func19, Tryz.ntmps19
 go_wp2_with (go_at_call 14; (with_reducible refine (vasked_walk n b A c l Ap cp p Aq cq q h _ ?s1 ?s2 ?s3 lp lq).mono ?_); (case s1 => exact Kd.C_below HA.out (below_alloc (Below.refl _ _) _)); (case s2 => exact Kd.C_below HP.out (below_alloc (Below.refl _ _) _)); (case s3 => exact Kd.C_below HQ.out (below_alloc (Below.refl _ _) _)); rintro e w3 ⟨rfl, hb⟩; rw [HF.out]; have HB := zh (below_step (below_alloc (Below.refl w.heap.size w) (.cells #[.int .i64 n, .bool b, .slice A l.length c] 33)) hb); clear hb)
 go_ret2
 exact ⟨rfl, HB.out⟩
set_option maxHeartbeats 4000000 in
set_option maxRecDepth 100000 in
theorem cap_bad (r : Int) (hBG : ∀ W, Below w.heap.size w W → Calls Tryz.prog 25 #[.agg #[.int .i64 n, .bool b, .slice A l.length c], .slice Ap p.length cp, .slice Aq q.length cq, .int .i64 h] W (BegunAt n b A c l Ap cp p Aq cq q r W)) (h0 : r ≠ 0) :
  Calls Tryz.prog 18 #[.agg #[.int .i64 n, .bool b, .slice A l.length c], .slice Ap p.length cp, .slice Aq q.length cq, .int .i64 h, .slice AX X.length cX] w (BadRet r w) := by
 have HBG := zh hBG
 have hu := Tryz.underlying33
 have e1 : (r != 0) = true := bne_iff_ne.2 h0
 have e2 : (r == 0) = false := beq_eq_false_iff_ne.2 h0
 have H0 := zh h0
 clear hBG h0
 go_enter Tryz.func18, Tryz.ntmps18
 go_wp2_with (go_at_call 25; (with_reducible refine (HBG.out _ ?s1).mono ?_); (case s1 => exact below_alloc (Below.refl _ _) _); rintro e w1 ⟨hb1, (⟨_, rfl⟩ | ⟨h9, _⟩)⟩; rotate_left; (exact absurd h9 H0.out); have HB1 := zh (below_step (below_alloc (Below.refl w.heap.size w) (.cells #[.int .i64 n, .bool b, .slice A l.length c] 33)) hb1); clear hb1)
 go_ret2
 exact ⟨rfl, HB1.out⟩
set_option maxHeartbeats 4000000 in
set_option maxRecDepth 100000 in
theorem chk_bad (r : Int) (hBG : ∀ W, Below w.heap.size w W → Calls Tryz.prog 25 #[.agg #[.int .i64 n, .bool b, .slice A l.length c], .slice Ap p.length cp, .slice Aq q.length cq, .int .i64 h] W (BegunAt n b A c l Ap cp p Aq cq q r W)) (h0 : r ≠ 0) :
  Calls Tryz.prog 17 #[.agg #[.int .i64 n, .bool b, .slice A l.length c], .slice Ap p.length cp, .slice Aq q.length cq, .int .i64 h, .slice AL L.length cL] w (BadRet r w) := by
 have HBG := zh hBG
 have hu := Tryz.underlying33
 have e1 : (r != 0) = true := bne_iff_ne.2 h0
 have e2 : (r == 0) = false := beq_eq_false_iff_ne.2 h0
 have H0 := zh h0
 clear hBG h0
 go_enter Tryz.func17, Tryz.ntmps17
 obtain ⟨w0, hw0⟩ : ∃ w0, w0 = (w.alloc (.cells #[.int .i64 n, .bool b, .slice A l.length c] 33)).alloc (.cells #[.int .i64 h] 3) := ⟨_, rfl⟩
 have HX0 : Hid (Below w.heap.size w w0) := zh (by rw [hw0]; exact below_alloc (below_alloc (Below.refl _ _) _) _)
 go_wp2_with (go_at_call 25; rw [← hw0]; (with_reducible refine (HBG.out _ ?s1).mono ?_); (case s1 => exact HX0.out); rintro e w1 ⟨hb1, (⟨_, rfl⟩ | ⟨h9, _⟩)⟩; rotate_left; (exact absurd h9 H0.out); have HB1 := zh (below_step HX0.out hb1); clear hb1)
 go_ret2
 exact ⟨rfl, by first | exact HB1.out | exact below_alloc HB1.out _⟩
set_option maxHeartbeats 8000000 in
set_option maxRecDepth 100000 in
theorem checks_walk (hr : Kd.C kArc w A l.length l) (hc : l.length ≤ c) (hp : Kd.C kGrp w Ap p.length p) (hcp : p.length ≤ cp) (hq : Kd.C kGrp w Aq q.length q) (hcq : q.length ≤ cq) (wp : GrpsWf p) (wq : GrpsWf q) (hL : Kd.C kMv w AL L.length L) (wL : MvWf L) (hX : Kd.C kSlot w AX X.length X) (wX : SlWf X) :
  Calls Tryz.prog 5 #[.agg #[.int .i64 n, .bool b, .slice A l.length c], .slice Ap p.length cp, .slice Aq q.length cq, .int .i64 h, .slice AL L.length cL, .slice AX X.length cX] w fun e w' => e = .returned (.bool true) ∧ Below w.heap.size w w' := by
 have HA := zh hr
 have HP := zh hp
 have HQ := zh hq
 have HC := zh (And.intro hc (And.intro hcp hcq))
 have HW := zh (And.intro wp wq)
 have HL := zh hL
 have HV := zh wL
 have HS := zh hX
 have HSX : Hid (SlotsWf X) := zh wX
 have hu := Tryz.underlying33
 clear hr hc hp hcp hq hcq wp wq hL wL hX wX
 go_enter Tryz.func5, Tryz.ntmps5
 by_cases l1 : (8 : Int) < (p.length : Int)
 ·have l1' : decide ((8 : Int) < (p.length : Int)) = true := decide_eq_true l1
  clear l1
  go_wp2_with (go_at_call 7; (with_reducible refine (awake_walk _).mono ?_); rintro e w1 ⟨rfl, hb⟩; have HB := zh (below_step (below_alloc (Below.refl w.heap.size w) (.cells #[.int .i64 n, .bool b, .slice A l.length c] 33)) hb); have HX := zh (blk_below (heap_alloc_new w (.cells #[.int .i64 n, .bool b, .slice A l.length c] 33)) hb); have x0 := (blk_cell HX.out 0).trans rfl; have x1 := (blk_cell HX.out 1).trans rfl; have x2 := (blk_cell HX.out 2).trans rfl; clear hb)
  go_ret
  exact ⟨rfl, HB.out⟩
 have l1' : decide ((8 : Int) < (p.length : Int)) = false := decide_eq_false l1
 by_cases l2 : (8 : Int) < (q.length : Int)
 ·have l2' : decide ((8 : Int) < (q.length : Int)) = true := decide_eq_true l2
  clear l1 l2
  go_wp2_with (go_at_call 7; (with_reducible refine (awake_walk _).mono ?_); rintro e w1 ⟨rfl, hb⟩; have HB := zh (below_step (below_alloc (Below.refl w.heap.size w) (.cells #[.int .i64 n, .bool b, .slice A l.length c] 33)) hb); have HX := zh (blk_below (heap_alloc_new w (.cells #[.int .i64 n, .bool b, .slice A l.length c] 33)) hb); have x0 := (blk_cell HX.out 0).trans rfl; have x1 := (blk_cell HX.out 1).trans rfl; have x2 := (blk_cell HX.out 2).trans rfl; clear hb)
  go_ret
  exact ⟨rfl, HB.out⟩
 have l2' : decide ((8 : Int) < (q.length : Int)) = false := decide_eq_false l2
 by_cases l3 : (40 : Int) < (L.length : Int)
 ·have l3' : decide ((40 : Int) < (L.length : Int)) = true := decide_eq_true l3
  clear l1 l2 l3
  go_wp2_with (go_at_call 7; (with_reducible refine (awake_walk _).mono ?_); rintro e w1 ⟨rfl, hb⟩; have HB := zh (below_step (below_alloc (Below.refl w.heap.size w) (.cells #[.int .i64 n, .bool b, .slice A l.length c] 33)) hb); have HX := zh (blk_below (heap_alloc_new w (.cells #[.int .i64 n, .bool b, .slice A l.length c] 33)) hb); have x0 := (blk_cell HX.out 0).trans rfl; have x1 := (blk_cell HX.out 1).trans rfl; have x2 := (blk_cell HX.out 2).trans rfl; clear hb)
  go_ret
  exact ⟨rfl, HB.out⟩
 have l3' : decide ((40 : Int) < (L.length : Int)) = false := decide_eq_false l3
 by_cases l4 : (60 : Int) < (X.length : Int)
 ·have l4' : decide ((60 : Int) < (X.length : Int)) = true := decide_eq_true l4
  clear l1 l2 l3 l4
  go_wp2_with (go_at_call 7; (with_reducible refine (awake_walk _).mono ?_); rintro e w1 ⟨rfl, hb⟩; have HB := zh (below_step (below_alloc (Below.refl w.heap.size w) (.cells #[.int .i64 n, .bool b, .slice A l.length c] 33)) hb); have HX := zh (blk_below (heap_alloc_new w (.cells #[.int .i64 n, .bool b, .slice A l.length c] 33)) hb); have x0 := (blk_cell HX.out 0).trans rfl; have x1 := (blk_cell HX.out 1).trans rfl; have x2 := (blk_cell HX.out 2).trans rfl; clear hb)
  go_ret
  exact ⟨rfl, HB.out⟩
 have l4' : decide ((60 : Int) < (X.length : Int)) = false := decide_eq_false l4
 by_cases l5 : (20 : Int) < h ∧ h ≤ 1024
 ·have l5' : decide ((20 : Int) < h) = true := decide_eq_true l5.1
  have l6' : decide (h ≤ 1024) = true := decide_eq_true l5.2
  clear l1 l2 l3 l4 l5
  go_wp2_with (go_at_call 7; (with_reducible refine (awake_walk _).mono ?_); rintro e w1 ⟨rfl, hb⟩; have HB := zh (below_step (below_alloc (Below.refl w.heap.size w) (.cells #[.int .i64 n, .bool b, .slice A l.length c] 33)) hb); have HX := zh (blk_below (heap_alloc_new w (.cells #[.int .i64 n, .bool b, .slice A l.length c] 33)) hb); have x0 := (blk_cell HX.out 0).trans rfl; have x1 := (blk_cell HX.out 1).trans rfl; have x2 := (blk_cell HX.out 2).trans rfl; clear hb)
  go_ret
  exact ⟨rfl, HB.out⟩
 have l5' : decide ((20 : Int) < h) = false ∨ (decide ((20 : Int) < h) = true ∧ decide (h ≤ 1024) = false) := by
  by_cases l6 : (20 : Int) < h
  ·exact .inr ⟨decide_eq_true l6, decide_eq_false (fun l7 => l5 ⟨l6, l7⟩)⟩
  ·exact .inl (decide_eq_false l6)
 have lp1 : p.length ≤ 1000 := by omega
 have lq1 : q.length ≤ 1000 := by omega
 have HLPQ := zh (And.intro lp1 lq1)
 obtain ⟨r, hrv⟩ : ∃ r, askedV n l p q h = r := ⟨_, rfl⟩
 have F0 := zh hrv
 have fb := asked_p (n := n) (b := b) (l := l) (p := p) (q := q) (h := h) (k := 600) (by decide)
 rw [hrv] at fb
 have FB := zh fb
 have OK := zh (And.intro (okG_mk HW.out.1 (by omega)) (okG_mk HW.out.2 (by omega)))
 have ln1 : L.length ≤ 100000 := by omega
 have ln2 : X.length ≤ 1000000 := by omega
 have LN := zh (And.intro ln1 ln2)
 clear l1 l2 l3 l4 l5 ln1 ln2
 clear hrv fb lp1 lq1
 have HBG : Hid (∀ W, Below w.heap.size w W → Calls Tryz.prog 25 #[.agg #[.int .i64 n, .bool b, .slice A l.length c], .slice Ap p.length cp, .slice Aq q.length cq, .int .i64 h] W (BegunAt n b A c l Ap cp p Aq cq q r W)) := zh (fun W hW =>
  begun_walk 600 n b A c l Ap cp p Aq cq q h r W (Kd.C_below HA.out hW) HC.out.1 (Kd.C_below HP.out hW) (Kd.C_below HQ.out hW) HW.out.1 HW.out.2 (okG_wf OK.out.1).2 (okG_wf OK.out.2).2 FB.out)
 by_cases h0 : r = 0
 ·subst h0
  obtain ⟨nn, hh, en, eh, hpl, hgr, hgd, hh1, hh2, hh3⟩ := begun_zero FB.out
  have HK : Hid (AskOk nn hh l p q) := zh ⟨hgd, hgr, hh1, hh2, hh3⟩
  have HPL := zh hpl
  have HH := zh hh1
  clear hpl hgr hgd hh1 hh2 hh3 FB
  subst en
  subst eh
  have HAS : Hid (∀ W, Below w.heap.size w W → Calls Tryz.prog 14 #[.agg #[.int .i64 nn, .bool b, .slice A l.length c], .slice Ap p.length cp, .slice Aq q.length cq, .int .i64 hh] W fun e w' => e = .returned (.int .i64 0) ∧ Below W.heap.size W w') := zh (fun W hW => (vasked_walk nn b A c l Ap cp p Aq cq q hh W (Kd.C_below HA.out hW) (Kd.C_below HP.out hW) (Kd.C_below HQ.out hW) HLPQ.out.1 HLPQ.out.2).mono (fun e w' k => by rw [F0.out] at k; exact k))
  obtain ⟨K, F, hcap⟩ := cap_set nn hh b l p q X
  obtain ⟨V, E, hchk⟩ := chk_set nn hh b l p q L
  have HCP := zh hcap
  have HCK := zh hchk
  clear hcap hchk
  have HC1 : Hid (∀ W, Below w.heap.size w W → Calls Tryz.prog 17 #[.agg #[.int .i64 nn, .bool b, .slice A l.length c], .slice Ap p.length cp, .slice Aq q.length cq, .int .i64 hh, .slice AL L.length cL] W fun e w' => e = .returned (.tuple #[.int .i64 V, .int .i64 E]) ∧ Below W.heap.size W w') := zh (fun W hW => (check_walk nn hh b A c l Ap cp p Aq cq q AL cL L W HK.out (fun W1 h1 => HBG.out W1 (below_step hW h1)) (Kd.C_below HA.out hW) (Kd.C_below HP.out hW) (Kd.C_below HQ.out hW) (Kd.C_below HL.out hW) (fun x hx => ⟨(HV.out x hx).1, (HV.out x hx).2.1⟩) (fun x hx => wf_range (HV.out x hx).2.2) LN.out.1).mono (fun e w' k => HCK.out _ _ _ k))
  have HC2 : Hid (∀ W, Below w.heap.size w W → Calls Tryz.prog 11 #[.agg #[.int .i64 nn, .bool b, .slice A l.length c], .slice Ap p.length cp, .slice Aq q.length cq, .int .i64 hh, .slice AL L.length cL] W fun e w' => e = .returned (.tuple #[.int .i64 V, .int .i64 E]) ∧ Below W.heap.size W w') := zh (fun W hW => (rplan_at nn hh b A c l Ap cp p Aq cq q AL cL L W HK.out (fun W1 h1 => HAS.out W1 (below_step hW h1)) (Kd.C_below HA.out hW) (Kd.C_below HP.out hW) (Kd.C_below HQ.out hW) (Kd.C_below HL.out hW) (fun x hx => wf_range (HV.out x hx).2.2) LN.out.1).mono (fun e w' k => HCK.out _ _ _ k))
  have HC3 : Hid (∀ W, Below w.heap.size w W → Calls Tryz.prog 18 #[.agg #[.int .i64 nn, .bool b, .slice A l.length c], .slice Ap p.length cp, .slice Aq q.length cq, .int .i64 hh, .slice AX X.length cX] W fun e w' => e = .returned (.tuple #[.int .i64 K, .int .i64 F]) ∧ Below W.heap.size W w') := zh (fun W hW => (cap_walk nn hh b A c l Ap cp p Aq cq q AX cX X W HPL.out HH.out (fun W1 h1 => HBG.out W1 (below_step hW h1)) (Kd.C_below HA.out hW) (Kd.C_below HP.out hW) (Kd.C_below HQ.out hW) (Kd.C_below HS.out hW) LN.out.2).mono (fun e w' k => HCP.out _ _ _ k))
  have HC4 : Hid (∀ W, Below w.heap.size w W → Calls Tryz.prog 19 #[.agg #[.int .i64 nn, .bool b, .slice A l.length c], .slice Ap p.length cp, .slice Aq q.length cq, .int .i64 hh, .slice AX X.length cX] W fun e w' => e = .returned (.tuple #[.int .i64 K, .int .i64 F]) ∧ Below W.heap.size W w') := zh (fun W hW => (rcap_at nn hh b A c l Ap cp p Aq cq q AX cX X W HK.out (fun W1 h1 => HAS.out W1 (below_step hW h1)) (Kd.C_below HA.out hW) (Kd.C_below HP.out hW) (Kd.C_below HQ.out hW) (Kd.C_below HS.out hW) LN.out.2).mono (fun e w' k => HCP.out _ _ _ (rcap_cap HPL.out HH.out HSX.out k)))
  rcases l5' with l5' | ⟨l5', l6'⟩
  all_goals
   go_wp2_with (first
    |(go_at_call 17; go_loud ((with_reducible refine (HC1.out _ ?s1).mono ?_); (case s1 => exact below_alloc (Below.refl _ _) _); rintro e w3 ⟨rfl, hb⟩; have HB := zh (below_step (below_alloc (Below.refl w.heap.size w) (.cells #[.int .i64 nn, .bool b, .slice A l.length c] 33)) hb); have HX := zh (blk_below (heap_alloc_new w (.cells #[.int .i64 nn, .bool b, .slice A l.length c] 33)) hb); have x0 := (blk_cell HX.out 0).trans rfl; have x1 := (blk_cell HX.out 1).trans rfl; have x2 := (blk_cell HX.out 2).trans rfl; clear hb))
    |(go_at_call 11; go_loud ((with_reducible refine (HC2.out _ ?s1).mono ?_); (case s1 => exact HB.out); rintro e w3 ⟨rfl, hb⟩; have HB9 := zh (below_step HB.out hb); have HX9 := zh (blk_below HX.out hb); clear HB HX x0 x1 x2; have HB := HB9; have HX := HX9; clear HB9 HX9; have x0 := (blk_cell HX.out 0).trans rfl; have x1 := (blk_cell HX.out 1).trans rfl; have x2 := (blk_cell HX.out 2).trans rfl; clear hb))
    |(go_at_call 18; go_loud ((with_reducible refine (HC3.out _ ?s1).mono ?_); (case s1 => exact HB.out); rintro e w3 ⟨rfl, hb⟩; have HB9 := zh (below_step HB.out hb); have HX9 := zh (blk_below HX.out hb); clear HB HX x0 x1 x2; have HB := HB9; have HX := HX9; clear HB9 HX9; have x0 := (blk_cell HX.out 0).trans rfl; have x1 := (blk_cell HX.out 1).trans rfl; have x2 := (blk_cell HX.out 2).trans rfl; clear hb))
    |(go_at_call 19; go_loud ((with_reducible refine (HC4.out _ ?s1).mono ?_); (case s1 => exact HB.out); rintro e w3 ⟨rfl, hb⟩; have HB9 := zh (below_step HB.out hb); have HX9 := zh (blk_below HX.out hb); clear HB HX x0 x1 x2; have HB := HB9; have HX := HX9; clear HB9 HX9; have x0 := (blk_cell HX.out 0).trans rfl; have x1 := (blk_cell HX.out 1).trans rfl; have x2 := (blk_cell HX.out 2).trans rfl; clear hb))
    |(go_at_call 7; (with_reducible refine (awake_walk _).mono ?_); rintro e w1 ⟨rfl, hb⟩; have HB9 := zh (below_step HB.out hb); have HX9 := zh (blk_below HX.out hb); clear HB HX x0 x1 x2; have HB := HB9; have HX := HX9; clear HB9 HX9; have x0 := (blk_cell HX.out 0).trans rfl; have x1 := (blk_cell HX.out 1).trans rfl; have x2 := (blk_cell HX.out 2).trans rfl; clear hb))
   go_ret
   exact ⟨rfl, HB.out⟩
 ·have H0 := zh h0
  clear h0
  have HC1 : Hid (∀ W, Below w.heap.size w W → Calls Tryz.prog 17 #[.agg #[.int .i64 n, .bool b, .slice A l.length c], .slice Ap p.length cp, .slice Aq q.length cq, .int .i64 h, .slice AL L.length cL] W (BadRet r W)) := zh (fun W hW => chk_bad n b A c l Ap cp p Aq cq q h AL cL L W r (fun W1 h1 => HBG.out W1 (below_step hW h1)) H0.out)
  have HC2 : Hid (∀ W, Below w.heap.size w W → Calls Tryz.prog 11 #[.agg #[.int .i64 n, .bool b, .slice A l.length c], .slice Ap p.length cp, .slice Aq q.length cq, .int .i64 h, .slice AL L.length cL] W (BadRet r W)) := zh (fun W hW => rchk_bad n b A c l Ap cp p Aq cq q h AL cL L W r (Kd.C_below HA.out hW) (Kd.C_below HP.out hW) (Kd.C_below HQ.out hW) HLPQ.out.1 HLPQ.out.2 F0.out H0.out)
  have HC3 : Hid (∀ W, Below w.heap.size w W → Calls Tryz.prog 18 #[.agg #[.int .i64 n, .bool b, .slice A l.length c], .slice Ap p.length cp, .slice Aq q.length cq, .int .i64 h, .slice AX X.length cX] W (BadRet r W)) := zh (fun W hW => cap_bad n b A c l Ap cp p Aq cq q h AX cX X W r (fun W1 h1 => HBG.out W1 (below_step hW h1)) H0.out)
  have HC4 : Hid (∀ W, Below w.heap.size w W → Calls Tryz.prog 19 #[.agg #[.int .i64 n, .bool b, .slice A l.length c], .slice Ap p.length cp, .slice Aq q.length cq, .int .i64 h, .slice AX X.length cX] W (BadRet r W)) := zh (fun W hW => rcap_bad n b A c l Ap cp p Aq cq q h AX cX X W r (Kd.C_below HA.out hW) (Kd.C_below HP.out hW) (Kd.C_below HQ.out hW) HLPQ.out.1 HLPQ.out.2 F0.out H0.out)
  rcases l5' with l5' | ⟨l5', l6'⟩
  all_goals
   go_wp2_with (first
    |(go_at_call 17; go_loud ((with_reducible refine (HC1.out _ ?s1).mono ?_); (case s1 => exact below_alloc (Below.refl _ _) _); rintro e w3 ⟨rfl, hb⟩; have HB := zh (below_step (below_alloc (Below.refl w.heap.size w) (.cells #[.int .i64 n, .bool b, .slice A l.length c] 33)) hb); have HX := zh (blk_below (heap_alloc_new w (.cells #[.int .i64 n, .bool b, .slice A l.length c] 33)) hb); have x0 := (blk_cell HX.out 0).trans rfl; have x1 := (blk_cell HX.out 1).trans rfl; have x2 := (blk_cell HX.out 2).trans rfl; clear hb))
    |(go_at_call 11; go_loud ((with_reducible refine (HC2.out _ ?s1).mono ?_); (case s1 => exact HB.out); rintro e w3 ⟨rfl, hb⟩; have HB9 := zh (below_step HB.out hb); have HX9 := zh (blk_below HX.out hb); clear HB HX x0 x1 x2; have HB := HB9; have HX := HX9; clear HB9 HX9; have x0 := (blk_cell HX.out 0).trans rfl; have x1 := (blk_cell HX.out 1).trans rfl; have x2 := (blk_cell HX.out 2).trans rfl; clear hb))
    |(go_at_call 18; go_loud ((with_reducible refine (HC3.out _ ?s1).mono ?_); (case s1 => exact HB.out); rintro e w3 ⟨rfl, hb⟩; have HB9 := zh (below_step HB.out hb); have HX9 := zh (blk_below HX.out hb); clear HB HX x0 x1 x2; have HB := HB9; have HX := HX9; clear HB9 HX9; have x0 := (blk_cell HX.out 0).trans rfl; have x1 := (blk_cell HX.out 1).trans rfl; have x2 := (blk_cell HX.out 2).trans rfl; clear hb))
    |(go_at_call 19; go_loud ((with_reducible refine (HC4.out _ ?s1).mono ?_); (case s1 => exact HB.out); rintro e w3 ⟨rfl, hb⟩; have HB9 := zh (below_step HB.out hb); have HX9 := zh (blk_below HX.out hb); clear HB HX x0 x1 x2; have HB := HB9; have HX := HX9; clear HB9 HX9; have x0 := (blk_cell HX.out 0).trans rfl; have x1 := (blk_cell HX.out 1).trans rfl; have x2 := (blk_cell HX.out 2).trans rfl; clear hb))
    |(go_at_call 7; (with_reducible refine (awake_walk _).mono ?_); rintro e w1 ⟨rfl, hb⟩; have HB9 := zh (below_step HB.out hb); have HX9 := zh (blk_below HX.out hb); clear HB HX x0 x1 x2; have HB := HB9; have HX := HX9; clear HB9 HX9; have x0 := (blk_cell HX.out 0).trans rfl; have x1 := (blk_cell HX.out 1).trans rfl; have x2 := (blk_cell HX.out 2).trans rfl; clear hb))
   go_ret
   exact ⟨rfl, HB.out⟩
end
end Go.Proofs.YtcgdloldkcmhnaaGreat.H
