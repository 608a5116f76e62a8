/- The law EvacAny, walked. -/
import Derived.Test.YtcgdloldkcmhnaaA6
namespace Go.Proofs.Ytcgdloldkcmhnaa.H
open Go Go.RowKit Go.Proofs.Ytcgdloldkcmhnaa.PrintC Go.Proofs.Ytcgdloldkcmhnaa.PrintE Go.Proofs.YtcgdloldkcmhnaaW.PrintWords Go.Proofs.YtcgdloldkcmhnaaW.PrintLast Go.Proofs.YtcgdloldkcmhnaaW.PrintMore Go.Proofs.Ytcgdloldkcmhnaa.Flow
set_option linter.unusedVariables false
set_option linter.unusedSimpArgs false
theorem okG_mk {l : List Grp} (h : GrpsWf l) (hl : l.length ≤ 60) : okG l = true := by
 unfold okG
 rw [Bool.and_eq_true, decide_eq_true_eq]
 exact ⟨List.all_eq_true.2 (fun g hg => by rw [Bool.and_eq_true]; exact h g hg), by omega⟩
section
variable (n : Int) (b : Bool) (A : Option Addr) (c : Nat) (l : List Arc) (Ap : Option Addr) (cp : Nat) (p : List Grp) (Aq : Option Addr) (cq : Nat) (q : List Grp) (h : Int) (AL : Option Addr) (cL : Nat) (L : List Mv) (AX : Option Addr) (cX : Nat) (X : List Slot) (w : World)
/-- 0 and a code. -/
def BadRet (r : Int) (w : World) (e : Ending) (w' : World) : Prop := e = .returned (.tuple #[.int .i64 0, .int .i64 r]) ∧ Below w.heap.size w w'
set_option maxHeartbeats 4000000 in
set_option maxRecDepth 100000 in
theorem rchk_bad (r : Int) (hr : Kd.C kArc w A l.length l) (hc : l.length ≤ c) (hp : Kd.C kGrp w Ap p.length p) (hcp : p.length ≤ cp) (hq : Kd.C kGrp w Aq q.length q) (hcq : q.length ≤ cq) (hF : ebbtideref21_Asked.f 600 n b l p q h = some r) (h0 : r ≠ 0) :
  Calls Try.prog 22 #[.agg #[.int .i64 n, .bool b, .slice A l.length c], .slice Ap p.length cp, .slice Aq q.length cq, .int .i64 h, .slice AL L.length cL] w (BadRet r w) := by
 have HA := Lib.hid hr
 have HP := Lib.hid hp
 have HQ := Lib.hid hq
 have HC := Lib.hid (And.intro hc (And.intro hcp hcq))
 have HF := Lib.hid hF
 have hu := Try.underlying32
 have e1 : (r != 0) = true := bne_iff_ne.2 h0
 have e2 : (r == 0) = false := beq_eq_false_iff_ne.2 h0
 clear hr hp hq hc hcp hcq hF h0
 go_enter Try.func22, Try.ntmps22
 go_wp2_with (go_at_call 33; (with_reducible refine (ebbtideref21_Asked.calls 600 n b A c l Ap cp p Aq cq q h r _ ?s1 HC.out.1 ?s2 HC.out.2.1 ?s3 HC.out.2.2 HF.out).mono ?_); (case s1 => exact Kd.C_below HA.out (below_alloc (Below.refl _ _) _)); (case s2 => exact Kd.C_below HP.out (below_alloc (Below.refl _ _) _)); (case s3 => exact Kd.C_below HQ.out (below_alloc (Below.refl _ _) _)); rintro e w3 ⟨rfl, hb⟩; have HB := Lib.hid (below_step (below_alloc (Below.refl w.heap.size w) (.cells #[.int .i64 n, .bool b, .slice A l.length c] 32)) hb); clear hb)
 go_ret2
 exact ⟨rfl, HB.out⟩
set_option maxHeartbeats 4000000 in
set_option maxRecDepth 100000 in
theorem cap_bad (r : Int) (hBG : ∀ W, Below w.heap.size w W → Calls Try.prog 28 #[.agg #[.int .i64 n, .bool b, .slice A l.length c], .slice Ap p.length cp, .slice Aq q.length cq, .int .i64 h] W (BegunAt n b A c l Ap cp p Aq cq q r W)) (h0 : r ≠ 0) :
  Calls Try.prog 23 #[.agg #[.int .i64 n, .bool b, .slice A l.length c], .slice Ap p.length cp, .slice Aq q.length cq, .int .i64 h, .slice AX X.length cX] w (BadRet r w) := by
 have HBG := Lib.hid hBG
 have hu := Try.underlying32
 have e1 : (r != 0) = true := bne_iff_ne.2 h0
 have e2 : (r == 0) = false := beq_eq_false_iff_ne.2 h0
 have H0 := Lib.hid h0
 clear hBG h0
 go_enter Try.func23, Try.ntmps23
 go_wp2_with (go_at_call 28; (with_reducible refine (HBG.out _ ?s1).mono ?_); (case s1 => exact below_alloc (Below.refl _ _) _); rintro e w1 ⟨hb1, (⟨_, rfl⟩ | ⟨h9, _⟩)⟩; rotate_left; (exact absurd h9 H0.out); have HB1 := Lib.hid (below_step (below_alloc (Below.refl w.heap.size w) (.cells #[.int .i64 n, .bool b, .slice A l.length c] 32)) hb1); clear hb1)
 go_ret2
 exact ⟨rfl, HB1.out⟩
def Rsn (n h : Nat) (b : Bool) (p q : List Grp) (H : Int → Int → Bool) : Prop := ∀ v : Nat, v < n → keepsOf b p q v = true → ∀ z : Nat, z < h → H v z = true → H v ((z : Int) + 1) = true
theorem chk_two {n h : Nat} {b : Bool} {l : List Arc} {p q : List Grp} {L : List Mv} {w w' : World} {e : Ending} (a : AskOk n h l p q) (k : ChkAt n h b l p q L w e w') : ∃ V E : Int, e = .returned (.tuple #[.int .i64 V, .int .i64 E]) ∧ Below w.heap.size w w' ∧ (((E == 0) = false ∧ (E != 0) = true) ∨ ((E == 0) = true ∧ (E != 0) = false ∧ ∀ H, Rsn n h b p q H → V ≤ capV h l p q H)) := by
 obtain ⟨hb, (⟨k9, d0, d1, rfl, -⟩ | ⟨m, hP, rfl⟩)⟩ := k
 ·exact ⟨_, _, rfl, hb, .inl ⟨d0, d1⟩⟩
 ·exact ⟨_, _, rfl, hb, .inr ⟨rfl, rfl, fun H hr => plan_le a hP hr⟩⟩
/-- What Capacity answers hangs on the arguments alone. -/
theorem cap_one (n h : Nat) (b : Bool) (l : List Arc) (p q : List Grp) (X : List Slot) : ∃ K F : Int, (((F == 0) = false ∧ (F != 0) = true) ∨ ((F == 0) = true ∧ (F != 0) = false ∧ ∃ H, Rsn n h b p q H ∧ K = capV h l p q H)) ∧ ∀ w e w', CapAt n h b l p q X w e w' → e = .returned (.tuple #[.int .i64 K, .int .i64 F]) ∧ Below w.heap.size w w' := by
 by_cases h1 : ∀ s, s ∈ X → slotOk n h s
 ·by_cases h2 : Rsn n h b p q (hasS (setD X))
  ·refine ⟨capV h l p q (hasS (setD X)), 0, .inr ⟨rfl, rfl, _, h2, rfl⟩, fun w e w' k => ?_⟩
   obtain ⟨hb, (⟨_, s, hs, hn⟩ | ⟨_, (⟨_, v, z, hv, hk, hz, c1, c2⟩ | ⟨rfl, _⟩)⟩)⟩ := k
   ·exact absurd (h1 s hs) hn
   ·have := h2 v hv hk z hz c1
    rw [c2] at this
    cases this
   ·exact ⟨rfl, hb⟩
  ·refine ⟨0, 181, .inl ⟨rfl, rfl⟩, fun w e w' k => ?_⟩
   obtain ⟨hb, (⟨_, s, hs, hn⟩ | ⟨_, (⟨rfl, _⟩ | ⟨_, hr⟩)⟩)⟩ := k
   ·exact absurd (h1 s hs) hn
   ·exact ⟨rfl, hb⟩
   ·exact absurd hr h2
 ·refine ⟨0, 180, .inl ⟨rfl, rfl⟩, fun w e w' k => ?_⟩
  obtain ⟨hb, (⟨rfl, _⟩ | ⟨h9, _⟩)⟩ := k
  ·exact ⟨rfl, hb⟩
  ·exact absurd h9 h1
set_option maxHeartbeats 8000000 in
set_option maxRecDepth 100000 in
theorem any_walk (hr : Kd.C kArc w A l.length l) (hc : l.length ≤ c) (hp : Kd.C kGrp w Ap p.length p) (hcp : p.length ≤ cp) (hq : Kd.C kGrp w Aq q.length q) (hcq : q.length ≤ cq) (wp : GrpsWf p) (wq : GrpsWf q) (hL : Kd.C kMv w AL L.length L) (wL : MvWf L) (hX : Kd.C kSlot w AX X.length X) :
  Calls Try.prog 8 #[.agg #[.int .i64 n, .bool b, .slice A l.length c], .slice Ap p.length cp, .slice Aq q.length cq, .int .i64 h, .slice AL L.length cL, .slice AX X.length cX] w fun e w' => e = .returned (.bool true) ∧ Below w.heap.size w w' := by
 have HA := Lib.hid hr
 have HP := Lib.hid hp
 have HQ := Lib.hid hq
 have HC := Lib.hid (And.intro hc (And.intro hcp hcq))
 have HW := Lib.hid (And.intro wp wq)
 have HL := Lib.hid hL
 have HV := Lib.hid wL
 have HS := Lib.hid hX
 have hu := Try.underlying32
 clear hr hc hp hcp hq hcq wp wq hL wL hX
 go_enter Try.func8, Try.ntmps8
 by_cases l1 : (8 : Int) < (p.length : Int)
 ·have l1' : decide ((8 : Int) < (p.length : Int)) = true := decide_eq_true l1
  clear l1
  go_wp2_with (go_at_call 13; (with_reducible refine (awake_walk _).mono ?_); rintro e w1 ⟨rfl, hb⟩; have HB := Lib.hid (below_step (below_alloc (Below.refl w.heap.size w) (.cells #[.int .i64 n, .bool b, .slice A l.length c] 32)) hb); have HX := Lib.hid (blk_below (heap_alloc_new w (.cells #[.int .i64 n, .bool b, .slice A l.length c] 32)) hb); have x0 := (blk_cell HX.out 0).trans rfl; have x1 := (blk_cell HX.out 1).trans rfl; have x2 := (blk_cell HX.out 2).trans rfl; clear hb)
  go_ret
  exact ⟨rfl, HB.out⟩
 have l1' : decide ((8 : Int) < (p.length : Int)) = false := decide_eq_false l1
 by_cases l2 : (8 : Int) < (q.length : Int)
 ·have l2' : decide ((8 : Int) < (q.length : Int)) = true := decide_eq_true l2
  clear l1 l2
  go_wp2_with (go_at_call 13; (with_reducible refine (awake_walk _).mono ?_); rintro e w1 ⟨rfl, hb⟩; have HB := Lib.hid (below_step (below_alloc (Below.refl w.heap.size w) (.cells #[.int .i64 n, .bool b, .slice A l.length c] 32)) hb); have HX := Lib.hid (blk_below (heap_alloc_new w (.cells #[.int .i64 n, .bool b, .slice A l.length c] 32)) hb); have x0 := (blk_cell HX.out 0).trans rfl; have x1 := (blk_cell HX.out 1).trans rfl; have x2 := (blk_cell HX.out 2).trans rfl; clear hb)
  go_ret
  exact ⟨rfl, HB.out⟩
 have l2' : decide ((8 : Int) < (q.length : Int)) = false := decide_eq_false l2
 by_cases l3 : (40 : Int) < (L.length : Int)
 ·have l3' : decide ((40 : Int) < (L.length : Int)) = true := decide_eq_true l3
  clear l1 l2 l3
  go_wp2_with (go_at_call 13; (with_reducible refine (awake_walk _).mono ?_); rintro e w1 ⟨rfl, hb⟩; have HB := Lib.hid (below_step (below_alloc (Below.refl w.heap.size w) (.cells #[.int .i64 n, .bool b, .slice A l.length c] 32)) hb); have HX := Lib.hid (blk_below (heap_alloc_new w (.cells #[.int .i64 n, .bool b, .slice A l.length c] 32)) hb); have x0 := (blk_cell HX.out 0).trans rfl; have x1 := (blk_cell HX.out 1).trans rfl; have x2 := (blk_cell HX.out 2).trans rfl; clear hb)
  go_ret
  exact ⟨rfl, HB.out⟩
 have l3' : decide ((40 : Int) < (L.length : Int)) = false := decide_eq_false l3
 by_cases l4 : (60 : Int) < (X.length : Int)
 ·have l4' : decide ((60 : Int) < (X.length : Int)) = true := decide_eq_true l4
  clear l1 l2 l3 l4
  go_wp2_with (go_at_call 13; (with_reducible refine (awake_walk _).mono ?_); rintro e w1 ⟨rfl, hb⟩; have HB := Lib.hid (below_step (below_alloc (Below.refl w.heap.size w) (.cells #[.int .i64 n, .bool b, .slice A l.length c] 32)) hb); have HX := Lib.hid (blk_below (heap_alloc_new w (.cells #[.int .i64 n, .bool b, .slice A l.length c] 32)) hb); have x0 := (blk_cell HX.out 0).trans rfl; have x1 := (blk_cell HX.out 1).trans rfl; have x2 := (blk_cell HX.out 2).trans rfl; clear hb)
  go_ret
  exact ⟨rfl, HB.out⟩
 have l4' : decide ((60 : Int) < (X.length : Int)) = false := decide_eq_false l4
 by_cases l5 : (20 : Int) < h
 ·have l5' : decide ((20 : Int) < h) = true := decide_eq_true l5
  clear l1 l2 l3 l4 l5
  go_wp2_with (go_at_call 13; (with_reducible refine (awake_walk _).mono ?_); rintro e w1 ⟨rfl, hb⟩; have HB := Lib.hid (below_step (below_alloc (Below.refl w.heap.size w) (.cells #[.int .i64 n, .bool b, .slice A l.length c] 32)) hb); have HX := Lib.hid (blk_below (heap_alloc_new w (.cells #[.int .i64 n, .bool b, .slice A l.length c] 32)) hb); have x0 := (blk_cell HX.out 0).trans rfl; have x1 := (blk_cell HX.out 1).trans rfl; have x2 := (blk_cell HX.out 2).trans rfl; clear hb)
  go_ret
  exact ⟨rfl, HB.out⟩
 have l5' : decide ((20 : Int) < h) = false := decide_eq_false l5
 have F0 := Lib.hid (asked_r (n := n) (b := b) (l := l) (p := p) (q := q) (h := h) (by omega) (by omega) (k := 600) (by decide))
 have FB := Lib.hid (asked_p (n := n) (b := b) (l := l) (p := p) (q := q) (h := h) (k := 600) (by decide))
 have OK := Lib.hid (And.intro (okG_mk HW.out.1 (by omega)) (okG_mk HW.out.2 (by omega)))
 have ln1 : L.length ≤ 100000 := by omega
 have ln2 : X.length ≤ 1000000 := by omega
 have LN := Lib.hid (And.intro ln1 ln2)
 clear l1 l2 l3 l4 l5 ln1 ln2
 generalize askedV n l p q h = r at F0 FB
 have HBG : Hid (∀ W, Below w.heap.size w W → Calls Try.prog 28 #[.agg #[.int .i64 n, .bool b, .slice A l.length c], .slice Ap p.length cp, .slice Aq q.length cq, .int .i64 h] W (BegunAt n b A c l Ap cp p Aq cq q r W)) := Lib.hid (fun W hW =>
  begun_walk 600 n b A c l Ap cp p Aq cq q h r W (Kd.C_below HA.out hW) HC.out.1 (Kd.C_below HP.out hW) (Kd.C_below HQ.out hW) HW.out.1 HW.out.2 (okG_wf OK.out.1).2 (okG_wf OK.out.2).2 FB.out)
 go_wp2_with (go_at_call 13; (with_reducible refine (awake_walk _).mono ?_); rintro e w1 ⟨rfl, hb⟩; have HB := Lib.hid (below_step (below_alloc (Below.refl w.heap.size w) (.cells #[.int .i64 n, .bool b, .slice A l.length c] 32)) hb); have HX := Lib.hid (blk_below (heap_alloc_new w (.cells #[.int .i64 n, .bool b, .slice A l.length c] 32)) hb); have x0 := (blk_cell HX.out 0).trans rfl; have x1 := (blk_cell HX.out 1).trans rfl; have x2 := (blk_cell HX.out 2).trans rfl; clear hb)
 by_cases h0 : r = 0
 ·subst h0
  obtain ⟨nn, hh, en, eh, hpl, hgr, hgd, hh1, hh2, hh3⟩ := begun_zero FB.out
  have HK : Hid (AskOk nn hh l p q) := Lib.hid ⟨hgd, hgr, hh1, hh2, hh3⟩
  have HPL := Lib.hid hpl
  have HH := Lib.hid hh1
  clear hpl hgr hgd hh1 hh2 hh3 FB
  subst en
  subst eh
  have HAS : Hid (∀ W, Below w.heap.size w W → Calls Try.prog 33 #[.agg #[.int .i64 nn, .bool b, .slice A l.length c], .slice Ap p.length cp, .slice Aq q.length cq, .int .i64 hh] W fun e w' => e = .returned (.int .i64 0) ∧ Below W.heap.size W w') := Lib.hid (fun W hW => ebbtideref21_Asked.calls 600 nn b A c l Ap cp p Aq cq q hh 0 W (Kd.C_below HA.out hW) HC.out.1 (Kd.C_below HP.out hW) HC.out.2.1 (Kd.C_below HQ.out hW) HC.out.2.2 F0.out)
  clear F0
  obtain ⟨K, F, hF, hcap⟩ := cap_one nn hh b l p q X
  have HCP := Lib.hid hcap
  have HF := Lib.hid hF
  clear hcap hF
  go_wp2_with (go_at_call 22; go_loud ((with_reducible refine (rplan_at nn hh b A c l Ap cp p Aq cq q AL cL L _ HK.out ?s0 ?s1 ?s2 ?s3 ?s4 ?s5 LN.out.1).mono ?_); (case s0 => exact fun W hW => HAS.out W (below_step HB.out hW)); (case s1 => exact Kd.C_below HA.out HB.out); (case s2 => exact Kd.C_below HP.out HB.out); (case s3 => exact Kd.C_below HQ.out HB.out); (case s4 => exact Kd.C_below HL.out HB.out); (case s5 => exact fun x hx => wf_range (HV.out x hx)); rintro e w3 hchk; obtain ⟨V0, E0, rfl, hb, g0⟩ := chk_two HK.out hchk; have HE := Lib.hid g0; clear hchk g0; have HB9 := Lib.hid (below_step HB.out hb); have HX9 := Lib.hid (blk_below HX.out hb); clear HB HX x0 x1 x2; have HB := HB9; have HX := HX9; clear HB9 HX9; have x0 := (blk_cell HX.out 0).trans rfl; have x1 := (blk_cell HX.out 1).trans rfl; have x2 := (blk_cell HX.out 2).trans rfl; clear hb))
  have hE : ((E0 == 0) = false ∧ (E0 != 0) = true) ∨ ((E0 == 0) = true ∧ (E0 != 0) = false ∧ (((F == 0) = false ∧ (F != 0) = true) ∨ ((F == 0) = true ∧ (F != 0) = false ∧ V0 ≤ K))) := by
   rcases HE.out with g | ⟨g1, g2, g3⟩
   ·exact .inl g
   ·refine .inr ⟨g1, g2, ?_⟩
    rcases HF.out with f | ⟨f1, f2, H, hr, rfl⟩
    ·exact .inl f
    ·exact .inr ⟨f1, f2, g3 H hr⟩
  rcases hE with ⟨g1, g2⟩ | ⟨g1, g2, (⟨g3, g4⟩ | ⟨g3, g4, g5⟩)⟩
  all_goals
   go_wp2_with (go_at_call 23; go_loud ((with_reducible refine (cap_walk nn hh b A c l Ap cp p Aq cq q AX cX X _ HPL.out HH.out ?s1 ?s2 ?s3 ?s4 ?s5 LN.out.2).mono ?_); (case s1 => exact fun W hW => HBG.out W (below_step HB.out hW)); (case s2 => exact Kd.C_below HA.out HB.out); (case s3 => exact Kd.C_below HP.out HB.out); (case s4 => exact Kd.C_below HQ.out HB.out); (case s5 => exact Kd.C_below HS.out HB.out); rintro e w4 hcap; obtain ⟨rfl, hb⟩ := HCP.out _ _ _ hcap; clear hcap; have HB9 := Lib.hid (below_step HB.out hb); have HX9 := Lib.hid (blk_below HX.out hb); clear HB HX x0 x1 x2; have HB := HB9; have HX := HX9; clear HB9 HX9; have x0 := (blk_cell HX.out 0).trans rfl; have x1 := (blk_cell HX.out 1).trans rfl; have x2 := (blk_cell HX.out 2).trans rfl; clear hb))
   go_ret
   exact ⟨rfl, HB.out⟩
 ·have e1 : (r == 0) = false := beq_eq_false_iff_ne.2 h0
  have e2 : (r != 0) = true := bne_iff_ne.2 h0
  have H0 := Lib.hid h0
  clear h0
  go_wp2_with (first
   |(go_at_call 22; (with_reducible refine (rchk_bad n b A c l Ap cp p Aq cq q h AL cL L _ r ?s1 HC.out.1 ?s2 HC.out.2.1 ?s3 HC.out.2.2 F0.out H0.out).mono ?_); (case s1 => exact Kd.C_below HA.out HB.out); (case s2 => exact Kd.C_below HP.out HB.out); (case s3 => exact Kd.C_below HQ.out HB.out); rintro e w3 ⟨rfl, hb⟩; have HB9 := Lib.hid (below_step HB.out hb); have HX9 := Lib.hid (blk_below HX.out hb); clear HB HX x0 x1 x2; have HB := HB9; have HX := HX9; clear HB9 HX9; have x0 := (blk_cell HX.out 0).trans rfl; have x1 := (blk_cell HX.out 1).trans rfl; have x2 := (blk_cell HX.out 2).trans rfl; clear hb)
   |(go_at_call 23; (with_reducible refine (cap_bad n b A c l Ap cp p Aq cq q h AX cX X _ r ?s1 H0.out).mono ?_); (case s1 => exact fun W hW => HBG.out W (below_step HB.out hW)); rintro e w3 ⟨rfl, hb⟩; have HB9 := Lib.hid (below_step HB.out hb); have HX9 := Lib.hid (blk_below HX.out hb); clear HB HX x0 x1 x2; have HB := HB9; have HX := HX9; clear HB9 HX9; have x0 := (blk_cell HX.out 0).trans rfl; have x1 := (blk_cell HX.out 1).trans rfl; have x2 := (blk_cell HX.out 2).trans rfl; clear hb))
  go_ret
  exact ⟨rfl, HB.out⟩
end
end Go.Proofs.Ytcgdloldkcmhnaa.H
