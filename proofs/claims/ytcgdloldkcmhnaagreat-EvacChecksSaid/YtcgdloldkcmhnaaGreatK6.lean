/- Texts of this proof, joined; what the statement doesn't need is left out. -/
import Derived.Test.YtcgdloldkcmhnaaGreatK5
section
namespace Go.Proofs.YtcgdloldkcmhnaaGreat.H
open Go Go.RowKit Go.Proofs.YtcgdloldkcmhnaaGreat.PrintC Go.Proofs.YtcgdloldkcmhnaaGreat.PrintE Go.Proofs.YtcgdloldkcmhnaaGreatW.PrintWords Go.Proofs.YtcgdloldkcmhnaaGreatW.PrintLast Go.Proofs.YtcgdloldkcmhnaaGreatW.PrintMore Go.Proofs.YtcgdloldkcmhnaaGreat.Flow
set_option linter.unusedVariables false
set_option linter.unusedSimpArgs false
def roomS (S : Int → Int) : List Grp → Int
 |[] => 0
 |g :: q => S g.f0 + roomS S q
theorem roomS_append (S : Int → Int) : ∀ a b : List Grp, roomS S (a ++ b) = roomS S a + roomS S b
 |[], b => by rw [List.nil_append, roomS]; omega
 |x :: a, b => by rw [List.cons_append, roomS, roomS, roomS_append S a b]; omega
theorem roomS_take (S : Int → Int) {q : List Grp} {i : Nat} (h : i < q.length) : roomS S (q.take (i + 1)) = roomS S (q.take i) + S (grpAt q i).f0 := by
 rw [grp_take h, roomS_append, roomS, roomS]
 omega
theorem rooms_is {n : Nat} (S : Int → Int) : ∀ {q : List Grp}, (q.map fun g => g.f0).Nodup → (∀ g, g ∈ q → (0 ≤ g.f0 ∧ g.f0 < n) ∧ 0 ≤ g.f1) → roomS S q = sumN n (fun v => if 0 ≤ gOf (v : Int) q then S v else 0)
 |[], _, _ => by
  rw [roomS, sumN_zero]
  intro i _
  rw [if_neg (by unfold gOf; decide)]
 |g :: q, hd, h0 => by
  rw [List.map_cons, List.nodup_cons] at hd
  have ih := rooms_is (n := n) S hd.2 (fun x hx => h0 x (List.mem_cons_of_mem _ hx))
  have h1 := h0 g (List.mem_cons_self ..)
  have hn : gOf g.f0 q < 0 := by
   refine (gOf_neg g.f0 (fun x hx => (h0 x (List.mem_cons_of_mem _ hx)).2)).2 ?_
   rw [hasK_putGs, List.any_eq_false]
   intro x hx e2
   exact hd.1 (List.mem_map.2 ⟨x, hx, of_decide_eq_true e2⟩)
  have e : ∀ v : Nat, v < n → (if 0 ≤ gOf (v : Int) (g :: q) then S v else 0) = (if v = g.f0.toNat then S g.f0 else (if 0 ≤ gOf (v : Int) q then S v else 0)) := fun v _ => by
   show (if 0 ≤ (if g.f0 = (v : Int) then g.f1 else gOf (v : Int) q) then S v else 0) = _
   by_cases c : g.f0 = v
   ·rw [if_pos c, if_pos h1.2, if_pos (show v = g.f0.toNat by omega), c]
   ·rw [if_neg c, if_neg (show ¬ v = g.f0.toNat by omega)]
  rw [sumN_congr n e, sumN_set _ _ _ n (by omega), ← ih, roomS, Int.toNat_of_nonneg h1.1.1, if_neg (by omega)]
  omega
theorem right_bad {n h : Nat} {b : Bool} {l : List Arc} {p q : List Grp} {m : List Mv} {v z : Nat} (hp : ∀ g, g ∈ p → 0 ≤ g.f1) (hq : ∀ g, g ∈ q → 0 ≤ g.f1) (en : Bool) (he : en = decide (z = h)) :
  rightB (hasK (putGs q) (v : Int)) (if 0 ≤ gOf (v : Int) q then gOf (v : Int) q else 0) (b || (hasK (putGs p) (v : Int) || hasK (putGs q) (v : Int))) (hasK (putGs p) (v : Int) || hasK (putGs q) (v : Int)) en (stockK l p m v z) = true ↔ ¬ BadAt h b l p q m v z := by
 have e1 : ∀ {r : List Grp}, (∀ g, g ∈ r → 0 ≤ g.f1) → hasK (putGs r) (v : Int) = decide (0 ≤ gOf (v : Int) r) := fun {r} hr => by
  have := gOf_neg (v : Int) hr
  cases hc : hasK (putGs r) (v : Int) with
  |false => exact (decide_eq_false (by have := this.2 hc; omega)).symm
  |true => exact (decide_eq_true (by
    by_cases c : gOf (v : Int) r < 0
    ·rw [this.1 c] at hc; cases hc
    ·omega)).symm
 have e2 : en = decide ((z : Int) = (h : Int)) := by
  rw [he]
  exact decide_eq_decide.2 (by omega)
 unfold BadAt keepsOf
 rw [e1 hp, e1 hq, e2]
 exact right_is (fun h9 => by rw [h9, Bool.or_true])
set_option maxHeartbeats 8000000 in
set_option maxRecDepth 100000 in
theorem check_walk (n h : Nat) (b : Bool) (A : Option Addr) (c : Nat) (l : List Arc) (Ap : Option Addr) (cp : Nat) (p : List Grp) (Aq : Option Addr) (cq : Nat) (q : List Grp) (AL : Option Addr) (cL : Nat) (L : List Mv) (w : World) (a : AskOk n h l p q)
  (hBG : ∀ W, Below w.heap.size w W → Calls Tryz.prog 25 #[.agg #[.int .i64 n, .bool b, .slice A l.length c], .slice Ap p.length cp, .slice Aq q.length cq, .int .i64 h] W (BegunAt n b A c l Ap cp p Aq cq q 0 W))
  (hr : Kd.C kArc w A l.length l) (hp : Kd.C kGrp w Ap p.length p) (hq : Kd.C kGrp w Aq q.length q) (hL : Kd.C kMv w AL L.length L) (hw : ∀ x, x ∈ L → WfM x)
  (hi : ∀ x, x ∈ L → -9223372036854775808 ≤ x.f2 ∧ x.f2 ≤ 9223372036854775807) (hl : L.length ≤ 100000) :
  Calls Tryz.prog 17 #[.agg #[.int .i64 n, .bool b, .slice A l.length c], .slice Ap p.length cp, .slice Aq q.length cq, .int .i64 h, .slice AL L.length cL] w (ChkAt n h b l p q L w) := by
 have hu := Tryz.underlying33
 have hu3 := Tryz.underlying59
 have HBG := zh hBG
 have HR := zh hr
 have HPP := zh hp
 have HQQ := zh hq
 have HLL := zh hL
 have HWF := zh hw
 have HI := zh hi
 have HA := zh a
 have hhb := a.hh
 have HPL := zh a.place
 have n1 := a.place.net.n1
 have n0 := a.place.net.n0
 have hlp := a.place.lp
 have hlq := a.place.lq
 have HQ0 : Hid (∀ g, g ∈ q → 0 ≤ g.f1) := zh (fun g hg => (a.place.gq g hg).2.1)
 have HP0 : Hid (∀ g, g ∈ p → 0 ≤ g.f1) := zh (fun g hg => (a.place.gp g hg).2.1)
 have HTI : Hid (∀ i : Int, 0 ≤ i → i < l.length → 0 ≤ (rd_T104 l i).f3 ∧ (rd_T104 l i).f3 ≤ 1048576 ∧ Wf (rd_T104 l i).f0) := zh (fun i h0 h1 => by
  have h2 := a.place.net.time i.toNat (by omega)
  have h3 := a.place.net.ends i.toNat (by omega)
  unfold arcAt at h2 h3
  rw [Int.toNat_of_nonneg h0] at h2 h3
  exact ⟨h2.1, h2.2, small_wf h3.1.1 (by omega)⟩)
 clear hBG hr hp hq hL hw hi a
 go_enter Tryz.func17, Tryz.ntmps17
 obtain ⟨w0, hw0⟩ : ∃ w0, w0 = (w.alloc (.cells #[.int .i64 n, .bool b, .slice A l.length c] 33)).alloc (.cells #[.int .i64 h] 3) := ⟨_, rfl⟩
 have HX0 : Hid (w0.heap[w.heap.size + 1]? = some (.cells #[.int .i64 h] 3 (0, 0)) ∧ Below w.heap.size w w0) := zh (by
  rw [hw0]
  refine ⟨?_, below_alloc (below_alloc (Below.refl _ _) _) _⟩
  have h9 := heap_alloc_new (w.alloc (.cells #[.int .i64 n, .bool b, .slice A l.length c] 33)) (.cells #[.int .i64 h] 3)
  rw [alloc_size] at h9
  exact h9)
 go_wp2_with (first
  |(go_at_call 25; rw [← hw0]; (with_reducible refine (HBG.out _ ?s1).mono ?_); (case s1 => exact HX0.out.2); rintro e w1 ⟨hb, (⟨h9, _⟩ | ⟨_, gp, bh, br, rfl, hge, hPl⟩)⟩; (exact absurd rfl h9); have HM1 := zh (And.intro (blk_below HX0.out.1 hb) (And.intro (below_step HX0.out.2 hb) hPl)); clear hb hge hPl HX0)
  |(go_at_call 40; go_loud (obtain ⟨w2, hw2⟩ : ∃ w2, w2 = w1.alloc (.cells #[.pointer (some ⟨gp, 0, none⟩)] 64) := ⟨_, rfl⟩; have HM2 : Hid (w2.heap[w.heap.size + 1]? = some (.cells #[.int .i64 h] 3 (0, 0)) ∧ w2.heap[w1.heap.size]? = some (.cells #[.pointer (some ⟨gp, 0, none⟩)] 64 (0, 0)) ∧ Below w.heap.size w w2 ∧ PlI gp (placeCells n b A l.length c Ap p.length cp Aq q.length cq bh br) bh br p.length q.length (putGs p) (putGs q) w2) := zh (by rw [hw2]; exact ⟨blk_alloc HM1.out.1 _, heap_alloc_new _ _, below_alloc HM1.out.2.1 _, HM1.out.2.2.below (below_alloc (Below.refl _ _) _)⟩); rw [← hw2]; clear hw2 HM1; (with_reducible refine (moves_walk AL cL L _ ?s1 ?s2 ?s3 ?s4).mono ?_); (case s1 => exact Kd.C_below HLL.out HM2.out.2.2.1); (case s2 => exact HWF.out); (case s3 => exact HI.out); (case s4 => exact hl); rintro e w3 ⟨hb, (⟨rfl, hov⟩ | ⟨m, A1, c1, rfl, hm, hmg, hml⟩)⟩; all_goals (have HM3 := zh (And.intro (blk_below HM2.out.1 hb) (And.intro (blk_below HM2.out.2.1 hb) (And.intro (below_step HM2.out.2.2.1 hb) (HM2.out.2.2.2.below hb)))); clear HM2 hb))))
 ·have HOV := zh hov
  clear hov
  go_ret2
  exact ⟨HM3.out.2.2.1, .inl ⟨10, rfl, rfl, rfl, .inl (.inl ⟨rfl, HOV.out⟩)⟩⟩
 ·have HMG := zh hmg
  have HMC := zh (Kd.R_reads' hm).2.2
  have hml2 : m.length ≤ 100000 := Nat.le_trans hml hl
  clear hm hmg hml
  obtain ⟨pb, hpb⟩ : ∃ pb, pb = w1.heap.size := ⟨_, rfl⟩
  obtain ⟨hz, hhz⟩ : ∃ hz, hz = w.heap.size + 1 := ⟨_, rfl⟩
  rw [← hpb, ← hhz] at HM3 ⊢
  clear hpb hhz
  have HCT : Hid (∀ W, Below w3.heap.size w3 W → Calls Tryz.prog 41 #[.slice A1 m.length c1, .func (.func 42) #[] #[.pointer (some ⟨pb, 0, none⟩), .pointer (some ⟨hz, 0, none⟩)]] W (BoolAt (m.any fun x => !mok l h q x) W)) := zh (fun W hW => contains_walk pb hz (fun x => !mok l h q x) A1 c1 m W (Kd.C_below HMC.out hW) hml2 (fun x hx W1 hW1 => bad_walk gp pb hz h x (mok l h q x) W1 (blk_below HM3.out.2.1 (below_step hW hW1)) (blk_below HM3.out.1 (below_step hW hW1)) (fun W2 hW2 => may_walk gp n b A c l Ap p.length cp Aq q.length cq bh br p.length q.length (putGs p) (putGs q) h x.f0 x.f1 x.f2 (mok l h q x) (arcOf l x) rfl (mok_may HPL.out.net HQ0.out) W2 (HM3.out.2.2.2.below (below_step (below_step hW hW1) hW2)) (Kd.C_below HR.out (below_step HM3.out.2.2.1 (below_step (below_step hW hW1) hW2))) HTI.out (by omega) (by omega))))
  cases hany : m.any (fun x => !mok l h q x) with
  |true =>
   have HANY := zh hany
   clear hany
   go_wp2_with (go_at_call 41; go_loud ((with_reducible refine (HCT.out _ ?s1).mono ?_); (case s1 => exact Below.refl _ _); rintro e w4 ⟨rfl, hb⟩; rw [HANY.out]; have HB4 := zh (below_step HM3.out.2.2.1 hb); clear hb))
   go_ret2
   obtain ⟨x, hx, h9⟩ := List.any_eq_true.1 HANY.out
   exact ⟨HB4.out, .inl ⟨140, rfl, rfl, rfl, .inl (.inr ⟨rfl, m, HMG.out, x, hx, by simpa using h9⟩)⟩⟩
  |false =>
   have HANY := zh hany
   have HOK : Hid (∀ x, x ∈ m → mok l h q x = true) := zh (fun x hx => by
    have := List.any_eq_false.1 hany x hx
    simpa using this)
   have HIN : Hid (∀ x, x ∈ m → MvIn l x ∧ x.f1 + (arcOf l x).f3 ≤ h) := zh (fun x hx => ⟨mok_in hhb HPL.out.caps (HOK.out x hx), by
    have h9 := HOK.out x hx
    unfold mok at h9
    exact (of_decide_eq_true (Bool.and_eq_true_iff.1 h9).1).2.2.2.2.1⟩)
   clear hany
   go_wp2_with (first
    |(go_at_call 41; go_loud ((with_reducible refine (HCT.out _ ?s1).mono ?_); (case s1 => exact Below.refl _ _); rintro e w4 ⟨rfl, hb⟩; rw [HANY.out]; have HM4 := zh (And.intro (blk_below HM3.out.1 hb) (And.intro (blk_below HM3.out.2.1 hb) (And.intro (below_step HM3.out.2.2.1 hb) (And.intro (HM3.out.2.2.2.below hb) (Kd.C_below HMC.out hb))))); have x8 := (blk_cell HM4.out.1 0).trans rfl; have x12 := (blk_cell HM4.out.2.1 0).trans rfl; clear hb HM3))
    |(go_at_call 44; go_loud ((with_reducible refine (stocks_walk gp n h b A c l Ap cp p Aq q.length cq bh br p.length q.length (putGs p) (putGs q) A1 c1 m _ ?s1 ?s2 ?s3 ?s4 HPL.out.net HPL.out.gp HA.out.grp.dp hlp hhb HIN.out hml2).mono ?_); (case s1 => exact HM4.out.2.2.2.1); (case s2 => exact Kd.C_below HR.out HM4.out.2.2.1); (case s3 => exact Kd.C_below HPP.out HM4.out.2.2.1); (case s4 => exact HM4.out.2.2.2.2); rintro e w5 ⟨g, cT, rfl, hM⟩; generalize hH1 : h + 1 = H1 at hM ⊢; have HMX := zh (And.intro hM hH1); have HM5 := zh (And.intro (blk_below HM4.out.1 hM.low) (And.intro (blk_below HM4.out.2.1 hM.low) (And.intro (below_step HM4.out.2.2.1 hM.low) (HM4.out.2.2.2.1.below hM.low)))); have hh1 : h < H1 := (by omega); have hh2 : H1 ≤ 1025 := (by omega); clear hM hH1 HM4 x8 x12)))
   go_loopg [10, 49] (H1 + 1) (fun k sv tv W => ∃ t : Nat, t ≤ H1 ∧ sv = .int .i64 0 ∧ tv = .int .i64 t ∧ k = H1 + 1 - t ∧ Hid (Below w5.heap.size w5 W ∧ ∀ v z : Nat, v < n → z < t → ¬ BadAt h b l p q m v z))
   case atStart => exact ⟨0, Nat.zero_le _, rfl, rfl, rfl, zh ⟨Below.refl _ _, fun v z _ hz => absurd hz (Nat.not_lt_zero _)⟩⟩
   case round =>
    obtain ⟨t, ht, rfl, rfl, rfl, HL⟩ := hrel
    by_cases hlt : t < H1
    ·have i0 : (0 : Int) ≤ (t : Int) := by omega
     have i1 : (t : Int) < (H1 : Int) := by omega
     obtain ⟨gr, cr, hne, k0, -, -, -⟩ := (HMX.out.1.below HL.out.1).cell (a := t) (v := 0) hlt n0
     have HX := zh (And.intro HL.out.1 k0)
     go_wp2
     go_loopg [10, 56] (n + 1) (fun k sv vv W => ∃ v : Nat, v ≤ n ∧ sv = .int .i64 0 ∧ vv = .int .i64 v ∧ k = n + 1 - v ∧ Hid (Below w5.heap.size w5 W ∧ W.cell? ⟨g, t, none⟩ = some (.slice (some ⟨gr, 0, none⟩) n cr) ∧ ∀ v' : Nat, v' < v → ¬ BadAt h b l p q m v' t))
     case atStart => exact ⟨0, Nat.zero_le _, rfl, rfl, rfl, zh ⟨HX.out.1, HX.out.2, fun v' hv => absurd hv (Nat.not_lt_zero _)⟩⟩
     case round =>
      obtain ⟨v, hv, rfl, rfl, rfl, HL2⟩ := hrel
      clear HX k0
      by_cases hvn : v < n
      ·have v0 : (0 : Int) ≤ (v : Int) := by omega
       have v1 : (v : Int) < (n : Int) := by omega
       obtain ⟨g3, c3, -, k0, k1, -, -⟩ := (HMX.out.1.below HL2.out.1).cell (a := t) (v := v) hlt hvn
       have k9 := HL2.out.2.1
       rw [k0] at k9
       injection k9 with k9
       injection k9 with k9 _ k8
       injection k9 with k9
       injection k9 with k9
       subst k9 k8
       have x8 : wr.cell? ⟨hz, 0, none⟩ = some (.int .i64 h) := (blk_cell (blk_below HM5.out.1 HL2.out.1) 0).trans rfl
       have x12 : wr.cell? ⟨pb, 0, none⟩ = some (.pointer (some ⟨gp, 0, none⟩)) := (blk_cell (blk_below HM5.out.2.1 HL2.out.1) 0).trans rfl
       obtain ⟨K, hK⟩ : ∃ K, K = stockK l p m v t := ⟨_, rfl⟩
       obtain ⟨en, hen⟩ : ∃ en, en = decide (t = h) := ⟨_, rfl⟩
       have he1 : ((t : Int) == (h : Int)) = en := by
        rw [hen]
        by_cases e : t = h
        ·rw [decide_eq_true e]; exact beq_iff_eq.2 (by omega)
        ·rw [decide_eq_false e]; exact beq_eq_false_iff_ne.2 (by omega)
       have hrb := right_bad (n := n) (h := h) (b := b) (l := l) (m := m) (v := v) (z := t) HP0.out HQ0.out en hen
       rw [← hK] at k1 hrb
       obtain ⟨R, hR⟩ : ∃ R, R = rightB (hasK (putGs q) (v : Int)) (if 0 ≤ gOf (v : Int) q then gOf (v : Int) q else 0) (b || (hasK (putGs p) (v : Int) || hasK (putGs q) (v : Int))) (hasK (putGs p) (v : Int) || hasK (putGs q) (v : Int)) en K := ⟨_, rfl⟩
       rw [← hR] at hrb
       have HRR := zh hR
       have HRB := zh hrb
       have HK0 := zh k0
       clear hK hen hR hrb
       have HRW : Hid (∀ W, Below wr.heap.size wr W → Calls Tryz.prog 45 #[.pointer (some ⟨gp, 0, none⟩), .int .i64 v, .int .i64 K, .bool en] W fun e w' => e = .returned (.bool R) ∧ w' = W) := zh (fun W hW => right_walk gp n b A l.length c Ap p.length cp Aq q.length cq bh br p.length q.length p q v K en R W (HM5.out.2.2.2.below (below_step HL2.out.1 hW)) (small_wf (by omega) (by omega)) HA.out.grp.dq HQ0.out HRR.out)
       cases R with
       |true =>
        go_wp2_with (go_at_call 45; go_loud ((with_reducible refine (HRW.out _ ?s1).mono ?_); (case s1 => exact Below.refl _ _); rintro e w6 ⟨rfl, rfl⟩))
        go_roundg (n - v)
        case measure => omega
        case rel => exact ⟨v + 1, by omega, rfl, by go_num, by omega, zh ⟨HL2.out.1, HK0.out, fun v' hv' => by
         rcases Nat.lt_or_eq_of_le (Nat.le_of_lt_succ hv') with g9 | rfl
         ·exact HL2.out.2.2 v' g9
         ·exact HRB.out.1 (by first | rfl | trivial)⟩⟩
       |false =>
        go_wp2_with (go_at_call 45; go_loud ((with_reducible refine (HRW.out _ ?s1).mono ?_); (case s1 => exact Below.refl _ _); rintro e w6 ⟨rfl, rfl⟩))
        go_ret2
        refine ⟨below_step HM5.out.2.2.1 HL2.out.1, .inl ⟨141, rfl, rfl, rfl, .inr ⟨rfl, m, HMG.out, HOK.out, v, t, hvn, by have := HMX.out.2; omega, ?_⟩⟩⟩
        exact Classical.byContradiction fun h9 => by
         have := HRB.out.2 h9
         cases this
      ·have e : v = n := by omega
       subst e
       have HF : Hid (Below w5.heap.size w5 wr ∧ ∀ v' z : Nat, v' < v → z < t + 1 → ¬ BadAt h b l p q m v' z) := zh ⟨HL2.out.1, fun v' z hv' hz => by
        rcases Nat.lt_or_eq_of_le (Nat.le_of_lt_succ hz) with g9 | rfl
        ·exact HL.out.2 v' z hv' g9
        ·exact HL2.out.2.2 v' hv'⟩
       clear HL2
       go_wp2
       go_roundg (H1 - t)
       case measure => omega
       case rel => exact ⟨t + 1, by omega, rfl, by go_num, by omega, HF⟩
    ·have e : H1 = t := by omega
     subst e
     have HNB : Hid (∀ v z : Nat, v < n → z ≤ h → ¬ BadAt h b l p q m v z) := zh (fun v z hv hz => HL.out.2 v z hv (by have := HMX.out.2; omega))
     have HB := zh HL.out.1
     clear HL
     go_wp2
     go_loopg [10, 73] (q.length + 1) (fun k sv iv W => ∃ (i : Nat) (S : Int), i ≤ q.length ∧ sv = .int .i64 S ∧ iv = .int .i64 i ∧ k = q.length + 1 - i ∧ 0 ≤ S ∧ S ≤ (i : Int) * 1048576 ∧ Hid (S = roomS (fun v => stockK l p m v h) (q.take i) ∧ Below w5.heap.size w5 W))
     case atStart => exact ⟨0, 0, Nat.zero_le _, rfl, rfl, rfl, Int.le_refl _, by omega, zh ⟨by rw [List.take_zero]; rfl, HB.out⟩⟩
     case round =>
      obtain ⟨i, S, hi2, rfl, rfl, rfl, s0, s1, HL⟩ := hrel
      clear HB
      by_cases hlt2 : i < q.length
      ·have i0 : (0 : Int) ≤ (i : Int) := by omega
       have i1 : (i : Int) < (q.length : Int) := by omega
       obtain ⟨ad, ea, y0, y1⟩ := at_T59 (Kd.C_below HQQ.out (below_step HM5.out.2.2.1 HL.out.2)) (i : Int) i0 i1
       subst ea
       rw [Int.toNat_natCast] at y0 y1
       have hst := roomS_take (fun v => stockK l p m v h) hlt2
       obtain ⟨G, hG⟩ : ∃ G, G = grpAt q i := ⟨_, rfl⟩
       have hG2 : rd_T59 q (i : Int) = G := by rw [hG]; rfl
       rw [hG2] at y0 y1
       rw [← hG] at hst
       have hgm : G ∈ q := by rw [hG]; exact grp_mem hlt2
       have hgi := HPL.out.gq G hgm
       obtain ⟨u, hu0⟩ := nat_of hgi.1.1
       have u1 : (u : Int) < (n : Int) := by have := hgi.1.2; omega
       have u0 : (0 : Int) ≤ (u : Int) := by omega
       obtain ⟨K, hK⟩ : ∃ K, K = stockK l p m u h := ⟨_, rfl⟩
       have hkb : 0 ≤ K ∧ K ≤ 1048576 := by
        have h9 := HNB.out u h (by omega) (Nat.le_refl _)
        unfold BadAt BadP at h9
        rw [← hK] at h9
        have h8 := gOf_le (v := (u : Int)) (show (-1 : Int) ≤ 1048576 by decide) (fun g hg => (HPL.out.gq g hg).2.2)
        have h7 : ¬ gOf (u : Int) q < 0 := fun e => by
         have := (gOf_neg (u : Int) HQ0.out).1 e
         rw [hasK_putGs, List.any_eq_false] at this
         exact this G hgm (decide_eq_true hu0)
        constructor
        ·exact Int.not_lt.1 fun e => h9 (.inl e)
        ·have : ¬ gOf (u : Int) q < K := fun e => h9 (.inr (.inl ⟨by omega, e⟩))
         omega
       rw [hu0] at y0 hst
       simp only [← hK] at hst
       obtain ⟨N, hN⟩ : ∃ N, N = G.f1 := ⟨_, rfl⟩
       rw [← hN] at y1
       obtain ⟨gr, cr, hne, k0, k1, -, -⟩ := (HMX.out.1.below HL.out.2).cell (a := h) (v := u) hh1 (by omega)
       rw [← hK] at k1
       have HST := zh hst
       have e6 : IntKind.i64.wrap (S + K) = S + K := IntWalk.i64_in _ (by omega)
       have h0 : (0 : Int) ≤ (h : Int) := by omega
       have h1 : (h : Int) < (H1 : Int) := by omega
       clear hG hG2 hgm hgi hu0 hK hst hN
       obtain ⟨wa, hwa⟩ : ∃ wa, wa = wr.alloc (.cells #[.int .i64 u, .int .i64 N] 59) := ⟨_, rfl⟩
       have HB : Hid (Below wr.heap.size wr wa.drew ∧ wa.drew.heap[wr.heap.size]? = some (.cells #[.int .i64 u, .int .i64 N] 59 (0, 0))) := zh (by rw [hwa]; exact ⟨below_drew1 (below_alloc (Below.refl _ _) _), blk_drew (heap_alloc_new _ _)⟩)
       have x8 : wa.drew.cell? ⟨hz, 0, none⟩ = some (.int .i64 h) := (blk_cell (blk_below HM5.out.1 (below_step HL.out.2 HB.out.1)) 0).trans rfl
       have q0 := pw_cell_below HB.out.1 k0
       have q1 := pw_cell_below HB.out.1 k1
       have r0 : wa.drew.cell? ⟨wr.heap.size, 0, none⟩ = some (.int .i64 u) := (blk_cell HB.out.2 0).trans rfl
       clear k0 k1
       go_wp2
       rw [← hwa]
       refine stepS (S := fun w' => w'.cell? ⟨hz, 0, none⟩ = some (.int .i64 h) ∧ w'.cell? ⟨g, h, none⟩ = some (.slice (some ⟨gr, 0, none⟩) n cr) ∧ w'.cell? ⟨wr.heap.size, 0, none⟩ = some (.int .i64 u) ∧ w'.cell? ⟨gr, u, none⟩ = some (.int .i64 K)) (ds := []) 11 (by kernel_rfl) rfl ⟨x8, q0, r0, q1⟩ (fun hHeld => ?_)
       clear hwa y0 y1
       generalize wa.drew = wd at HB hHeld x8 q0 q1 r0 ⊢
       obtain ⟨gb, hgb⟩ : ∃ gb, gb = wr.heap.size := ⟨_, rfl⟩
       rw [← hgb] at hHeld r0 ⊢
       clear hgb
       repeat (first | refine rP 11 ?_ | refine rT 11 hHeld ?_)
       refine done_ (by kernel_rfl) ?_
       clear hHeld x8 q0 q1 r0
       go_wp2
       go_roundg (q.length - i)
       case measure => omega
       case rel => exact ⟨i + 1, S + K, by omega, by go_num, by go_num, by omega, by omega, by omega, zh ⟨by rw [HST.out, HL.out.1], below_step HL.out.2 HB.out.1⟩⟩
      ·have e : i = q.length := by omega
       subst e
       go_wp2
       go_ret2
       refine ⟨below_step HM5.out.2.2.1 HL.out.2, .inr ⟨m, ⟨HMG.out, HOK.out, HNB.out⟩, ?_⟩⟩
       have h9 := HL.out.1
       rw [List.take_length, rooms_is (n := n) _ HA.out.grp.dq (fun g hg => ⟨(HPL.out.gq g hg).1, HQ0.out g hg⟩)] at h9
       rw [h9]
       rfl
theorem hasL_append (X Y : List Slot) (v z : Int) : hasL (X ++ Y) v z = (hasL X v z || hasL Y v z) := by
 unfold hasL
 rw [List.any_append]
set_option maxHeartbeats 4000000 in
set_option maxRecDepth 100000 in
theorem r18has_walk (A : Option Addr) (c : Nat) (X : List Slot) (v z : Int) (R : Bool) (w : World) (hr : Kd.C kSlot w A X.length X) (hlX : X.length ≤ 1000000) (hR : R = hasL X v z) :
  Calls Tryz.prog 55 #[.slice A X.length c, .int .i64 v, .int .i64 z] w fun e w' => e = .returned (.bool R) ∧ Below w.heap.size w w' := by
 have HR := zh hr
 have HRR := zh hR
 clear hr hR
 go_enter Tryz.func55, Tryz.ntmps55
 go_wp2
 go_loopg [7] (X.length + 1) (fun k iv W => ∃ i : Nat, i ≤ X.length ∧ iv = .int .i64 i ∧ k = X.length + 1 - i ∧ Hid (Below w.heap.size w W ∧ hasL (X.take i) v z = false))
 case atStart => exact ⟨0, Nat.zero_le _, rfl, rfl, zh ⟨Below.refl _ _, by rw [List.take_zero]; rfl⟩⟩
 case round =>
  obtain ⟨i, hi, rfl, rfl, HL⟩ := hrel
  by_cases hlt : i < X.length
  ·have i0 : (0 : Int) ≤ (i : Int) := by omega
   have i1 : (i : Int) < (X.length : Int) := by omega
   obtain ⟨ad, ea, y0, y1⟩ := at_T110 (Kd.C_below HR.out HL.out.1) (i : Int) i0 i1
   subst ea
   rw [Int.toNat_natCast] at y0 y1
   have hst := slot_take hlt
   obtain ⟨s, hs⟩ : ∃ s, s = rd_T110 X (i : Int) := ⟨_, rfl⟩
   rw [← hs] at y0 y1 hst
   have hc : ((s.f0 == v) = false ∧ Hid (hasL [s] v z = false)) ∨ ((s.f0 == v) = true ∧ (s.f1 == z) = false ∧ Hid (hasL [s] v z = false)) ∨ ((s.f0 == v) = true ∧ (s.f1 == z) = true ∧ Hid (hasL [s] v z = true)) := by
    have e : hasL [s] v z = decide (s.f0 = v ∧ s.f1 = z) := by simp [hasL]
    rw [e]
    by_cases c1 : s.f0 = v
    ·by_cases c2 : s.f1 = z
     ·exact .inr (.inr ⟨beq_iff_eq.2 c1, beq_iff_eq.2 c2, zh (decide_eq_true ⟨c1, c2⟩)⟩)
     ·exact .inr (.inl ⟨beq_iff_eq.2 c1, beq_eq_false_iff_ne.2 c2, zh (decide_eq_false (fun e => c2 e.2))⟩)
    ·exact .inl ⟨beq_eq_false_iff_ne.2 c1, zh (decide_eq_false (fun e => c1 e.1))⟩
   have HST := zh hst
   clear hs hst
   rcases hc with ⟨c1, HC⟩ | ⟨c1, c2, HC⟩ | ⟨c1, c2, HC⟩
   iterate 2
    ·go_wp2
     go_roundg (X.length - i)
     case measure => omega
     case rel => exact ⟨i + 1, by omega, by go_num, by omega, zh ⟨HL.out.1, by rw [HST.out, hasL_append, HL.out.2, HC.out]; rfl⟩⟩
   ·go_wp2
    go_ret
    refine ⟨?_, HL.out.1⟩
    have h9 : hasL X v z = true := by
     rw [← List.take_append_drop (i + 1) X, hasL_append, HST.out, hasL_append, HC.out]
     simp
    rw [HRR.out, h9]
    rfl
  ·have e : i = X.length := by omega
   subst e
   have h9 := HL.out.2
   rw [List.take_length] at h9
   have H9 := zh h9
   clear h9
   go_wp2
   go_ret
   refine ⟨?_, HL.out.1⟩
   rw [HRR.out, H9.out]
   rfl
def RRisesAt (H : Int → Int → Bool) (v : Int) (h : Nat) (w : World) (e : Ending) (w' : World) : Prop := Below w.heap.size w w' ∧ ((e = .returned (.bool true) ∧ ∀ z : Nat, z < h → H v z = true → H v ((z : Int) + 1) = true) ∨ (e = .returned (.bool false) ∧ ∃ z : Nat, z < h ∧ H v z = true ∧ H v ((z : Int) + 1) = false))
set_option maxHeartbeats 4000000 in
set_option maxRecDepth 100000 in
theorem rrises_walk (A : Option Addr) (c : Nat) (X : List Slot) (v : Int) (h : Nat) (w : World) (hr : Kd.C kSlot w A X.length X) (hlX : X.length ≤ 1000000) (hh : h ≤ 100000) :
  Calls Tryz.prog 53 #[.slice A X.length c, .int .i64 v, .int .i64 h] w (RRisesAt (hasL X) v h w) := by
 have HR := zh hr
 clear hr
 go_enter Tryz.func53, Tryz.ntmps53
 go_wp2
 go_loopg [7] (h + 1) (fun k iv W => ∃ z : Nat, z ≤ h ∧ iv = .int .i64 z ∧ k = h + 1 - z ∧ Hid (Below w.heap.size w W) ∧ Hid (∀ z' : Nat, z' < z → hasL X v z' = true → hasL X v ((z' : Int) + 1) = true))
 case atStart => exact ⟨0, Nat.zero_le _, rfl, rfl, zh (Below.refl _ _), zh (fun z' hz => absurd hz (Nat.not_lt_zero _))⟩
 case round =>
  obtain ⟨z, hz, rfl, rfl, HL, HA⟩ := hrel
  by_cases hlt : z < h
  ·have hlt2 : (z : Int) < (h : Int) := by omega
   cases h1 : hasL X v z with
   |false =>
    have H1 := zh h1
    clear h1
    go_wp2_with (go_at_call 55; (with_reducible refine (r18has_walk A c X v z false _ ?s1 ?s2 ?s3).mono ?_); (case s1 => exact Kd.C_below HR.out HL.out); (case s2 => exact hlX); (case s3 => exact H1.out.symm); rintro e w2 ⟨rfl, hb⟩; have HB := zh (below_step HL.out hb); clear hb)
    go_roundg (h - z)
    case measure => omega
    case rel => exact ⟨z + 1, by omega, by go_num, by omega, HB, zh (fun z' hz' h9 => by
     rcases Nat.lt_or_eq_of_le (Nat.le_of_lt_succ hz') with g | rfl
     ·exact HA.out z' g h9
     ·rw [H1.out] at h9
      cases h9)⟩
   |true =>
    cases h2 : hasL X v ((z : Int) + 1) with
    |true =>
     have H1 := zh h1
     have H2 := zh h2
     clear h1 h2
     go_wp2_with (first
      |(go_at_call 55; (with_reducible refine (r18has_walk A c X v z true _ ?s1 ?s2 ?s3).mono ?_); (case s1 => exact Kd.C_below HR.out HL.out); (case s2 => exact hlX); (case s3 => exact H1.out.symm); rintro e w2 ⟨rfl, hb⟩; have HB := zh (below_step HL.out hb); clear hb)
      |(go_at_call 55; (with_reducible refine (r18has_walk A c X v ((z : Int) + 1) true _ ?s1 ?s2 ?s3).mono ?_); (case s1 => exact Kd.C_below HR.out HB.out); (case s2 => exact hlX); (case s3 => exact H2.out.symm); rintro e w2 ⟨rfl, hb⟩; have HB3 := zh (below_step HB.out hb); clear hb))
     go_roundg (h - z)
     case measure => omega
     case rel => exact ⟨z + 1, by omega, by go_num, by omega, HB3, zh (fun z' hz' h9 => by
      rcases Nat.lt_or_eq_of_le (Nat.le_of_lt_succ hz') with g | rfl
      ·exact HA.out z' g h9
      ·exact H2.out)⟩
    |false =>
     have H1 := zh h1
     have H2 := zh h2
     clear h1 h2
     go_wp2_with (first
      |(go_at_call 55; (with_reducible refine (r18has_walk A c X v z true _ ?s1 ?s2 ?s3).mono ?_); (case s1 => exact Kd.C_below HR.out HL.out); (case s2 => exact hlX); (case s3 => exact H1.out.symm); rintro e w2 ⟨rfl, hb⟩; have HB := zh (below_step HL.out hb); clear hb)
      |(go_at_call 55; (with_reducible refine (r18has_walk A c X v ((z : Int) + 1) false _ ?s1 ?s2 ?s3).mono ?_); (case s1 => exact Kd.C_below HR.out HB.out); (case s2 => exact hlX); (case s3 => exact H2.out.symm); rintro e w2 ⟨rfl, hb⟩; have HB3 := zh (below_step HB.out hb); clear hb))
     go_ret
     exact ⟨HB3.out, .inr ⟨rfl, z, hlt, H1.out, H2.out⟩⟩
  ·have e : z = h := by omega
   subst e
   go_wp2
   go_ret
   exact ⟨HL.out, .inl ⟨rfl, HA.out⟩⟩
set_option maxHeartbeats 8000000 in
set_option maxRecDepth 100000 in
theorem rtakes_walk (n h : Nat) (bb : Bool) (A : Option Addr) (c : Nat) (l : List Arc) (AX : Option Addr) (cX : Nat) (X : List Slot) (AU : Option Addr) (cU : Nat) (U : List Bool) (use : Arc → Bool) (w : World) (hn : NetIn n h l) (hc : ∀ i : Nat, i < l.length → 0 ≤ (arcAt l i).f2 ∧ (arcAt l i).f2 ≤ 1048576) (hh : h ≤ 1024) (hX : Kd.C kSlot w AX X.length X) (hlX : X.length ≤ 1000000) (hr : Kd.C kArc w A l.length l)
  (hU : Kd.C Kd.bool w AU U.length U) (hUl : U.length = l.length) (hUU : ∀ j : Nat, j < l.length → rdOf false U (j : Int) = use (arcAt l j)) :
  Calls Tryz.prog 54 #[.agg #[.int .i64 n, .bool bb, .slice A l.length c], .int .i64 h, .slice AX X.length cX, .slice AU U.length cU] w (TakesAt (takesV use (hasL X) h l) w) := by
 have hu := Tryz.underlying33
 have hu3 := Tryz.underlying104
 have HN := zh hn
 have HCP := zh hc
 have HXX := zh hX
 have HR := zh hr
 have HUL := zh hU
 have HUU := zh hUU
 have hll := hn.ll
 have hn1 := hn.n1
 have HUE := zh hUl
 clear hn hc hX hr hU hUU hUl
 go_enter Tryz.func54, Tryz.ntmps54
 go_wp2
 obtain ⟨w1, hw1⟩ : ∃ w1, w1 = w.alloc (.cells #[.int .i64 n, .bool bb, .slice A l.length c] 33) := ⟨_, rfl⟩
 have HX : Hid (w1.heap[w.heap.size]? = some (.cells #[.int .i64 n, .bool bb, .slice A l.length c] 33 (0, 0)) ∧ Below w.heap.size w w1) := zh (by rw [hw1]; exact ⟨heap_alloc_new _ _, below_alloc (Below.refl _ _) _⟩)
 rw [← hw1]
 clear hw1
 go_loopg [9, 10] (l.length + 1) (fun k sv jv W => ∃ (j : Nat) (S : Int), j ≤ l.length ∧ sv = .int .i64 S ∧ jv = .int .i64 j ∧ k = l.length + 1 - j ∧ 0 ≤ S ∧ S ≤ (j : Int) * 1100000000 ∧ Hid (S = sumN j (fun j => tkA use (hasL X) h (arcAt l j)) ∧ W.heap[w.heap.size]? = some (.cells #[.int .i64 n, .bool bb, .slice A l.length c] 33 (0, 0)) ∧ Below w.heap.size w W))
 case atStart => exact ⟨0, 0, Nat.zero_le _, rfl, rfl, rfl, Int.le_refl _, by omega, zh ⟨rfl, HX.out.1, HX.out.2⟩⟩
 case round =>
  obtain ⟨j, S, hj, rfl, rfl, rfl, s0, s1, HL⟩ := hrel
  clear HX
  have x2 : wr.cell? ⟨w.heap.size, 2, none⟩ = some (.slice A l.length c) := (blk_cell HL.out.2.1 2).trans rfl
  by_cases hjl : j < l.length
  ·have j0 : (0 : Int) ≤ (j : Int) := by omega
   have j1 : (j : Int) < (l.length : Int) := by omega
   have j2 : (j : Int) < (U.length : Int) := by have := HUE.out; omega
   obtain ⟨ad, ea, y0, y1, y2, y3⟩ := at_T104 (Kd.C_below HR.out HL.out.2.2) (j : Int) j0 j1
   subst ea
   rw [Int.toNat_natCast] at y0 y1 y2 y3
   obtain ⟨x, hx⟩ : ∃ x, x = arcAt l j := ⟨_, rfl⟩
   have hx2 : rd_T104 l (j : Int) = x := by rw [hx]; rfl
   rw [hx2] at y0 y1 y2 y3
   have hen := HN.out.ends j hjl
   have hti := HN.out.time j hjl
   have hcp := HCP.out j hjl
   rw [← hx] at hen hti hcp
   have f0 := hen.1.1
   have f1 := hen.1.2
   have f2 := hen.2.1
   have f3 := hen.2.2
   have t0 := hti.1
   have t1 := hti.2
   have c0 := hcp.1
   have c1 := hcp.2
   obtain ⟨u, hu9⟩ : ∃ u, use x = u := ⟨_, rfl⟩
   obtain ⟨au, eau, -⟩ := Kd.at_bool HUL.out (j : Int) j0 j2
   subst eau
   have HUJ : Hid (∀ W, Below w.heap.size w W → W.cell? (au.add j) = some (.bool u)) := zh (fun W hW => by
    obtain ⟨au2, e2, z2⟩ := Kd.at_bool (Kd.C_below HUL.out hW) (j : Int) j0 j2
    injection e2 with e2
    subst e2
    rw [Int.toNat_natCast, HUU.out j hjl, ← hx, hu9] at z2
    exact z2)
   have HUX := zh hu9
   have HXE := zh hx
   clear hx hx2 hen hti hcp hu9
   go_wp2
   obtain ⟨w4, hw4⟩ : ∃ w4, w4 = wr.alloc (.cells #[.int .i64 x.f0, .int .i64 x.f1, .int .i64 x.f2, .int .i64 x.f3] 104) := ⟨_, rfl⟩
   have HG4 : Hid (w4.heap[wr.heap.size]? = some (.cells #[.int .i64 x.f0, .int .i64 x.f1, .int .i64 x.f2, .int .i64 x.f3] 104 (0, 0)) ∧ w4.heap[w.heap.size]? = some (.cells #[.int .i64 n, .bool bb, .slice (some ad) l.length c] 33 (0, 0)) ∧ Below w.heap.size w w4) := zh (by rw [hw4]; exact ⟨heap_alloc_new _ _, blk_alloc HL.out.2.1 _, below_alloc HL.out.2.2 _⟩)
   rw [← hw4]
   clear hw4 y0 y1 y2 y3 x2
   generalize wr.heap.size = g at HG4 ⊢
   go_loopg [9, 12] (h + 3) (fun k sv zv W => ∃ (z : Nat) (s : Int), z ≤ h + 1 ∧ sv = .int .i64 s ∧ zv = .int .i64 z ∧ k = h + 3 - z ∧ 0 ≤ s ∧ s ≤ S + (z : Int) * 1048576 ∧ (z = 0 ∨ (u = true ∧ (z : Int) + x.f3 ≤ (h : Int) + 1)) ∧ Hid (s = S + sumN z (tk1 (hasL X) x) ∧ W.heap[g]? = some (.cells #[.int .i64 x.f0, .int .i64 x.f1, .int .i64 x.f2, .int .i64 x.f3] 104 (0, 0)) ∧ W.heap[w.heap.size]? = some (.cells #[.int .i64 n, .bool bb, .slice (some ad) l.length c] 33 (0, 0)) ∧ Below w.heap.size w W))
   case atStart => exact ⟨0, S, by omega, rfl, rfl, rfl, s0, by omega, .inl rfl, zh ⟨by rw [sumN]; omega, HG4.out⟩⟩
   case round =>
    obtain ⟨z, s, hz, rfl, rfl, rfl, r0, r1, hzu, HZ⟩ := hrel
    have HG := zh HZ.out.2
    have y0 : wr.cell? ⟨g, 0, none⟩ = some (.int .i64 x.f0) := (blk_cell HG.out.1 0).trans rfl; have y1 : wr.cell? ⟨g, 1, none⟩ = some (.int .i64 x.f1) := (blk_cell HG.out.1 1).trans rfl; have y2 : wr.cell? ⟨g, 2, none⟩ = some (.int .i64 x.f2) := (blk_cell HG.out.1 2).trans rfl; have y3 : wr.cell? ⟨g, 3, none⟩ = some (.int .i64 x.f3) := (blk_cell HG.out.1 3).trans rfl
    have u0 : wr.cell? (au.add j) = some (.bool u) := HUJ.out _ HG.out.2.2
    have e5 : IntKind.i64.wrap ((z : Int) + x.f3) = (z : Int) + x.f3 := IntWalk.i64_in _ (by omega)
    have e6 : IntKind.i64.wrap (s + x.f2) = s + x.f2 := IntWalk.i64_in _ (by omega)
    by_cases hzt : (z : Int) + x.f3 ≤ (h : Int)
    ·cases u with
     |false =>
      have hz0 : z = 0 := by
       rcases hzu with h9 | h9
       ·exact h9
       ·cases h9.1
      clear hzu
      go_wp2
      go_roundg (l.length - j)
      case measure => omega
      case rel => exact ⟨j + 1, s, by omega, rfl, by go_num, by omega, r0, by omega, zh ⟨by
       rw [sumN, ← HL.out.1, ← HXE.out]
       unfold tkA
       rw [HUX.out, if_neg (by decide), HZ.out.1, hz0]
       rfl, HG.out.2⟩⟩
     |true =>
      have hzu2 : Hid ((z : Int) + 1 + x.f3 ≤ (h : Int) + 1) := zh (by omega)
      clear hzu
      cases ha : hasL X x.f0 z with
      |false =>
       have HA := zh ha
       clear ha
       go_wp2_with (first
        |(go_at_call 55; (with_reducible refine (r18has_walk AX cX X x.f0 z false _ ?s1 ?s2 ?s3).mono ?_); (case s1 => exact Kd.C_below HXX.out HG.out.2.2); (case s2 => exact hlX); (case s3 => exact HA.out.symm); rintro e w2 ⟨rfl, hb⟩; have HN9 := zh (And.intro (blk_below HG.out.1 hb) (And.intro (blk_below HG.out.2.1 hb) (below_step HG.out.2.2 hb))); clear HG y0 y1 y2 y3 hb; have HG := HN9; clear HN9; have y0 : w2.cell? ⟨g, 0, none⟩ = some (.int .i64 x.f0) := (blk_cell HG.out.1 0).trans rfl; have y1 : w2.cell? ⟨g, 1, none⟩ = some (.int .i64 x.f1) := (blk_cell HG.out.1 1).trans rfl; have y2 : w2.cell? ⟨g, 2, none⟩ = some (.int .i64 x.f2) := (blk_cell HG.out.1 2).trans rfl; have y3 : w2.cell? ⟨g, 3, none⟩ = some (.int .i64 x.f3) := (blk_cell HG.out.1 3).trans rfl))
       go_roundg (h + 2 - z)
       case measure => omega
       case rel => exact ⟨z + 1, s, by omega, rfl, by go_num, by omega, r0, by omega, .inr ⟨by first | rfl | trivial, by have := hzu2.out; omega⟩, zh ⟨by
        rw [sumN, HZ.out.1]
        unfold tk1
        rw [if_neg (fun e => by rw [HA.out] at e; cases e.1)]
        omega, HG.out⟩⟩
      |true =>
       cases hb9 : hasL X x.f1 ((z : Int) + x.f3) with
       |true =>
        have HA := zh (And.intro ha hb9)
        clear ha hb9
        go_wp2_with (first
         |(go_at_call 55; (with_reducible refine (r18has_walk AX cX X x.f0 z true _ ?s1 ?s2 ?s3).mono ?_); (case s1 => exact Kd.C_below HXX.out HG.out.2.2); (case s2 => exact hlX); (case s3 => exact HA.out.1.symm); rintro e w2 ⟨rfl, hb⟩; have HN9 := zh (And.intro (blk_below HG.out.1 hb) (And.intro (blk_below HG.out.2.1 hb) (below_step HG.out.2.2 hb))); clear HG y0 y1 y2 y3 hb; have HG := HN9; clear HN9; have y0 : w2.cell? ⟨g, 0, none⟩ = some (.int .i64 x.f0) := (blk_cell HG.out.1 0).trans rfl; have y1 : w2.cell? ⟨g, 1, none⟩ = some (.int .i64 x.f1) := (blk_cell HG.out.1 1).trans rfl; have y2 : w2.cell? ⟨g, 2, none⟩ = some (.int .i64 x.f2) := (blk_cell HG.out.1 2).trans rfl; have y3 : w2.cell? ⟨g, 3, none⟩ = some (.int .i64 x.f3) := (blk_cell HG.out.1 3).trans rfl)
         |(go_at_call 55; (with_reducible refine (r18has_walk AX cX X x.f1 ((z : Int) + x.f3) true _ ?s1 ?s2 ?s3).mono ?_); (case s1 => exact Kd.C_below HXX.out HG.out.2.2); (case s2 => exact hlX); (case s3 => exact HA.out.2.symm); rintro e w2 ⟨rfl, hb⟩; have HN9 := zh (And.intro (blk_below HG.out.1 hb) (And.intro (blk_below HG.out.2.1 hb) (below_step HG.out.2.2 hb))); clear HG y0 y1 y2 y3 hb; have HG := HN9; clear HN9; have y0 : w2.cell? ⟨g, 0, none⟩ = some (.int .i64 x.f0) := (blk_cell HG.out.1 0).trans rfl; have y1 : w2.cell? ⟨g, 1, none⟩ = some (.int .i64 x.f1) := (blk_cell HG.out.1 1).trans rfl; have y2 : w2.cell? ⟨g, 2, none⟩ = some (.int .i64 x.f2) := (blk_cell HG.out.1 2).trans rfl; have y3 : w2.cell? ⟨g, 3, none⟩ = some (.int .i64 x.f3) := (blk_cell HG.out.1 3).trans rfl))
        go_roundg (h + 2 - z)
        case measure => omega
        case rel => exact ⟨z + 1, s, by omega, rfl, by go_num, by omega, r0, by omega, .inr ⟨by first | rfl | trivial, by have := hzu2.out; omega⟩, zh ⟨by
         rw [sumN, HZ.out.1]
         unfold tk1
         rw [if_neg (fun e => by rw [HA.out.2] at e; cases e.2)]
         omega, HG.out⟩⟩
       |false =>
        have HA := zh (And.intro ha hb9)
        clear ha hb9
        go_wp2_with (first
         |(go_at_call 55; (with_reducible refine (r18has_walk AX cX X x.f0 z true _ ?s1 ?s2 ?s3).mono ?_); (case s1 => exact Kd.C_below HXX.out HG.out.2.2); (case s2 => exact hlX); (case s3 => exact HA.out.1.symm); rintro e w2 ⟨rfl, hb⟩; have HN9 := zh (And.intro (blk_below HG.out.1 hb) (And.intro (blk_below HG.out.2.1 hb) (below_step HG.out.2.2 hb))); clear HG y0 y1 y2 y3 hb; have HG := HN9; clear HN9; have y0 : w2.cell? ⟨g, 0, none⟩ = some (.int .i64 x.f0) := (blk_cell HG.out.1 0).trans rfl; have y1 : w2.cell? ⟨g, 1, none⟩ = some (.int .i64 x.f1) := (blk_cell HG.out.1 1).trans rfl; have y2 : w2.cell? ⟨g, 2, none⟩ = some (.int .i64 x.f2) := (blk_cell HG.out.1 2).trans rfl; have y3 : w2.cell? ⟨g, 3, none⟩ = some (.int .i64 x.f3) := (blk_cell HG.out.1 3).trans rfl)
         |(go_at_call 55; (with_reducible refine (r18has_walk AX cX X x.f1 ((z : Int) + x.f3) false _ ?s1 ?s2 ?s3).mono ?_); (case s1 => exact Kd.C_below HXX.out HG.out.2.2); (case s2 => exact hlX); (case s3 => exact HA.out.2.symm); rintro e w2 ⟨rfl, hb⟩; have HN9 := zh (And.intro (blk_below HG.out.1 hb) (And.intro (blk_below HG.out.2.1 hb) (below_step HG.out.2.2 hb))); clear HG y0 y1 y2 y3 hb; have HG := HN9; clear HN9; have y0 : w2.cell? ⟨g, 0, none⟩ = some (.int .i64 x.f0) := (blk_cell HG.out.1 0).trans rfl; have y1 : w2.cell? ⟨g, 1, none⟩ = some (.int .i64 x.f1) := (blk_cell HG.out.1 1).trans rfl; have y2 : w2.cell? ⟨g, 2, none⟩ = some (.int .i64 x.f2) := (blk_cell HG.out.1 2).trans rfl; have y3 : w2.cell? ⟨g, 3, none⟩ = some (.int .i64 x.f3) := (blk_cell HG.out.1 3).trans rfl))
        go_roundg (h + 2 - z)
        case measure => omega
        case rel => exact ⟨z + 1, s + x.f2, by omega, rfl, by go_num, by omega, by omega, by omega, .inr ⟨by first | rfl | trivial, by have := hzu2.out; omega⟩, zh ⟨by
         rw [sumN, HZ.out.1]
         unfold tk1
         rw [if_pos HA.out]
         omega, HG.out⟩⟩
    ·go_wp2
     go_roundg (l.length - j)
     case measure => omega
     case rel => exact ⟨j + 1, s, by omega, rfl, by go_num, by omega, r0, by omega, zh ⟨by
      rw [sumN, ← HL.out.1, ← HXE.out]
      unfold tkA
      rw [HUX.out, HZ.out.1]
      cases u with
      |false =>
       rcases hzu with h9 | h9
       ·rw [h9, if_neg (by decide)]
        rfl
       ·cases h9.1
      |true =>
       rw [if_pos rfl, show ((h : Int) + 1 - x.f3).toNat = z by rcases hzu with h9 | h9 <;> omega], HG.out.2⟩⟩
  ·have e : j = l.length := by omega
   subst e
   go_wp2
   go_ret
   refine ⟨?_, HL.out.2.2⟩
   unfold takesV
   rw [← HL.out.1]
   rfl
theorem infoBool : (Tryz.prog.info? 4).map (fun i => (i.zero, i.size, i.bytes)) = some (some (.bool false), 1, 1) := by kernel_rfl
theorem appBool : AppK Tryz.prog Kd.bool 102 4 (fun x => [.bool x]) := ⟨Tryz.underlying102, ⟨_, 1, infoBool, rfl, by decide, by decide⟩, by decide, fun _ _ _ _ => rfl⟩
set_option maxHeartbeats 4000000 in
set_option maxRecDepth 100000 in
theorem rslot_walk (n h x0 x1 : Int) (bb : Bool) (vl : Value) (R : Bool) (w : World) (hR : R = true ↔ slotOk n h ⟨x0, x1⟩) :
  Calls Tryz.prog 80 #[.agg #[.int .i64 n, .bool bb, vl], .int .i64 h, .agg #[.int .i64 x0, .int .i64 x1]] w fun e w' => e = .returned (.bool R) ∧ Below w.heap.size w w' := by
 have hu := Tryz.underlying33
 have hu2 := Tryz.underlying110
 have hc : (¬ 0 ≤ x0 ∧ R = false) ∨ (0 ≤ x0 ∧ ¬ x0 < n ∧ R = false) ∨ (0 ≤ x0 ∧ x0 < n ∧ ¬ 0 ≤ x1 ∧ R = false) ∨ (0 ≤ x0 ∧ x0 < n ∧ 0 ≤ x1 ∧ ¬ x1 ≤ h ∧ R = false) ∨ (0 ≤ x0 ∧ x0 < n ∧ 0 ≤ x1 ∧ x1 ≤ h ∧ R = true) := by
  unfold slotOk at hR
  by_cases c1 : 0 ≤ x0 ∧ 0 ≤ x1 ∧ x0 < n ∧ x1 ≤ h
  ·exact .inr (.inr (.inr (.inr ⟨c1.1, c1.2.2.1, c1.2.1, c1.2.2.2, hR.2 c1⟩)))
  ·have hf : R = false := by
    cases R with
    |false => rfl
    |true => exact absurd (hR.1 rfl) c1
   by_cases d1 : 0 ≤ x0
   ·by_cases d2 : x0 < n
    ·by_cases d3 : 0 ≤ x1
     ·exact .inr (.inr (.inr (.inl ⟨d1, d2, d3, fun e => c1 ⟨d1, d3, d2, e⟩, hf⟩)))
     ·exact .inr (.inr (.inl ⟨d1, d2, d3, hf⟩))
    ·exact .inr (.inl ⟨d1, d2, hf⟩)
   ·exact .inl ⟨d1, hf⟩
 clear hR
 rcases hc with ⟨c1, hf⟩ | ⟨c1, c2, hf⟩ | ⟨c1, c2, c3, hf⟩ | ⟨c1, c2, c3, c4, hf⟩ | ⟨c1, c2, c3, c4, hf⟩
 all_goals
  subst hf
  go_enter Tryz.func80, Tryz.ntmps80
  go_wp2
  go_ret
  exact ⟨rfl, by repeat (first | exact Below.refl _ _ | apply below_alloc)⟩
def RSlotAt (n h : Int) (X : List Slot) (w : World) (e : Ending) (w' : World) : Prop := Below w.heap.size w w' ∧ ((e = .returned (.int .i64 180) ∧ ∃ s, s ∈ X ∧ ¬ slotOk n h s) ∨ (e = .returned (.int .i64 0) ∧ ∀ s, s ∈ X → slotOk n h s))
open Classical in
set_option maxHeartbeats 4000000 in
set_option maxRecDepth 100000 in
theorem rslots18_walk (n h : Int) (bb : Bool) (AL : Option Addr) (kl cl : Nat) (A : Option Addr) (c : Nat) (X : List Slot) (w : World) (hr : Kd.C kSlot w A X.length X) (hlX : X.length ≤ 1000000) :
  Calls Tryz.prog 52 #[.agg #[.int .i64 n, .bool bb, .slice AL kl cl], .int .i64 h, .slice A X.length c] w (RSlotAt n h X w) := by
 have hu := Tryz.underlying33
 have hu2 := Tryz.underlying110
 have HR := zh hr
 clear hr
 go_enter Tryz.func52, Tryz.ntmps52
 obtain ⟨w1, hw1⟩ : ∃ w1, w1 = w.alloc (.cells #[.int .i64 n, .bool bb, .slice AL kl cl] 33) := ⟨_, rfl⟩
 have HX : Hid (w1.heap[w.heap.size]? = some (.cells #[.int .i64 n, .bool bb, .slice AL kl cl] 33 (0, 0)) ∧ Below w.heap.size w w1) := zh (by rw [hw1]; exact ⟨heap_alloc_new _ _, below_alloc (Below.refl _ _) _⟩)
 go_wp2
 rw [← hw1]
 clear hw1
 go_loopg [7] (X.length + 1) (fun k iv W => ∃ i : Nat, i ≤ X.length ∧ iv = .int .i64 i ∧ k = X.length + 1 - i ∧ Hid (W.heap[w.heap.size]? = some (.cells #[.int .i64 n, .bool bb, .slice AL kl cl] 33 (0, 0)) ∧ Below w.heap.size w W ∧ ∀ s, s ∈ X.take i → slotOk n h s))
 case atStart => exact ⟨0, Nat.zero_le _, rfl, rfl, zh ⟨HX.out.1, HX.out.2, fun s hs => by simp at hs⟩⟩
 case round =>
  obtain ⟨i, hi, rfl, rfl, HL⟩ := hrel
  clear HX
  by_cases hlt : i < X.length
  ·have i0 : (0 : Int) ≤ (i : Int) := by omega
   have i1 : (i : Int) < (X.length : Int) := by omega
   obtain ⟨ad, ea, y0, y1⟩ := at_T110 (Kd.C_drew (Kd.C_below HR.out HL.out.2.1)) (i : Int) i0 i1
   subst ea
   rw [Int.toNat_natCast] at y0 y1
   have hst := slot_take hlt
   obtain ⟨s, hs⟩ : ∃ s, s = rd_T110 X (i : Int) := ⟨_, rfl⟩
   rw [← hs] at y0 y1 hst
   have HST := zh hst
   have HSM : Hid (s ∈ X) := zh (List.mem_of_mem_take (i := i + 1) (by rw [hst]; simp))
   clear hs hst
   obtain ⟨R, hR⟩ : ∃ R : Bool, R = decide (slotOk n h ⟨s.f0, s.f1⟩) := ⟨_, rfl⟩
   have HRR : Hid (R = true ↔ slotOk n h ⟨s.f0, s.f1⟩) := zh (by rw [hR]; exact decide_eq_true_iff)
   clear hR
   have z0 : wr.drew.cell? ⟨w.heap.size, 0, none⟩ = some (.int .i64 n) := (blk_cell (blk_drew HL.out.1) 0).trans rfl
   have z1 : wr.drew.cell? ⟨w.heap.size, 1, none⟩ = some (.bool bb) := (blk_cell (blk_drew HL.out.1) 1).trans rfl
   have z2 : wr.drew.cell? ⟨w.heap.size, 2, none⟩ = some (.slice AL kl cl) := (blk_cell (blk_drew HL.out.1) 2).trans rfl
   have HB := zh (And.intro (blk_drew HL.out.1) (below_drew1 HL.out.2.1))
   have HO := zh HL.out.2.2
   clear HL
   go_wp2
   refine stepS (S := fun w' => w'.cell? ⟨w.heap.size, 0, none⟩ = some (.int .i64 n) ∧ w'.cell? ⟨w.heap.size, 1, none⟩ = some (.bool bb) ∧ w'.cell? ⟨w.heap.size, 2, none⟩ = some (.slice AL kl cl) ∧ w'.cell? (ad.add (i * 2)) = some (.int .i64 s.f0) ∧ w'.cell? ⟨(ad.add (i * 2)).block, (ad.add (i * 2)).off + 1, none⟩ = some (.int .i64 s.f1)) (ds := [6]) 8 (by kernel_rfl) rfl ⟨z0, z1, z2, y0, y1⟩ (fun hHeld => ?_)
   generalize wr.drew = wd at HB hHeld ⊢
   clear z0 z1 z2 y0 y1
   repeat (first | refine rP 8 ?_ | refine rT 8 hHeld ?_)
   refine sCL 6 Tryz.func80 #[.agg #[.int .i64 n, .bool bb, .slice AL kl cl], .int .i64 h, .agg #[.int .i64 s.f0, .int .i64 s.f1]] (rslot_walk n h s.f0 s.f1 bb (.slice AL kl cl) R _ HRR.out) ?_
   rintro e w5 ⟨rfl, hb⟩
   refine ⟨_, rfl, ?_⟩
   refine sN ?_
   refine rP 8 ?_
   refine done_ (by kernel_rfl) ?_
   have HB5 := zh (And.intro (blk_below HB.out.1 hb) (below_step HB.out.2 hb))
   clear hb hHeld HB
   cases R with
   |false =>
    go_wp2
    go_ret
    exact ⟨HB5.out.2, .inl ⟨rfl, s, HSM.out, fun e => by have := HRR.out.2 e; cases this⟩⟩
   |true =>
    have HSO : Hid (slotOk n h s) := zh (HRR.out.1 rfl)
    clear HRR
    go_wp2
    go_roundg (X.length - i)
    case measure => omega
    case rel => exact ⟨i + 1, by omega, by go_num, by omega, zh ⟨HB5.out.1, HB5.out.2, fun s9 hs9 => by
     rw [HST.out, List.mem_append, List.mem_singleton] at hs9
     rcases hs9 with hs9 | rfl
     ·exact HO.out s9 hs9
     ·exact HSO.out⟩⟩
  ·have e : i = X.length := by omega
   subst e
   have h9 := HL.out.2
   rw [List.take_length] at h9
   have H9 := zh h9
   clear h9
   go_wp2
   go_ret
   exact ⟨H9.out.1, .inr ⟨rfl, H9.out.2⟩⟩
def usedL (l : List Arc) (q : List Grp) (j : Nat) : List Bool := (l.take j).map (useOf q)
theorem usedL_next {l : List Arc} {q : List Grp} {j : Nat} (hj : j < l.length) : usedL l q (j + 1) = usedL l q j ++ [useOf q (arcAt l j)] := by
 have e : arcAt l j = l[j] := by
  unfold arcAt rd_T104
  rw [Int.toNat_natCast, List.getD_eq_getElem?_getD, List.getElem?_eq_getElem hj]
  rfl
 unfold usedL
 rw [List.take_add_one, List.getElem?_eq_getElem hj, e]
 show ((l.take j) ++ [l[j]]).map _ = _
 rw [List.map_append]
 rfl
theorem usedL_len {l : List Arc} {q : List Grp} {j : Nat} (hj : j ≤ l.length) : (usedL l q j).length = j := by
 unfold usedL
 rw [List.length_map, List.length_take]
 omega
theorem usedL_at {l : List Arc} {q : List Grp} {j : Nat} (hj : j < l.length) : rdOf false (usedL l q l.length) (j : Int) = useOf q (arcAt l j) := by
 have e : arcAt l j = l[j] := by
  unfold arcAt rd_T104
  rw [Int.toNat_natCast, List.getD_eq_getElem?_getD, List.getElem?_eq_getElem hj]
  rfl
 unfold rdOf usedL
 rw [List.take_length, Int.toNat_natCast, List.getD_eq_getElem?_getD, List.getElem?_map, List.getElem?_eq_getElem hj, e]
 rfl
def RCapAt (n h : Nat) (b : Bool) (l : List Arc) (p q : List Grp) (X : List Slot) (w : World) (e : Ending) (w' : World) : Prop := Below w.heap.size w w' ∧
 ((e = .returned (.tuple #[.int .i64 0, .int .i64 180]) ∧ ∃ s, s ∈ X ∧ ¬ slotOk n h s) ∨
  ((∀ s, s ∈ X → slotOk n h s) ∧ ((e = .returned (.tuple #[.int .i64 0, .int .i64 181]) ∧ ∃ v z : Nat, v < n ∧ keepsOf b p q v = true ∧ z < h ∧ hasL X v z = true ∧ hasL X v ((z : Int) + 1) = false) ∨
  (e = .returned (.tuple #[.int .i64 (capV h l p q (hasL X)), .int .i64 0]) ∧ ∀ v : Nat, v < n → keepsOf b p q v = true → ∀ z : Nat, z < h → hasL X v z = true → hasL X v ((z : Int) + 1) = true))))
set_option maxHeartbeats 8000000 in
set_option maxRecDepth 100000 in
theorem rcap_at (n h : Nat) (b : Bool) (A : Option Addr) (c : Nat) (l : List Arc) (Ap : Option Addr) (cp : Nat) (p : List Grp) (Aq : Option Addr) (cq : Nat) (q : List Grp) (AX : Option Addr) (cX : Nat) (X : List Slot) (w : World) (a : AskOk n h l p q)
  (hAS : ∀ W, Below w.heap.size w W → Calls Tryz.prog 14 #[.agg #[.int .i64 n, .bool b, .slice A l.length c], .slice Ap p.length cp, .slice Aq q.length cq, .int .i64 h] W fun e w' => e = .returned (.int .i64 0) ∧ Below W.heap.size W w')
  (hr : Kd.C kArc w A l.length l) (hp : Kd.C kGrp w Ap p.length p) (hq : Kd.C kGrp w Aq q.length q) (hX : Kd.C kSlot w AX X.length X) (hlX : X.length ≤ 1000000) :
  Calls Tryz.prog 19 #[.agg #[.int .i64 n, .bool b, .slice A l.length c], .slice Ap p.length cp, .slice Aq q.length cq, .int .i64 h, .slice AX X.length cX] w (RCapAt n h b l p q X w) := by
 have HAS := zh hAS
 have HR := zh hr
 have HP := zh hp
 have HQ := zh hq
 have HXX := zh hX
 have HA := zh a
 have HPO := zh a.place
 have hh := a.hh
 have hn1 := a.place.net.n1
 have hlp := a.place.lp
 have hlq := a.place.lq
 have hll := a.place.net.ll
 have HG0 : Hid ((∀ g, g ∈ p → 0 ≤ g.f1) ∧ (∀ g, g ∈ q → 0 ≤ g.f1)) := zh ⟨fun g hg => (a.place.gp g hg).2.1, fun g hg => (a.place.gq g hg).2.1⟩
 have hu := Tryz.underlying33
 have hu2 := Tryz.underlying59
 clear hr hp hq hX a hAS
 go_enter Tryz.func19, Tryz.ntmps19
 obtain ⟨w0, hw0⟩ : ∃ w0, w0 = w.alloc (.cells #[.int .i64 n, .bool b, .slice A l.length c] 33) := ⟨_, rfl⟩
 have HG : Hid (w0.heap[w.heap.size]? = some (.cells #[.int .i64 n, .bool b, .slice A l.length c] 33 (0, 0)) ∧ Below w.heap.size w w0) := zh (by rw [hw0]; exact ⟨heap_alloc_new _ _, below_alloc (Below.refl _ _) _⟩)
 go_wp2_with (first
  |(go_at_call 14; rw [← hw0]; go_loud ((with_reducible refine (HAS.out _ ?s1).mono ?_); (case s1 => exact HG.out.2); rintro e w2 ⟨rfl, hb⟩; have HN9 := zh (And.intro (blk_below HG.out.1 hb) (below_step HG.out.2 hb)); clear HG hb; have HG := HN9; clear HN9; have x0 : w2.cell? ⟨w.heap.size, 0, none⟩ = some (.int .i64 n) := (blk_cell (HG.out.1) 0).trans rfl; have x1 : w2.cell? ⟨w.heap.size, 1, none⟩ = some (.bool b) := (blk_cell (HG.out.1) 1).trans rfl; have x2 : w2.cell? ⟨w.heap.size, 2, none⟩ = some (.slice A l.length c) := (blk_cell (HG.out.1) 2).trans rfl))
  |(go_at_call 52; go_loud ((with_reducible refine (rslots18_walk n h b A l.length c AX cX X _ ?s1 ?s2).mono ?_); (case s1 => exact Kd.C_below HXX.out HG.out.2); (case s2 => exact hlX); rintro e w3 ⟨hb, (⟨rfl, hbad⟩ | ⟨rfl, hok⟩)⟩; all_goals (have HN9 := zh (And.intro (blk_below HG.out.1 hb) (below_step HG.out.2 hb)); clear HG x0 x1 x2 hb; have HG := HN9; clear HN9; have x0 : w3.cell? ⟨w.heap.size, 0, none⟩ = some (.int .i64 n) := (blk_cell (HG.out.1) 0).trans rfl; have x1 : w3.cell? ⟨w.heap.size, 1, none⟩ = some (.bool b) := (blk_cell (HG.out.1) 1).trans rfl; have x2 : w3.cell? ⟨w.heap.size, 2, none⟩ = some (.slice A l.length c) := (blk_cell (HG.out.1) 2).trans rfl))))
 ·go_ret2
  exact ⟨HG.out.2, .inl ⟨rfl, hbad⟩⟩
 have HOK := zh hok
 clear hok x0 x1 x2
 go_loopg [14] (n + 1) (fun k iv W => ∃ v : Nat, v ≤ n ∧ iv = .int .i64 v ∧ k = n + 1 - v ∧ Hid (W.heap[w.heap.size]? = some (.cells #[.int .i64 n, .bool b, .slice A l.length c] 33 (0, 0)) ∧ Below w.heap.size w W) ∧ Hid (∀ v' : Nat, v' < v → keepsOf b p q v' = true → ∀ z : Nat, z < h → hasL X v' z = true → hasL X v' ((z : Int) + 1) = true))
 case atStart => exact ⟨0, Nat.zero_le _, rfl, rfl, HG, zh (fun v' hv => absurd hv (Nat.not_lt_zero _))⟩
 case round =>
  obtain ⟨v, hv, rfl, rfl, HG, HKR⟩ := hrel
  have x0 : wr.cell? ⟨w.heap.size, 0, none⟩ = some (.int .i64 n) := (blk_cell (HG.out.1) 0).trans rfl; have x1 : wr.cell? ⟨w.heap.size, 1, none⟩ = some (.bool b) := (blk_cell (HG.out.1) 1).trans rfl; have x2 : wr.cell? ⟨w.heap.size, 2, none⟩ = some (.slice A l.length c) := (blk_cell (HG.out.1) 2).trans rfl
  by_cases hlt : v < n
  ·have hlt2 : (v : Int) < (n : Int) := by omega
   cases hkb : keepsOf b p q v with
   |false =>
    have HKB := zh hkb
    clear hkb
    go_wp2_with (go_at_call 30; go_loud ((with_reducible refine (rkeeps_walk n b (.slice A l.length c) Ap cp p Aq cq q v _ ?s1 ?s2 ?s3 ?s4 ?s5 ?s6).mono ?_); (case s1 => exact Kd.C_below HP.out HG.out.2); (case s2 => exact Kd.C_below HQ.out HG.out.2); (case s3 => omega); (case s4 => omega); (case s5 => exact HG0.out.1); (case s6 => exact HG0.out.2); rintro e w6 ⟨rfl, hb⟩; rw [show (b || (hasK (putGs p) (v : Int) || hasK (putGs q) (v : Int))) = false from HKB.out]; have HN9 := zh (And.intro (blk_below HG.out.1 hb) (below_step HG.out.2 hb)); clear HG x0 x1 x2 hb; have HG := HN9; clear HN9; have x0 : w6.cell? ⟨w.heap.size, 0, none⟩ = some (.int .i64 n) := (blk_cell (HG.out.1) 0).trans rfl; have x1 : w6.cell? ⟨w.heap.size, 1, none⟩ = some (.bool b) := (blk_cell (HG.out.1) 1).trans rfl; have x2 : w6.cell? ⟨w.heap.size, 2, none⟩ = some (.slice A l.length c) := (blk_cell (HG.out.1) 2).trans rfl))
    go_roundg (n - v)
    case measure => omega
    case rel => exact ⟨v + 1, by omega, by go_num, by omega, HG, zh (fun v' hv' hk' => by
     rcases Nat.lt_or_eq_of_le (Nat.le_of_lt_succ hv') with g | rfl
     ·exact HKR.out v' g hk'
     ·rw [HKB.out] at hk'
      cases hk')⟩
   |true =>
    have HKB := zh hkb
    clear hkb
    go_wp2_with (first
     |(go_at_call 30; go_loud ((with_reducible refine (rkeeps_walk n b (.slice A l.length c) Ap cp p Aq cq q v _ ?s1 ?s2 ?s3 ?s4 ?s5 ?s6).mono ?_); (case s1 => exact Kd.C_below HP.out HG.out.2); (case s2 => exact Kd.C_below HQ.out HG.out.2); (case s3 => omega); (case s4 => omega); (case s5 => exact HG0.out.1); (case s6 => exact HG0.out.2); rintro e w6 ⟨rfl, hb⟩; rw [show (b || (hasK (putGs p) (v : Int) || hasK (putGs q) (v : Int))) = true from HKB.out]; have HN9 := zh (And.intro (blk_below HG.out.1 hb) (below_step HG.out.2 hb)); clear HG x0 x1 x2 hb; have HG := HN9; clear HN9; have x0 : w6.cell? ⟨w.heap.size, 0, none⟩ = some (.int .i64 n) := (blk_cell (HG.out.1) 0).trans rfl; have x1 : w6.cell? ⟨w.heap.size, 1, none⟩ = some (.bool b) := (blk_cell (HG.out.1) 1).trans rfl; have x2 : w6.cell? ⟨w.heap.size, 2, none⟩ = some (.slice A l.length c) := (blk_cell (HG.out.1) 2).trans rfl))
     |(go_at_call 53; go_loud ((with_reducible refine (rrises_walk AX cX X v h _ ?s1 ?s2 ?s3).mono ?_); (case s1 => exact Kd.C_below HXX.out HG.out.2); (case s2 => exact hlX); (case s3 => omega); rintro e w5 ⟨hb, (⟨rfl, hris⟩ | ⟨rfl, hris⟩)⟩; all_goals (have HRI := zh hris; clear hris; have HN9 := zh (And.intro (blk_below HG.out.1 hb) (below_step HG.out.2 hb)); clear HG x0 x1 x2 hb; have HG := HN9; clear HN9; have x0 : w5.cell? ⟨w.heap.size, 0, none⟩ = some (.int .i64 n) := (blk_cell (HG.out.1) 0).trans rfl; have x1 : w5.cell? ⟨w.heap.size, 1, none⟩ = some (.bool b) := (blk_cell (HG.out.1) 1).trans rfl; have x2 : w5.cell? ⟨w.heap.size, 2, none⟩ = some (.slice A l.length c) := (blk_cell (HG.out.1) 2).trans rfl))))
    ·go_roundg (n - v)
     case measure => omega
     case rel => exact ⟨v + 1, by omega, by go_num, by omega, HG, zh (fun v' hv' hk' => by
      rcases Nat.lt_or_eq_of_le (Nat.le_of_lt_succ hv') with g | rfl
      ·exact HKR.out v' g hk'
      ·exact HRI.out)⟩
    ·go_ret2
     obtain ⟨z, hz, hz1, hz2⟩ := HRI.out
     exact ⟨HG.out.2, .inr ⟨HOK.out, .inl ⟨rfl, v, z, hlt, HKB.out, hz, hz1, hz2⟩⟩⟩
  ·have e : v = n := by omega
   subst e
   go_wp2
   obtain ⟨W2, hW2⟩ : ∃ W2, W2 = wr := ⟨_, rfl⟩
   rw [← hW2] at HG x0 x1 x2 ⊢
   clear hW2
   go_loopg [15, 16] (l.length + 1) (fun k uv jv W => ∃ (j : Nat) (Au : Option Addr) (cu : Nat), j ≤ l.length ∧ uv = .slice Au (usedL l q j).length cu ∧ jv = .int .i64 j ∧ k = l.length + 1 - j ∧ Hid (Kd.R Kd.bool 4 W W2.heap.size (fun _ => True) (.slice Au (usedL l q j).length cu) (usedL l q j) ∧ Below W2.heap.size W2 W))
   case atStart => exact ⟨0, none, 0, Nat.zero_le _, rfl, rfl, rfl, zh ⟨Kd.R_nil _ _ _ _ _, Below.refl _ _⟩⟩
   case round =>
    obtain ⟨j, Au, cu, hj, rfl, rfl, rfl, HU⟩ := hrel
    have HG2 := zh (And.intro (blk_below HG.out.1 HU.out.2) (below_step HG.out.2 HU.out.2))
    clear x0 x1 x2
    have x0 : wr.cell? ⟨w.heap.size, 0, none⟩ = some (.int .i64 v) := (blk_cell (HG2.out.1) 0).trans rfl; have x1 : wr.cell? ⟨w.heap.size, 1, none⟩ = some (.bool b) := (blk_cell (HG2.out.1) 1).trans rfl; have x2 : wr.cell? ⟨w.heap.size, 2, none⟩ = some (.slice A l.length c) := (blk_cell (HG2.out.1) 2).trans rfl
    by_cases hjl : j < l.length
    ·have j0 : (0 : Int) ≤ (j : Int) := by omega
     have j1 : (j : Int) < (l.length : Int) := by omega
     obtain ⟨ad, ea, y0, -⟩ := at_T104 (Kd.C_below HR.out HG2.out.2) (j : Int) j0 j1
     subst ea
     rw [Int.toNat_natCast] at y0
     obtain ⟨x, hx⟩ : ∃ x, x = arcAt l j := ⟨_, rfl⟩
     have hx2 : rd_T104 l (j : Int) = x := by rw [hx]; rfl
     rw [hx2] at y0
     have hnx := usedL_next (q := q) hjl
     rw [← hx] at hnx
     have HNX := zh hnx
     clear hx hx2 hnx
     obtain ⟨G, hG⟩ : ∃ G, G = gOf x.f0 q := ⟨_, rfl⟩
     have hgu : (G < 0 ∧ Hid (useOf q x = true)) ∨ (decide (G < 0) = false ∧ Hid (useOf q x = false)) := by
      have h8 := gOf_neg x.f0 HG0.out.2
      rw [← hG] at h8
      unfold useOf
      by_cases g : G < 0
      ·exact .inl ⟨g, zh (by rw [h8.1 g]; rfl)⟩
      ·refine .inr ⟨decide_eq_false g, zh ?_⟩
       cases h7 : hasK (putGs q) x.f0 with
       |true => rfl
       |false => exact absurd (h8.2 h7) g
     have HGE := zh hG
     clear hG
     rcases hgu with ⟨g1, HUX⟩ | ⟨g1, HUX⟩
     ·go_wp2_with (first
       |(go_at_call 24; (with_reducible refine (rof_walk q.length Aq cq q _ _ ?s1 ?s2 ?s3).mono ?_); (case s1 => rfl); (case s2 => exact Kd.C_below HQ.out HG2.out.2); (case s3 => omega); rintro e w7 ⟨rfl, hb⟩; rw [← HGE.out]; have HO7 := zh (And.intro (Kd.R_below HU.out.1 hb) (below_step HU.out.2 hb)); clear hb)
       |((with_reducible refine gate_dst (N := 71) rfl ?_); (refine gA (w0 := W2) (base := W2.heap.size) appBool (usedL l q j) true ?aO ?aB ?aS ?aL ?_); (case aO => exact HO7.out.1); (case aB => exact HO7.out.2); (case aS => exact HO7.out.2.size); (case aL => have := usedL_len (q := q) hj; omega); go_loud (intro A1 c1 w9 ho hb hg; have HO9 := zh (And.intro ho hb); clear ho hb hg)))
      go_roundg (l.length - j)
      case measure => omega
      case rel => exact ⟨j + 1, A1, c1, by omega, by rw [HNX.out, List.length_append]; rfl, by go_num, by omega, zh ⟨by rw [HNX.out, HUX.out, List.length_append]; exact HO9.out.1, HO9.out.2⟩⟩
     ·go_wp2_with (first
       |(go_at_call 24; (with_reducible refine (rof_walk q.length Aq cq q _ _ ?s1 ?s2 ?s3).mono ?_); (case s1 => rfl); (case s2 => exact Kd.C_below HQ.out HG2.out.2); (case s3 => omega); rintro e w7 ⟨rfl, hb⟩; rw [← HGE.out]; have HO7 := zh (And.intro (Kd.R_below HU.out.1 hb) (below_step HU.out.2 hb)); clear hb)
       |((with_reducible refine gate_dst (N := 71) rfl ?_); (refine gA (w0 := W2) (base := W2.heap.size) appBool (usedL l q j) false ?aO ?aB ?aS ?aL ?_); (case aO => exact HO7.out.1); (case aB => exact HO7.out.2); (case aS => exact HO7.out.2.size); (case aL => have := usedL_len (q := q) hj; omega); go_loud (intro A1 c1 w9 ho hb hg; have HO9 := zh (And.intro ho hb); clear ho hb hg)))
      go_roundg (l.length - j)
      case measure => omega
      case rel => exact ⟨j + 1, A1, c1, by omega, by rw [HNX.out, List.length_append]; rfl, by go_num, by omega, zh ⟨by rw [HNX.out, HUX.out, List.length_append]; exact HO9.out.1, HO9.out.2⟩⟩
    ·have e : j = l.length := by omega
     subst e
     obtain ⟨T, hT⟩ : ∃ T, T = takesV (useOf q) (hasL X) h l := ⟨_, rfl⟩
     have hTb : 0 ≤ T ∧ T ≤ 11000000000000 := by
      have := takes_bd (use := useOf q) (H := hasL X) HPO.out.net hh HPO.out.caps l.length (Nat.le_refl _)
      unfold takesV at hT
      rw [← hT] at this
      omega
     have HT := zh hT
     clear hT
     go_wp2_with (go_at_call 54; go_loud ((with_reducible refine (rtakes_walk v h b A c l AX cX X Au cu (usedL l q l.length) (useOf q) _ ?s1 ?s2 ?s3 ?s4 ?s5 ?s6 ?s7 ?s8 ?s9).mono ?_); (case s1 => exact HPO.out.net); (case s2 => exact HPO.out.caps); (case s3 => exact hh); (case s4 => exact Kd.C_below HXX.out HG2.out.2); (case s5 => exact hlX); (case s6 => exact Kd.C_below HR.out HG2.out.2); (case s7 => exact (Kd.R_reads' HU.out.1).2.2); (case s8 => exact usedL_len (Nat.le_refl _)); (case s9 => exact fun j hj => usedL_at hj); rintro e w6 ⟨rfl, hb⟩; rw [← HT.out]; have HB6 := zh (below_step HG2.out.2 hb); clear HG2 HU x0 x1 x2 hb))
     go_loopg [17, 18] (p.length + 1) (fun k sv iv W => ∃ (i : Nat) (S : Int), i ≤ p.length ∧ sv = .int .i64 S ∧ iv = .int .i64 i ∧ k = p.length + 1 - i ∧ 0 ≤ S ∧ S ≤ 11000000000000 + (i : Int) * 1048576 ∧ Hid (S = T + gS (fun g => !hasL X g.f0 0) (p.take i) ∧ Below w.heap.size w W))
     case atStart => exact ⟨0, T, Nat.zero_le _, rfl, rfl, rfl, hTb.1, by omega, zh ⟨by rw [List.take_zero, gS]; omega, HB6.out⟩⟩
     case round =>
      obtain ⟨i, S, hi, rfl, rfl, rfl, s0, s1, HL⟩ := hrel
      clear HB6
      by_cases hlt : i < p.length
      ·have i0 : (0 : Int) ≤ (i : Int) := by omega
       have i1 : (i : Int) < (p.length : Int) := by omega
       obtain ⟨ad, ea, y0, y1⟩ := at_T59 (Kd.C_below HP.out HL.out.2) (i : Int) i0 i1
       subst ea
       rw [Int.toNat_natCast] at y0 y1
       have hgt := gS_take (fun g => !hasL X g.f0 0) hlt
       obtain ⟨G, hG⟩ : ∃ G, G = rd_T59 p (i : Int) := ⟨_, rfl⟩
       have hgi := HPO.out.gp G (by rw [hG]; exact grp_mem hlt)
       rw [← hG] at y0 y1 hgt
       have g0 := hgi.1.1
       have g1 := hgi.1.2
       have g2 := hgi.2.1
       have g3 := hgi.2.2
       have HGT := zh hgt
       have CG : Hid (∀ W, Below w.heap.size w W → W.cell? ⟨(ad.add (i * 2)).block, (ad.add (i * 2)).off + 1, none⟩ = some (.int .i64 G.f1)) := zh (fun W hW => by
        obtain ⟨ad2, e2, z0, z1⟩ := at_T59 (Kd.C_below HP.out hW) (i : Int) i0 i1
        injection e2 with e2
        subst e2
        rw [Int.toNat_natCast, ← hG] at z1
        exact z1)
       clear hG hgi hgt
       have e6 : IntKind.i64.wrap (S + G.f1) = S + G.f1 := IntWalk.i64_in _ (by omega)
       obtain ⟨R, hR⟩ : ∃ R, hasL X G.f0 0 = R := ⟨_, rfl⟩
       have HRR := zh hR
       clear hR
       have HH : Hid (∀ W, Below w.heap.size w W → Calls Tryz.prog 55 #[.slice AX X.length cX, .int .i64 G.f0, .int .i64 0] W fun e w' => e = .returned (.bool R) ∧ Below W.heap.size W w') := zh (fun W hW => r18has_walk AX cX X G.f0 0 R W (Kd.C_below HXX.out hW) hlX HRR.out.symm)
       cases R with
       |true =>
        go_wp2_with (go_at_call 55; refine (HH.out _ ?s1).mono ?_; (case s1 => exact HL.out.2); rintro e w7 ⟨rfl, hb⟩; have HB7 := zh (below_step HL.out.2 hb); clear y0 y1; have y1 := CG.out _ HB7.out; clear hb)
        go_roundg (p.length - i)
        case measure => omega
        case rel => exact ⟨i + 1, S, by omega, rfl, by go_num, by omega, s0, by omega, zh ⟨by rw [HGT.out, HL.out.1, HRR.out, if_neg (by decide)]; omega, HB7.out⟩⟩
       |false =>
        go_wp2_with (go_at_call 55; refine (HH.out _ ?s1).mono ?_; (case s1 => exact HL.out.2); rintro e w7 ⟨rfl, hb⟩; have HB7 := zh (below_step HL.out.2 hb); clear y0 y1; have y1 := CG.out _ HB7.out; clear hb)
        go_roundg (p.length - i)
        case measure => omega
        case rel => exact ⟨i + 1, S + G.f1, by omega, rfl, by go_num, by omega, by omega, by omega, zh ⟨by rw [HGT.out, HL.out.1, HRR.out, if_pos (by decide)]; omega, HB7.out⟩⟩
      ·have e : i = p.length := by omega
       subst e
       have HT2 : Hid (S = T + gS (fun g => !hasL X g.f0 0) p) := zh (by have := HL.out.1; rwa [List.take_length] at this)
       have HB6 := zh HL.out.2
       clear HL
       go_wp2
       go_loopg [17, 19] (q.length + 1) (fun k sv iv W => ∃ (i : Nat) (s : Int), i ≤ q.length ∧ sv = .int .i64 s ∧ iv = .int .i64 i ∧ k = q.length + 1 - i ∧ 0 ≤ s ∧ s ≤ 12100000000000 + (i : Int) * 1048576 ∧ Hid (s = S + gS (fun g => hasL X g.f0 h) (q.take i) ∧ Below w.heap.size w W))
       case atStart => exact ⟨0, S, Nat.zero_le _, rfl, rfl, rfl, s0, by omega, zh ⟨by rw [List.take_zero, gS]; omega, HB6.out⟩⟩
       case round =>
        obtain ⟨i, s, hi, rfl, rfl, rfl, s0, s1, HL⟩ := hrel
        clear HB6
        by_cases hlt : i < q.length
        ·have i0 : (0 : Int) ≤ (i : Int) := by omega
         have i1 : (i : Int) < (q.length : Int) := by omega
         obtain ⟨ad, ea, y0, y1⟩ := at_T59 (Kd.C_below HQ.out HL.out.2) (i : Int) i0 i1
         subst ea
         rw [Int.toNat_natCast] at y0 y1
         have hgt := gS_take (fun g => hasL X g.f0 h) hlt
         obtain ⟨G, hG⟩ : ∃ G, G = rd_T59 q (i : Int) := ⟨_, rfl⟩
         have hgi := HPO.out.gq G (by rw [hG]; exact grp_mem hlt)
         rw [← hG] at y0 y1 hgt
         have g0 := hgi.1.1
         have g1 := hgi.1.2
         have g2 := hgi.2.1
         have g3 := hgi.2.2
         have HGT := zh hgt
         have CG : Hid (∀ W, Below w.heap.size w W → W.cell? ⟨(ad.add (i * 2)).block, (ad.add (i * 2)).off + 1, none⟩ = some (.int .i64 G.f1)) := zh (fun W hW => by
          obtain ⟨ad2, e2, z0, z1⟩ := at_T59 (Kd.C_below HQ.out hW) (i : Int) i0 i1
          injection e2 with e2
          subst e2
          rw [Int.toNat_natCast, ← hG] at z1
          exact z1)
         clear hG hgi hgt
         have e6 : IntKind.i64.wrap (s + G.f1) = s + G.f1 := IntWalk.i64_in _ (by omega)
         obtain ⟨R, hR⟩ : ∃ R, hasL X G.f0 h = R := ⟨_, rfl⟩
         have HRR := zh hR
         clear hR
         have HH : Hid (∀ W, Below w.heap.size w W → Calls Tryz.prog 55 #[.slice AX X.length cX, .int .i64 G.f0, .int .i64 h] W fun e w' => e = .returned (.bool R) ∧ Below W.heap.size W w') := zh (fun W hW => r18has_walk AX cX X G.f0 h R W (Kd.C_below HXX.out hW) hlX HRR.out.symm)
         cases R with
         |false =>
          go_wp2_with (go_at_call 55; refine (HH.out _ ?s1).mono ?_; (case s1 => exact HL.out.2); rintro e w7 ⟨rfl, hb⟩; have HB7 := zh (below_step HL.out.2 hb); clear y0 y1; have y1 := CG.out _ HB7.out; clear hb)
          go_roundg (q.length - i)
          case measure => omega
          case rel => exact ⟨i + 1, s, by omega, rfl, by go_num, by omega, s0, by omega, zh ⟨by rw [HGT.out, HL.out.1, HRR.out, if_neg (by decide)]; omega, HB7.out⟩⟩
         |true =>
          go_wp2_with (go_at_call 55; refine (HH.out _ ?s1).mono ?_; (case s1 => exact HL.out.2); rintro e w7 ⟨rfl, hb⟩; have HB7 := zh (below_step HL.out.2 hb); clear y0 y1; have y1 := CG.out _ HB7.out; clear hb)
          go_roundg (q.length - i)
          case measure => omega
          case rel => exact ⟨i + 1, s + G.f1, by omega, rfl, by go_num, by omega, by omega, by omega, zh ⟨by rw [HGT.out, HL.out.1, HRR.out, if_pos (by decide)]; omega, HB7.out⟩⟩
        ·have e : i = q.length := by omega
         subst e
         go_wp2
         go_ret2
         have h9 := HL.out.1
         rw [List.take_length, HT2.out, HT.out] at h9
         refine ⟨HL.out.2, .inr ⟨HOK.out, .inr ⟨?_, HKR.out⟩⟩⟩
         unfold capV
         rw [← h9]
         rfl
end Go.Proofs.YtcgdloldkcmhnaaGreat.H
end
section
namespace Go.Proofs.YtcgdloldkcmhnaaGreat.H
open Go Go.RowKit Go.Proofs.YtcgdloldkcmhnaaGreat.PrintC Go.Proofs.YtcgdloldkcmhnaaGreat.PrintE Go.Proofs.YtcgdloldkcmhnaaGreatW.PrintWords
set_option linter.unusedVariables false
abbrev Ent := Int × Int × Int
def eKey (x : Ent) : Lit := slotKey x.1 x.2.1
structure EntOk (mv : List Ent) : Prop where
 dst : mv.Pairwise (fun x y => ¬ (x.1 = y.1 ∧ x.2.1 = y.2.1))
 small : ∀ x, x ∈ mv → (0 ≤ x.1 ∧ x.1 ≤ 1000000) ∧ (0 ≤ x.2.1 ∧ x.2.1 ≤ 1000000) ∧ 0 ≤ x.2.2 ∧ x.2.2 ≤ 1000000
section
variable {mv : List Ent}
theorem EntOk.wf (h : EntOk mv) {x : Ent} (hx : x ∈ mv) : Wf x.1 ∧ Wf x.2.1 := by
 have := h.small x hx
 exact ⟨small_wf this.1.1 (by omega), small_wf this.2.1.1 (by omega)⟩
theorem EntOk.nodup (h : EntOk mv) : mv.Nodup := h.dst.imp (fun hxy e => hxy (by rw [e]; exact ⟨rfl, rfl⟩))
theorem EntOk.inj (h : EntOk mv) {x y : Ent} (hx : x ∈ mv) (hy : y ∈ mv) (e : eKey x = eKey y) : x = y := by
 obtain ⟨e1, e2⟩ := slotKey_inj (h.wf hx).1 (h.wf hx).2 (h.wf hy).1 (h.wf hy).2 e
 obtain ⟨i, hi, rfl⟩ := List.getElem_of_mem hx
 obtain ⟨j, hj, rfl⟩ := List.getElem_of_mem hy
 have h1 := List.pairwise_iff_getElem.1 h.dst
 rcases Nat.lt_trichotomy i j with c | c | c
 ·exact absurd ⟨e1, e2⟩ (h1 i j hi hj c)
 ·subst c
  rfl
 ·exact absurd ⟨e1.symm, e2.symm⟩ (h1 j i hj hi c)
theorem eKey_lit {x : Ent} (h : Wf x.1 ∧ Wf x.2.1) : WideAt.IsKeyLit (eKey x) := slotLaw.key (slotKeyOf x.1 x.2.1 h.1 h.2)
theorem isMap_putAll (mv : List Ent) : Maps.IsMap (putAll mv) := by
 have h : ∀ (L : List Ent) (D : DataW Unit), Maps.IsMap D → Maps.IsMap (L.foldl (fun D x => D.put (slotKey x.1 x.2.1) (.lit (.int .i64 x.2.2))) D) := fun L => by
  induction L with
  |nil => exact fun D h => h
  |cons x L ih =>
   intro D h
   obtain ⟨es, rfl⟩ := h
   exact ih _ ⟨_, rfl⟩
 exact h mv _ ⟨_, rfl⟩
theorem has_putAll : ∀ {mv : List Ent}, (∀ x, x ∈ mv → Wf x.1 ∧ Wf x.2.1) → ∀ kl, Maps.has (putAll mv) kl = true → ∃ x, x ∈ mv ∧ eKey x = kl := by
 intro mv hw kl h
 have g : ∀ (L : List Ent) (D : DataW Unit), (∀ x, x ∈ L → Wf x.1 ∧ Wf x.2.1) → Maps.has (L.foldl (fun D x => D.put (slotKey x.1 x.2.1) (.lit (.int .i64 x.2.2))) D) kl = true → Maps.has D kl = true ∨ ∃ x, x ∈ L ∧ eKey x = kl := fun L => by
  induction L with
  |nil => exact fun D _ h => .inl h
  |cons x L ih =>
   intro D hw h
   rcases ih _ (fun y hy => hw y (List.mem_cons_of_mem _ hy)) h with h1 | ⟨y, hy, e⟩
   ·by_cases e : eKey x = kl
    ·exact .inr ⟨x, List.mem_cons_self .., e⟩
    ·have h2 := Maps.has_put_other (k := eKey x) (k' := kl) (fun e2 => e e2.symm) (D := D) (.lit (.int .i64 x.2.2))
     exact .inl (h2.symm.trans h1)
   ·exact .inr ⟨y, List.mem_cons_of_mem _ hy, e⟩
 rcases g mv _ hw h with h1 | h1
 ·cases h1
 ·exact h1
theorem putAll_at (h : EntOk mv) {x : Ent} (hx : x ∈ mv) (z : DataW Unit) : (putAll mv).atKey (eKey x) z = .lit (.int .i64 x.2.2) ∧ Maps.has (putAll mv) (eKey x) = true := by
 obtain ⟨a, b, rfl⟩ := List.append_of_mem hx
 have g : ∀ (L : List Ent) (D : DataW Unit), Maps.IsMap D → (∀ y, y ∈ L → eKey y ≠ eKey x) → (L.foldl (fun D x => D.put (slotKey x.1 x.2.1) (.lit (.int .i64 x.2.2))) D).atKey (eKey x) z = D.atKey (eKey x) z ∧ Maps.has (L.foldl (fun D x => D.put (slotKey x.1 x.2.1) (.lit (.int .i64 x.2.2))) D) (eKey x) = Maps.has D (eKey x) := fun L => by
  induction L with
  |nil => exact fun D _ _ => ⟨rfl, rfl⟩
  |cons y L ih =>
   intro D hD hn
   have h1 := hn y (List.mem_cons_self ..)
   obtain ⟨h2, h3⟩ := ih (D.put (slotKey y.1 y.2.1) (.lit (.int .i64 y.2.2))) (by obtain ⟨es, rfl⟩ := hD; exact ⟨_, rfl⟩) (fun v hv => hn v (List.mem_cons_of_mem _ hv))
   rw [List.foldl_cons, h2, h3]
   exact ⟨Maps.atKey_put_other (fun e => h1 e.symm) _ _, Maps.has_put_other (fun e => h1 e.symm) _⟩
 have e : putAll (a ++ x :: b) = b.foldl (fun D x => D.put (slotKey x.1 x.2.1) (.lit (.int .i64 x.2.2))) ((putAll a).put (eKey x) (.lit (.int .i64 x.2.2))) := by
  unfold putAll
  rw [List.foldl_append]
  rfl
 have hk := eKey_lit (h.wf hx)
 have hne : ∀ y, y ∈ b → eKey y ≠ eKey x := fun y hy e2 => by
  have h4 := (List.pairwise_append.1 h.nodup).2.1
  have h5 := List.pairwise_cons.1 h4
  exact h5.1 y hy (h.inj (List.mem_append_right _ (List.mem_cons_of_mem _ hy)) hx e2).symm
 obtain ⟨g1, g2⟩ := g b ((putAll a).put (eKey x) (.lit (.int .i64 x.2.2))) (by obtain ⟨es, hes⟩ := isMap_putAll a; rw [hes]; exact ⟨_, rfl⟩) hne
 rw [e, g1, g2]
 exact ⟨Maps.atKey_put_same (isMap_putAll a) hk _ _, Maps.has_put_same (isMap_putAll a) hk _⟩
def LeftI (mv dn : List Ent) (left : Lit → Bool) : Prop := ∀ kl, left kl = true ↔ ∃ x, x ∈ mv ∧ x ∉ dn ∧ eKey x = kl
theorem LeftI.start (h : EntOk mv) : LeftI mv [] (Maps.has (putAll mv)) := fun kl => by
 constructor
 ·intro h1
  obtain ⟨x, hx, e⟩ := has_putAll (fun x hx => h.wf hx) kl h1
  exact ⟨x, hx, by simp, e⟩
 ·rintro ⟨x, hx, -, rfl⟩
  exact (putAll_at h hx (.map [])).2
theorem LeftI.step (h : EntOk mv) {dn : List Ent} {left : Lit → Bool} (hl : LeftI mv dn left) {x : Ent} (hx : x ∈ mv) : LeftI mv (dn ++ [x]) (fun z => left z && !z.sameKey (eKey x)) := fun kl => by
 rw [Bool.and_eq_true, hl kl]
 constructor
 ·rintro ⟨⟨y, hy, hn, rfl⟩, hs⟩
  refine ⟨y, hy, fun hm => ?_, rfl⟩
  rcases List.mem_append.1 hm with hm | hm
  ·exact hn hm
  ·rw [List.mem_singleton.1 hm, WideAt.sameKey_self (eKey_lit (h.wf hx))] at hs
   cases hs
 ·rintro ⟨y, hy, hn, rfl⟩
  refine ⟨⟨y, hy, fun hm => hn (List.mem_append_left _ hm), rfl⟩, ?_⟩
  cases c : (eKey y).sameKey (eKey x) with
  |false => rfl
  |true => exact absurd (List.mem_append_right dn (List.mem_singleton.2 (h.inj hy hx (WideAt.sameKey_eq c)))) hn
theorem LeftI.done (h : EntOk mv) {dn : List Ent} {left : Lit → Bool} (hl : LeftI mv dn left) (hd : dn.Nodup) (hs : ∀ x, x ∈ dn → x ∈ mv) (h0 : ∀ kl, left kl = false) : dn.Perm mv := by
 refine (List.perm_ext_iff_of_nodup hd h.nodup).2 (fun x => ⟨hs x, fun hx => ?_⟩)
 by_cases e : x ∈ dn
 ·exact e
 ·have := (hl (eKey x)).2 ⟨x, hx, e, rfl⟩
  rw [h0] at this
  cases this
end
end Go.Proofs.YtcgdloldkcmhnaaGreat.H
end
section
namespace Go.Proofs.YtcgdloldkcmhnaaGreat.H
open Go Go.RowKit Go.Proofs.YtcgdloldkcmhnaaGreat.PrintC Go.Proofs.YtcgdloldkcmhnaaGreat.PrintE Go.Proofs.YtcgdloldkcmhnaaGreatW.PrintWords Go.Proofs.YtcgdloldkcmhnaaGreat.Flow
set_option linter.unusedVariables false
theorem MgOf.eq {L a b : List Mv} (ha : MgOf L a) (hb : MgOf L b) : a = b := by
 have key : ∀ {a b : List Mv}, MgOf L a → MgOf L b → ∀ y, y ∈ a → y ∈ b := fun {a b} ha hb y hy => by
  obtain ⟨h1, h2, x, hx, h3⟩ := ha.am y hy
  obtain ⟨-, h4⟩ := hb.all x hx
  rw [← amt_same (sameK_sym h3)] at h4
  obtain ⟨w, hw, h5⟩ := h4 (by rw [← h1]; exact h2)
  obtain ⟨h6, -, -⟩ := hb.am w hw
  have h7 := sameK_trans (sameK_sym h3) h5
  rw [← amt_same h7, ← h1] at h6
  obtain ⟨e0, e1⟩ := sameK_iff.1 h7
  have : y = w := by
   cases y
   cases w
   simp only at e0 e1 h6
   rw [e0, e1, h6]
  rw [this]
  exact hw
 have nd : ∀ {a : List Mv}, MgOf L a → a.Nodup := fun {a} h => h.srt.imp (fun {x y} hxy e => by rw [e] at hxy; unfold mlt at hxy; omega)
 have hp : a.Perm b := (List.perm_ext_iff_of_nodup (nd ha) (nd hb)).2 (fun y => ⟨key ha hb y, key hb ha y⟩)
 exact hp.eq_of_pairwise (fun x y _ _ h1 h2 => by unfold mlt at h1 h2; omega) ha.srt hb.srt
end Go.Proofs.YtcgdloldkcmhnaaGreat.H
end
section
namespace Go.Proofs.YtcgdloldkcmhnaaGreat.H
open Go Go.RowKit Go.Proofs.YtcgdloldkcmhnaaGreat.PrintC Go.Proofs.YtcgdloldkcmhnaaGreat.PrintE Go.Proofs.YtcgdloldkcmhnaaGreatW.PrintWords Go.Proofs.YtcgdloldkcmhnaaGreatW.PrintLast Go.Proofs.YtcgdloldkcmhnaaGreatW.PrintMore Go.Proofs.YtcgdloldkcmhnaaGreat.Flow
set_option linter.unusedVariables false
set_option linter.unusedSimpArgs false
theorem capV_congr {n h : Nat} {l : List Arc} {p q : List Grp} {H H2 : Int → Int → Bool} (hP : PlaceOk n h l p q) (e : ∀ v z : Int, 0 ≤ v → v < n → 0 ≤ z → z ≤ h → H v z = H2 v z) : capV h l p q H = capV h l p q H2 := by
 have e1 : takesV (useOf q) H h l = takesV (useOf q) H2 h l := by
  refine sumN_congr _ fun j hj => ?_
  have he := hP.net.ends j hj
  have ht := hP.net.time j hj
  unfold tkA
  split
  ·refine sumN_congr _ fun z hz => ?_
   unfold tk1
   rw [e _ z he.1.1 he.1.2 (by omega) (by omega), e _ ((z : Int) + (arcAt l j).f3) he.2.1 he.2.2 (by omega) (by omega)]
  ·rfl
 have e2 : gS (fun g => !H g.f0 0) p = gS (fun g => !H2 g.f0 0) p := gS_congr fun g hg => by
  have h9 := hP.gp g hg
  show (!H g.f0 0) = (!H2 g.f0 0)
  rw [e _ 0 h9.1.1 h9.1.2 (Int.le_refl _) (by omega)]
 have e3 : gS (fun g => H g.f0 h) q = gS (fun g => H2 g.f0 h) q := gS_congr fun g hg => by
  have h9 := hP.gq g hg
  show H g.f0 h = H2 g.f0 h
  rw [e _ h h9.1.1 h9.1.2 (by omega) (Int.le_refl _)]
 unfold capV
 rw [e1, e2, e3]
theorem rcap_cap {n h : Nat} {b : Bool} {l : List Arc} {p q : List Grp} {X : List Slot} {w w' : World} {e : Ending} (hP : PlaceOk n h l p q) (hh : h ≤ 1024) (hX : SlotsWf X) (k : RCapAt n h b l p q X w e w') : CapAt n h b l p q X w e w' := by
 have n1 := hP.net.n1
 have hs : ∀ v z : Int, 0 ≤ v → v < n → 0 ≤ z → z ≤ h → hasL X v z = hasS (setD X) v z := fun v z h0 h1 h2 h3 => (hasS_setD hX (small_wf h0 (by omega)) (small_wf h2 (by omega))).symm
 obtain ⟨hb, k⟩ := k
 refine ⟨hb, ?_⟩
 rcases k with ⟨rfl, k⟩ | ⟨k1, (⟨rfl, v, z, hv, hk, hz, c1, c2⟩ | ⟨rfl, k2⟩)⟩
 ·exact .inl ⟨rfl, k⟩
 ·exact .inr ⟨k1, .inl ⟨rfl, v, z, hv, hk, hz, by rw [← hs v z (by omega) (by omega) (by omega) (by omega)]; exact c1, by rw [← hs v ((z : Int) + 1) (by omega) (by omega) (by omega) (by omega)]; exact c2⟩⟩
 ·refine .inr ⟨k1, .inr ⟨by rw [capV_congr hP hs], fun v hv hk z hz c1 => ?_⟩⟩
  rw [← hs v ((z : Int) + 1) (by omega) (by omega) (by omega) (by omega)]
  refine k2 v hv hk z hz ?_
  rw [hs v z (by omega) (by omega) (by omega) (by omega)]
  exact c1
theorem cap_set (n h : Nat) (b : Bool) (l : List Arc) (p q : List Grp) (X : List Slot) : ∃ K F : Int, ∀ w e w', CapAt n h b l p q X w e w' → e = .returned (.tuple #[.int .i64 K, .int .i64 F]) ∧ Below w.heap.size w w' := by
 by_cases h1 : ∀ s, s ∈ X → slotOk n h s
 ·by_cases h2 : ∀ v : Nat, v < n → keepsOf b p q v = true → ∀ z : Nat, z < h → hasS (setD X) v z = true → hasS (setD X) v ((z : Int) + 1) = true
  ·refine ⟨capV h l p q (hasS (setD X)), 0, fun w e w' k => ?_⟩
   obtain ⟨hb, (⟨_, s, hs, hn⟩ | ⟨_, (⟨_, v, z, hv, hk, hz, c1, c2⟩ | ⟨rfl, _⟩)⟩)⟩ := k
   ·exact absurd (h1 s hs) hn
   ·have := h2 v hv hk z hz c1
    rw [c2] at this
    cases this
   ·exact ⟨rfl, hb⟩
  ·refine ⟨0, 181, fun w e w' k => ?_⟩
   obtain ⟨hb, (⟨_, s, hs, hn⟩ | ⟨_, (⟨rfl, _⟩ | ⟨_, hr⟩)⟩)⟩ := k
   ·exact absurd (h1 s hs) hn
   ·exact ⟨rfl, hb⟩
   ·exact absurd hr h2
 ·refine ⟨0, 180, fun w e w' k => ?_⟩
  obtain ⟨hb, (⟨rfl, _⟩ | ⟨h9, _⟩)⟩ := k
  ·exact ⟨rfl, hb⟩
  ·exact absurd h9 h1
theorem chk_set (n h : Nat) (b : Bool) (l : List Arc) (p q : List Grp) (L : List Mv) : ∃ V E : Int, ∀ w e w', ChkAt n h b l p q L w e w' → e = .returned (.tuple #[.int .i64 V, .int .i64 E]) ∧ Below w.heap.size w w' := by
 have nof : ∀ {m}, MgOf L m → ¬ ∃ x, x ∈ L ∧ fits (amt L x) = false := fun {m} hm ⟨x, hx, hf⟩ => by
  have := (hm.all x (by rw [List.take_length]; exact hx)).1
  rw [hf] at this
  cases this
 by_cases h1 : ∃ m, MgOf L m
 ·obtain ⟨m, hm⟩ := h1
  by_cases h2 : ∀ x, x ∈ m → mok l h q x = true
  ·by_cases h3 : ∃ v z : Nat, v < n ∧ z ≤ h ∧ BadAt h b l p q m v z
   ·refine ⟨0, 141, fun w e w' k => ?_⟩
    obtain ⟨hb, (⟨k, _, _, rfl, ((⟨rfl, ho⟩ | ⟨rfl, m2, hm2, x, hx, hf⟩) | ⟨rfl, _⟩)⟩ | ⟨m2, hk, rfl⟩)⟩ := k
    ·exact absurd ho (nof hm)
    ·rw [MgOf.eq hm2 hm] at hx
     rw [h2 x hx] at hf
     cases hf
    ·exact ⟨rfl, hb⟩
    ·obtain ⟨v, z, hv, hz, hbad⟩ := h3
     refine absurd ?_ (hk.2.2 v z hv hz)
     rw [MgOf.eq hk.1 hm]
     exact hbad
   ·refine ⟨planV n h l p q m, 0, fun w e w' k => ?_⟩
    obtain ⟨hb, (⟨k, _, _, rfl, ((⟨rfl, ho⟩ | ⟨rfl, m2, hm2, x, hx, hf⟩) | ⟨rfl, m2, hm2, _, hbad⟩)⟩ | ⟨m2, hk, rfl⟩)⟩ := k
    ·exact absurd ho (nof hm)
    ·rw [MgOf.eq hm2 hm] at hx
     rw [h2 x hx] at hf
     cases hf
    ·rw [MgOf.eq hm2 hm] at hbad
     exact absurd hbad h3
    ·rw [MgOf.eq hk.1 hm]
     exact ⟨rfl, hb⟩
  ·refine ⟨0, 140, fun w e w' k => ?_⟩
   obtain ⟨hb, (⟨k, _, _, rfl, ((⟨rfl, ho⟩ | ⟨rfl, _⟩) | ⟨rfl, m2, hm2, hok, _⟩)⟩ | ⟨m2, hk, rfl⟩)⟩ := k
   ·exact absurd ho (nof hm)
   ·exact ⟨rfl, hb⟩
   ·rw [MgOf.eq hm2 hm] at hok
    exact absurd hok h2
   ·have := hk.2.1
    rw [MgOf.eq hk.1 hm] at this
    exact absurd this h2
 ·refine ⟨0, 10, fun w e w' k => ?_⟩
  obtain ⟨hb, (⟨k, _, _, rfl, ((⟨rfl, ho⟩ | ⟨rfl, m2, hm2, _⟩) | ⟨rfl, m2, hm2, _⟩)⟩ | ⟨m2, hk, rfl⟩)⟩ := k
  ·exact ⟨rfl, hb⟩
  ·exact absurd ⟨m2, hm2⟩ h1
  ·exact absurd ⟨m2, hm2⟩ h1
  ·exact absurd ⟨m2, hk.1⟩ h1
def VAt (r : Int) (w : World) (e : Ending) (w' : World) : Prop := e = .returned (.int .i64 r) ∧ Below w.heap.size w w'
theorem eight (d1 d2 d3 d4 d5 d6 d7 d8 : Bool) : (d1 = true) ∨ (d1 = false ∧ d2 = true) ∨ (d1 = false ∧ d2 = false ∧ d3 = true) ∨ (d1 = false ∧ d2 = false ∧ d3 = false ∧ d4 = true) ∨ (d1 = false ∧ d2 = false ∧ d3 = false ∧ d4 = false ∧ d5 = true) ∨ (d1 = false ∧ d2 = false ∧ d3 = false ∧ d4 = false ∧ d5 = false ∧ d6 = true) ∨ (d1 = false ∧ d2 = false ∧ d3 = false ∧ d4 = false ∧ d5 = false ∧ d6 = false ∧ d7 = true) ∨ (d1 = false ∧ d2 = false ∧ d3 = false ∧ d4 = false ∧ d5 = false ∧ d6 = false ∧ d7 = false ∧ d8 = true) ∨ (d1 = false ∧ d2 = false ∧ d3 = false ∧ d4 = false ∧ d5 = false ∧ d6 = false ∧ d7 = false ∧ d8 = false) := by
 cases d1 <;> cases d2 <;> cases d3 <;> cases d4 <;> cases d5 <;> cases d6 <;> cases d7 <;> cases d8 <;> decide
def spanV (h : Int) : Int := if h < 0 then 1 else if h > 1024 then 2 else 0
theorem vspan_walk (h : Int) (w : World) : Calls Tryz.prog 34 #[.int .i64 h] w (VAt (spanV h) w) := by
 unfold spanV
 by_cases d1 : h < 0
 ·rw [if_pos d1]
  go_enter Tryz.func34, Tryz.ntmps34
  go_wp2
  go_ret
  exact ⟨rfl, Below.refl _ _⟩
 ·rw [if_neg d1]
  by_cases d2 : 1024 < h
  ·rw [if_pos d2]
   go_enter Tryz.func34, Tryz.ntmps34
   go_wp2
   go_ret
   exact ⟨rfl, Below.refl _ _⟩
  ·rw [if_neg d2]
   have d3 : h ≤ 1024 := by omega
   go_enter Tryz.func34, Tryz.ntmps34
   go_wp2
   go_ret
   exact ⟨rfl, Below.refl _ _⟩
set_option maxRecDepth 100000 in
set_option maxHeartbeats 8000000 in
theorem varc_walk (n : Int) (x : Arc) (w : World) : Calls Tryz.prog 67 #[.int .i64 n, .agg #[.int .i64 x.f0, .int .i64 x.f1, .int .i64 x.f2, .int .i64 x.f3]] w (VAt (arcV n x.f0 x.f1 x.f2 x.f3) w) := by
 have hu2 := Tryz.underlying104
 obtain ⟨r, hr⟩ : ∃ r, r = arcV n x.f0 x.f1 x.f2 x.f3 := ⟨_, rfl⟩
 rw [← hr]
 obtain ⟨d1, e1⟩ : ∃ d1, decide (x.f0 < 0) = d1 := ⟨_, rfl⟩
 obtain ⟨d2, e2⟩ : ∃ d2, decide (n ≤ x.f0) = d2 := ⟨_, rfl⟩
 obtain ⟨d3, e3⟩ : ∃ d3, decide (x.f1 < 0) = d3 := ⟨_, rfl⟩
 obtain ⟨d4, e4⟩ : ∃ d4, decide (n ≤ x.f1) = d4 := ⟨_, rfl⟩
 obtain ⟨d5, e5⟩ : ∃ d5, decide (x.f2 < 0) = d5 := ⟨_, rfl⟩
 obtain ⟨d6, e6⟩ : ∃ d6, decide (x.f3 < 0) = d6 := ⟨_, rfl⟩
 obtain ⟨d7, e7⟩ : ∃ d7, decide (1048576 < x.f2) = d7 := ⟨_, rfl⟩
 obtain ⟨d8, e8⟩ : ∃ d8, decide (1048576 < x.f3) = d8 := ⟨_, rfl⟩
 have HG : Hid (r = if (d1 || d2 || d3 || d4 || d5 || d6) = true then 51 else if d7 = true then 2 else if d8 = true then 2 else 0) := zh (by
  rw [hr]
  unfold arcV
  subst e1 e2 e3 e4 e5 e6 e7 e8
  simp only [Bool.or_eq_true, decide_eq_true_eq, or_assoc, ge_iff_le, gt_iff_lt])
 clear hr
 go_enter Tryz.func67, Tryz.ntmps67
 rcases eight d1 d2 d3 d4 d5 d6 d7 d8 with rfl | ⟨rfl, rfl⟩ | ⟨rfl, rfl, rfl⟩ | ⟨rfl, rfl, rfl, rfl⟩ | ⟨rfl, rfl, rfl, rfl, rfl⟩ | ⟨rfl, rfl, rfl, rfl, rfl, rfl⟩ | ⟨rfl, rfl, rfl, rfl, rfl, rfl, rfl⟩ | ⟨rfl, rfl, rfl, rfl, rfl, rfl, rfl, rfl⟩ | ⟨rfl, rfl, rfl, rfl, rfl, rfl, rfl, rfl⟩
 all_goals
  go_wp2
  go_ret
  exact ⟨by rw [HG.out]; first | rfl | (simp; rfl) | simp, below_alloc (Below.refl _ _) _⟩
set_option maxRecDepth 100000 in
set_option maxHeartbeats 4000000 in
theorem vcheck_walk (n : Int) (b : Bool) (A : Option Addr) (c : Nat) (l : List Arc) (w : World) (hr : Kd.C kArc w A l.length l) :
  Calls Tryz.prog 32 #[.agg #[.int .i64 n, .bool b, .slice A l.length c]] w (VAt (netV n l) w) := by
 have hu := Tryz.underlying33
 have hu2 := Tryz.underlying104
 have HR := zh hr
 clear hr
 unfold netV
 obtain ⟨w1, hw1⟩ : ∃ w1, w1 = w.alloc (.cells #[.int .i64 n, .bool b, .slice A l.length c] 33) := ⟨_, rfl⟩
 have HX : Hid (w1.heap[w.heap.size]? = some (.cells #[.int .i64 n, .bool b, .slice A l.length c] 33 (0, 0)) ∧ Below w.heap.size w w1) := zh (by rw [hw1]; exact ⟨heap_alloc_new _ _, below_alloc (Below.refl _ _) _⟩)
 by_cases d1 : n < 1
 ·rw [if_pos d1]
  go_enter Tryz.func32, Tryz.ntmps32
  go_wp2
  rw [← hw1]
  go_ret
  exact ⟨rfl, HX.out.2⟩
 rw [if_neg d1]
 by_cases d2 : 50 < n
 ·rw [if_pos d2]
  go_enter Tryz.func32, Tryz.ntmps32
  go_wp2
  rw [← hw1]
  go_ret
  exact ⟨rfl, HX.out.2⟩
 rw [if_neg d2]
 by_cases d3 : 200 < (l.length : Int)
 ·rw [if_pos d3]
  go_enter Tryz.func32, Tryz.ntmps32
  go_wp2
  rw [← hw1]
  go_ret
  exact ⟨rfl, HX.out.2⟩
 rw [if_neg d3]
 have hll : l.length ≤ 200 := by omega
 go_enter Tryz.func32, Tryz.ntmps32
 go_wp2
 rw [← hw1]
 clear hw1
 go_loopg [4] (l.length + 1) (fun k iv W => ∃ i : Nat, i ≤ l.length ∧ iv = .int .i64 i ∧ k = l.length + 1 - i ∧ Hid (W.heap[w.heap.size]? = some (.cells #[.int .i64 n, .bool b, .slice A l.length c] 33 (0, 0)) ∧ Below w.heap.size w W ∧ arcsV n l = arcsV n (l.drop i)))
 case atStart => exact ⟨0, Nat.zero_le _, rfl, rfl, zh ⟨HX.out.1, HX.out.2, by rw [List.drop_zero]⟩⟩
 case round =>
  obtain ⟨i, hi, rfl, rfl, HL⟩ := hrel
  clear HX
  have q2 : wr.cell? ⟨w.heap.size, 2, none⟩ = some (.slice A l.length c) := (blk_cell HL.out.1 2).trans rfl
  by_cases d4 : i < l.length
  ·have i0 : (0 : Int) ≤ (i : Int) := by omega
   have i1 : (i : Int) < (l.length : Int) := by omega
   go_wp2
   clear q2
   obtain ⟨ad, ea, y0, y1, y2, y3⟩ := at_T104 (Kd.C_drew (Kd.C_below HR.out HL.out.2.1)) (i : Int) i0 i1
   subst ea
   rw [Int.toNat_natCast] at y0 y1 y2 y3
   obtain ⟨x, hx⟩ : ∃ x, x = arcAt l i := ⟨_, rfl⟩
   have hx2 : rd_T104 l (i : Int) = x := by rw [hx]; rfl
   rw [hx2] at y0 y1 y2 y3
   have HDR := zh (drop_rd (l := l) (i := i) d4)
   rw [hx2] at HDR
   have HV := zh HL.out.2.2
   obtain ⟨v, hv⟩ : ∃ v, v = arcV n x.f0 x.f1 x.f2 x.f3 := ⟨_, rfl⟩
   have HVV := zh hv
   clear hx hx2 hv
   have x0 : wr.drew.cell? ⟨w.heap.size, 0, none⟩ = some (.int .i64 n) := (blk_cell (blk_drew HL.out.1) 0).trans rfl
   have x2 : wr.drew.cell? ⟨w.heap.size, 2, none⟩ = some (.slice (some ad) l.length c) := (blk_cell (blk_drew HL.out.1) 2).trans rfl
   have HX1 := zh (And.intro (blk_drew HL.out.1) (below_drew1 HL.out.2.1))
   refine stepS (S := fun w' => w'.cell? ⟨w.heap.size, 0, none⟩ = some (.int .i64 n) ∧ w'.cell? ⟨w.heap.size, 2, none⟩ = some (.slice (some ad) l.length c) ∧ w'.cell? (ad.add (i * 4)) = some (.int .i64 x.f0) ∧ w'.cell? ⟨(ad.add (i * 4)).block, (ad.add (i * 4)).off + 1, none⟩ = some (.int .i64 x.f1) ∧ w'.cell? ⟨(ad.add (i * 4)).block, (ad.add (i * 4)).off + 2, none⟩ = some (.int .i64 x.f2) ∧ w'.cell? ⟨(ad.add (i * 4)).block, (ad.add (i * 4)).off + 3, none⟩ = some (.int .i64 x.f3)) (ds := [7]) 9 (by kernel_rfl) rfl ⟨x0, x2, y0, y1, y2, y3⟩ (fun hHeld => ?_)
   generalize wr.drew = wd at HX1 hHeld x0 x2 y0 y1 y2 y3 ⊢
   repeat (first | refine rP 9 ?_ | refine rT 9 hHeld ?_)
   refine stepL 9 (N := some 30) rfl rfl (by kernel_rfl) (by decide) (fun K hK => ?_)
   refine goes_ Tryz.func67 (by kernel_rfl) rfl #[.int .i64 n, .agg #[.int .i64 x.f0, .int .i64 x.f1, .int .i64 x.f2, .int .i64 x.f3]] (by rfl) rfl rfl (by (try simp only [List.map_toArray, List.map_cons, List.map_nil]); rfl) ?_
   refine (varc_walk n x _).mono ?_
   rintro e w5 ⟨rfl, hb⟩
   rw [← HVV.out]
   refine ⟨_, rfl, ?_⟩
   have HX2 := zh (And.intro (blk_below HX1.out.1 hb) (below_step HX1.out.2 hb))
   refine hK.out _ _ ?_
   clear hK K hHeld hb HX1 x0 x2 y0 y1 y2 y3
   by_cases hv0 : v = 0
   ·have v1 : (v != 0) = false := bne_eq_false_iff_eq.2 hv0
    have v2 : (v == 0) = true := beq_iff_eq.2 hv0
    have HV0 := zh hv0
    clear hv0
    refine sN ?_
    refine rP 9 ?_
    refine done_ (by kernel_rfl) ?_
    go_wp2
    go_roundg (l.length - i)
    case measure => omega
    case rel => exact ⟨i + 1, by omega, by go_num, by omega, zh ⟨HX2.out.1, HX2.out.2, by rw [HV.out, HDR.out, arcsV_cons, ← HVV.out, if_pos HV0.out]⟩⟩
   ·have v1 : (v != 0) = true := bne_iff_ne.2 hv0
    have v2 : (v == 0) = false := beq_eq_false_iff_ne.2 hv0
    have HV0 := zh hv0
    clear hv0
    refine sN ?_
    refine rP 9 ?_
    refine done_ (by kernel_rfl) ?_
    go_wp2
    go_ret
    exact ⟨by rw [HV.out, HDR.out, arcsV_cons, ← HVV.out, if_neg HV0.out]; rfl, HX2.out.2⟩
  ·have d5 : ¬ (i : Int) < (l.length : Int) := by omega
   go_wp2
   go_ret
   refine ⟨?_, HL.out.2.1⟩
   rw [HL.out.2.2, List.drop_of_length_le (by omega)]
   rfl
set_option maxRecDepth 100000 in
theorem vnode_walk (n : Int) (b : Bool) (vl : Value) (v : Int) (R : Bool) (hR : R = (decide (0 ≤ v) && decide (v < n))) (w : World) :
  Calls Tryz.prog 86 #[.agg #[.int .i64 n, .bool b, vl], .int .i64 v] w fun e w' => e = .returned (.bool R) ∧ Below w.heap.size w w' := by
 have hu := Tryz.underlying33
 subst hR
 cases d1 : decide (0 ≤ v) <;> cases d2 : decide (v < n)
 all_goals
  go_enter Tryz.func86, Tryz.ntmps86
  go_wp2
  go_ret
  exact ⟨rfl, below_alloc (Below.refl _ _) _⟩
theorem grp_cases (n : Int) (L : List Grp) (g : Grp) (h0 : ∀ x, x ∈ L → 0 ≤ x.f1) (nb : Bool) (y r : Int) (hnb : nb = (decide (0 ≤ g.f0) && decide (g.f0 < n))) (hy : y = gOf g.f0 L) (hr : r = grpV n L g) :
  (nb = false ∧ r = 210) ∨ (nb = true ∧ decide (g.f1 < 0) = true ∧ r = 210) ∨ (nb = true ∧ decide (g.f1 < 0) = false ∧ decide (0 ≤ y) = true ∧ r = 210) ∨ (nb = true ∧ decide (g.f1 < 0) = false ∧ decide (0 ≤ y) = false ∧ 1048576 < g.f1 ∧ r = 2) ∨ (nb = true ∧ decide (g.f1 < 0) = false ∧ decide (0 ≤ y) = false ∧ ¬ 1048576 < g.f1 ∧ r = 0) := by
 have e := gOf_neg g.f0 h0
 rw [hasK_putGs, ← hy] at e
 unfold grpV at hr
 by_cases c1 : 0 ≤ g.f0 ∧ g.f0 < n
 ·have b1 : nb = true := by rw [hnb, decide_eq_true c1.1, decide_eq_true c1.2]; rfl
  by_cases c2 : g.f1 < 0
  ·exact .inr (.inl ⟨b1, decide_eq_true c2, by rw [hr, if_pos (.inr (.inr (.inl c2)))]⟩)
  ·by_cases c3 : 0 ≤ y
   ·have h9 : (L.any fun x => decide (x.f0 = g.f0)) = true := by
     cases h8 : L.any fun x => decide (x.f0 = g.f0) with
     |true => rfl
     |false => have := e.2 h8; omega
    exact .inr (.inr (.inl ⟨b1, decide_eq_false c2, decide_eq_true c3, by rw [hr, if_pos (.inr (.inr (.inr h9)))]⟩))
   ·have h9 := e.1 (by omega)
    have hn : ¬ (g.f0 < 0 ∨ n ≤ g.f0 ∨ g.f1 < 0 ∨ (L.any fun x => decide (x.f0 = g.f0)) = true) := by
     rintro (h | h | h | h)
     ·omega
     ·omega
     ·exact c2 h
     ·rw [h9] at h; cases h
    rw [if_neg hn] at hr
    by_cases c4 : 1048576 < g.f1
    ·exact .inr (.inr (.inr (.inl ⟨b1, decide_eq_false c2, decide_eq_false c3, c4, by rw [hr, if_pos c4]⟩)))
    ·exact .inr (.inr (.inr (.inr ⟨b1, decide_eq_false c2, decide_eq_false c3, c4, by rw [hr, if_neg c4]⟩)))
 ·refine .inl ⟨?_, by rw [hr, if_pos (by omega)]⟩
  rw [hnb]
  by_cases c2 : 0 ≤ g.f0
  ·rw [decide_eq_true c2, decide_eq_false (fun c3 => c1 ⟨c2, c3⟩)]; rfl
  ·rw [decide_eq_false c2]; rfl
set_option maxRecDepth 100000 in
set_option maxHeartbeats 4000000 in
theorem vgroup_walk (n : Int) (b : Bool) (vl : Value) (A : Option Addr) (c : Nat) (L : List Grp) (m : Nat) (hm : L.length = m) (g : Grp) (w : World) (hr : Kd.C kGrp w A L.length L) (hl : m ≤ 1000000) (h0 : ∀ x, x ∈ L → 0 ≤ x.f1) :
  Calls Tryz.prog 68 #[.agg #[.int .i64 n, .bool b, vl], .slice A m c, .agg #[.int .i64 g.f0, .int .i64 g.f1]] w (VAt (grpV n L g) w) := by
 have hu := Tryz.underlying33
 have hu3 := Tryz.underlying59
 have HR := zh hr
 have HM := zh hm
 obtain ⟨y, hy⟩ : ∃ y, y = gOf g.f0 L := ⟨_, rfl⟩
 obtain ⟨nb, hnb⟩ : ∃ nb, nb = (decide (0 ≤ g.f0) && decide (g.f0 < n)) := ⟨_, rfl⟩
 obtain ⟨r, hrr⟩ : ∃ r, r = grpV n L g := ⟨_, rfl⟩
 rw [← hrr]
 have hcs := grp_cases n L g h0 nb y r hnb hy hrr
 have HY := zh hy
 have HNB := zh hnb
 clear hr hm hy hnb hrr h0
 obtain ⟨w1, hw1⟩ : ∃ w1, w1 = (w.alloc (.cells #[.int .i64 n, .bool b, vl] 33)).alloc (.cells #[.int .i64 g.f0, .int .i64 g.f1] 59) := ⟨_, rfl⟩
 have HB0 : Hid (Below w.heap.size w w1) := zh (by rw [hw1]; exact below_alloc (below_alloc (Below.refl _ _) _) _)
 have v0 : w1.cell? ⟨w.heap.size + 1, 0, none⟩ = some (.int .i64 g.f0) := by rw [hw1]; exact (blk_cell (alloc_at (by rw [alloc_size])) 0).trans rfl
 have v1 : w1.cell? ⟨w.heap.size + 1, 1, none⟩ = some (.int .i64 g.f1) := by rw [hw1]; exact (blk_cell (alloc_at (by rw [alloc_size])) 1).trans rfl
 rcases hcs with ⟨c1, hf⟩ | ⟨c1, c2, hf⟩ | ⟨c1, c2, c3, hf⟩ | ⟨c1, c2, c3, c4, hf⟩ | ⟨c1, c2, c3, c4, hf⟩
 all_goals
  subst c1 hf
  go_enter Tryz.func68, Tryz.ntmps68
  go_wp2_with (first
   |(go_at_call 86; rw [← hw1]; go_loud ((with_reducible refine (vnode_walk n b vl _ _ HNB.out _).mono ?_); rintro e w2 ⟨rfl, hb⟩; have HB := zh (below_step HB0.out hb); have u0 := pw_cell_below hb v0; have u1 := pw_cell_below hb v1; clear hb))
   |(go_at_call 24; go_loud ((with_reducible refine (rof_walk m A c L _ _ ?s1 ?s2 ?s3).mono ?_); (case s1 => exact HM.out); (case s2 => exact Kd.C_below HR.out HB.out); (case s3 => exact hl); rintro e w3 ⟨rfl, hb⟩; rw [← HY.out]; have HB2 := zh (below_step HB.out hb); have u9 := pw_cell_below hb u1; clear HB u0 u1 hb; have HB := HB2; have u1 := u9; clear HB2 u9)))
  go_ret
  exact ⟨rfl, HB.out⟩
set_option maxRecDepth 100000 in
set_option maxHeartbeats 8000000 in
theorem vgroups_walk (n : Int) (b : Bool) (vl : Value) (Ap : Option Addr) (cp : Nat) (p : List Grp) (Aq : Option Addr) (cq : Nat) (q : List Grp) (w : World) (hp : Kd.C kGrp w Ap p.length p) (hq : Kd.C kGrp w Aq q.length q) (lp : p.length ≤ 1000) (lq : q.length ≤ 1000) :
  Calls Tryz.prog 33 #[.agg #[.int .i64 n, .bool b, vl], .slice Ap p.length cp, .slice Aq q.length cq] w (VAt (groupsC n p q) w) := by
 have hu := Tryz.underlying33
 have hu3 := Tryz.underlying59
 have HP := zh hp
 have HQ := zh hq
 rw [groupsC_eq]
 clear hp hq
 by_cases p1 : p.length = 0
 ·have p0 : ((p.length : Int) == 0) = true := by rw [beq_iff_eq]; omega
  rw [if_pos (.inl p1)]
  clear p1
  go_enter Tryz.func33, Tryz.ntmps33
  go_wp2
  go_ret
  exact ⟨rfl, below_alloc (Below.refl _ _) _⟩
 have p0 : ((p.length : Int) == 0) = false := by rw [beq_eq_false_iff_ne]; omega
 by_cases q1 : q.length = 0
 ·have q0 : ((q.length : Int) == 0) = true := by rw [beq_iff_eq]; omega
  rw [if_pos (.inr q1)]
  clear p1 q1
  go_enter Tryz.func33, Tryz.ntmps33
  go_wp2
  go_ret
  exact ⟨rfl, below_alloc (Below.refl _ _) _⟩
 have q0 : ((q.length : Int) == 0) = false := by rw [beq_eq_false_iff_ne]; omega
 rw [if_neg (fun e => e.elim p1 q1)]
 clear p1 q1
 go_enter Tryz.func33, Tryz.ntmps33
 obtain ⟨w1, hw1⟩ : ∃ w1, w1 = w.alloc (.cells #[.int .i64 n, .bool b, vl] 33) := ⟨_, rfl⟩
 have HX : Hid (w1.heap[w.heap.size]? = some (.cells #[.int .i64 n, .bool b, vl] 33 (0, 0)) ∧ Below w.heap.size w w1) := zh (by rw [hw1]; exact ⟨heap_alloc_new _ _, below_alloc (Below.refl _ _) _⟩)
 go_wp2_with (first
  |((with_reducible refine gate_builtin (b := .append) (xs := #[.tmp 19, .tmp 20]) rfl ?_); (try (refine gate_guard (by rfl) ?_; dsimp only)); at_builtin; rw [← hw1]; go_loud (refine Kd.R_append_rows kGrp (w0 := w) w.heap.size rfl (.tmp 19) (.tmp 20) 34 59 (.agg #[.int .i64 0, .int .i64 0]) 16 rfl Tryz.underlying34 infoGp rfl (by decide) (by decide) (.slice none 0 0) ([] : List Grp) p _ _ _ (fun _ => True) (fun _ => False) rfl rfl ?aO ?aR (fun _ _ h => h) (fun _ h => h.elim) ?aF ?aB ?aS ?aL ?_); (case aR => exact Kd.C_below HP.out HX.out.2); (case aB => exact HX.out.2); (case aF => exact fun _ _ => trivial); (case aO => exact Kd.R_nil _ _ _ _ _); (case aS => exact (HX.out.2).size); (case aL => show (0 + p.length) * 16 ≤ 140737488355328; omega); go_loud ((intro v1 w2 ho hb hg hat; rw [List.nil_append] at ho; have HX2 := zh (And.intro (blk_grown HX.out.1 hg (Kd.R_ne (Kd.R_nil kGrp 59 _ w.heap.size (fun _ => True)) HX.out.1 (by decide))) (And.intro hb ho)); obtain ⟨A1, c1, rfl⟩ := Kd.R_slice ho; clear ho hb hg hat)))
  |((with_reducible refine gate_builtin (b := .append) (xs := #[.tmp 22, .tmp 23]) rfl ?_); (try (refine gate_guard (by rfl) ?_; dsimp only)); at_builtin; go_loud (refine Kd.R_append_rows kGrp (w0 := w) w.heap.size rfl (.tmp 22) (.tmp 23) 34 59 (.agg #[.int .i64 0, .int .i64 0]) 16 rfl Tryz.underlying34 infoGp rfl (by decide) (by decide) (.slice A1 p.length c1) (p) q _ _ _ (fun _ => True) (fun _ => False) rfl rfl ?aO ?aR (fun _ _ h => h) (fun _ h => h.elim) ?aF ?aB ?aS ?aL ?_); (case aR => exact Kd.C_below HQ.out HX2.out.2.1); (case aB => exact HX2.out.2.1); (case aF => exact fun _ _ => trivial); (case aO => exact HX2.out.2.2); (case aS => exact (HX2.out.2.1).size); (case aL => show (p.length + q.length) * 16 ≤ 140737488355328; omega); go_loud ((intro v1 w3 ho hb hg hat; have HX3 := zh (And.intro (blk_grown HX2.out.1 hg (Kd.R_ne HX2.out.2.2 HX2.out.1 (by decide))) (And.intro hb ho)); obtain ⟨A2, c2, rfl⟩ := Kd.R_slice ho; clear ho hb hg hat))))
 obtain ⟨L, hL⟩ : ∃ L, L = p ++ q := ⟨_, rfl⟩
 obtain ⟨m, hm⟩ : ∃ m : Nat, m = p.length + q.length := ⟨_, rfl⟩
 have hLm : L.length = m := by rw [hL, hm, List.length_append]
 rw [← hL]
 have HLE := zh hL
 have HX4 : Hid (w3.heap[w.heap.size]? = some (.cells #[.int .i64 n, .bool b, vl] 33 (0, 0)) ∧ Below w.heap.size w w3 ∧ Kd.C kGrp w3 A2 L.length L) := zh ⟨HX3.out.1, HX3.out.2.1, by rw [hL]; exact (Kd.R_reads' HX3.out.2.2).2.2⟩
 have hmb : m ≤ 2000 := by omega
 have HLM := zh hLm
 rw [← hm]
 clear hL hm hLm HX HX2 HX3 HP HQ hw1 p0 q0 lp lq w1 w2
 go_loopg [7, 9] (m + 1) (fun k ov iv W => ∃ (i : Nat) (A3 : Option Addr) (c3 : Nat), i ≤ m ∧ ov = .slice A3 i c3 ∧ iv = .int .i64 i ∧ k = m + 1 - i ∧ Hid (Kd.R kGrp 59 W w3.heap.size (fun _ => True) (.slice A3 i c3) (L.take i) ∧ Below w3.heap.size w3 W ∧ grpsV n [] L = grpsV n (L.take i) (L.drop i) ∧ ∀ x, x ∈ L.take i → 0 ≤ x.f1))
 case atStart => exact ⟨0, none, 0, Nat.zero_le _, rfl, rfl, rfl, zh ⟨Kd.R_nil _ _ _ _ _, Below.refl _ _, by rw [List.take_zero, List.drop_zero], fun x hx => by simp at hx⟩⟩
 case round =>
  obtain ⟨i, A3, c3, hi, rfl, rfl, rfl, HL⟩ := hrel
  by_cases d4 : i < m
  ·have i0 : (0 : Int) ≤ (i : Int) := by omega
   have i1 : (i : Int) < (m : Int) := by omega
   have HDR := zh (drop_rdG (l := L) (i := i) (by rw [HLM.out]; exact d4))
   have HV := zh (And.intro HL.out.2.2.1 HL.out.2.2.2)
   have HTK := zh (take_sn (l := L) (i := i) (by rw [HLM.out]; exact d4))
   go_wp2
   obtain ⟨ad, ea, y0, y1⟩ := at_T59 (Kd.C_drew (Kd.C_below HX4.out.2.2 HL.out.2.1)) (i : Int) i0 (by rw [HLM.out]; exact i1)
   obtain ⟨g, hg⟩ : ∃ g, g = rd_T59 L (i : Int) := ⟨_, rfl⟩
   have ZF : Hid (∀ W, Below w3.heap.size w3 W → W.cell? (ad.add (i * 2)) = some (.int .i64 g.f0) ∧ W.cell? ⟨(ad.add (i * 2)).block, (ad.add (i * 2)).off + 1, none⟩ = some (.int .i64 g.f1)) := zh (fun W hW => by
    obtain ⟨ad2, ea2, z0, z1⟩ := at_T59 (Kd.C_below HX4.out.2.2 hW) (i : Int) i0 (by rw [HLM.out]; exact i1)
    rw [ea] at ea2
    injection ea2 with ea2
    subst ea2
    rw [Int.toNat_natCast, ← hg] at z0 z1
    exact ⟨z0, z1⟩)
   subst ea
   rw [Int.toNat_natCast] at y0 y1
   rw [← hg] at y0 y1 HDR HTK
   obtain ⟨v, hv⟩ : ∃ v, v = grpV n (L.take i) g := ⟨_, rfl⟩
   have HVV := zh hv
   clear hg hv
   have hbx := blk_drew (blk_below HX4.out.1 HL.out.2.1)
   have x0 : wr.drew.cell? ⟨w.heap.size, 0, none⟩ = some (.int .i64 n) := (blk_cell hbx 0).trans rfl
   have x1 : wr.drew.cell? ⟨w.heap.size, 1, none⟩ = some (.bool b) := (blk_cell hbx 1).trans rfl
   have x2 : wr.drew.cell? ⟨w.heap.size, 2, none⟩ = some vl := (blk_cell hbx 2).trans rfl
   have HX1 := zh (And.intro (Kd.R_drew HL.out.1) (below_drew1 HL.out.2.1))
   clear hbx
   refine stepS (S := fun w' => w'.cell? ⟨w.heap.size, 0, none⟩ = some (.int .i64 n) ∧ w'.cell? ⟨w.heap.size, 1, none⟩ = some (.bool b) ∧ w'.cell? ⟨w.heap.size, 2, none⟩ = some vl ∧ w'.cell? (ad.add (i * 2)) = some (.int .i64 g.f0) ∧ w'.cell? ⟨(ad.add (i * 2)).block, (ad.add (i * 2)).off + 1, none⟩ = some (.int .i64 g.f1)) (ds := [6]) 8 (by kernel_rfl) rfl ⟨x0, x1, x2, y0, y1⟩ (fun hHeld => ?_)
   generalize wr.drew = wd at HX1 hHeld x0 x1 x2 y0 y1 ⊢
   repeat (first | refine rP 8 ?_ | refine rT 8 hHeld ?_)
   refine stepL 8 (N := some 37) rfl rfl (by kernel_rfl) (by decide) (fun K hK => ?_)
   refine goes_ Tryz.func68 (by kernel_rfl) rfl #[.agg #[.int .i64 n, .bool b, vl], .slice A3 i c3, .agg #[.int .i64 g.f0, .int .i64 g.f1]] (by rfl) rfl rfl (by (try simp only [List.map_toArray, List.map_cons, List.map_nil]); rfl) ?_
   have hti : (L.take i).length = i := by rw [List.length_take, HLM.out]; omega
   have hrc := (Kd.R_reads' (show Kd.R kGrp 59 wd w3.heap.size (fun _ => True) (.slice A3 (L.take i).length c3) (L.take i) by rw [hti]; exact HX1.out.1)).2.2
   refine (vgroup_walk n b vl A3 c3 (L.take i) i hti g _ hrc (by omega) HV.out.2).mono ?_
   rw [← HVV.out]
   rintro e w5 ⟨rfl, hb⟩
   refine ⟨_, rfl, ?_⟩
   have HX5 := zh (And.intro (Kd.R_below HX1.out.1 hb) (below_step HX1.out.2 hb))
   have z0 := (ZF.out _ HX5.out.2).1
   have z1 := (ZF.out _ HX5.out.2).2
   refine hK.out _ _ ?_
   clear hK K hHeld hb HX1 x0 x1 x2 y0 y1 hrc hti
   by_cases hv0 : v = 0
   ·have v1 : (v != 0) = false := bne_eq_false_iff_eq.2 hv0
    have v2 : (v == 0) = true := beq_iff_eq.2 hv0
    have HV0 := zh hv0
    clear hv0
    refine sN ?_
    refine rP 8 ?_
    refine done_ (by kernel_rfl) ?_
    go_wp2_with ((with_reducible refine gate_dst (N := 47) rfl ?_); go_loud (refine Kd.R_append kGrp (w0 := w3) w3.heap.size rfl (.tmp 41) (.tmp 46) 34 59 (.agg #[.int .i64 0, .int .i64 0]) 16 rfl Tryz.underlying34 infoGp rfl (by decide) (by decide) (.slice A3 i c3) (L.take i) g [.int .i64 g.f0, .int .i64 g.f1] (fun _ => True) (fun _ => False) rfl ?aX ?aP (fun _ hk => hk.elim) ?aF ?aO ?aB ?aS ?aL ?_); (case aX => first | rfl | (simp; done) | (simp; rfl)); (case aP => exact k59_mkM _ _ _ g); (case aF => exact fun _ _ => trivial); (case aO => exact HX5.out.1); (case aB => exact HX5.out.2); (case aS => exact HX5.out.2.size); (case aL => rw [List.length_take]; omega); go_loud ((intro v1 w9 ho hb hg hat; obtain ⟨A9, c9, e9⟩ := Kd.R_slice ho; rw [snoc_tk (l := L) (i := i) HLM.out d4] at e9; subst e9; have HX9 := zh (And.intro ho hb); clear ho hb hg hat)))
    go_roundg (m - i)
    case measure => omega
    case rel => exact ⟨i + 1, A9, c9, by omega, rfl, by go_num, by omega, zh ⟨by rw [HTK.out]; exact HX9.out.1, HX9.out.2, by
     rw [HV.out.1, HDR.out, HTK.out]
     show (if grpV n (L.take i) g = 0 then grpsV n (L.take i ++ [g]) (L.drop (i + 1)) else grpV n (L.take i) g) = _
     rw [← HVV.out, if_pos HV0.out], fun x hx => by
     rw [HTK.out] at hx
     rcases List.mem_append.1 hx with hx | hx
     ·exact HV.out.2 x hx
     ·rw [List.mem_singleton.1 hx]
      have h9 := HV0.out
      rw [HVV.out] at h9
      unfold grpV at h9
      split at h9
      ·omega
      ·rename_i h8
       omega⟩⟩
   ·have v1 : (v != 0) = true := bne_iff_ne.2 hv0
    have v2 : (v == 0) = false := beq_eq_false_iff_ne.2 hv0
    have HV0 := zh hv0
    clear hv0
    refine sN ?_
    refine rP 8 ?_
    refine done_ (by kernel_rfl) ?_
    go_wp2
    go_ret
    refine ⟨?_, below_step HX4.out.2.1 HX5.out.2⟩
    (try rw [← HLE.out])
    rw [HV.out.1, HDR.out]
    show _ = Ending.returned (.int .i64 (if grpV n (L.take i) g = 0 then grpsV n (L.take i ++ [g]) (L.drop (i + 1)) else grpV n (L.take i) g))
    rw [← HVV.out, if_neg HV0.out]
    rfl
  ·have d5 : ¬ (i : Int) < (m : Int) := by omega
   go_wp2
   go_ret
   refine ⟨?_, below_step HX4.out.2.1 HL.out.2.1⟩
   (try rw [← HLE.out])
   rw [HL.out.2.2.1, List.drop_of_length_le (by rw [HLM.out]; omega)]
   rfl
theorem netV_ok {n : Int} {l : List Arc} (h : netV n l = 0) : 1 ≤ n ∧ n ≤ 50 ∧ l.length ≤ 200 := by
 unfold netV at h
 by_cases c1 : n < 1
 ·rw [if_pos c1] at h; cases h
 rw [if_neg c1] at h
 by_cases c2 : n > 50
 ·rw [if_pos c2] at h; cases h
 rw [if_neg c2] at h
 by_cases c3 : (l.length : Int) > 200
 ·rw [if_pos c3] at h; cases h
 omega
theorem spanV_ok {h : Int} (e : spanV h = 0) : 0 ≤ h ∧ h ≤ 1024 := by
 unfold spanV at e
 by_cases c1 : h < 0
 ·rw [if_pos c1] at e; cases e
 rw [if_neg c1] at e
 by_cases c2 : h > 1024
 ·rw [if_pos c2] at e; cases e
 omega
theorem mul_wrap {h a : Int} (h0 : 0 ≤ h ∧ h ≤ 1024) (a0 : 0 ≤ a ∧ a ≤ 1000) : 0 ≤ (h + 1) * a ∧ (h + 1) * a ≤ 1025000 := by
 have h1 : (h + 1) * a ≤ 1025 * a := Int.mul_le_mul_of_nonneg_right (by omega) a0.1
 have h2 : 0 ≤ (h + 1) * a := Int.mul_nonneg (by omega) a0.1
 omega
set_option maxRecDepth 100000 in
set_option maxHeartbeats 4000000 in
theorem vfits_walk (n : Int) (b : Bool) (A : Option Addr) (c : Nat) (l : List Arc) (h : Int) (R : Bool) (w : World) (hr : Kd.C kArc w A l.length l) (hn : netV n l = 0) (hs : spanV h = 0) (hR : R = (decide ((h + 1) * n ≤ 4000) && decide ((h + 1) * (l.length : Int) ≤ 10000))) :
  Calls Tryz.prog 35 #[.agg #[.int .i64 n, .bool b, .slice A l.length c], .int .i64 h] w fun e w' => e = .returned (.bool R) ∧ Below w.heap.size w w' := by
 have hu := Tryz.underlying33
 have HR := zh hr
 have HN := zh hn
 have HS := zh hs
 obtain ⟨n0, n1, ll⟩ := netV_ok hn
 have hh := spanV_ok hs
 obtain ⟨x, hx⟩ : ∃ x : Int, x = (h + 1) * n := ⟨_, rfl⟩
 obtain ⟨y, hy⟩ : ∃ y : Int, y = (h + 1) * (l.length : Int) := ⟨_, rfl⟩
 have hxb := mul_wrap hh (a := n) (by omega)
 have hyb := mul_wrap hh (a := (l.length : Int)) (by omega)
 have e0 : IntKind.i64.wrap (h + 1) = h + 1 := IntWalk.i64_in _ (by omega)
 have e1 : IntKind.i64.wrap ((h + 1) * n) = x := by
  rw [hx]
  exact IntWalk.i64_in _ (by omega)
 have e2 : IntKind.i64.wrap ((h + 1) * (l.length : Int)) = y := by
  rw [hy]
  exact IntWalk.i64_in _ (by omega)
 rw [← hx, ← hy] at hR
 rw [← hx] at hxb
 rw [← hy] at hyb
 clear hr hx hy hn hs
 subst hR
 obtain ⟨w1, hw1⟩ : ∃ w1, w1 = w.alloc (.cells #[.int .i64 n, .bool b, .slice A l.length c] 33) := ⟨_, rfl⟩
 have HX : Hid (w1.heap[w.heap.size]? = some (.cells #[.int .i64 n, .bool b, .slice A l.length c] 33 (0, 0)) ∧ Below w.heap.size w w1) := zh (by rw [hw1]; exact ⟨heap_alloc_new _ _, below_alloc (Below.refl _ _) _⟩)
 cases d1 : decide (x ≤ 4000) <;> cases d2 : decide (y ≤ 10000)
 all_goals
  go_enter Tryz.func35, Tryz.ntmps35
  go_wp2_with (first
   |(go_at_call 32; rw [← hw1]; go_loud ((with_reducible refine (vcheck_walk n b A c l _ ?s1).mono ?_); (case s1 => exact Kd.C_below HR.out HX.out.2); rintro e w2 ⟨rfl, hb⟩; rw [HN.out]; have HX2 := zh (And.intro (blk_below HX.out.1 hb) (below_step HX.out.2 hb)); clear hb))
   |(go_at_call 34; go_loud ((with_reducible refine (vspan_walk h _).mono ?_); rintro e w3 ⟨rfl, hb⟩; rw [HS.out]; have HX3 := zh (And.intro (blk_below HX2.out.1 hb) (below_step HX2.out.2 hb)); have x0 : w3.cell? ⟨w.heap.size, 0, none⟩ = some (.int .i64 n) := (blk_cell HX3.out.1 0).trans rfl; have x2 : w3.cell? ⟨w.heap.size, 2, none⟩ = some (.slice A l.length c) := (blk_cell HX3.out.1 2).trans rfl; clear hb)))
  go_ret
  exact ⟨rfl, HX3.out.2⟩
theorem askedV_is {n : Int} {l : List Arc} {p q : List Grp} {h : Int} (hn : netV n l = 0) (hg : groupsC n p q = 0) : askedV n l p q h = if spanV h = 0 then (if (decide ((h + 1) * n ≤ 4000) && decide ((h + 1) * (l.length : Int) ≤ 10000)) = true then 0 else 2) else spanV h := by
 unfold askedV
 rw [if_pos hn, if_pos hg]
 obtain ⟨n0, n1, ll⟩ := netV_ok hn
 by_cases c1 : h < 0
 ·have e : spanV h = 1 := if_pos c1
  rw [if_pos c1, e]
  rfl
 rw [if_neg c1]
 by_cases c2 : h > 1024
 ·have e : spanV h = 2 := by unfold spanV; rw [if_neg c1, if_pos c2]
  rw [if_pos c2, e]
  rfl
 have e : spanV h = 0 := by unfold spanV; rw [if_neg c1, if_neg c2]
 have hxb := mul_wrap (h := h) (by omega) (a := n) (by omega)
 have hyb := mul_wrap (h := h) (by omega) (a := (l.length : Int)) (by omega)
 have w0 : wrap64 (h + 1) = h + 1 := by unfold wrap64; omega
 have w1 : wrap64 ((h + 1) * n) = (h + 1) * n := by unfold wrap64; omega
 have w2 : wrap64 ((h + 1) * (l.length : Int)) = (h + 1) * (l.length : Int) := by unfold wrap64; omega
 rw [if_neg c2, e, if_pos rfl, w0, w1, w2]
 simp only [Bool.and_eq_true, decide_eq_true_eq]
set_option maxRecDepth 100000 in
set_option maxHeartbeats 8000000 in
theorem vasked_walk (n : Int) (b : Bool) (A : Option Addr) (c : Nat) (l : List Arc) (Ap : Option Addr) (cp : Nat) (p : List Grp) (Aq : Option Addr) (cq : Nat) (q : List Grp) (h : Int) (w : World) (hr : Kd.C kArc w A l.length l) (hp : Kd.C kGrp w Ap p.length p) (hq : Kd.C kGrp w Aq q.length q) (lp : p.length ≤ 1000) (lq : q.length ≤ 1000) :
  Calls Tryz.prog 14 #[.agg #[.int .i64 n, .bool b, .slice A l.length c], .slice Ap p.length cp, .slice Aq q.length cq, .int .i64 h] w (VAt (askedV n l p q h) w) := by
 have hu := Tryz.underlying33
 have HR := zh hr
 have HP := zh hp
 have HQ := zh hq
 obtain ⟨r, hrr⟩ : ∃ r, r = askedV n l p q h := ⟨_, rfl⟩
 obtain ⟨nv, hnv⟩ : ∃ nv, netV n l = nv := ⟨_, rfl⟩
 obtain ⟨gv, hgv⟩ : ∃ gv, groupsC n p q = gv := ⟨_, rfl⟩
 obtain ⟨sv, hsv⟩ : ∃ sv, spanV h = sv := ⟨_, rfl⟩
 obtain ⟨ff, hff⟩ : ∃ ff, ff = (decide ((h + 1) * n ≤ 4000) && decide ((h + 1) * (l.length : Int) ≤ 10000)) := ⟨_, rfl⟩
 rw [← hrr]
 have hcs : ((nv == 0) = false ∧ (nv != 0) = true ∧ r = nv) ∨ (nv = 0 ∧ (gv == 0) = false ∧ (gv != 0) = true ∧ r = gv) ∨ (nv = 0 ∧ gv = 0 ∧ (sv == 0) = false ∧ (sv != 0) = true ∧ r = sv) ∨ (nv = 0 ∧ gv = 0 ∧ sv = 0 ∧ ff = true ∧ r = 0) ∨ (nv = 0 ∧ gv = 0 ∧ sv = 0 ∧ ff = false ∧ r = 2) := by
  by_cases c1 : nv = 0
  ·subst c1
   by_cases c2 : gv = 0
   ·subst c2
    rw [askedV_is hnv hgv, hsv, ← hff] at hrr
    by_cases c3 : sv = 0
    ·rw [if_pos c3] at hrr
     cases hf : ff with
     |true => rw [hf, if_pos rfl] at hrr; exact .inr (.inr (.inr (.inl ⟨rfl, rfl, c3, rfl, hrr⟩)))
     |false => rw [hf, if_neg (by decide)] at hrr; exact .inr (.inr (.inr (.inr ⟨rfl, rfl, c3, rfl, hrr⟩)))
    ·rw [if_neg c3] at hrr
     exact .inr (.inr (.inl ⟨rfl, rfl, beq_eq_false_iff_ne.2 c3, bne_iff_ne.2 c3, hrr⟩))
   ·refine .inr (.inl ⟨rfl, beq_eq_false_iff_ne.2 c2, bne_iff_ne.2 c2, ?_⟩)
    rw [hrr]
    unfold askedV
    rw [if_pos hnv, if_neg (by rw [hgv]; exact c2), hgv]
  ·refine .inl ⟨beq_eq_false_iff_ne.2 c1, bne_iff_ne.2 c1, ?_⟩
   rw [hrr]
   unfold askedV
   rw [if_neg (by rw [hnv]; exact c1), hnv]
 clear hrr hr hp hq
 obtain ⟨w1, hw1⟩ : ∃ w1, w1 = w.alloc (.cells #[.int .i64 n, .bool b, .slice A l.length c] 33) := ⟨_, rfl⟩
 have HX : Hid (w1.heap[w.heap.size]? = some (.cells #[.int .i64 n, .bool b, .slice A l.length c] 33 (0, 0)) ∧ Below w.heap.size w w1) := zh (by rw [hw1]; exact ⟨heap_alloc_new _ _, below_alloc (Below.refl _ _) _⟩)
 rcases hcs with ⟨c1, c2, hf⟩ | ⟨c1, c2, c3, hf⟩ | ⟨c1, c2, c3, c4, hf⟩ | ⟨c1, c2, c3, c4, hf⟩ | ⟨c1, c2, c3, c4, hf⟩
 all_goals
  (try subst c1)
  (try subst c2)
  (try subst c3)
  subst hf
  have HNV := zh hnv
  have HGV := zh hgv
  have HSV := zh hsv
  have HFF := zh hff
  clear hnv hgv hsv hff
  go_enter Tryz.func14, Tryz.ntmps14
  go_wp2_with (first
   |(go_at_call 32; rw [← hw1]; go_loud ((with_reducible refine (vcheck_walk n b A c l _ ?s1).mono ?_); (case s1 => exact Kd.C_below HR.out HX.out.2); rintro e w2 ⟨rfl, hb⟩; rw [HNV.out]; have HX9 := zh (And.intro (blk_below HX.out.1 hb) (below_step HX.out.2 hb)); clear HX hb; have HX := HX9; clear HX9; have x0 : w2.cell? ⟨w.heap.size, 0, none⟩ = some (.int .i64 n) := (blk_cell HX.out.1 0).trans rfl; have x1 : w2.cell? ⟨w.heap.size, 1, none⟩ = some (.bool b) := (blk_cell HX.out.1 1).trans rfl; have x2 : w2.cell? ⟨w.heap.size, 2, none⟩ = some (.slice A l.length c) := (blk_cell HX.out.1 2).trans rfl))
   |(go_at_call 33; go_loud ((with_reducible refine (vgroups_walk n b (.slice A l.length c) Ap cp p Aq cq q _ ?s1 ?s2 lp lq).mono ?_); (case s1 => exact Kd.C_below HP.out HX.out.2); (case s2 => exact Kd.C_below HQ.out HX.out.2); rintro e w3 ⟨rfl, hb⟩; rw [HGV.out]; have HX9 := zh (And.intro (blk_below HX.out.1 hb) (below_step HX.out.2 hb)); clear HX x0 x1 x2 hb; have HX := HX9; clear HX9; have x0 : w3.cell? ⟨w.heap.size, 0, none⟩ = some (.int .i64 n) := (blk_cell HX.out.1 0).trans rfl; have x1 : w3.cell? ⟨w.heap.size, 1, none⟩ = some (.bool b) := (blk_cell HX.out.1 1).trans rfl; have x2 : w3.cell? ⟨w.heap.size, 2, none⟩ = some (.slice A l.length c) := (blk_cell HX.out.1 2).trans rfl))
   |(go_at_call 34; go_loud ((with_reducible refine (vspan_walk h _).mono ?_); rintro e w4 ⟨rfl, hb⟩; rw [HSV.out]; have HX9 := zh (And.intro (blk_below HX.out.1 hb) (below_step HX.out.2 hb)); clear HX x0 x1 x2 hb; have HX := HX9; clear HX9; have x0 : w4.cell? ⟨w.heap.size, 0, none⟩ = some (.int .i64 n) := (blk_cell HX.out.1 0).trans rfl; have x1 : w4.cell? ⟨w.heap.size, 1, none⟩ = some (.bool b) := (blk_cell HX.out.1 1).trans rfl; have x2 : w4.cell? ⟨w.heap.size, 2, none⟩ = some (.slice A l.length c) := (blk_cell HX.out.1 2).trans rfl))
   |(go_at_call 35; go_loud ((with_reducible refine (vfits_walk n b A c l h _ _ ?s1 HNV.out HSV.out HFF.out).mono ?_); (case s1 => exact Kd.C_below HR.out HX.out.2); rintro e w5 ⟨rfl, hb⟩; have HX9 := zh (And.intro (blk_below HX.out.1 hb) (below_step HX.out.2 hb)); clear HX x0 x1 x2 hb; have HX := HX9; clear HX9; have x0 : w5.cell? ⟨w.heap.size, 0, none⟩ = some (.int .i64 n) := (blk_cell HX.out.1 0).trans rfl; have x1 : w5.cell? ⟨w.heap.size, 1, none⟩ = some (.bool b) := (blk_cell HX.out.1 1).trans rfl; have x2 : w5.cell? ⟨w.heap.size, 2, none⟩ = some (.slice A l.length c) := (blk_cell HX.out.1 2).trans rfl)))
  go_ret
  exact ⟨rfl, HX.out.2⟩
end Go.Proofs.YtcgdloldkcmhnaaGreat.H
end
