/- Texts of this proof, joined; what the statement doesn't need is left out. -/
import Derived.Test.YtcgdloldkcmhnaaGreatP5
section
namespace Go.Proofs.YtcgdloldkcmhnaaGreat.H
open Go Go.RowKit Go.Proofs.YtcgdloldkcmhnaaGreat.PrintC Go.Proofs.YtcgdloldkcmhnaaGreat.PrintE Go.Proofs.YtcgdloldkcmhnaaGreatW.PrintWords Go.Proofs.YtcgdloldkcmhnaaGreatW.PrintLast Go.Proofs.YtcgdloldkcmhnaaGreatW.PrintMore Go.Proofs.YtcgdloldkcmhnaaGreat.Flow
set_option linter.unusedVariables false
set_option linter.unusedSimpArgs false
structure PlanP (n h : Nat) (b : Bool) (l : List Arc) (p q : List Grp) (m : List Mv) : Prop where
 mg : MgOf m m
 ok : ∀ x, x ∈ m → mok l h q x = true
 st : ∀ v z : Nat, v < n → z ≤ h → ¬ BadAt h b l p q m v z
 val : planV n h l p q m = mostV n h b l p q
 f2 : ∀ x, x ∈ m → -9223372036854775808 ≤ x.f2 ∧ x.f2 ≤ 9223372036854775807
 len : m.length ≤ 100000
theorem planP_of {n h : Nat} {b : Bool} {l : List Arc} {p q : List Grp} (a : AskOk n h l p q) {F : List Int} {S : Int → Bool} {m : List Mv} (hF : FlowOk (evA n h b l p q) F) (hT : Top (evA n h b l p q).length (frOf (evA n h b l p q)) (toOf (evA n h b l p q)) ((h + 1) * n + 2) ((h + 1) * n : Nat) ((h + 1) * n + 1 : Nat) (capOf (evA n h b l p q)) (dOf F) S) (hm : MgOf (toldL F (evB n h b l p q).mv) m) (hl : m.length ≤ 100000) : PlanP n h b l p q m := by
 have hB : Bal (evA n h b l p q).length (frOf (evA n h b l p q)) (toOf (evA n h b l p q)) ((h + 1) * n + 2) ((h + 1) * n : Nat) (((h + 1) * n : Nat) + 1) (dOf F) := hT.2.1
 refine ⟨hm.self, evMok a hF hm, evPlan a hF hB hm, ?_, fun x hx => ?_, hl⟩
 ·rw [evAmount a hF hB hm]
  unfold mostV
  exact (mfVal_eq (a.place.arcs b) (by omega) hF hT).symm
 ·obtain ⟨h1, h2, -⟩ := told_f2 (evF_bd a hF) ((told_perm (evEnt a b).1 (evF_bd a hF) hm).mem_iff.1 hx)
  omega
theorem told_at (w0 : World) (gg : Nat) (N n : Int) (v : Value) (arcs : List Arc) (B : MB) (s : BSt) (bf k cf : Nat) (f : List Int) (w : World) (h : GrI w0 gg N n v arcs B s.md w) (hm : EntOk s.mv) (hlm : s.mv.length ≤ 100000) (hf : IntBlk w bf f) (hk : f.length = k) (hkl : k ≤ 1000000) (hi : ∀ x, x ∈ s.mv → x.2.2 < f.length) (hb : ∀ x, x ∈ f → x ≤ 9223372036854775807) :
  Calls Tryz.prog 27 #[.pointer (some ⟨gg, 0, none⟩), .slice (some ⟨bf, 0, none⟩) k cf] w (ToldAt f s.mv w) := by
 subst hk
 exact told_walk w0 gg N n v arcs B s.md s.mv (some ⟨bf, 0, none⟩) cf f w h rfl hm hlm (hf.reads (by omega)) hi hb
def PlanAt (n h : Nat) (b : Bool) (l : List Arc) (p q : List Grp) (w : World) (e : Ending) (w' : World) : Prop := Below w.heap.size w w' ∧ ∃ (m : List Mv) (A1 : Option Addr) (c1 : Nat), e = .returned (.tuple #[.slice A1 m.length c1, .int .i64 0]) ∧ Kd.R kMv 76 w' w.heap.size (fun _ => True) (.slice A1 m.length c1) m ∧ PlanP n h b l p q m
set_option maxHeartbeats 8000000 in
set_option maxRecDepth 100000 in
theorem plan_walk (n h : Nat) (b : Bool) (A : Option Addr) (c : Nat) (l : List Arc) (Ap : Option Addr) (cp : Nat) (p : List Grp) (Aq : Option Addr) (cq : Nat) (q : List Grp) (w : World) (a : AskOk n h l p q) (hr : Kd.C kArc w A l.length l) (hc : l.length ≤ c) (hp : Kd.C kGrp w Ap p.length p) (hq : Kd.C kGrp w Aq q.length q) :
  Calls Tryz.prog 10 #[.agg #[.int .i64 n, .bool b, .slice A l.length c], .slice Ap p.length cp, .slice Aq q.length cq, .int .i64 h] w (PlanAt n h b l p q w) := by
 have HK := Lib.hid a
 have HR := Lib.hid hr
 have HC := Lib.hid hc
 have HP := Lib.hid hp
 have HQ := Lib.hid hq
 have HO := Lib.hid a.place
 have HBG : Hid (∀ W, Below w.heap.size w W → Calls Tryz.prog 25 #[.agg #[.int .i64 n, .bool b, .slice A l.length c], .slice Ap p.length cp, .slice Aq q.length cq, .int .i64 h] W (BegunAt n b A c l Ap cp p Aq cq q 0 W)) := Lib.hid (fun W hW =>
  begun_walk 1500 n b A c l Ap cp p Aq cq q h 0 W (Kd.C_below hr hW) hc (Kd.C_below hp hW) (Kd.C_below hq hW) (okG_wf a.okp.1).1 (okG_wf a.okp.2).1 (okG_wf a.okp.1).2 (okG_wf a.okp.2).2 (a.begun b (by decide)))
 have hu := Tryz.underlying33
 have hu2 := Tryz.underlying70
 clear hr hc hp hq a
 go_enter Tryz.func10, Tryz.ntmps10
 go_wp2_with (first
  |(go_at_call 25; (with_reducible refine (HBG.out _ ?s1).mono ?_); (case s1 => exact below_alloc (Below.refl _ _) _); rintro e w1 ⟨hb1, (⟨h9, _⟩ | ⟨_, gp, bh, br, rfl, hge, hPl⟩)⟩; (exact absurd rfl h9); have HB1 := Lib.hid (below_step (below_alloc (Below.refl w.heap.size w) (.cells #[.int .i64 n, .bool b, .slice A l.length c] 33)) hb1); have HPL := Lib.hid hPl; clear hb1 hge hPl)
  |(go_at_call 26; go_loud (refine (solved_walk n h b A c l Ap cp p Aq cq q gp bh br ((h + 1) * n) ((h + 1) * n + 1) ((h + 1) * n + 2) rfl rfl rfl _ HPL.out (Kd.C_below HR.out HB1.out) HC.out (Kd.C_below HP.out HB1.out) (Kd.C_below HQ.out HB1.out) HO.out.net HO.out.caps HO.out.gp HO.out.gq HO.out.lp HO.out.lq).mono ?_; rintro e w9 ⟨w0, gg, v, B, bf, f, S, rfl, k1, k2, k3, k4, k5⟩; have HB9 := Lib.hid (below_step HB1.out k5); have K1 := Lib.hid k1; have K2 := Lib.hid k2; have K3 := Lib.hid k3; have K4 := Lib.hid k4; clear k1 k2 k3 k4 k5))
  |(go_at_call 27; go_loud ((with_reducible refine (told_at w0 gg (((h + 1) * n + 2 : Nat) : Int) (n : Int) v (evArcs l (useOf q) (keepsOf b p q) n h ((h + 1) * n) ((h + 1) * n + 1) p q) B (evB n h b l p q) bf (evArcs l (useOf q) (keepsOf b p q) n h ((h + 1) * n) ((h + 1) * n + 1) p q).length _ f _ ?t1 (evEnt HK.out b).1 (evEnt HK.out b).2 ?t2 K3.out.len ?t3 (evF_in HK.out K3.out) (evF_bd HK.out K3.out)).mono ?_); (case t1 => exact K1.out.below (below_alloc (Below.refl _ _) _)); (case t2 => exact blk_below K2.out (below_alloc (Below.refl _ _) _)); (case t3 => exact Nat.le_trans (ev_net HK.out b).ll (by decide)); rintro e w10 ⟨hb, m, A1, c1, rfl, hR2, hmg, hml⟩; have HF := Lib.hid (And.intro (below_step (below_alloc HB9.out _) hb) (And.intro hR2 (And.intro hmg hml))); clear hb hR2 hmg hml)))
 go_ret2
 exact ⟨HF.out.1, m, A1, c1, rfl, Kd.R_lower HF.out.2.1 (by have := HB9.out.size; rw [alloc_size]; omega), planP_of HK.out K3.out K4.out HF.out.2.2.1 (Nat.le_trans HF.out.2.2.2 (evEnt HK.out b).2)⟩
end Go.Proofs.YtcgdloldkcmhnaaGreat.H
end
section
namespace Go.Proofs.YtcgdloldkcmhnaaGreat.H
open Go Go.RowKit Go.Proofs.YtcgdloldkcmhnaaGreat.PrintC Go.Proofs.YtcgdloldkcmhnaaGreat.PrintE Go.Proofs.YtcgdloldkcmhnaaGreatW.PrintWords Go.Proofs.YtcgdloldkcmhnaaGreatW.PrintLast Go.Proofs.YtcgdloldkcmhnaaGreatW.PrintMore Go.Proofs.YtcgdloldkcmhnaaGreat.Flow
set_option linter.unusedVariables false
set_option linter.unusedSimpArgs false
def Read12At (m : Nat) (b : Bool) (w : World) (e : Ending) (w' : World) : Prop :=
 ∃ (n : Int) (l : List Arc) (s t h : Int) (A : Option Addr) (c : Nat), e = .returned (.tuple #[.agg #[.int .i64 n, .bool b, .slice A l.length c], .int .i64 s, .int .i64 t, .int .i64 h]) ∧ Kd.R kArc 104 w' w.heap.size (fun _ => True) (.slice A l.length c) l ∧ NetSm m n l ∧ (0 ≤ s ∧ s < n) ∧ (0 ≤ t ∧ t < n) ∧ s ≠ t ∧ (0 ≤ h ∧ h ≤ 7) ∧ Below w.heap.size w w'
theorem tmi_bd {x n : Int} (h0 : 0 ≤ x) (h1 : x < 4611686018427387904) (hn : 0 < n) : 0 ≤ (IntKind.i64.wrap x).tmod n ∧ (IntKind.i64.wrap x).tmod n < n := by
 rw [IntWalk.i64_in x (by omega), Int.tmod_eq_emod_of_nonneg h0]
 exact ⟨Int.emod_nonneg _ (by omega), Int.emod_lt_of_pos _ hn⟩
theorem st_ok {n a3 a4 : Int} (n2 : 2 ≤ n) (n5 : n ≤ 5) (h3 : 0 ≤ a3) (h4 : 0 ≤ a4) (g4 : a4 ≤ 255) : (0 ≤ a3 % n ∧ a3 % n < n) ∧ (0 ≤ (IntKind.i64.wrap (IntKind.i64.wrap (a3 % n + 1) + (IntKind.i64.wrap a4).tmod (IntKind.i64.wrap (n - 1)))).tmod n ∧ (IntKind.i64.wrap (IntKind.i64.wrap (a3 % n + 1) + (IntKind.i64.wrap a4).tmod (IntKind.i64.wrap (n - 1)))).tmod n < n) ∧
  a3 % n ≠ (IntKind.i64.wrap (IntKind.i64.wrap (a3 % n + 1) + (IntKind.i64.wrap a4).tmod (IntKind.i64.wrap (n - 1)))).tmod n := by
 have s0 := Int.emod_nonneg a3 (show n ≠ 0 by omega)
 have s1 := Int.emod_lt_of_pos a3 (show 0 < n by omega)
 generalize a3 % n = s at s0 s1
 rw [IntWalk.i64_in (n - 1) (by omega)]
 have r1 := tmi_bd (x := a4) (n := n - 1) h4 (by omega) (by omega)
 generalize (IntKind.i64.wrap a4).tmod (n - 1) = r at r1
 rw [IntWalk.i64_in (s + 1) (by omega), IntWalk.i64_in (s + 1 + r) (by omega), Int.tmod_eq_emod_of_nonneg (by omega)]
 refine ⟨⟨s0, s1⟩, ⟨Int.emod_nonneg _ (by omega), Int.emod_lt_of_pos _ (by omega)⟩, ?_⟩
 have : n = 2 ∨ n = 3 ∨ n = 4 ∨ n = 5 := by omega
 rcases this with rfl | rfl | rfl | rfl <;> omega
def ArcsSm (n : Int) (l : List Arc) : Prop := ∀ x, x ∈ l → (0 ≤ x.f0 ∧ x.f0 < n) ∧ (0 ≤ x.f1 ∧ x.f1 < n) ∧ (0 ≤ x.f2 ∧ x.f2 ≤ 5) ∧ 0 ≤ x.f3 ∧ x.f3 ≤ 3
set_option maxHeartbeats 4000000 in
set_option maxRecDepth 100000 in
theorem read12_walk (m : Nat) (hm : m ≤ 1000) (i : Int) (hi : i = m) (a0 : Int) (a1 : Bool) (A2 : Option Addr) (c2 : Nat) (l2 : List CBit) (a3 a4 a5 : Int) (w : World) (hr : Kd.C k112 w A2 l2.length l2) (h0 : U8 a0) (hb : U8s l2) (h3 : U8 a3) (h4 : U8 a4) (h5 : U8 a5) :
  Calls Tryz.prog 23 #[.agg #[.int .u8 a0, .bool a1, .slice A2 l2.length c2, .int .u8 a3, .int .u8 a4, .int .u8 a5], .int .i64 i] w (Read12At m a1 w) := by
 have HR := Lib.hid hr
 have HU := Lib.hid hb
 have hu := Tryz.underlying33
 have hu2 := Tryz.underlying24
 have b0 : 0 ≤ a0 := h0.1
 have b1 : a0 ≤ 255 := h0.2
 have b3 : 0 ≤ a3 := h3.1
 have b4 : a3 ≤ 255 := h3.2
 have b5 : 0 ≤ a4 := h4.1
 have b6 : a4 ≤ 255 := h4.2
 have b7 : 0 ≤ a5 := h5.1
 have b8 : a5 ≤ 255 := h5.2
 clear hr hb h0 h3 h4 h5
 go_enter Tryz.func23, Tryz.ntmps23
 go_wp2
 obtain ⟨n, hn⟩ : ∃ n, n = 2 + a0 % 4 := ⟨_, rfl⟩
 have n2 : 2 ≤ n := by omega
 have n5 : n ≤ 5 := by omega
 rw [← hn]
 clear hn b0 b1
 obtain ⟨w3, hw3⟩ : ∃ w3, w3 = ((w.alloc (.cells #[.int .u8 a0, .bool a1, .slice A2 l2.length c2, .int .u8 a3, .int .u8 a4, .int .u8 a5] 24)).alloc (.cells #[.int .i64 0, .bool false, .slice none 0 0] 33)).alloc (.cells #[.int .i64 n, .bool a1, .slice none 0 0] 33) := ⟨_, rfl⟩
 have HX2 : Hid (w3.heap[w.heap.size]? = some (.cells #[.int .u8 a0, .bool a1, .slice A2 l2.length c2, .int .u8 a3, .int .u8 a4, .int .u8 a5] 24 (0, 0))) := Lib.hid (by rw [hw3]; exact blk_alloc (blk_alloc (heap_alloc_new _ _) _) _)
 have HX4 : Hid (w3.heap[w.heap.size + 1]? = some (.cells #[.int .i64 0, .bool false, .slice none 0 0] 33 (0, 0))) := Lib.hid (by rw [hw3]; exact blk_alloc (alloc_at (by simp)) _)
 have HX8 : Hid (w3.heap[w.heap.size + 1 + 1]? = some (.cells #[.int .i64 n, .bool a1, .slice none 0 0] 33 (0, 0))) := Lib.hid (by rw [hw3]; exact alloc_at (by simp))
 have HB3 : Hid (Below w.heap.size w w3) := Lib.hid (by rw [hw3]; exact below_alloc (below_alloc (below_alloc (Below.refl _ _) _) _) _)
 rw [← hw3]
 clear hw3
 obtain ⟨base, hbase⟩ : ∃ base, base = w.heap.size := ⟨_, rfl⟩
 obtain ⟨g4, hg4⟩ : ∃ g4, g4 = w.heap.size + 1 := ⟨_, rfl⟩
 obtain ⟨g8, hg8⟩ : ∃ g8, g8 = w.heap.size + 1 + 1 := ⟨_, rfl⟩
 rw [← hg4] at HX4
 rw [← hg8] at HX8
 rw [← hg8, ← hg4]
 have GE4 : Hid (w.heap.size ≤ g4) := Lib.hid (by omega)
 have GE8 : Hid (w.heap.size ≤ g8) := Lib.hid (by omega)
 have N84 : Hid (g8 ≠ g4) := Lib.hid (by omega)
 have N28 : Hid (w.heap.size ≠ g8) := Lib.hid (by omega)
 have N48 : Hid (g4 ≠ g8) := Lib.hid (by omega)
 have N24 : Hid (w.heap.size ≠ g4) := Lib.hid (by omega)
 clear hg4 hg8 hbase base
 have HI := Lib.hid hi
 clear hi
 go_loopg [9] (m + 1) (fun k iv W => ∃ (j : Nat) (acc : List Arc) (Av : Option Addr) (cv : Nat), j ≤ m ∧ iv = .int .i64 j ∧ acc.length = j ∧ k = m + 1 - j ∧ Hid (ArcsSm n acc ∧ Kd.R kArc 104 W w.heap.size (fun _ => True) (.slice Av acc.length cv) acc ∧ W.heap[w.heap.size]? = some (.cells #[.int .u8 a0, .bool a1, .slice A2 l2.length c2, .int .u8 a3, .int .u8 a4, .int .u8 a5] 24 (0, 0)) ∧ W.heap[g4]? = some (.cells #[.int .i64 0, .bool false, .slice none 0 0] 33 (0, 0)) ∧ W.heap[g8]? = some (.cells #[.int .i64 n, .bool a1, .slice Av acc.length cv] 33 (0, 0)) ∧ Below w.heap.size w W))
 case atStart => exact ⟨0, [], none, 0, Nat.zero_le _, rfl, rfl, rfl, Lib.hid ⟨fun x hx => (nomatch hx), Kd.R_nil _ _ _ _ _, HX2.out, HX4.out, HX8.out, HB3.out⟩⟩
 case round =>
  obtain ⟨j, acc, Av, cv, hj, rfl, hacc, rfl, HL⟩ := hrel
  clear HX2 HX4 HX8 HB3
  have x2 : wr.cell? ⟨w.heap.size, 2, none⟩ = some (.slice A2 l2.length c2) := (blk_cell HL.out.2.2.1 2).trans rfl
  have i0 : (0 : Int) ≤ (j : Int) := by omega
  by_cases c1 : j < l2.length
  ·have c1' : (j : Int) < (l2.length : Int) := by omega
   by_cases c2' : j < m
   ·have c3 : (j : Int) < i := by rw [HI.out]; omega
    obtain ⟨ad, ea, y0, y1, y2, y3⟩ := at_T112 (Kd.C_below HR.out HL.out.2.2.2.2.2) (j : Int) i0 c1'
    subst ea
    rw [Int.toNat_natCast] at y0 y1 y2 y3
    have hx := HU.out _ (rd_mem77 c1)
    obtain ⟨e0, he0⟩ : ∃ e0, e0 = (rd_T112 l2 (j : Int)).f0 := ⟨_, rfl⟩
    obtain ⟨e1, he1⟩ : ∃ e1, e1 = (rd_T112 l2 (j : Int)).f1 := ⟨_, rfl⟩
    obtain ⟨e2, he2⟩ : ∃ e2, e2 = (rd_T112 l2 (j : Int)).f2 := ⟨_, rfl⟩
    obtain ⟨e3, he3⟩ : ∃ e3, e3 = (rd_T112 l2 (j : Int)).f3 := ⟨_, rfl⟩
    rw [← he0] at y0 hx
    rw [← he1] at y1 hx
    rw [← he2] at y2 hx
    rw [← he3] at y3 hx
    obtain ⟨⟨u0, v0⟩, ⟨u1, v1⟩, ⟨u2, v2⟩, ⟨u3, v3⟩⟩ := hx
    clear he0 he1 he2 he3
    go_wp2
    obtain ⟨wq, hwq⟩ : ∃ wq, wq = wr.alloc (.cells #[.int .u8 e0, .int .u8 e1, .int .u8 e2, .int .u8 e3] 112) := ⟨_, rfl⟩
    have HQ : Hid (Kd.R kArc 104 wq w.heap.size (fun _ => True) (.slice Av acc.length cv) acc ∧ wq.heap[w.heap.size]? = some (.cells #[.int .u8 a0, .bool a1, .slice (some ad) l2.length c2, .int .u8 a3, .int .u8 a4, .int .u8 a5] 24 (0, 0)) ∧ wq.heap[g4]? = some (.cells #[.int .i64 0, .bool false, .slice none 0 0] 33 (0, 0)) ∧ wq.heap[g8]? = some (.cells #[.int .i64 n, .bool a1, .slice Av acc.length cv] 33 (0, 0)) ∧ Below w.heap.size w wq) := Lib.hid (by rw [hwq]; exact ⟨Kd.R_below HL.out.2.1 (below_alloc (Below.refl _ _) _), blk_alloc HL.out.2.2.1 _, blk_alloc HL.out.2.2.2.1 _, blk_alloc HL.out.2.2.2.2.1 _, below_alloc HL.out.2.2.2.2.2 _⟩)
    have HX10 : Hid (wq.heap[wr.heap.size]? = some (.cells #[.int .u8 e0, .int .u8 e1, .int .u8 e2, .int .u8 e3] 112 (0, 0))) := Lib.hid (by rw [hwq]; exact heap_alloc_new _ _)
    rw [← hwq]
    clear hwq x2 y0 y1 y2 y3
    have HA := Lib.hid HL.out.1
    clear HL
    generalize wr.heap.size = go at *
    have x0 : wq.cell? ⟨g8, 0, none⟩ = some (.int .i64 n) := (blk_cell HQ.out.2.2.2.1 0).trans rfl
    have x2 : wq.cell? ⟨g8, 2, none⟩ = some (.slice Av acc.length cv) := (blk_cell HQ.out.2.2.2.1 2).trans rfl
    have y0 : wq.cell? ⟨go, 0, none⟩ = some (.int .u8 e0) := (blk_cell HX10.out 0).trans rfl
    have y1 : wq.cell? ⟨go, 1, none⟩ = some (.int .u8 e1) := (blk_cell HX10.out 1).trans rfl
    have y2 : wq.cell? ⟨go, 2, none⟩ = some (.int .u8 e2) := (blk_cell HX10.out 2).trans rfl
    have y3 : wq.cell? ⟨go, 3, none⟩ = some (.int .u8 e3) := (blk_cell HX10.out 3).trans rfl
    have hn0 : ¬ n = 0 := by omega
    have hal : acc.length ≤ 1000 := by omega
    have HAC := Lib.hid hacc
    clear hacc
    refine stepS (S := fun w' => w'.cell? ⟨g8, 0, none⟩ = some (.int .i64 n) ∧ w'.cell? ⟨g8, 2, none⟩ = some (.slice Av acc.length cv) ∧ w'.cell? ⟨go, 0, none⟩ = some (.int .u8 e0) ∧ w'.cell? ⟨go, 1, none⟩ = some (.int .u8 e1) ∧ w'.cell? ⟨go, 2, none⟩ = some (.int .u8 e2) ∧ w'.cell? ⟨go, 3, none⟩ = some (.int .u8 e3)) (ds := [26]) 27 (by kernel_rfl) rfl ⟨x0, x2, y0, y1, y2, y3⟩ (fun hHeld => ?_)
    repeat (first | refine rP 27 ?_ | refine rT 27 hHeld ?_)
    refine stepE 27 (N := some 61) rfl rfl (by kernel_rfl) (by decide) (fun K hK => ?_)
    refine value_ (w1 := ?_) (v := ?_) (by rfl) rfl ?_ ?_
    rotate_left 2
    ·go_simp
     constructor
     ·rfl
     ·rfl
    refine hK.out _ _ ⟨(blk_cell (blk_alloc (blk_drew HQ.out.2.2.2.1) _) 0).trans rfl, (blk_cell (blk_alloc (blk_drew HQ.out.2.2.2.1) _) 2).trans rfl, (blk_cell (blk_alloc (blk_drew HX10.out) _) 0).trans rfl, (blk_cell (blk_alloc (blk_drew HX10.out) _) 1).trans rfl, (blk_cell (blk_alloc (blk_drew HX10.out) _) 2).trans rfl, (blk_cell (blk_alloc (blk_drew HX10.out) _) 3).trans rfl⟩ (fun hHeld => ?_)
    clear hK K
    refine sN ?_
    refine stepE 27 (N := some 62) rfl rfl (by kernel_rfl) (by decide) (fun K hK => ?_)
    (repeat rw [drew_of_alloc])
    refine Kd.R_append_step kArc (w0 := w) w.heap.size (by rfl) (.tmp 39) (.tmp 61) 31 104 (.agg #[.int .i64 0, .int .i64 0, .int .i64 0, .int .i64 0]) 32 (by rfl) Tryz.underlying31 infoArc rfl (by decide) (by decide) (.slice Av acc.length cv) acc ⟨(IntKind.i64.wrap e0).tmod n, (IntKind.i64.wrap e1).tmod n, (IntKind.i64.wrap e2).tmod 6, (IntKind.i64.wrap e3).tmod 4⟩ [.int .i64 ((IntKind.i64.wrap e0).tmod n), .int .i64 ((IntKind.i64.wrap e1).tmod n), .int .i64 ((IntKind.i64.wrap e2).tmod 6), .int .i64 ((IntKind.i64.wrap e3).tmod 4)] (fun _ => True) (fun _ => False) (by rfl) (by rfl) (k104_mkM _ _ _ (⟨(IntKind.i64.wrap e0).tmod n, (IntKind.i64.wrap e1).tmod n, (IntKind.i64.wrap e2).tmod 6, (IntKind.i64.wrap e3).tmod 4⟩ : Arc)) (fun _ hk => hk.elim) (fun _ _ => trivial) ?aO ?aB ?aS (by omega) ?_; (case aO => exact Kd.R_drew HQ.out.1); (case aB => exact below_drew1 HQ.out.2.2.2.2); (case aS => exact HQ.out.2.2.2.2.size); intro v1 w9 ho hb hg hat; obtain ⟨A1, c1, rfl⟩ := Kd.R_slice ho; have HS9 := Lib.hid (And.intro ho (And.intro (blk_grown (blk_drew HQ.out.2.1) hg (Kd.R_ne HQ.out.1 HQ.out.2.1 (by decide))) (And.intro (blk_grown (blk_drew HQ.out.2.2.1) hg (Kd.R_ne HQ.out.1 HQ.out.2.2.1 (by decide))) (And.intro (blk_grown (blk_drew HQ.out.2.2.2.1) hg (Kd.R_ne HQ.out.1 HQ.out.2.2.2.1 (by decide))) (And.intro (blk_grown (blk_drew HX10.out) hg (Kd.R_ne HQ.out.1 HX10.out (by decide))) hb))))); clear ho hb hg hat
    refine hK.out _ _ ⟨(blk_cell HS9.out.2.2.2.1 0).trans rfl, (blk_cell HS9.out.2.2.2.1 2).trans rfl, (blk_cell HS9.out.2.2.2.2.1 0).trans rfl, (blk_cell HS9.out.2.2.2.2.1 1).trans rfl, (blk_cell HS9.out.2.2.2.2.1 2).trans rfl, (blk_cell HS9.out.2.2.2.2.1 3).trans rfl⟩ (fun hHeld => ?_)
    clear hK K
    refine sN ?_
    refine rP 27 ?_
    refine stepL 27 (N := none) rfl rfl (by kernel_rfl) (by decide) (fun K hK => ?_)
    have z2 : w9.cell? ⟨g8, 2, none⟩ = some (.slice Av acc.length cv) := (blk_cell HS9.out.2.2.2.1 2).trans rfl
    have f2 : w9.frozen? ⟨g8, 2, none⟩ = false := blk_frozen HS9.out.2.2.2.1 2
    refine skip_ (w1 := ?_) (by rfl) rfl ?_ ?_
    rotate_left
    ·go_simp
     rfl
    refine hK.out _ _ ?_
    clear hK K
    refine done_ (by kernel_rfl) ?_
    go_wp2
    have el : (acc ++ [(⟨(IntKind.i64.wrap e0).tmod n, (IntKind.i64.wrap e1).tmod n, (IntKind.i64.wrap e2).tmod 6, (IntKind.i64.wrap e3).tmod 4⟩ : Arc)]).length = acc.length + 1 := by rw [List.length_append]; rfl
    have hs := HS9.out
    rw [el] at hs
    have q0 := tmi_bd (x := e0) (n := n) u0 (by omega) (by omega)
    have q1 := tmi_bd (x := e1) (n := n) u1 (by omega) (by omega)
    have q2 := tmi_bd (x := e2) (n := 6) u2 (by omega) (by omega)
    have q3 := tmi_bd (x := e3) (n := 4) u3 (by omega) (by omega)
    have har : ArcsSm n (acc ++ [(⟨(IntKind.i64.wrap e0).tmod n, (IntKind.i64.wrap e1).tmod n, (IntKind.i64.wrap e2).tmod 6, (IntKind.i64.wrap e3).tmod 4⟩ : Arc)]) := fun x hx => by
     rcases List.mem_append.1 hx with hx | hx
     ·exact HA.out x hx
     ·obtain rfl := List.mem_singleton.1 hx
      exact ⟨q0, q1, ⟨q2.1, Int.le_of_lt_add_one q2.2⟩, q3.1, Int.le_of_lt_add_one q3.2⟩
    have hac := HAC.out
    go_roundg (m - j)
    case measure => omega
    case rel => exact ⟨j + 1, _, A1, c1, by omega, by go_num, by rw [el, hac], by omega, Lib.hid ⟨har, by rw [el]; exact Kd.R_mono (Kd.R_far (p := ⟨g8, 2, none⟩) (Kd.R_types hs.1 hs.2.2.2.1 (by decide)) (fun _ hk => hk.2) (.slice A1 (acc.length + 1) c1)) (fun _ hk => trivial), blk_far hs.2.1 N28.out _, blk_far hs.2.2.1 N48.out _, by rw [el]; exact blk_put (cs := #[.int .i64 n, .bool a1, .slice Av acc.length cv]) hs.2.2.2.1 2 _ rfl, below_set hs.2.2.2.2.2 GE8.out⟩⟩
   ·have c3 : ¬ (j : Int) < i := by rw [HI.out]; omega
    have x3 : wr.cell? ⟨w.heap.size, 3, none⟩ = some (.int .u8 a3) := (blk_cell HL.out.2.2.1 3).trans rfl
    have x4 : wr.cell? ⟨w.heap.size, 4, none⟩ = some (.int .u8 a4) := (blk_cell HL.out.2.2.1 4).trans rfl
    have x5 : wr.cell? ⟨w.heap.size, 5, none⟩ = some (.int .u8 a5) := (blk_cell HL.out.2.2.1 5).trans rfl
    have y0 : wr.cell? ⟨g8, 0, none⟩ = some (.int .i64 n) := (blk_cell HL.out.2.2.2.2.1 0).trans rfl
    have y1 : wr.cell? ⟨g8, 1, none⟩ = some (.bool a1) := (blk_cell HL.out.2.2.2.2.1 1).trans rfl
    have y2 : wr.cell? ⟨g8, 2, none⟩ = some (.slice Av acc.length cv) := (blk_cell HL.out.2.2.2.2.1 2).trans rfl
    have hn0 : ¬ n = 0 := by omega
    have hn1 : ¬ IntKind.i64.wrap (n - 1) = 0 := by rw [IntWalk.i64_in _ (by omega)]; omega
    have HAC := Lib.hid hacc
    clear hacc
    go_wp2
    refine stepS (S := fun w' => w'.cell? ⟨w.heap.size, 4, none⟩ = some (.int .u8 a4) ∧ w'.cell? ⟨w.heap.size, 5, none⟩ = some (.int .u8 a5) ∧ w'.cell? ⟨g8, 0, none⟩ = some (.int .i64 n) ∧ w'.cell? ⟨g8, 1, none⟩ = some (.bool a1) ∧ w'.cell? ⟨g8, 2, none⟩ = some (.slice Av acc.length cv)) (ds := []) 14 (by kernel_rfl) rfl ⟨x4, x5, y0, y1, y2⟩ (fun hHeld => ?_)
    repeat (first | refine rP 14 ?_ | refine rT 14 hHeld ?_)
    refine done_ (by kernel_rfl) ?_
    go_wp2
    have r4 := blk_drew (blk_drew HL.out.2.2.2.1)
    refine stepS (S := fun w' => w'.cell? ⟨w.heap.size, 4, none⟩ = some (.int .u8 a4) ∧ w'.cell? ⟨w.heap.size, 5, none⟩ = some (.int .u8 a5) ∧ w'.cell? ⟨g8, 0, none⟩ = some (.int .i64 n) ∧ w'.cell? ⟨g8, 1, none⟩ = some (.bool a1) ∧ w'.cell? ⟨g8, 2, none⟩ = some (.slice Av acc.length cv)) (ds := []) 11 (by kernel_rfl) rfl ⟨x4, x5, y0, y1, y2⟩ (fun hHeld => ?_)
    repeat (first | refine rP 11 ?_ | refine rT 11 hHeld ?_)
    refine stepE 11 (N := none) rfl rfl (by kernel_rfl) (by decide) (fun K hK => ?_)
    have HZ := Lib.hid (And.intro (Kd.R_drew (Kd.R_drew HL.out.2.1)) (And.intro r4 (And.intro (blk_drew (blk_drew HL.out.2.2.2.2.1)) (below_drew1 (below_drew1 HL.out.2.2.2.2.2)))))
    generalize wr.drew.drew = wz at hHeld r4 HZ ⊢
    have z0 : wz.cell? ⟨g4, 0, none⟩ = some (.int .i64 0) := (blk_cell r4 0).trans rfl
    have z1 : wz.cell? ⟨g4, 1, none⟩ = some (.bool false) := (blk_cell r4 1).trans rfl
    have z2 : wz.cell? ⟨g4, 2, none⟩ = some (.slice none 0 0) := (blk_cell r4 2).trans rfl
    have f0 := blk_frozen r4 0
    have f1 := blk_frozen r4 1
    have f2 := blk_frozen r4 2
    refine skip_ (w1 := ?_) (by rfl) rfl ?_ ?_
    rotate_left
    ·go_simp
     rfl
    refine hK.out _ _ ⟨((cell_far (p := ⟨g4, _, none⟩) N24.out _).trans (((cell_far (p := ⟨g4, _, none⟩) N24.out _).trans (((cell_far (p := ⟨g4, _, none⟩) N24.out _).trans hHeld.1))))), ((cell_far (p := ⟨g4, _, none⟩) N24.out _).trans (((cell_far (p := ⟨g4, _, none⟩) N24.out _).trans (((cell_far (p := ⟨g4, _, none⟩) N24.out _).trans hHeld.2.1))))), ((cell_far (p := ⟨g4, _, none⟩) N84.out _).trans (((cell_far (p := ⟨g4, _, none⟩) N84.out _).trans (((cell_far (p := ⟨g4, _, none⟩) N84.out _).trans hHeld.2.2.1))))), ((cell_far (p := ⟨g4, _, none⟩) N84.out _).trans (((cell_far (p := ⟨g4, _, none⟩) N84.out _).trans (((cell_far (p := ⟨g4, _, none⟩) N84.out _).trans hHeld.2.2.2.1))))), ((cell_far (p := ⟨g4, _, none⟩) N84.out _).trans (((cell_far (p := ⟨g4, _, none⟩) N84.out _).trans (((cell_far (p := ⟨g4, _, none⟩) N84.out _).trans hHeld.2.2.2.2)))))⟩ (fun hHeld => ?_)
    clear hK K
    repeat (first | refine rP 11 ?_ | refine rT 11 hHeld ?_)
    refine done_ (by kernel_rfl) ?_
    go_wp2
    refine bodyPost_ret (results_list (rs := [.cell 4 33, .tmp 5, .tmp 6, .tmp 7]) rfl (by simp) (.cell g4 33 #[.int .i64 n, .bool a1, .slice Av acc.length cv] (0, 0) _ rfl (blk_put (cs := #[.int .i64 n, .bool a1, .slice none 0 0]) (blk_put (cs := #[.int .i64 n, .bool false, .slice none 0 0]) (blk_put (cs := #[.int .i64 0, .bool false, .slice none 0 0]) r4 0 _ rfl) 1 _ rfl) 2 _ rfl) hu rfl (by kernel_rfl) (.tmp (.tmp (.tmp .nil))))) rfl ?_
    have st := st_ok (n := n) (a3 := a3) (a4 := a4) n2 n5 b3 b5 b6
    have q8 := tmi_bd (x := a5) (n := 8) b7 (by omega) (by decide)
    have hac := HAC.out
    exact ⟨n, acc, _, _, _, Av, cv, rfl, Kd.R_mono (Kd.R_far (p := ⟨g4, 2, none⟩) (Kd.R_far (p := ⟨g4, 1, none⟩) (Kd.R_far (p := ⟨g4, 0, none⟩) (Kd.R_types HZ.out.1 HZ.out.2.1 (by decide)) (fun _ hk => hk.2) (.int .i64 n)) (fun _ hk => hk.2) (.bool a1)) (fun _ hk => hk.2) (.slice Av acc.length cv)) (fun _ hk => trivial), ⟨n2, n5, by omega, HL.out.1⟩, st.1, st.2.1, st.2.2, ⟨q8.1, Int.le_of_lt_add_one q8.2⟩, below_set (below_set (below_set HZ.out.2.2.2 GE4.out) GE4.out) GE4.out⟩
  ·have c3 : ¬ (j : Int) < (l2.length : Int) := by omega
   have x3 : wr.cell? ⟨w.heap.size, 3, none⟩ = some (.int .u8 a3) := (blk_cell HL.out.2.2.1 3).trans rfl
   have x4 : wr.cell? ⟨w.heap.size, 4, none⟩ = some (.int .u8 a4) := (blk_cell HL.out.2.2.1 4).trans rfl
   have x5 : wr.cell? ⟨w.heap.size, 5, none⟩ = some (.int .u8 a5) := (blk_cell HL.out.2.2.1 5).trans rfl
   have y0 : wr.cell? ⟨g8, 0, none⟩ = some (.int .i64 n) := (blk_cell HL.out.2.2.2.2.1 0).trans rfl
   have y1 : wr.cell? ⟨g8, 1, none⟩ = some (.bool a1) := (blk_cell HL.out.2.2.2.2.1 1).trans rfl
   have y2 : wr.cell? ⟨g8, 2, none⟩ = some (.slice Av acc.length cv) := (blk_cell HL.out.2.2.2.2.1 2).trans rfl
   have hn0 : ¬ n = 0 := by omega
   have hn1 : ¬ IntKind.i64.wrap (n - 1) = 0 := by rw [IntWalk.i64_in _ (by omega)]; omega
   have HAC := Lib.hid hacc
   clear hacc
   go_wp2
   refine stepS (S := fun w' => w'.cell? ⟨w.heap.size, 4, none⟩ = some (.int .u8 a4) ∧ w'.cell? ⟨w.heap.size, 5, none⟩ = some (.int .u8 a5) ∧ w'.cell? ⟨g8, 0, none⟩ = some (.int .i64 n) ∧ w'.cell? ⟨g8, 1, none⟩ = some (.bool a1) ∧ w'.cell? ⟨g8, 2, none⟩ = some (.slice Av acc.length cv)) (ds := []) 14 (by kernel_rfl) rfl ⟨x4, x5, y0, y1, y2⟩ (fun hHeld => ?_)
   repeat (first | refine rP 14 ?_ | refine rT 14 hHeld ?_)
   refine done_ (by kernel_rfl) ?_
   go_wp2
   have r4 := blk_drew (blk_drew HL.out.2.2.2.1)
   refine stepS (S := fun w' => w'.cell? ⟨w.heap.size, 4, none⟩ = some (.int .u8 a4) ∧ w'.cell? ⟨w.heap.size, 5, none⟩ = some (.int .u8 a5) ∧ w'.cell? ⟨g8, 0, none⟩ = some (.int .i64 n) ∧ w'.cell? ⟨g8, 1, none⟩ = some (.bool a1) ∧ w'.cell? ⟨g8, 2, none⟩ = some (.slice Av acc.length cv)) (ds := []) 11 (by kernel_rfl) rfl ⟨x4, x5, y0, y1, y2⟩ (fun hHeld => ?_)
   repeat (first | refine rP 11 ?_ | refine rT 11 hHeld ?_)
   refine stepE 11 (N := none) rfl rfl (by kernel_rfl) (by decide) (fun K hK => ?_)
   have HZ := Lib.hid (And.intro (Kd.R_drew (Kd.R_drew HL.out.2.1)) (And.intro r4 (And.intro (blk_drew (blk_drew HL.out.2.2.2.2.1)) (below_drew1 (below_drew1 HL.out.2.2.2.2.2)))))
   generalize wr.drew.drew = wz at hHeld r4 HZ ⊢
   have z0 : wz.cell? ⟨g4, 0, none⟩ = some (.int .i64 0) := (blk_cell r4 0).trans rfl
   have z1 : wz.cell? ⟨g4, 1, none⟩ = some (.bool false) := (blk_cell r4 1).trans rfl
   have z2 : wz.cell? ⟨g4, 2, none⟩ = some (.slice none 0 0) := (blk_cell r4 2).trans rfl
   have f0 := blk_frozen r4 0
   have f1 := blk_frozen r4 1
   have f2 := blk_frozen r4 2
   refine skip_ (w1 := ?_) (by rfl) rfl ?_ ?_
   rotate_left
   ·go_simp
    rfl
   refine hK.out _ _ ⟨((cell_far (p := ⟨g4, _, none⟩) N24.out _).trans (((cell_far (p := ⟨g4, _, none⟩) N24.out _).trans (((cell_far (p := ⟨g4, _, none⟩) N24.out _).trans hHeld.1))))), ((cell_far (p := ⟨g4, _, none⟩) N24.out _).trans (((cell_far (p := ⟨g4, _, none⟩) N24.out _).trans (((cell_far (p := ⟨g4, _, none⟩) N24.out _).trans hHeld.2.1))))), ((cell_far (p := ⟨g4, _, none⟩) N84.out _).trans (((cell_far (p := ⟨g4, _, none⟩) N84.out _).trans (((cell_far (p := ⟨g4, _, none⟩) N84.out _).trans hHeld.2.2.1))))), ((cell_far (p := ⟨g4, _, none⟩) N84.out _).trans (((cell_far (p := ⟨g4, _, none⟩) N84.out _).trans (((cell_far (p := ⟨g4, _, none⟩) N84.out _).trans hHeld.2.2.2.1))))), ((cell_far (p := ⟨g4, _, none⟩) N84.out _).trans (((cell_far (p := ⟨g4, _, none⟩) N84.out _).trans (((cell_far (p := ⟨g4, _, none⟩) N84.out _).trans hHeld.2.2.2.2)))))⟩ (fun hHeld => ?_)
   clear hK K
   repeat (first | refine rP 11 ?_ | refine rT 11 hHeld ?_)
   refine done_ (by kernel_rfl) ?_
   go_wp2
   refine bodyPost_ret (results_list (rs := [.cell 4 33, .tmp 5, .tmp 6, .tmp 7]) rfl (by simp) (.cell g4 33 #[.int .i64 n, .bool a1, .slice Av acc.length cv] (0, 0) _ rfl (blk_put (cs := #[.int .i64 n, .bool a1, .slice none 0 0]) (blk_put (cs := #[.int .i64 n, .bool false, .slice none 0 0]) (blk_put (cs := #[.int .i64 0, .bool false, .slice none 0 0]) r4 0 _ rfl) 1 _ rfl) 2 _ rfl) hu rfl (by kernel_rfl) (.tmp (.tmp (.tmp .nil))))) rfl ?_
   have st := st_ok (n := n) (a3 := a3) (a4 := a4) n2 n5 b3 b5 b6
   have q8 := tmi_bd (x := a5) (n := 8) b7 (by omega) (by decide)
   have hac := HAC.out
   exact ⟨n, acc, _, _, _, Av, cv, rfl, Kd.R_mono (Kd.R_far (p := ⟨g4, 2, none⟩) (Kd.R_far (p := ⟨g4, 1, none⟩) (Kd.R_far (p := ⟨g4, 0, none⟩) (Kd.R_types HZ.out.1 HZ.out.2.1 (by decide)) (fun _ hk => hk.2) (.int .i64 n)) (fun _ hk => hk.2) (.bool a1)) (fun _ hk => hk.2) (.slice Av acc.length cv)) (fun _ hk => trivial), ⟨n2, n5, by omega, HL.out.1⟩, st.1, st.2.1, st.2.2, ⟨q8.1, Int.le_of_lt_add_one q8.2⟩, below_set (below_set (below_set HZ.out.2.2.2 GE4.out) GE4.out) GE4.out⟩
end Go.Proofs.YtcgdloldkcmhnaaGreat.H
end
section
namespace Go.Proofs.YtcgdloldkcmhnaaGreat.H
open Go Go.RowKit Go.Proofs.YtcgdloldkcmhnaaGreat.PrintC Go.Proofs.YtcgdloldkcmhnaaGreat.PrintE Go.Proofs.YtcgdloldkcmhnaaGreatW.PrintWords Go.Proofs.YtcgdloldkcmhnaaGreatW.PrintLast Go.Proofs.YtcgdloldkcmhnaaGreatW.PrintMore Go.Proofs.YtcgdloldkcmhnaaGreat.Flow
set_option linter.unusedVariables false
set_option linter.unusedSimpArgs false
theorem grp_one {W : World} {g base : Nat} {a b : Int} {ok : Nat → Prop} (hok : ok g) (hb : W.heap[g]? = some (.cells #[.int .i64 a, .int .i64 b] 59 (0, 0))) (hg : base ≤ g) : Kd.R kGrp 59 W base ok (.slice (some ⟨g, 0, none⟩) 1 1) [⟨a, b⟩] := by
 refine ⟨fun k hk => ?_, [.int .i64 a, .int .i64 b], ⟨rfl, .inr ⟨g, 1, #[.int .i64 a, .int .i64 b], rfl, hg, hb, Nat.le_refl _, by decide, rfl, rfl⟩⟩, ⟨rfl, fun j p hj => ?_⟩⟩
 ·have : g = k := by simpa [Value.ownBlock] using hk
  subst this
  exact hok
 ·have hj0 : j = 0 := by have := (List.getElem?_eq_some_iff.1 hj).1; simpa using this
  subst hj0
  have e : (⟨a, b⟩ : Grp) = p := by simpa using hj
  subst e
  exact k59_mkM _ _ _ ⟨a, b⟩
theorem infoGrp : (Tryz.prog.info? 59).map (fun i => (i.zero, i.size, i.bytes)) = some (some (.agg #[.int .i64 0, .int .i64 0]), 2, 16) := by kernel_rfl
structure RdI (w : World) (xs ys : Array Value) (g4 g8 : Nat) (vl : Value) (l : List Arc) (vp : Value) (p : List Grp) (vq : Value) (q : List Grp) (W : World) : Prop where
 rp : Kd.R kGrp 59 W w.heap.size (fun k => some k ≠ vq.ownBlock) vp p
 rq : Kd.R kGrp 59 W w.heap.size (fun k => some k ≠ vp.ownBlock) vq q
 rl : Kd.R kArc 104 W w.heap.size (fun _ => True) vl l
 bx : W.heap[w.heap.size]? = some (.cells xs 29 (0, 0))
 b4 : W.heap[g4]? = some (.cells #[.int .i64 0, .bool false, .slice none 0 0] 33 (0, 0))
 b8 : W.heap[g8]? = some (.cells ys 33 (0, 0))
 low : Below w.heap.size w W
section
variable {w : World} {xs ys : Array Value} {g4 g8 : Nat} {vl vp vq vp2 : Value} {l : List Arc} {p q p2 : List Grp} {W W1 : World}
theorem RdI.swap (h : RdI w xs ys g4 g8 vl l vp p vq q W) : RdI w xs ys g4 g8 vl l vq q vp p W := ⟨h.rq, h.rp, h.rl, h.bx, h.b4, h.b8, h.low⟩
theorem RdI.below (h : RdI w xs ys g4 g8 vl l vp p vq q W) (hb : Below W.heap.size W W1) : RdI w xs ys g4 g8 vl l vp p vq q W1 :=
 ⟨Kd.R_below h.rp hb, Kd.R_below h.rq hb, Kd.R_below h.rl hb, blk_below h.bx hb, blk_below h.b4 hb, blk_below h.b8 hb, below_step h.low hb⟩
theorem RdI.grow (h : RdI w xs ys g4 g8 vl l vp p vq q W) (hg : W.grownBy W1 vp.ownBlock) (ho : Kd.R kGrp 59 W1 w.heap.size (fun k => some k ≠ vq.ownBlock) vp2 p2) (hat : vp2.ownBlock = vp.ownBlock ∨ ∃ b, vp2.ownBlock = some b ∧ W.heap.size ≤ b) (hb : Below w.heap.size w W1) : RdI w xs ys g4 g8 vl l vp2 p2 vq q W1 :=
 ⟨ho, Kd.R_mono (Kd.R_after (v := vp) (ok := (fun _ => True)) (Kd.R_mono h.rq (fun _ hk => ⟨trivial, hk⟩)) hg hat) (fun _ hk => hk.2), Kd.R_over' h.rl (Kd.R_typed h.rp) (by decide) hg, blk_grown h.bx hg (Kd.R_ne h.rp h.bx (by decide)), blk_grown h.b4 hg (Kd.R_ne h.rp h.b4 (by decide)), blk_grown h.b8 hg (Kd.R_ne h.rp h.b8 (by decide)), hb⟩
theorem RdI.fresh (h : RdI w xs ys g4 g8 vl l vp p vq q W) (k : Nat) (hk : W.heap.size ≤ k) : some k ≠ vq.ownBlock := fun e => absurd (Kd.R_lt h.rq k e.symm) (by omega)
theorem RdI.first (h : RdI w xs ys g4 g8 vl l vp p vq q W) (hp : p ≠ []) : ∃ gm cm, vp = .slice (some ⟨gm, 0, none⟩) p.length cm ∧ W.cell? ⟨gm, 1, none⟩ = some (.int .i64 (rd_T59 p 0).f1) ∧ W.frozen? ⟨gm, 1, none⟩ = false ∧
  ∀ k : Int, RdI w xs ys g4 g8 vl l vp (p.set (0 : Int).toNat ⟨(rd_T59 p 0).f0, k⟩) vq q (W.setCell ⟨gm, 1, none⟩ (.int .i64 k)) := by
 obtain ⟨gm, cm, rfl, gm0, gm1, gmB⟩ := Kd.R_form h.rp (List.length_pos_iff.mpr hp)
 have i1 : (0 : Int) < (p.length : Int) := by have := List.length_pos_iff.mpr hp; omega
 obtain ⟨ce, hcl, hM, hcc, hfr⟩ := Kd.R_elem h.rp z59 0 (Int.le_refl _) i1
 obtain rfl := k59_openM hM
 refine ⟨gm, cm, rfl, hcc 1 _ rfl, hfr 1, fun k => ?_⟩
 have hs := Kd.R_seg h.rp 0 (Int.le_refl _) i1 (seg := [.int .i64 k]) (j := 1) hcl hcc (show 2 ≤ 2 from by decide) (x' := ⟨(p.getD (0 : Int).toNat z59).f0, k⟩) (k59_mkM _ _ _ _) (fun _ hk => hk)
 simp only [World.setCells, show kGrp.sz = 2 from rfl] at hs
 exact h.grow hs.2 hs.1 (.inl rfl) (below_set h.low gm0)
end
theorem gOf_all (v : Int) {l : List Grp} (h : ∀ g, g ∈ l → 0 ≤ g.f1) (hn : gOf v l < 0) : ∀ g, g ∈ l → g.f0 ≠ v := fun g hg e => by
 have h1 := (gOf_neg v h).1 hn
 rw [hasK_putGs, List.any_eq_false] at h1
 exact h1 g hg (decide_eq_true e)
theorem snoc_g (p : List Grp) (g : Grp) : (p ++ [g]).length = p.length + 1 := by rw [List.length_append]; rfl
def ReadAt (m : Nat) (w : World) (e : Ending) (w' : World) : Prop :=
 ∃ (n h : Nat) (b : Bool) (l : List Arc) (p q : List Grp) (A : Option Addr) (c : Nat) (Ap : Option Addr) (cp : Nat) (Aq : Option Addr) (cq : Nat),
  e = .returned (.tuple #[.agg #[.int .i64 n, .bool b, .slice A l.length c], .slice Ap p.length cp, .slice Aq q.length cq, .int .i64 h]) ∧ Kd.C kArc w' A l.length l ∧ l.length ≤ c ∧ Kd.C kGrp w' Ap p.length p ∧ p.length ≤ cp ∧ Kd.C kGrp w' Aq q.length q ∧ q.length ≤ cq ∧
   NetSm m n l ∧ GI n p q ∧ h ≤ 7 ∧ Below w.heap.size w w'
abbrev caseCells (a0 : Int) (a1 : Bool) (l2 : List CBit) (a3 a4 a5 : Int) (l6 l7 : List Int) (l8 : List CBit3) (l9 : List Int) (A2 : Option Addr) (c2 : Nat) (A6 : Option Addr) (c6 : Nat) (A7 : Option Addr) (c7 : Nat) (A8 : Option Addr) (c8 : Nat) (A9 : Option Addr) (c9 : Nat) : Array Value :=
 #[.int .u8 a0, .bool a1, .slice A2 l2.length c2, .int .u8 a3, .int .u8 a4, .int .u8 a5, .slice A6 l6.length c6, .slice A7 l7.length c7, .slice A8 l8.length c8, .slice A9 l9.length c9]
section
variable {a0 : Int} {a1 : Bool} {l2 : List CBit} {a3 a4 a5 : Int} {l6 l7 : List Int} {l8 : List CBit3} {l9 : List Int} {A2 : Option Addr} {c2 : Nat} {A6 : Option Addr} {c6 : Nat} {A7 : Option Addr} {c7 : Nat} {A8 : Option Addr} {c8 : Nat} {A9 : Option Addr} {c9 : Nat} {w : World} {v : Value}
theorem CaseAt.below (o : CaseAt w v a0 a1 l2 a3 a4 a5 l6 l7 l8 l9 A2 c2 A6 c6 A7 c7 A8 c8 A9 c9) {w' : World} (hb : Below w.heap.size w w') : CaseAt w' v a0 a1 l2 a3 a4 a5 l6 l7 l8 l9 A2 c2 A6 c6 A7 c7 A8 c8 A9 c9 :=
 ⟨o.is, o.u0, o.u3, o.u4, o.u5, Kd.C_below o.r2 hb, Kd.C_below o.r6 hb, Kd.C_below o.r7 hb, Kd.C_below o.r8 hb, Kd.C_below o.r9 hb, o.h2, o.h6, o.h7, o.h8, o.h9, o.u2, o.u6, o.u7, o.u8, o.u9⟩
set_option maxHeartbeats 4000000 in
set_option maxRecDepth 100000 in
theorem read_at (m : Nat) (i : Int) (hi : i = m) (hm : m ≤ 40) (o : CaseAt w v a0 a1 l2 a3 a4 a5 l6 l7 l8 l9 A2 c2 A6 c6 A7 c7 A8 c8 A9 c9) :
  Calls Tryz.prog 8 #[.agg #[.int .u8 a0, .bool a1, .slice A2 l2.length c2, .int .u8 a3, .int .u8 a4, .int .u8 a5, .slice A6 l6.length c6, .slice A7 l7.length c7, .slice A8 l8.length c8, .slice A9 l9.length c9], .int .i64 i] w (ReadAt m w) := by
 have HO := Lib.hid o
 have HI := Lib.hid hi
 have hu := Tryz.underlying33
 have hu2 := Tryz.underlying29
 have hu3 := Tryz.underlying59
 have hu4 := Tryz.underlying24
 clear o hi
 go_enter Tryz.func8, Tryz.ntmps8
 go_wp2_with (go_at_call 23; fail)
 obtain ⟨w1, hw1⟩ : ∃ w1, w1 = (w.alloc (.cells #[.int .u8 a0, .bool a1, .slice A2 l2.length c2, .int .u8 a3, .int .u8 a4, .int .u8 a5, .slice A6 l6.length c6, .slice A7 l7.length c7, .slice A8 l8.length c8, .slice A9 l9.length c9] 29)).alloc (.cells #[.int .i64 0, .bool false, .slice none 0 0] 33) := ⟨_, rfl⟩
 have HX2 : Hid (w1.heap[w.heap.size]? = some (.cells #[.int .u8 a0, .bool a1, .slice A2 l2.length c2, .int .u8 a3, .int .u8 a4, .int .u8 a5, .slice A6 l6.length c6, .slice A7 l7.length c7, .slice A8 l8.length c8, .slice A9 l9.length c9] 29 (0, 0))) := Lib.hid (by rw [hw1]; exact blk_alloc (heap_alloc_new _ _) _)
 have HX4 : Hid (w1.heap[w.heap.size + 1]? = some (.cells #[.int .i64 0, .bool false, .slice none 0 0] 33 (0, 0))) := Lib.hid (by rw [hw1]; exact alloc_at (by simp))
 have HB1 : Hid (Below w.heap.size w w1) := Lib.hid (by rw [hw1]; exact below_alloc (below_alloc (Below.refl _ _) _) _)
 have HS1 : Hid (w1.heap.size = w.heap.size + 1 + 1) := Lib.hid (by rw [hw1]; simp)
 rw [← hw1]
 clear hw1
 go_upto_block 0 with (go_at_call 23; (with_reducible refine (read12_walk m (by omega) i HI.out a0 a1 A2 c2 l2 a3 a4 a5 _ ?s1 HO.out.u0 HO.out.u2 HO.out.u3 HO.out.u4 HO.out.u5).mono ?_); (case s1 => exact Kd.C_below HO.out.r2 HB1.out); rintro e w2 ⟨n, l, s, t, h, A, c, rfl, hR, hN, hs, ht, hst, hh, hb⟩; have HR := Lib.hid hR; have HN := Lib.hid hN; have HB2 := Lib.hid hb; have HST := Lib.hid hst; have HH := Lib.hid hh; have HSS := Lib.hid (And.intro hs ht); clear hR hN hs ht hst hh hb)
 obtain ⟨w3, hw3⟩ : ∃ w3, w3 = ((w2.alloc (.cells #[.int .i64 n, .bool a1, .slice A l.length c] 33)).alloc (.cells #[.int .i64 s, .int .i64 0] 59)).alloc (.cells #[.int .i64 t, .int .i64 0] 59) := ⟨_, rfl⟩
 obtain ⟨g8, hg8⟩ : ∃ g8, g8 = w2.heap.size := ⟨_, rfl⟩
 obtain ⟨g4, hg4⟩ : ∃ g4, g4 = w.heap.size + 1 := ⟨_, rfl⟩
 obtain ⟨gp, hgp⟩ : ∃ gp, gp = w2.heap.size + 1 := ⟨_, rfl⟩
 obtain ⟨gq, hgq⟩ : ∃ gq, gq = w2.heap.size + 1 + 1 := ⟨_, rfl⟩
 have hsz : w.heap.size + 1 + 1 ≤ w2.heap.size := by have := HS1.out; have := HB2.out.size; omega
 have HW3 : Hid (Below w2.heap.size w2 w3) := Lib.hid (by rw [hw3]; exact below_alloc (below_alloc (below_alloc (Below.refl _ _) _) _) _)
 have HR3 : Hid (Kd.R kArc 104 w3 w.heap.size (fun _ => True) (.slice A l.length c) l) := Lib.hid (Kd.R_below (Kd.R_lower HR.out (by have := HS1.out; omega)) HW3.out)
 have HP3 : Hid (Kd.R kGrp 59 w3 w.heap.size (fun k => some k ≠ (Value.slice (some ⟨gq, 0, none⟩) 1 1).ownBlock) (.slice (some ⟨gp, 0, none⟩) 1 1) [⟨s, 0⟩]) := Lib.hid (grp_one (by simp [Value.ownBlock]; omega) (by rw [hw3]; exact blk_alloc (alloc_at (by rw [hgp]; simp)) _) (by omega))
 have HQ3 : Hid (Kd.R kGrp 59 w3 w.heap.size (fun k => some k ≠ (Value.slice (some ⟨gp, 0, none⟩) 1 1).ownBlock) (.slice (some ⟨gq, 0, none⟩) 1 1) [⟨t, 0⟩]) := Lib.hid (grp_one (by simp [Value.ownBlock]; omega) (by rw [hw3]; exact alloc_at (by rw [hgq]; simp)) (by omega))
 have HX3 : Hid (w3.heap[w.heap.size]? = some (.cells #[.int .u8 a0, .bool a1, .slice A2 l2.length c2, .int .u8 a3, .int .u8 a4, .int .u8 a5, .slice A6 l6.length c6, .slice A7 l7.length c7, .slice A8 l8.length c8, .slice A9 l9.length c9] 29 (0, 0))) := Lib.hid (blk_below (blk_below HX2.out HB2.out) HW3.out)
 have HX43 : Hid (w3.heap[g4]? = some (.cells #[.int .i64 0, .bool false, .slice none 0 0] 33 (0, 0))) := Lib.hid (by rw [hg4]; exact blk_below (blk_below HX4.out HB2.out) HW3.out)
 have HX83 : Hid (w3.heap[g8]? = some (.cells #[.int .i64 n, .bool a1, .slice A l.length c] 33 (0, 0))) := Lib.hid (by rw [hw3]; exact blk_alloc (blk_alloc (alloc_at hg8) _) _)
 have HB3 : Hid (Below w.heap.size w w3) := Lib.hid (below_step (below_step HB1.out HB2.out) HW3.out)
 have GE4 : Hid (w.heap.size ≤ g4) := Lib.hid (by omega)
 have N48 : Hid (g4 ≠ g8) := Lib.hid (by omega)
 have N24 : Hid (w.heap.size ≠ g4) := Lib.hid (by omega)
 rw [← hw3, ← hgq, ← hgp, ← hg8, ← hg4]
 clear hw3 hg8 hg4 hgp hgq hsz HW3 HR HX2 HX4 HB1 HB2 HS1
 have HI3 : Hid (RdI w #[.int .u8 a0, .bool a1, .slice A2 l2.length c2, .int .u8 a3, .int .u8 a4, .int .u8 a5, .slice A6 l6.length c6, .slice A7 l7.length c7, .slice A8 l8.length c8, .slice A9 l9.length c9] #[.int .i64 n, .bool a1, .slice A l.length c] g4 g8 (.slice A l.length c) l (.slice (some ⟨gp, 0, none⟩) 1 1) [⟨s, 0⟩] (.slice (some ⟨gq, 0, none⟩) 1 1) [⟨t, 0⟩] w3) := Lib.hid ⟨HP3.out, HQ3.out, HR3.out, HX3.out, HX43.out, HX83.out, HB3.out⟩
 have HG0 : Hid (GI n [⟨s, 0⟩] [⟨t, 0⟩]) := Lib.hid ⟨by simp, by simp, fun g hg => by
   obtain rfl := List.mem_singleton.1 hg
   exact ⟨HSS.out.1, Int.le_refl _, by show (0 : Int) ≤ 8; decide⟩, fun g hg => by
   obtain rfl := List.mem_singleton.1 hg
   exact ⟨HSS.out.2, Int.le_refl _, by show (0 : Int) ≤ 8; decide⟩, by simp, by simp, fun g hg x hx => by
   obtain rfl := List.mem_singleton.1 hg
   obtain rfl := List.mem_singleton.1 hx
   exact HST.out⟩
 have hs0 : 0 ≤ s := HSS.out.1.1
 have hs1 : s < n := HSS.out.1.2
 have ht0 : 0 ≤ t := HSS.out.2.1
 have ht1 : t < n := HSS.out.2.2
 have n2 : 2 ≤ n := HN.out.n2
 have n5 : n ≤ 5 := HN.out.n5
 have hn0 : ¬ n = 0 := by omega
 clear HP3 HQ3 HR3 HX3 HX43 HX83 HB3
 obtain ⟨q, hq0⟩ : ∃ q : List Grp, q = [⟨t, 0⟩] := ⟨_, rfl⟩
 obtain ⟨p0, hp0⟩ : ∃ p : List Grp, p = [⟨s, 0⟩] := ⟨_, rfl⟩
 have hql : q.length = 1 := by rw [hq0]; rfl
 have hpl : p0.length = 1 := by rw [hp0]; rfl
 obtain ⟨Aq, hAq⟩ : ∃ Aq : Option Addr, Aq = some ⟨gq, 0, none⟩ := ⟨_, rfl⟩
 obtain ⟨Ap, hAp⟩ : ∃ Ap : Option Addr, Ap = some ⟨gp, 0, none⟩ := ⟨_, rfl⟩
 rw [← hq0, ← hp0] at HI3 HG0
 rw [← hAq, ← hAp] at HI3 ⊢
 have HPL : Hid (p0.length = 1 ∧ q.length = 1) := Lib.hid ⟨hpl, hql⟩
 clear hql hpl hAq hAp hq0 hp0
 go_cut [12] from 14 (fun pv W => ∃ (X : List Grp) (AX : Option Addr) (cX : Nat), pv = .slice AX X.length cX ∧ Hid (GI n X q ∧ X.length ≤ 5 ∧ RdI w #[.int .u8 a0, .bool a1, .slice A2 l2.length c2, .int .u8 a3, .int .u8 a4, .int .u8 a5, .slice A6 l6.length c6, .slice A7 l7.length c7, .slice A8 l8.length c8, .slice A9 l9.length c9] #[.int .i64 n, .bool a1, .slice A l.length c] g4 g8 (.slice A l.length c) l (.slice AX X.length cX) X (.slice Aq 1 1) q W))
 case first =>
  go_wp2
  go_loopg [12, 14] 5 (fun k pv iv W => ∃ (j : Nat) (X : List Grp) (AX : Option Addr) (cX : Nat), j ≤ 4 ∧ pv = .slice AX X.length cX ∧ iv = .int .i64 j ∧ k = 5 - j ∧ Hid (GI n X q ∧ X.length ≤ j + 1 ∧ RdI w #[.int .u8 a0, .bool a1, .slice A2 l2.length c2, .int .u8 a3, .int .u8 a4, .int .u8 a5, .slice A6 l6.length c6, .slice A7 l7.length c7, .slice A8 l8.length c8, .slice A9 l9.length c9] #[.int .i64 n, .bool a1, .slice A l.length c] g4 g8 (.slice A l.length c) l (.slice AX X.length cX) X (.slice Aq 1 1) q W))
  case atStart => exact ⟨0, p0, Ap, 1, Nat.zero_le _, by rw [HPL.out.1], rfl, rfl, Lib.hid ⟨HG0.out, by rw [HPL.out.1]; decide, by rw [HPL.out.1]; exact HI3.out⟩⟩
  case round =>
   obtain ⟨j, X, AX, cX, hj, rfl, rfl, rfl, HL⟩ := hrel
   have x6 : wr.cell? ⟨w.heap.size, 6, none⟩ = some (.slice A6 l6.length c6) := (blk_cell HL.out.2.2.bx 6).trans rfl
   have y0 : wr.cell? ⟨g8, 0, none⟩ = some (.int .i64 n) := (blk_cell HL.out.2.2.b8 0).trans rfl
   have i0 : (0 : Int) ≤ (j : Int) := by omega
   by_cases c1 : (j : Int) < (l6.length : Int)
   ·by_cases c3 : (j : Int) < 4
    ·obtain ⟨ad, ea, z0⟩ := Kd.at_int (Kd.C_below HO.out.r6 HL.out.2.2.low) (j : Int) i0 c1
     subst ea
     rw [Int.toNat_natCast] at z0
     have hu8 := rd_u8 HO.out.u6 (i := j) (by omega)
     obtain ⟨e0, he0⟩ : ∃ e0, e0 = rd l6 (j : Int) := ⟨_, rfl⟩
     rw [← he0] at z0 hu8
     obtain ⟨u0, u1⟩ : 0 ≤ e0 ∧ e0 ≤ 255 := hu8
     clear he0
     by_cases cj : (j : Int) = 0
     ·obtain ⟨gm, cm, e9, s0, s1, hset⟩ := HL.out.2.2.first HL.out.1.p0
      injection e9 with e1 e2 e3
      have hlen : 0 < X.length := List.length_pos_iff.mpr HL.out.1.p0
      have hlen2 : (0 : Int) < (X.length : Int) := by omega
      have HSET := Lib.hid hset
      have cj1 : ((j : Int) == 0) = true := by simpa using cj
      have cj2 : ((j : Int) != 0) = false := by simpa using cj
      clear hset cj e2 e3 hlen
      subst e1
      go_wp2
      go_roundg (4 - j)
      case measure => omega
      case rel => exact ⟨j + 1, X.set (0 : Int).toNat ⟨(rd_T59 X 0).f0, e0 % 7⟩, some ⟨gm, 0, none⟩, cX, by omega, by rw [List.length_set], by go_num, by omega, Lib.hid ⟨HL.out.1.amend0 ⟨by omega, by omega⟩, by rw [List.length_set]; have := HL.out.2.1; omega, by rw [List.length_set]; exact HSET.out _⟩⟩
     ·have cj1 : ((j : Int) == 0) = false := by simpa using cj
      have cj2 : ((j : Int) != 0) = true := by simpa using cj
      clear cj
      obtain ⟨r1, hr1⟩ : ∃ r1, r1 = gOf ((s + 2 * (j : Int)) % n) X := ⟨_, rfl⟩
      obtain ⟨r2, hr2⟩ : ∃ r2, r2 = gOf ((s + 2 * (j : Int)) % n) q := ⟨_, rfl⟩
      have O1 := Lib.hid hr1
      have O2 := Lib.hid hr2
      clear hr1 hr2
      have HC1 := Lib.hid (Kd.R_reads' HL.out.2.2.rp).2.2
      have HC2 : Hid (Kd.C kGrp wr Aq q.length q) := Lib.hid (Kd.R_reads' (show Kd.R kGrp 59 wr w.heap.size _ (.slice Aq q.length 1) q by rw [HPL.out.2]; exact HL.out.2.2.rq)).2.2
      have HLX : Hid (X.length ≤ 5) := Lib.hid (by have := HL.out.2.1; omega)
      by_cases h1 : r1 < 0
      ·by_cases h2 : r2 < 0
       ·have HV1 := Lib.hid (gOf_all ((s + 2 * (j : Int)) % n) (fun g hm => (HL.out.1.gp g hm).2.1) (by rw [← O1.out]; exact h1))
        have HV2 := Lib.hid (gOf_all ((s + 2 * (j : Int)) % n) (fun g hm => (HL.out.1.gq g hm).2.1) (by rw [← O2.out]; exact h2))
        go_wp2_with (first
         |(go_at_call 24; (with_reducible refine (rof_walk X.length AX cX X _ _ ?s1 ?s2 ?s3).mono ?_); go_loud ((case s1 => rfl); (case s2 => exact HC1.out); (case s3 => have := HLX.out; omega); rintro e w4 ⟨rfl, hb⟩; rw [← O1.out]; have HI1 := Lib.hid (HL.out.2.2.below hb); have hb9 := hb; clear hb))
         |(go_at_call 24; (with_reducible refine (rof_walk 1 Aq 1 q _ _ ?s1 ?s2 ?s3).mono ?_); go_loud ((case s1 => exact HPL.out.2); (case s2 => exact Kd.C_below HC2.out hb9); (case s3 => decide); rintro e w5 ⟨rfl, hb⟩; rw [← O2.out]; have HI2 := Lib.hid (HI1.out.below hb); clear hb))
         |((with_reducible refine gate_dst (N := 81) rfl ?_); go_loud (refine Kd.R_append kGrp (w0 := w) w.heap.size rfl (.tmp 76) (.tmp 80) 34 59 (.agg #[.int .i64 0, .int .i64 0]) 16 rfl Tryz.underlying34 infoGrp rfl (by decide) (by decide) (.slice AX X.length cX) X ⟨(s + 2 * (j : Int)) % n, e0 % 7⟩ [.int .i64 ((s + 2 * (j : Int)) % n), .int .i64 (e0 % 7)] (fun k => some k ≠ (Value.ownBlock (.slice Aq 1 1))) (fun _ => False) rfl ?aX ?aP (fun _ hk => hk.elim) ?aF ?aO ?aB ?aS ?aL ?_; (case aX => first | rfl | (simp; done) | (simp; rfl)); (case aP => exact k59_mkM _ _ _ (⟨(s + 2 * (j : Int)) % n, e0 % 7⟩ : Grp)); (case aO => exact HI2.out.rp); (case aB => exact HI2.out.low); (case aS => exact HI2.out.low.size); (case aL => have := HLX.out; omega); (case aF => exact HI2.out.fresh); intro v1 w9 ho hb hg hat; obtain ⟨A1, cc1, e9⟩ := Kd.R_slice ho; rw [snoc_g] at e9; subst e9; have HS9 := Lib.hid (HI2.out.grow hg ho hat hb); clear ho hb hg hat)))
        have q8 : 0 ≤ (s + 2 * (j : Int)) % n ∧ (s + 2 * (j : Int)) % n < n := ⟨Int.emod_nonneg _ (by omega), Int.emod_lt_of_pos _ (by omega)⟩
        have q9 : 0 ≤ e0 % 7 ∧ e0 % 7 ≤ 8 := by omega
        go_roundg (4 - j)
        case measure => omega
        case rel => exact ⟨j + 1, X ++ [(⟨(s + 2 * (j : Int)) % n, e0 % 7⟩ : Grp)], A1, cc1, by omega, by rw [snoc_g], by first | rfl | go_num, by omega, Lib.hid ⟨HL.out.1.snoc (g := ⟨(s + 2 * (j : Int)) % n, e0 % 7⟩) ⟨q8, q9⟩ HV1.out HV2.out, by rw [snoc_g]; have := HL.out.2.1; omega, by rw [snoc_g]; exact HS9.out⟩⟩
       ·go_wp2_with (first
         |(go_at_call 24; (with_reducible refine (rof_walk X.length AX cX X _ _ ?s1 ?s2 ?s3).mono ?_); go_loud ((case s1 => rfl); (case s2 => exact HC1.out); (case s3 => have := HLX.out; omega); rintro e w4 ⟨rfl, hb⟩; rw [← O1.out]; have HI1 := Lib.hid (HL.out.2.2.below hb); have hb9 := hb; clear hb))
         |(go_at_call 24; (with_reducible refine (rof_walk 1 Aq 1 q _ _ ?s1 ?s2 ?s3).mono ?_); go_loud ((case s1 => exact HPL.out.2); (case s2 => exact Kd.C_below HC2.out hb9); (case s3 => decide); rintro e w5 ⟨rfl, hb⟩; rw [← O2.out]; have HI2 := Lib.hid (HI1.out.below hb); clear hb)))
        go_roundg (4 - j)
        case measure => omega
        case rel => exact ⟨j + 1, X, AX, cX, by omega, rfl, by first | rfl | go_num, by omega, Lib.hid ⟨HL.out.1, by have := HL.out.2.1; omega, HI2.out⟩⟩
      ·go_wp2_with (go_at_call 24; (with_reducible refine (rof_walk X.length AX cX X _ _ ?s1 ?s2 ?s3).mono ?_); go_loud ((case s1 => rfl); (case s2 => exact HC1.out); (case s3 => have := HLX.out; omega); rintro e w4 ⟨rfl, hb⟩; rw [← O1.out]; have HI1 := Lib.hid (HL.out.2.2.below hb); have hb9 := hb; clear hb))
       go_roundg (4 - j)
       case measure => omega
       case rel => exact ⟨j + 1, X, AX, cX, by omega, rfl, by first | rfl | go_num, by omega, Lib.hid ⟨HL.out.1, by have := HL.out.2.1; omega, HI1.out⟩⟩
    ·go_wp2
     go_meet
     case rel => exact ⟨X, AX, cX, rfl, Lib.hid ⟨HL.out.1, by have := HL.out.2.1; omega, HL.out.2.2⟩⟩
   ·go_wp2
    go_meet
    case rel => exact ⟨X, AX, cX, rfl, Lib.hid ⟨HL.out.1, by have := HL.out.2.1; omega, HL.out.2.2⟩⟩
 case rest =>
 obtain ⟨p, Ap, cp, rfl, HP1⟩ := hcut
 clear HI3 HG0
 go_upto_block 2 with (fail)
 go_cut [13] from 17 (fun pv W => ∃ (X : List Grp) (AX : Option Addr) (cX : Nat), pv = .slice AX X.length cX ∧ Hid (GI n X p ∧ X.length ≤ 5 ∧ RdI w #[.int .u8 a0, .bool a1, .slice A2 l2.length c2, .int .u8 a3, .int .u8 a4, .int .u8 a5, .slice A6 l6.length c6, .slice A7 l7.length c7, .slice A8 l8.length c8, .slice A9 l9.length c9] #[.int .i64 n, .bool a1, .slice A l.length c] g4 g8 (.slice A l.length c) l (.slice AX X.length cX) X (.slice Ap p.length cp) p W))
 case first =>
  go_wp2
  go_loopg [13, 17] 5 (fun k pv iv W => ∃ (j : Nat) (X : List Grp) (AX : Option Addr) (cX : Nat), j ≤ 4 ∧ pv = .slice AX X.length cX ∧ iv = .int .i64 j ∧ k = 5 - j ∧ Hid (GI n X p ∧ X.length ≤ j + 1 ∧ RdI w #[.int .u8 a0, .bool a1, .slice A2 l2.length c2, .int .u8 a3, .int .u8 a4, .int .u8 a5, .slice A6 l6.length c6, .slice A7 l7.length c7, .slice A8 l8.length c8, .slice A9 l9.length c9] #[.int .i64 n, .bool a1, .slice A l.length c] g4 g8 (.slice A l.length c) l (.slice AX X.length cX) X (.slice Ap p.length cp) p W))
  case atStart => exact ⟨0, q, Aq, 1, Nat.zero_le _, by rw [HPL.out.2], rfl, rfl, Lib.hid ⟨HP1.out.1.swap, by rw [HPL.out.2]; decide, by rw [HPL.out.2]; exact HP1.out.2.2.swap⟩⟩
  case round =>
   obtain ⟨j, X, AX, cX, hj, rfl, rfl, rfl, HL⟩ := hrel
   have x6 : wr.cell? ⟨w.heap.size, 7, none⟩ = some (.slice A7 l7.length c7) := (blk_cell HL.out.2.2.bx 7).trans rfl
   have y0 : wr.cell? ⟨g8, 0, none⟩ = some (.int .i64 n) := (blk_cell HL.out.2.2.b8 0).trans rfl
   have i0 : (0 : Int) ≤ (j : Int) := by omega
   by_cases c1 : (j : Int) < (l7.length : Int)
   ·by_cases c3 : (j : Int) < 4
    ·obtain ⟨ad, ea, z0⟩ := Kd.at_int (Kd.C_below HO.out.r7 HL.out.2.2.low) (j : Int) i0 c1
     subst ea
     rw [Int.toNat_natCast] at z0
     have hu8 := rd_u8 HO.out.u7 (i := j) (by omega)
     obtain ⟨e0, he0⟩ : ∃ e0, e0 = rd l7 (j : Int) := ⟨_, rfl⟩
     rw [← he0] at z0 hu8
     obtain ⟨u0, u1⟩ : 0 ≤ e0 ∧ e0 ≤ 255 := hu8
     clear he0
     by_cases cj : (j : Int) = 0
     ·obtain ⟨gm, cm, e9, s0, s1, hset⟩ := HL.out.2.2.first HL.out.1.p0
      injection e9 with e1 e2 e3
      have hlen : 0 < X.length := List.length_pos_iff.mpr HL.out.1.p0
      have hlen2 : (0 : Int) < (X.length : Int) := by omega
      have HSET := Lib.hid hset
      have cj1 : ((j : Int) == 0) = true := by simpa using cj
      have cj2 : ((j : Int) != 0) = false := by simpa using cj
      clear hset cj e2 e3 hlen
      subst e1
      go_wp2
      go_roundg (4 - j)
      case measure => omega
      case rel => exact ⟨j + 1, X.set (0 : Int).toNat ⟨(rd_T59 X 0).f0, e0 % 9⟩, some ⟨gm, 0, none⟩, cX, by omega, by rw [List.length_set], by go_num, by omega, Lib.hid ⟨HL.out.1.amend0 ⟨by omega, by omega⟩, by rw [List.length_set]; have := HL.out.2.1; omega, by rw [List.length_set]; exact HSET.out _⟩⟩
     ·have cj1 : ((j : Int) == 0) = false := by simpa using cj
      have cj2 : ((j : Int) != 0) = true := by simpa using cj
      clear cj
      obtain ⟨r1, hr1⟩ : ∃ r1, r1 = gOf ((t + (j : Int)) % n) p := ⟨_, rfl⟩
      obtain ⟨r2, hr2⟩ : ∃ r2, r2 = gOf ((t + (j : Int)) % n) X := ⟨_, rfl⟩
      have O1 := Lib.hid hr1
      have O2 := Lib.hid hr2
      clear hr1 hr2
      have HC1 := Lib.hid (Kd.R_reads' HL.out.2.2.rp).2.2
      have HC2 : Hid (Kd.C kGrp wr Ap p.length p) := Lib.hid (Kd.R_reads' (show Kd.R kGrp 59 wr w.heap.size _ (.slice Ap p.length cp) p by  exact HL.out.2.2.rq)).2.2
      have HLX : Hid (X.length ≤ 5) := Lib.hid (by have := HL.out.2.1; omega)
      by_cases h1 : r1 < 0
      ·by_cases h2 : r2 < 0
       ·have HV1 := Lib.hid (gOf_all ((t + (j : Int)) % n) (fun g hm => (HL.out.1.gq g hm).2.1) (by rw [← O1.out]; exact h1))
        have HV2 := Lib.hid (gOf_all ((t + (j : Int)) % n) (fun g hm => (HL.out.1.gp g hm).2.1) (by rw [← O2.out]; exact h2))
        go_wp2_with (first
         |(go_at_call 24; (with_reducible refine (rof_walk p.length Ap cp p _ _ ?s1 ?s2 ?s3).mono ?_); go_loud ((case s1 => exact rfl); (case s2 => exact HC2.out); (case s3 => have := HP1.out.2.1; omega); rintro e w4 ⟨rfl, hb⟩; rw [← O1.out]; have HI1 := Lib.hid (HL.out.2.2.below hb); have hb9 := hb; clear hb))
         |(go_at_call 24; (with_reducible refine (rof_walk X.length AX cX X _ _ ?s1 ?s2 ?s3).mono ?_); go_loud ((case s1 => rfl); (case s2 => exact Kd.C_below HC1.out hb9); (case s3 => have := HLX.out; omega); rintro e w5 ⟨rfl, hb⟩; rw [← O2.out]; have HI2 := Lib.hid (HI1.out.below hb); clear hb))
         |((with_reducible refine gate_dst (N := 127) rfl ?_); go_loud (refine Kd.R_append kGrp (w0 := w) w.heap.size rfl (.tmp 122) (.tmp 126) 34 59 (.agg #[.int .i64 0, .int .i64 0]) 16 rfl Tryz.underlying34 infoGrp rfl (by decide) (by decide) (.slice AX X.length cX) X ⟨(t + (j : Int)) % n, e0 % 9⟩ [.int .i64 ((t + (j : Int)) % n), .int .i64 (e0 % 9)] (fun k => some k ≠ (Value.ownBlock (.slice Ap p.length cp))) (fun _ => False) rfl ?aX ?aP (fun _ hk => hk.elim) ?aF ?aO ?aB ?aS ?aL ?_; (case aX => first | rfl | (simp; done) | (simp; rfl)); (case aP => exact k59_mkM _ _ _ (⟨(t + (j : Int)) % n, e0 % 9⟩ : Grp)); (case aO => exact HI2.out.rp); (case aB => exact HI2.out.low); (case aS => exact HI2.out.low.size); (case aL => have := HLX.out; omega); (case aF => exact HI2.out.fresh); intro v1 w9 ho hb hg hat; obtain ⟨A1, cc1, e9⟩ := Kd.R_slice ho; rw [snoc_g] at e9; subst e9; have HS9 := Lib.hid (HI2.out.grow hg ho hat hb); clear ho hb hg hat)))
        have q8 : 0 ≤ (t + (j : Int)) % n ∧ (t + (j : Int)) % n < n := ⟨Int.emod_nonneg _ (by omega), Int.emod_lt_of_pos _ (by omega)⟩
        have q9 : 0 ≤ e0 % 9 ∧ e0 % 9 ≤ 8 := by omega
        go_roundg (4 - j)
        case measure => omega
        case rel => exact ⟨j + 1, X ++ [(⟨(t + (j : Int)) % n, e0 % 9⟩ : Grp)], A1, cc1, by omega, by rw [snoc_g], by first | rfl | go_num, by omega, Lib.hid ⟨HL.out.1.snoc (g := ⟨(t + (j : Int)) % n, e0 % 9⟩) ⟨q8, q9⟩ HV2.out HV1.out, by rw [snoc_g]; have := HL.out.2.1; omega, by rw [snoc_g]; exact HS9.out⟩⟩
       ·go_wp2_with (first
         |(go_at_call 24; (with_reducible refine (rof_walk p.length Ap cp p _ _ ?s1 ?s2 ?s3).mono ?_); go_loud ((case s1 => exact rfl); (case s2 => exact HC2.out); (case s3 => have := HP1.out.2.1; omega); rintro e w4 ⟨rfl, hb⟩; rw [← O1.out]; have HI1 := Lib.hid (HL.out.2.2.below hb); have hb9 := hb; clear hb))
         |(go_at_call 24; (with_reducible refine (rof_walk X.length AX cX X _ _ ?s1 ?s2 ?s3).mono ?_); go_loud ((case s1 => rfl); (case s2 => exact Kd.C_below HC1.out hb9); (case s3 => have := HLX.out; omega); rintro e w5 ⟨rfl, hb⟩; rw [← O2.out]; have HI2 := Lib.hid (HI1.out.below hb); clear hb)))
        go_roundg (4 - j)
        case measure => omega
        case rel => exact ⟨j + 1, X, AX, cX, by omega, rfl, by first | rfl | go_num, by omega, Lib.hid ⟨HL.out.1, by have := HL.out.2.1; omega, HI2.out⟩⟩
      ·go_wp2_with (go_at_call 24; (with_reducible refine (rof_walk p.length Ap cp p _ _ ?s1 ?s2 ?s3).mono ?_); go_loud ((case s1 => exact rfl); (case s2 => exact HC2.out); (case s3 => have := HP1.out.2.1; omega); rintro e w4 ⟨rfl, hb⟩; rw [← O1.out]; have HI1 := Lib.hid (HL.out.2.2.below hb); have hb9 := hb; clear hb))
       go_roundg (4 - j)
       case measure => omega
       case rel => exact ⟨j + 1, X, AX, cX, by omega, rfl, by first | rfl | go_num, by omega, Lib.hid ⟨HL.out.1, by have := HL.out.2.1; omega, HI1.out⟩⟩
    ·go_wp2
     go_meet
     case rel => exact ⟨X, AX, cX, rfl, Lib.hid ⟨HL.out.1, by have := HL.out.2.1; omega, HL.out.2.2⟩⟩
   ·go_wp2
    go_meet
    case rel => exact ⟨X, AX, cX, rfl, Lib.hid ⟨HL.out.1, by have := HL.out.2.1; omega, HL.out.2.2⟩⟩
 case rest =>
 obtain ⟨q, Aq, cq, rfl, HQ1⟩ := hcut
 clear HP1
 have y0 : wc.cell? ⟨g8, 0, none⟩ = some (.int .i64 n) := (blk_cell HQ1.out.2.2.b8 0).trans rfl
 have y1 : wc.cell? ⟨g8, 1, none⟩ = some (.bool a1) := (blk_cell HQ1.out.2.2.b8 1).trans rfl
 have y2 : wc.cell? ⟨g8, 2, none⟩ = some (.slice A l.length c) := (blk_cell HQ1.out.2.2.b8 2).trans rfl
 have b4 := HQ1.out.2.2.b4
 have z0 : wc.cell? ⟨g4, 0, none⟩ = some (.int .i64 0) := (blk_cell b4 0).trans rfl
 have z1 : wc.cell? ⟨g4, 1, none⟩ = some (.bool false) := (blk_cell b4 1).trans rfl
 have z2 : wc.cell? ⟨g4, 2, none⟩ = some (.slice none 0 0) := (blk_cell b4 2).trans rfl
 have fz0 := blk_frozen b4 0
 have fz1 := blk_frozen b4 1
 have fz2 := blk_frozen b4 2
 go_wp2
 have r0 := blk_put (cs := #[.int .i64 0, .bool false, .slice none 0 0]) b4 0 (.int .i64 n) rfl
 have r1 := blk_put (cs := #[.int .i64 n, .bool false, .slice none 0 0]) r0 1 (.bool a1) rfl
 have r2 := blk_put (cs := #[.int .i64 n, .bool a1, .slice none 0 0]) r1 2 (.slice A l.length c) rfl
 refine bodyPost_ret (results_list (rs := [.cell 4 33, .tmp 5, .tmp 6, .tmp 7]) rfl (by simp) (.cell g4 33 #[.int .i64 n, .bool a1, .slice A l.length c] (0, 0) _ rfl r2 hu rfl (by kernel_rfl) (.tmp (.tmp (.tmp .nil))))) rfl ?_
 have hL := Kd.R_reads' (Kd.R_set (Kd.R_set (Kd.R_set HQ1.out.2.2.rl b4 (by decide) 0 (.int .i64 n)) r0 (by decide) 1 (.bool a1)) r1 (by decide) 2 (.slice A l.length c))
 have hP := Kd.R_reads' (Kd.R_set (Kd.R_set (Kd.R_set HQ1.out.2.2.rq b4 (by decide) 0 (.int .i64 n)) r0 (by decide) 1 (.bool a1)) r1 (by decide) 2 (.slice A l.length c))
 have hQ := Kd.R_reads' (Kd.R_set (Kd.R_set (Kd.R_set HQ1.out.2.2.rp b4 (by decide) 0 (.int .i64 n)) r0 (by decide) 1 (.bool a1)) r1 (by decide) 2 (.slice A l.length c))
 obtain ⟨nn, hnn⟩ := Int.eq_ofNat_of_zero_le (show 0 ≤ n by omega)
 have hh := HH.out
 obtain ⟨hn, hhn⟩ := Int.eq_ofNat_of_zero_le hh.1
 subst hnn hhn
 exact ⟨nn, hn, a1, l, p, q, A, c, Ap, cp, Aq, cq, rfl, hL.2.2, hL.2.1, hP.2.2, hP.2.1, hQ.2.2, hQ.2.1, HN.out, HQ1.out.1.swap, by have := hh.2; omega, below_set (below_set (below_set HQ1.out.2.2.low GE4.out) GE4.out) GE4.out⟩
end
end Go.Proofs.YtcgdloldkcmhnaaGreat.H
end
section
namespace Go.Proofs.YtcgdloldkcmhnaaGreat.H
open Go Go.RowKit Go.Proofs.YtcgdloldkcmhnaaGreat.PrintC Go.Proofs.YtcgdloldkcmhnaaGreat.PrintE Go.Proofs.YtcgdloldkcmhnaaGreatW.PrintWords Go.Proofs.YtcgdloldkcmhnaaGreatW.PrintLast Go.Proofs.YtcgdloldkcmhnaaGreatW.PrintMore Go.Proofs.YtcgdloldkcmhnaaGreat.Flow
abbrev lineL : List Arc := [⟨0, 1, 2, 1⟩, ⟨1, 2, 2, 1⟩]
abbrev pL : List Grp := [⟨0, 3⟩]
abbrev qL : List Grp := [⟨2, 5⟩]
theorem line_sm : NetSm 6 (3 : Nat) lineL where
 n2 := by decide
 n5 := by decide
 ll := by decide
 arc x hx := by
  simp only [lineL, List.mem_cons, List.not_mem_nil, or_false] at hx
  rcases hx with rfl | rfl <;> decide
theorem line_gi : GI (3 : Nat) pL qL where
 p0 := by simp
 q0 := by simp
 gp g hg := by
  obtain rfl := List.mem_singleton.1 hg
  decide
 gq g hg := by
  obtain rfl := List.mem_singleton.1 hg
  decide
 dp := by simp
 dq := by simp
 apart g hg x hx := by
  obtain rfl := List.mem_singleton.1 hg
  obtain rfl := List.mem_singleton.1 hx
  decide
theorem line_ask {h : Nat} (hh : h ≤ 16) : AskOk 3 h lineL pL qL := ask_of (m := 6) (by omega) line_sm line_gi hh
theorem useL (x : Arc) : useOf qL x = !decide (x.f0 = 2) := by
 unfold useOf
 rw [hasK_putGs]
 simp [eq_comm]
theorem keepsL (v : Nat) : keepsOf false pL qL v = (decide ((v : Int) = 0) || decide ((v : Int) = 2)) := by
 unfold keepsOf
 rw [hasK_putGs, hasK_putGs]
 simp [eq_comm]
theorem useL_is : useOf qL = fun x => !decide (x.f0 = 2) := funext useL
theorem keepsL_is : keepsOf false pL qL = fun v : Nat => (decide ((v : Int) = 0) || decide ((v : Int) = 2)) := funext keepsL
theorem line2 : evArcs lineL (useOf qL) (keepsOf false pL qL) 3 2 9 10 pL qL = [⟨0, 4, 2, 0⟩, ⟨1, 5, 2, 0⟩, ⟨0, 3, 1099511627776, 0⟩, ⟨2, 5, 1099511627776, 0⟩, ⟨3, 7, 2, 0⟩, ⟨4, 8, 2, 0⟩, ⟨3, 6, 1099511627776, 0⟩, ⟨5, 8, 1099511627776, 0⟩, ⟨9, 0, 3, 0⟩, ⟨8, 10, 5, 0⟩] := by
 rw [useL_is, keepsL_is]
 rfl
theorem line3 : evArcs lineL (useOf qL) (keepsOf false pL qL) 3 3 12 13 pL qL = [⟨0, 4, 2, 0⟩, ⟨1, 5, 2, 0⟩, ⟨0, 3, 1099511627776, 0⟩, ⟨2, 5, 1099511627776, 0⟩, ⟨3, 7, 2, 0⟩, ⟨4, 8, 2, 0⟩, ⟨3, 6, 1099511627776, 0⟩, ⟨5, 8, 1099511627776, 0⟩, ⟨6, 10, 2, 0⟩, ⟨7, 11, 2, 0⟩, ⟨6, 9, 1099511627776, 0⟩, ⟨8, 11, 1099511627776, 0⟩, ⟨12, 0, 3, 0⟩, ⟨11, 13, 5, 0⟩] := by
 rw [useL_is, keepsL_is]
 rfl
theorem line_two : mostV 3 2 false lineL pL qL = 2 := by
 obtain ⟨⟨S, h1, h2, h3⟩, h4⟩ := ((line_ask (h := 2) (by decide)).place).cut false
 have u := h4 (fun v => decide (v = 9) || decide (v = 0) || decide (v = 3) || decide (v = 6) || decide (v = 7)) (by decide) (by decide)
 unfold evCut at u h3
 rw [show evArcs lineL (useOf qL) (keepsOf false pL qL) 3 2 ((2 + 1) * 3) ((2 + 1) * 3 + 1) pL qL = _ from line2] at u h3
 have u2 : cutL (fun v => decide (v = 9) || decide (v = 0) || decide (v = 3) || decide (v = 6) || decide (v = 7)) [⟨0, 4, 2, 0⟩, ⟨1, 5, 2, 0⟩, ⟨0, 3, 1099511627776, 0⟩, ⟨2, 5, 1099511627776, 0⟩, ⟨3, 7, 2, 0⟩, ⟨4, 8, 2, 0⟩, ⟨3, 6, 1099511627776, 0⟩, ⟨5, 8, 1099511627776, 0⟩, ⟨9, 0, 3, 0⟩, ⟨8, 10, 5, 0⟩] = 2 := by decide +kernel
 rw [u2] at u
 have h1' : S 9 = true := h1
 have h2' : S 10 = false := h2
 have lo : 2 ≤ cutL S [⟨0, 4, 2, 0⟩, ⟨1, 5, 2, 0⟩, ⟨0, 3, 1099511627776, 0⟩, ⟨2, 5, 1099511627776, 0⟩, ⟨3, 7, 2, 0⟩, ⟨4, 8, 2, 0⟩, ⟨3, 6, 1099511627776, 0⟩, ⟨5, 8, 1099511627776, 0⟩, ⟨9, 0, 3, 0⟩, ⟨8, 10, 5, 0⟩] := by
  simp only [cutL, cutA, h1', h2']
  generalize S 0 = x0
  generalize S 1 = x1
  generalize S 2 = x2
  generalize S 3 = x3
  generalize S 4 = x4
  generalize S 5 = x5
  generalize S 6 = x6
  generalize S 7 = x7
  generalize S 8 = x8
  revert x0 x1 x2 x3 x4 x5 x6 x7 x8
  decide +kernel
 omega
theorem line_three : mostV 3 3 false lineL pL qL = 3 := by
 have hp := (line_ask (h := 3) (by decide)).place
 obtain ⟨⟨S, h1, h2, h3⟩, -⟩ := hp.cut false
 have u := hp.le_total false
 have ut : totalV pL = 3 := by decide
 rw [ut] at u
 unfold evCut at h3
 rw [show evArcs lineL (useOf qL) (keepsOf false pL qL) 3 3 ((3 + 1) * 3) ((3 + 1) * 3 + 1) pL qL = _ from line3] at h3
 have h1' : S 12 = true := h1
 have h2' : S 13 = false := h2
 have lo : 3 ≤ cutL S [⟨0, 4, 2, 0⟩, ⟨1, 5, 2, 0⟩, ⟨0, 3, 1099511627776, 0⟩, ⟨2, 5, 1099511627776, 0⟩, ⟨3, 7, 2, 0⟩, ⟨4, 8, 2, 0⟩, ⟨3, 6, 1099511627776, 0⟩, ⟨5, 8, 1099511627776, 0⟩, ⟨6, 10, 2, 0⟩, ⟨7, 11, 2, 0⟩, ⟨6, 9, 1099511627776, 0⟩, ⟨8, 11, 1099511627776, 0⟩, ⟨12, 0, 3, 0⟩, ⟨11, 13, 5, 0⟩] := by
  simp only [cutL, cutA, h1', h2']
  generalize S 0 = x0
  generalize S 1 = x1
  generalize S 2 = x2
  generalize S 3 = x3
  generalize S 4 = x4
  generalize S 5 = x5
  generalize S 6 = x6
  generalize S 7 = x7
  generalize S 8 = x8
  generalize S 9 = x9
  generalize S 10 = x10
  generalize S 11 = x11
  revert x0 x1 x2 x3 x4 x5 x6 x7 x8 x9 x10 x11
  decide +kernel
 omega
theorem line_bad {k : Nat} (hk : 300 ≤ k) : evac_Most.f k 3 false lineL pL pL 2 = some (0, 210) := by
 have c1 := check_good (b := false) (line_ask (h := 2) (by decide)).net hk
 have c2 : groupsC 3 pL pL = 210 := by decide +kernel
 have ok : okG pL = true ∧ okG pL = true := ⟨(line_ask (h := 2) (by decide)).okp.1, (line_ask (h := 2) (by decide)).okp.1⟩
 have hb : begunF k 3 false lineL pL pL 2 = some 210 := by
  unfold begunF
  rw [show netfmt_Check.f k 3 false lineL = some 0 from c1, Option.bind_some, if_pos rfl, c2, if_neg (by decide)]
 unfold evac_Most.f
 rw [if_pos ok, hb, Option.bind_some, if_neg (by decide)]
theorem line_most : evac_Most.f 300 3 false lineL pL qL 2 = some (2, 0) := by
 have h2 := (line_ask (h := 2) (by decide)).most false (k := 300) (by decide)
 rw [line_two] at h2
 exact h2
theorem line_least : evac_Least.f 300 3 false lineL pL qL 9 = some (3, true, 0) := by
 have h9 := (line_ask (h := 9) (by decide)).least false (k := 300) (by decide)
 have hp9 := (line_ask (h := 9) (by decide)).place
 have t3 : totalV pL = 3 := by decide
 have e9 : mostV 3 9 false lineL pL qL = totalV pL := by
  have m1 := PlaceOk.mono_le (m := 3) (h := 9) false hp9 (by decide)
  have m2 := hp9.le_total false
  rw [line_three] at m1
  omega
 obtain ⟨f1, f2, f3⟩ := (line_ask (h := 9) (by decide)).first false e9
 have hb : bsr (fun k => mostV 3 k false lineL pL qL == totalV pL) 0 9 = 3 := by
  generalize bsr (fun k => mostV 3 k false lineL pL qL == totalV pL) 0 9 = z at f1 f2 f3
  by_cases c : z < 3
  ·have m1 := PlaceOk.mono_le (m := z) (h := 2) false (hp9.le (by decide)) (by omega)
   rw [line_two] at m1
   omega
  ·by_cases c2 : 3 < z
   ·have := f2 3 c2
    rw [line_three] at this
    omega
   ·omega
 rw [hb, if_pos (by simpa using e9), e9] at h9
 rw [show (some (3, true, 0) : Option (Int × Bool × Int)) = some (((3 : Nat) : Int), totalV pL == totalV pL, 0) by simp]
 exact h9
end Go.Proofs.YtcgdloldkcmhnaaGreat.H
end
section
namespace Go.Proofs.YtcgdloldkcmhnaaGreat.H
open Go Go.RowKit Go.Proofs.YtcgdloldkcmhnaaGreat.PrintC Go.Proofs.YtcgdloldkcmhnaaGreat.PrintE Go.Proofs.YtcgdloldkcmhnaaGreatW.PrintWords Go.Proofs.YtcgdloldkcmhnaaGreatW.PrintLast Go.Proofs.YtcgdloldkcmhnaaGreatW.PrintMore Go.Proofs.YtcgdloldkcmhnaaGreat.Flow
set_option linter.unusedVariables false
set_option linter.unusedSimpArgs false
theorem arcs_blk {W : World} {g : Nat} {l : List Arc} (hl : l.length ≤ 100000) (h : W.heap[g]? = some (.cells (arcCells l).toArray 104 (0, 0))) : Kd.C kArc W (some ⟨g, 0, none⟩) l.length l := by
 refine ⟨rfl, by omega, fun _ => ⟨_, rfl, fun j p hj => ⟨[.int .i64 p.f0, .int .i64 p.f1, .int .i64 p.f2, .int .i64 p.f3], rfl, k104_mk _ p, fun i u hu => ?_⟩⟩⟩
 have h1 := arcCells_get l j p hj i u hu
 have h2 : W.cell? ⟨g, j * 4 + i, none⟩ = some u := by
  refine (blk_cell h (j * 4 + i)).trans ?_
  rw [List.getElem?_toArray]
  exact h1
 have h3 : (Addr.add ⟨g, 0, none⟩ (j * kArc.sz + i)) = ⟨g, j * 4 + i, none⟩ := by
  have : kArc.sz = 4 := rfl
  rw [this]
  unfold Addr.add
  split
  ·rename_i h4
   rw [h4]
  ·simp
 rw [h3]
 exact h2
theorem grp_blk {W : World} {g : Nat} {a b : Int} (h : W.heap[g]? = some (.cells #[.int .i64 a, .int .i64 b] 59 (0, 0))) : Kd.C kGrp W (some ⟨g, 0, none⟩) 1 [⟨a, b⟩] := by
 refine ⟨rfl, by simp, fun _ => ⟨_, rfl, fun j p hj => ?_⟩⟩
 have hj0 : j = 0 := by have := (List.getElem?_eq_some_iff.1 hj).1; simpa using this
 subst hj0
 have e : (⟨a, b⟩ : Grp) = p := by simpa using hj
 subst e
 refine ⟨[.int .i64 a, .int .i64 b], rfl, k59_mk _ ⟨a, b⟩, fun i u hu => ?_⟩
 match i, hu with
 |0, hu => exact (blk_cell h 0).trans hu
 |1, hu => exact (blk_cell h 1).trans hu
 |i + 2, hu => simp at hu
set_option maxHeartbeats 4000000 in
set_option maxRecDepth 100000 in
theorem line_walk (b : Bool) (w : World) : Calls Tryz.prog 22 #[.bool b] w fun e w' => ∃ g, e = .returned (.agg #[.int .i64 3, .bool b, .slice (some ⟨g, 0, none⟩) 2 2]) ∧ Kd.C kArc w' (some ⟨g, 0, none⟩) 2 lineL ∧ Below w.heap.size w w' := by
 have hu := Tryz.underlying33
 go_enter Tryz.func22, Tryz.ntmps22
 go_wp2
 refine bodyPost_ret (results_cell_row rfl _ _ w.heap.size 33 #[.int .i64 3, .bool b, .slice (some ⟨w.heap.size + 1, 0, none⟩) 2 2] (0, 0) _ rfl (blk_alloc (heap_alloc_new w _) _) hu rfl (by kernel_rfl)) rfl ?_
 exact ⟨_, rfl, arcs_blk (l := lineL) (by decide) (alloc_at (by simp)), below_alloc (below_alloc (Below.refl _ _) _) _⟩
theorem most_line {A Ap Aq : Option Addr} {w : World} (hA : Kd.C kArc w A 2 lineL) (hp : Kd.C kGrp w Ap 1 pL) (hq : Kd.C kGrp w Aq 1 qL) :
  Calls Tryz.prog 9 #[.agg #[.int .i64 3, .bool false, .slice A 2 2], .slice Ap 1 1, .slice Aq 1 1, .int .i64 2] w fun e w' => e = .returned (.tuple #[.int .i64 2, .int .i64 0]) ∧ Below w.heap.size w w' :=
 evac_Most.calls 300 3 false A 2 lineL Ap 1 pL Aq 1 qL 2 2 0 w hA (Nat.le_refl _) hp (Nat.le_refl _) hq (Nat.le_refl _) line_most
theorem least_line {A Ap Aq : Option Addr} {w : World} (hA : Kd.C kArc w A 2 lineL) (hp : Kd.C kGrp w Ap 1 pL) (hq : Kd.C kGrp w Aq 1 qL) :
  Calls Tryz.prog 15 #[.agg #[.int .i64 3, .bool false, .slice A 2 2], .slice Ap 1 1, .slice Aq 1 1, .int .i64 9] w fun e w' => e = .returned (.tuple #[.int .i64 3, .bool true, .int .i64 0]) ∧ Below w.heap.size w w' :=
 evac_Least.calls 300 3 false A 2 lineL Ap 1 pL Aq 1 qL 9 3 true 0 w hA (Nat.le_refl _) hp (Nat.le_refl _) hq (Nat.le_refl _) line_least
theorem bad_line {A Ap : Option Addr} {w : World} (hA : Kd.C kArc w A 2 lineL) (hp : Kd.C kGrp w Ap 1 pL) :
  Calls Tryz.prog 9 #[.agg #[.int .i64 3, .bool false, .slice A 2 2], .slice Ap 1 1, .slice Ap 1 1, .int .i64 2] w fun e w' => e = .returned (.tuple #[.int .i64 0, .int .i64 210]) ∧ Below w.heap.size w w' :=
 evac_Most.calls 300 3 false A 2 lineL Ap 1 pL Ap 1 pL 2 0 210 w hA (Nat.le_refl _) hp (Nat.le_refl _) hp (Nat.le_refl _) (line_bad (k := 300) (Nat.le_refl _))
set_option maxHeartbeats 4000000 in
set_option maxRecDepth 100000 in
theorem awake_walk (w : World) : Calls Tryz.prog 7 #[] w fun e w' => e = .returned (.bool true) ∧ Below w.heap.size w w' := by
 have hu := Tryz.underlying59
 have hu2 := Tryz.underlying34
 go_enter Tryz.func7, Tryz.ntmps7
 go_wp2_with (go_at_call 22; fail)
 have HP := Lib.hid (grp_blk (blk_alloc (heap_alloc_new w (.cells #[.int .i64 0, .int .i64 3] 59)) (.cells #[.int .i64 2, .int .i64 5] 59)))
 have HQ := Lib.hid (grp_blk (g := w.heap.size + 1) (alloc_at (W := w.alloc (.cells #[.int .i64 0, .int .i64 3] 59)) (o := .cells #[.int .i64 2, .int .i64 5] 59) (by simp)))
 have HB0 := Lib.hid (below_alloc (below_alloc (Below.refl w.heap.size w) (.cells #[.int .i64 0, .int .i64 3] 59)) (.cells #[.int .i64 2, .int .i64 5] 59))
 generalize ((w.alloc (.cells #[.int .i64 0, .int .i64 3] 59)).alloc (.cells #[.int .i64 2, .int .i64 5] 59)) = w1 at HP HQ HB0 ⊢
 have HB := Lib.hid (Below.refl w1.heap.size w1)
 go_wp2_with (first
  |(go_at_call 22; (with_reducible refine (line_walk false _).mono ?_); rintro e w2 ⟨g, rfl, hA, hb⟩; (try clear HA); have HA := Lib.hid hA; have HN := Lib.hid (below_step HB.out hb); clear HB; have HB := HN; clear HN hb hA)
  |(go_at_call 9; (with_reducible refine (most_line HA.out (Kd.C_below HP.out HB.out) (Kd.C_below HQ.out HB.out)).mono ?_); rintro e w2 ⟨rfl, hb⟩; have HN := Lib.hid (below_step HB.out hb); clear HB; have HB := HN; clear HN hb)
  |(go_at_call 15; (with_reducible refine (least_line HA.out (Kd.C_below HP.out HB.out) (Kd.C_below HQ.out HB.out)).mono ?_); rintro e w2 ⟨rfl, hb⟩; have HN := Lib.hid (below_step HB.out hb); clear HB; have HB := HN; clear HN hb)
  |(go_at_call 9; (with_reducible refine (bad_line HA.out (Kd.C_below HP.out HB.out)).mono ?_); rintro e w2 ⟨rfl, hb⟩; have HN := Lib.hid (below_step HB.out hb); clear HB; have HB := HN; clear HN hb))
 go_ret
 exact ⟨rfl, below_step HB0.out HB.out⟩
end Go.Proofs.YtcgdloldkcmhnaaGreat.H
end
