/- Texts of this proof, joined; what the statement doesn't need is left out. -/
import Derived.Test.YtdfagllncopmjaaGreatT4
section
namespace Go.Proofs.YtdfagllncopmjaaGreat.H
open Go Go.RowKit Go.Proofs.YtdfagllncopmjaaGreat.PrintC Go.Proofs.YtdfagllncopmjaaGreat.PrintE Go.Proofs.YtdfagllncopmjaaGreatW.PrintWords Go.Proofs.YtdfagllncopmjaaGreatW.PrintLast Go.Proofs.YtdfagllncopmjaaGreatW.PrintMore Go.Proofs.YtdfagllncopmjaaGreat.Flow
set_option linter.unusedVariables false
set_option linter.unusedSimpArgs false
theorem GrI.free {w0 : World} {gg : Nat} {N n : Int} {v : Value} {arcs : List Arc} {B : MB} {D : MD} {W : World} (h : GrI w0 gg N n v arcs B D W) : GrI (bare W) gg N n v arcs B D W :=
 ⟨h.bx, Kd.R_lower h.ar (Nat.zero_le _), h.mm, h.mw, h.mf, h.ml, below_bare W W ⟨rfl, rfl, rfl⟩, Nat.zero_le _, Nat.zero_le _, Nat.zero_le _, Nat.zero_le _, Nat.zero_le _, h.n1, h.n2, h.n3, h.n4, h.n5, h.n6⟩
def TfSolved (n h s t N N1 M : Nat) (b : Bool) (l E : List Arc) (w : World) (e : Ending) (w' : World) : Prop :=
 ∃ (w0 : World) (gg : Nat) (v : Value) (B : MB) (D : MD) (bf : Nat) (f : List Int) (S : Int → Bool), e = .returned (.agg #[.pointer (some ⟨gg, 0, none⟩), .slice (some ⟨bf, 0, none⟩) E.length E.length, .int .i64 (leaves E.length (frOf E) (toOf E) (dOf f) N)]) ∧ GrI w0 gg M n v E B D w' ∧ D.m = putAll (tfB n h s t b l).mv ∧ IntBlk w' bf f ∧ FlowOk E f ∧ Top E.length (frOf E) (toOf E) M N N1 (capOf E) (dOf f) S ∧ Below w.heap.size w w'
section
variable {n h s t N N1 M : Nat} {b : Bool} {A : Option Addr} {c : Nat} {l : List Arc} {w : World}
set_option maxHeartbeats 4000000 in
set_option maxRecDepth 100000 in
theorem tof_walk (E : List Arc) (hE : E = tfArcs l b n h s t N N1) (eN : N = (h + 1) * n) (e1 : N1 = N + 1) (e2 : M = N + 2) (o : TfOk n h s t l) (hlc : l.length ≤ c) (hr : Kd.C kArc w A l.length l) :
  Calls Tryz.prog 28 #[.agg #[.int .i64 n, .bool b, .slice A l.length c], .int .i64 s, .int .i64 t, .int .i64 h] w (TfSolved n h s t N N1 M b l E w) := by
 have HO := zh o
 have HR := zh hr
 have HE := zh hE
 have HNO : Hid (NetOk M E ∧ ∀ i : Int, 0 ≤ i → i < E.length → 0 ≤ (rd_T57 E i).f2) := zh (by
  subst e2 e1 eN hE
  exact o.netOk b)
 have HEE := zh (And.intro eN (And.intro e1 e2))
 have hu := Tryz.underlying27
 have hu3 := Tryz.underlying68
 clear o hr hE eN e1 e2
 obtain ⟨w1, hw1⟩ : ∃ w1, w1 = (w.alloc (.cells #[.int .i64 n, .bool b, .slice A l.length c] 27)).alloc (.cells #[.pointer none, .slice none 0 0, .int .i64 0] 68) := ⟨_, rfl⟩
 have HX : Hid (w1.heap[w.heap.size]? = some (.cells #[.int .i64 n, .bool b, .slice A l.length c] 27 (0, 0)) ∧ w1.heap[w.heap.size + 1]? = some (.cells #[.pointer none, .slice none 0 0, .int .i64 0] 68 (0, 0)) ∧ Below w.heap.size w w1) := zh (by
  rw [hw1]
  exact ⟨blk_alloc (heap_alloc_new _ _) _, alloc_at (by rw [alloc_size]), below_alloc (below_alloc (Below.refl _ _) _) _⟩)
 go_enter Tryz.func28, Tryz.ntmps28
 go_wp2_with (first
  |(go_at_call 46; rw [← hw1]; go_loud ((with_reducible refine (of_walk n h s t N N1 M HEE.out.1 HEE.out.2.1 HEE.out.2.2 b A c l _ HO.out hlc ?s1).mono ?_); (case s1 => exact Kd.C_below HR.out HX.out.2.2); rintro e w2 ⟨w0, gg, v, B, D, rfl, hI, hD, hb⟩; rw [← HE.out] at hI; have HI := zh hI; have HD := zh hD; have HX2 := zh (And.intro (blk_below HX.out.2.1 hb) (below_step HX.out.2.2 hb)); clear hI hD hb))
  |(go_at_call 45; go_loud ((with_reducible refine (solve_walk w0 gg N N1 M HEE.out.2.1 HEE.out.2.2 n v E B D _ HI.out HNO.out.1 HNO.out.2).mono ?_); rintro e w3 ⟨bf, f, S, rfl, k1, k2, k3, k4, k5, k6⟩; have HX3 := zh (And.intro (blk_below HX2.out.1 k6) (below_step HX2.out.2 k6)); have K1 := zh k1.free; have K2 := zh k2; have K4 := zh (And.intro k4 k5); have y0 : w3.cell? ⟨w.heap.size + 1, 0, none⟩ = some (.pointer none) := (blk_cell HX3.out.1 0).trans rfl; have y1 : w3.cell? ⟨w.heap.size + 1, 1, none⟩ = some (.slice none 0 0) := (blk_cell HX3.out.1 1).trans rfl; have y2 : w3.cell? ⟨w.heap.size + 1, 2, none⟩ = some (.int .i64 0) := (blk_cell HX3.out.1 2).trans rfl; have f0 := blk_frozen HX3.out.1 0; have f1 := blk_frozen HX3.out.1 1; have f2 := blk_frozen HX3.out.1 2; clear k1 k2 k3 k4 k5 k6)))
 obtain ⟨V, hV⟩ : ∃ V, V = leaves E.length (frOf E) (toOf E) (dOf f) N := ⟨_, rfl⟩
 rw [← hV]
 have k0 := blk_put (cs := #[.pointer none, .slice none 0 0, .int .i64 0]) HX3.out.1 0 (.pointer (some ⟨gg, 0, none⟩)) rfl
 have k1 := blk_put (cs := #[.pointer (some ⟨gg, 0, none⟩), .slice none 0 0, .int .i64 0]) k0 1 (.slice (some ⟨bf, 0, none⟩) E.length E.length) rfl
 have k2 := blk_put (cs := #[.pointer (some ⟨gg, 0, none⟩), .slice (some ⟨bf, 0, none⟩) E.length E.length, .int .i64 0]) k1 2 (.int .i64 V) rfl
 refine bodyPost_ret (results_cell_row rfl _ _ (w.heap.size + 1) 68 #[.pointer (some ⟨gg, 0, none⟩), .slice (some ⟨bf, 0, none⟩) E.length E.length, .int .i64 V] (0, 0) _ rfl k2 hu3 rfl (by kernel_rfl)) rfl ?_
 have hne : bf ≠ w.heap.size + 1 := blk_ne K2.out HX3.out.1 (by decide)
 refine ⟨bare w3, gg, v, B, D, bf, f, S, by rw [hV], ((K1.out.set HX3.out.1 (by decide) (by decide) (Nat.zero_le _) 0 _).set k0 (by decide) (by decide) (Nat.zero_le _) 1 _).set k1 (by decide) (by decide) (Nat.zero_le _) 2 _, HD.out, ?_, K4.out.1, K4.out.2, below_set (below_set (below_set HX3.out.2 (Nat.le_succ _)) (Nat.le_succ _)) (Nat.le_succ _)⟩
 unfold IntBlk
 rw [Below.heap_setCell _ ⟨w.heap.size + 1, 2, none⟩ _ _ hne, Below.heap_setCell _ ⟨w.heap.size + 1, 1, none⟩ _ _ hne, Below.heap_setCell _ ⟨w.heap.size + 1, 0, none⟩ _ _ hne]
 exact K2.out
end
theorem arcV_good {n : Int} {x : Arc} (h : arcV n x.f0 x.f1 x.f2 x.f3 = 0) : (0 ≤ x.f0 ∧ x.f0 < n) ∧ (0 ≤ x.f1 ∧ x.f1 < n) ∧ (0 ≤ x.f2 ∧ x.f2 ≤ 1048576) ∧ (0 ≤ x.f3 ∧ x.f3 ≤ 1048576) := by
 unfold arcV at h
 by_cases c1 : x.f0 < 0 ∨ x.f0 ≥ n ∨ x.f1 < 0 ∨ x.f1 ≥ n ∨ x.f2 < 0 ∨ x.f3 < 0
 ·rw [if_pos c1] at h; cases h
 ·rw [if_neg c1] at h
  by_cases c2 : x.f2 > 1048576
  ·rw [if_pos c2] at h; cases h
  ·rw [if_neg c2] at h
   by_cases c3 : x.f3 > 1048576
   ·rw [if_pos c3] at h; cases h
   ·omega
theorem arcsV_good {n : Int} : ∀ {l : List Arc}, arcsV n l = 0 → ∀ x, x ∈ l → (0 ≤ x.f0 ∧ x.f0 < n) ∧ (0 ≤ x.f1 ∧ x.f1 < n) ∧ (0 ≤ x.f2 ∧ x.f2 ≤ 1048576) ∧ (0 ≤ x.f3 ∧ x.f3 ≤ 1048576)
 |[], _ => fun x hx => nomatch hx
 |y :: l, h => fun x hx => by
  rw [arcsV_cons] at h
  by_cases c : arcV n y.f0 y.f1 y.f2 y.f3 = 0
  ·rw [if_pos c] at h
   rcases List.mem_cons.1 hx with rfl | hx
   ·exact arcV_good c
   ·exact arcsV_good h x hx
  ·rw [if_neg c] at h
   exact absurd h c
theorem arcsV_of {n : Int} : ∀ {l : List Arc}, (∀ x, x ∈ l → (0 ≤ x.f0 ∧ x.f0 < n) ∧ (0 ≤ x.f1 ∧ x.f1 < n) ∧ (0 ≤ x.f2 ∧ x.f2 ≤ 1048576) ∧ (0 ≤ x.f3 ∧ x.f3 ≤ 1048576)) → arcsV n l = 0
 |[], _ => rfl
 |y :: l, h => by
  have h1 := h y (List.mem_cons_self ..)
  have c : arcV n y.f0 y.f1 y.f2 y.f3 = 0 := by
   unfold arcV
   rw [if_neg (by omega), if_neg (by omega), if_neg (by omega)]
  rw [arcsV_cons, if_pos c]
  exact arcsV_of (fun x hx => h x (List.mem_cons_of_mem _ hx))
theorem netV_good {n : Int} {l : List Arc} (h : netV n l = 0) : ∀ x, x ∈ l → (0 ≤ x.f0 ∧ x.f0 < n) ∧ (0 ≤ x.f1 ∧ x.f1 < n) ∧ (0 ≤ x.f2 ∧ x.f2 ≤ 1048576) ∧ (0 ≤ x.f3 ∧ x.f3 ≤ 1048576) := by
 obtain ⟨h1, h2, h3⟩ := netV_ok h
 unfold netV at h
 rw [if_neg (by omega), if_neg (by omega), if_neg (by omega)] at h
 exact arcsV_good h
theorem tfOk_of {n s t h : Int} {l : List Arc} (e : askT n l s t h = 0) : ∃ n' h' s' t' : Nat, n = n' ∧ h = h' ∧ s = s' ∧ t = t' ∧ TfOk n' h' s' t' l := by
 obtain ⟨a1, ⟨a2, a3, a4, a5, a6⟩, ⟨a7, a8⟩, a9, a10⟩ := askT_zero e
 obtain ⟨b1, b2, b3⟩ := netV_ok a1
 have hg := netV_good a1
 obtain ⟨n', rfl⟩ := Int.eq_ofNat_of_zero_le (show 0 ≤ n by omega)
 obtain ⟨h', rfl⟩ := Int.eq_ofNat_of_zero_le a7
 obtain ⟨s', rfl⟩ := Int.eq_ofNat_of_zero_le a2
 obtain ⟨t', rfl⟩ := Int.eq_ofNat_of_zero_le a4
 refine ⟨n', h', s', t', rfl, rfl, rfl, rfl, ⟨⟨by omega, by omega, by omega, ?_, ?_, fun i hi => ?_, fun i hi => ?_⟩, fun i hi => ?_, by omega, by omega, by omega, by omega⟩⟩
 ·have : (((h' + 1) * n' : Nat) : Int) ≤ 4000 := by rw [Int.natCast_mul]; exact a9
  omega
 ·have : (((h' + 1) * l.length : Nat) : Int) ≤ 10000 := by rw [Int.natCast_mul]; exact a10
  omega
 ·have := hg _ (mem_arcAt hi)
  omega
 ·have := hg _ (mem_arcAt hi)
  omega
 ·have := hg _ (mem_arcAt hi)
  omega
theorem ask_of {n h s t : Nat} {l : List Arc} (o : TfOk n h s t l) (h50 : n ≤ 50) (h200 : l.length ≤ 200) : askT n l s t h = 0 := by
 have h1 : netV n l = 0 := by
  have := o.net.n0
  unfold netV
  rw [if_neg (by omega), if_neg (by omega), if_neg (by omega)]
  refine arcsV_of (fun x hx => ?_)
  obtain ⟨i, hi, rfl⟩ := List.getElem_of_mem hx
  have e : arcAt l i = l[i] := by
   unfold arcAt rd_T57
   rw [Int.toNat_natCast, List.getD_eq_getElem?_getD, List.getElem?_eq_getElem hi]
   rfl
  have g1 := o.net.ends i hi
  have g2 := o.net.time i hi
  have g3 := o.caps i hi
  rw [e] at g1 g2 g3
  exact ⟨g1.1, g1.2, g3, g2⟩
 have h2 : endsV n l s t = 0 := by
  have := o.hs
  have := o.ht
  have := o.st
  unfold endsV
  rw [if_pos h1, if_pos (by omega)]
 have h3 : spanV h = 0 := by
  have := o.hh
  unfold spanV
  rw [if_neg (by omega), if_neg (by omega)]
 have h4 : askS n l s t h = 0 := by
  unfold askS
  rw [if_pos h2, h3]
 have h5 : fitsV n l h = true := by
  have a1 : (((h + 1) * n : Nat) : Int) ≤ 4000 := by have := o.net.hn; omega
  have a2 : (((h + 1) * l.length : Nat) : Int) ≤ 10000 := by have := o.net.hl; omega
  unfold fitsV
  rw [Bool.and_eq_true, decide_eq_true_eq, decide_eq_true_eq]
  rw [Int.natCast_mul] at a1 a2
  exact ⟨a1, a2⟩
 unfold askT
 rw [if_pos h4, if_pos h5]
structure PlanM (n h s t : Nat) (b : Bool) (l : List Arc) (m : List Mv) : Prop where
 mg : MgOf m m
 ok : ∀ x, x ∈ m → moveOk l h s t x = true
 st : ∀ v z : Nat, v < n → z ≤ h → ¬ BadT h b s t l m v z
 val : stockV l m t h = tfV n h s t b l
 f2 : ∀ x, x ∈ m → -9223372036854775808 ≤ x.f2 ∧ x.f2 ≤ 9223372036854775807
 len : m.length ≤ 100000
def TopEx (n h s t : Nat) (b : Bool) (l : List Arc) : Prop := ∃ (F : List Int) (S : Int → Bool), FlowOk (tfA n h s t b l) F ∧ Top (tfA n h s t b l).length (frOf (tfA n h s t b l)) (toOf (tfA n h s t b l)) ((h + 1) * n + 2) ((h + 1) * n : Nat) ((h + 1) * n + 1 : Nat) (capOf (tfA n h s t b l)) (dOf F) S
theorem planM_of {n h s t : Nat} {b : Bool} {l : List Arc} (o : TfOk n h s t l) {F : List Int} {S : Int → Bool} {m : List Mv} (hF : FlowOk (tfA n h s t b l) F) (hT : Top (tfA n h s t b l).length (frOf (tfA n h s t b l)) (toOf (tfA n h s t b l)) ((h + 1) * n + 2) ((h + 1) * n : Nat) ((h + 1) * n + 1 : Nat) (capOf (tfA n h s t b l)) (dOf F) S) (hm : MgOf (toldL F (tfB n h s t b l).mv) m) (hl : m.length ≤ 100000) : PlanM n h s t b l m := by
 have hB : Bal (tfA n h s t b l).length (frOf (tfA n h s t b l)) (toOf (tfA n h s t b l)) ((h + 1) * n + 2) ((h + 1) * n : Nat) (((h + 1) * n : Nat) + 1) (dOf F) := hT.2.1
 refine ⟨hm.self, tfMok o hF hm, tfPlan o hF hB hm, ?_, fun x hx => ?_, hl⟩
 ·rw [tfAmount o hF hB hm]
  unfold tfV
  exact (mfVal_eq (o.arcs b) (by omega) hF hT).symm
 ·obtain ⟨h1, h2, -⟩ := told_f2 (tfF_bd o hF) ((told_perm (tfEnt o b).1 (tfF_bd o hF) hm).mem_iff.1 hx)
  omega
theorem told_blk (w0 : World) (gg : Nat) (N n : Int) (v : Value) (arcs : List Arc) (B : MB) (D : MD) (mv : List Ent) (bf k cf : Nat) (f : List Int) (w : World) (h : GrI w0 gg N n v arcs B D w) (hD : D.m = putAll mv) (hm : EntOk mv) (hlm : mv.length ≤ 100000) (hf : IntBlk w bf f) (hk : f.length = k) (hkl : k ≤ 1000000) (hi : ∀ x, x ∈ mv → x.2.2 < f.length) (hb : ∀ x, x ∈ f → x ≤ 9223372036854775807) :
  Calls Tryz.prog 33 #[.pointer (some ⟨gg, 0, none⟩), .slice (some ⟨bf, 0, none⟩) k cf] w (ToldAt f mv w) := by
 subst hk
 exact told_walk w0 gg N n v arcs B D mv (some ⟨bf, 0, none⟩) cf f w h hD hm hlm (hf.reads (by omega)) hi hb
section
variable {n h s t : Nat} {b : Bool} {A : Option Addr} {c : Nat} {l : List Arc} {w : World}
def MaxAt (n h s t : Nat) (b : Bool) (l : List Arc) (w : World) (e : Ending) (w' : World) : Prop :=
 Below w.heap.size w w' ∧ ∃ (m : List Mv) (A1 : Option Addr) (c1 : Nat), e = .returned (.tuple #[.slice A1 m.length c1, .int .i64 (tfV n h s t b l), .int .i64 0]) ∧ Kd.R kMv 78 w' w.heap.size (fun _ => True) (.slice A1 m.length c1) m ∧ PlanM n h s t b l m ∧ TopEx n h s t b l
set_option maxHeartbeats 8000000 in
set_option maxRecDepth 100000 in
theorem max_walk (o : TfOk n h s t l) (ha : askT n l s t h = 0) (hlc : l.length ≤ c) (hr : Kd.C kArc w A l.length l) :
  Calls Tryz.prog 17 #[.agg #[.int .i64 n, .bool b, .slice A l.length c], .int .i64 s, .int .i64 t, .int .i64 h] w (MaxAt n h s t b l w) := by
 have HO := zh o
 have HR := zh hr
 have HA := zh ha
 have HLC := zh hlc
 obtain ⟨E, hE⟩ : ∃ E, E = tfA n h s t b l := ⟨_, rfl⟩
 have HE := zh hE
 have HEL : Hid (E.length ≤ 1000000) := zh (by
  have h1 := o.len b ((h + 1) * n) ((h + 1) * n + 1)
  have h2 := o.hh
  rw [hE]
  show (tfArcs l b n h s t ((h + 1) * n) ((h + 1) * n + 1)).length ≤ _
  omega)
 have hu := Tryz.underlying27
 have hu3 := Tryz.underlying68
 clear o hr ha hlc hE
 obtain ⟨V, hV⟩ : ∃ V, V = tfV n h s t b l := ⟨_, rfl⟩
 have HVE := zh hV
 clear hV
 obtain ⟨w1, hw1⟩ : ∃ w1, w1 = w.alloc (.cells #[.int .i64 n, .bool b, .slice A l.length c] 27) := ⟨_, rfl⟩
 have HX : Hid (w1.heap[w.heap.size]? = some (.cells #[.int .i64 n, .bool b, .slice A l.length c] 27 (0, 0)) ∧ Below w.heap.size w w1) := zh (by rw [hw1]; exact ⟨heap_alloc_new _ _, below_alloc (Below.refl _ _) _⟩)
 go_enter Tryz.func17, Tryz.ntmps17
 go_wp2_with (first
  |(go_at_call 27; rw [← hw1]; go_loud ((with_reducible refine (ask_walk (b := b) (c := c) ?s1 HLC.out).mono ?_); (case s1 => exact Kd.C_below HR.out HX.out.2); rintro e w9 ⟨rfl, hb⟩; rw [HA.out]; have HN9 := zh (And.intro (blk_below HX.out.1 hb) (below_step HX.out.2 hb)); clear HX hb; have HX := HN9; clear HN9; have x0 : w9.cell? ⟨w.heap.size, 0, none⟩ = some (.int .i64 n) := (blk_cell HX.out.1 0).trans rfl; have x1 : w9.cell? ⟨w.heap.size, 1, none⟩ = some (.bool b) := (blk_cell HX.out.1 1).trans rfl; have x2 : w9.cell? ⟨w.heap.size, 2, none⟩ = some (.slice A l.length c) := (blk_cell HX.out.1 2).trans rfl))
  |(go_at_call 28; go_loud ((with_reducible refine (tof_walk E HE.out rfl rfl rfl HO.out HLC.out ?s1).mono ?_); (case s1 => exact Kd.C_below HR.out HX.out.2); rintro e w3 ⟨w0, gg, v, B, D, bf, f, S, rfl, k1, k2, k3, k4, k5, k6⟩; have hv9 : leaves E.length (frOf E) (toOf E) (dOf f) (((h + 1) * n : Nat) : Int) = V := (by rw [HVE.out]; have q4 := k4; have q5 := k5; rw [HE.out] at q4 q5 ⊢; exact (mfVal_eq (HO.out.arcs b) (by omega) q4 q5).symm); rw [hv9]; clear hv9; have HB3 := zh (below_step HX.out.2 k6); have K1 := zh (And.intro k1 k2); have K3 := zh k3; have K4 := zh (And.intro k4 k5); clear k1 k2 k3 k4 k5 k6 x0 x1 x2)))
 have HT : Hid (TopEx n h s t b l) := zh (by
  have := K4.out
  rw [HE.out] at this
  exact ⟨f, S, this.1, this.2⟩)
 obtain ⟨w4, hw4⟩ : ∃ w4, w4 = w3.alloc (.cells #[.pointer (some ⟨gg, 0, none⟩), .slice (some ⟨bf, 0, none⟩) E.length E.length, .int .i64 V] 68) := ⟨_, rfl⟩
 have HX4 : Hid (w4.heap[w3.heap.size]? = some (.cells #[.pointer (some ⟨gg, 0, none⟩), .slice (some ⟨bf, 0, none⟩) E.length E.length, .int .i64 V] 68 (0, 0)) ∧ Below w3.heap.size w3 w4) := zh (by rw [hw4]; exact ⟨heap_alloc_new _ _, below_alloc (Below.refl _ _) _⟩)
 rw [← hw4]
 have HB4 := zh (below_step HB3.out HX4.out.2)
 have HG4 := zh (K1.out.1.below HX4.out.2)
 have HF4 : Hid (IntBlk w4 bf f) := zh (blk_below K3.out HX4.out.2)
 have y0 : w4.cell? ⟨w3.heap.size, 0, none⟩ = some (.pointer (some ⟨gg, 0, none⟩)) := (blk_cell HX4.out.1 0).trans rfl
 have y1 : w4.cell? ⟨w3.heap.size, 1, none⟩ = some (.slice (some ⟨bf, 0, none⟩) E.length E.length) := (blk_cell HX4.out.1 1).trans rfl
 have y2 : w4.cell? ⟨w3.heap.size, 2, none⟩ = some (.int .i64 V) := (blk_cell HX4.out.1 2).trans rfl
 clear hw4
 go_region_held3 (fun w' => w'.cell? ⟨w3.heap.size, 0, none⟩ = some (.pointer (some ⟨gg, 0, none⟩)) ∧ w'.cell? ⟨w3.heap.size, 1, none⟩ = some (.slice (some ⟨bf, 0, none⟩) E.length E.length) ∧ w'.cell? ⟨w3.heap.size, 2, none⟩ = some (.int .i64 V)) (first | exact HS9.out | go_keep) ((go_at_call 33; go_loud ((with_reducible refine (told_blk w0 gg (((h + 1) * n + 2 : Nat) : Int) (n : Int) v E B D (tfB n h s t b l).mv bf E.length _ f _ ?t1 K1.out.2 (tfEnt HO.out b).1 (tfEnt HO.out b).2 ?t2 K4.out.1.len HEL.out ?t4 ?t5).mono ?_); (case t1 => exact HG4.out.below zD); (case t2 => exact blk_below HF4.out zD); (case t4 => have h9 := K4.out.1; rw [HE.out] at h9; exact tfF_in HO.out h9); (case t5 => have h9 := K4.out.1; rw [HE.out] at h9; exact tfF_bd HO.out h9); rintro e w9 ⟨hb, m, A1, c1, rfl, hR2, hmg, hml⟩; have hb9 : Below w4.heap.size w4 w9 := below_step zD hb; have HS9 : Hid (w9.cell? ⟨w3.heap.size, 0, none⟩ = some (.pointer (some ⟨gg, 0, none⟩)) ∧ w9.cell? ⟨w3.heap.size, 1, none⟩ = some (.slice (some ⟨bf, 0, none⟩) E.length E.length) ∧ w9.cell? ⟨w3.heap.size, 2, none⟩ = some (.int .i64 V)) := zh ⟨pw_cell_below hb9 y0, pw_cell_below hb9 y1, pw_cell_below hb9 y2⟩; have HB9 := zh (below_step HB4.out hb9); have HR9 := zh (Kd.R_lower (base' := w.heap.size) hR2 (Nat.le_trans HB4.out.size (show w4.heap.size ≤ _ from Nat.le_refl _))); have HMG := zh (And.intro hmg hml); clear hb hb9 hR2 hmg hml)))
 all_goals
  go_wp2
  go_ret3
  refine ⟨?_, m, A1, c1, by rw [HVE.out]; rfl, ?_, ?_, HT.out⟩
  ·first
    |exact HB9.out
    |exact pw_below_drewN HB9.out _
  ·first
    |exact HR9.out
    |exact Kd.R_drew HR9.out
  ·have h9 := K4.out
   rw [HE.out] at h9
   exact planM_of HO.out h9.1 h9.2 HMG.out.1 (Nat.le_trans HMG.out.2 (tfEnt HO.out b).2)
theorem most_walk (o : TfOk n h s t l) (ha : askT n l s t h = 0) (hlc : l.length ≤ c) (hr : Kd.C kArc w A l.length l) :
  Calls Tryz.prog 10 #[.agg #[.int .i64 n, .bool b, .slice A l.length c], .int .i64 s, .int .i64 t, .int .i64 h] w fun e w' => e = .returned (.tuple #[.int .i64 (tfV n h s t b l), .int .i64 0]) ∧ Below w.heap.size w w' ∧ TopEx n h s t b l := by
 have HO := zh o
 have HR := zh hr
 have HA := zh ha
 have HLC := zh hlc
 have hu := Tryz.underlying27
 clear o hr ha hlc
 obtain ⟨V, hV⟩ : ∃ V, V = tfV n h s t b l := ⟨_, rfl⟩
 rw [← hV]
 have HVE := zh hV
 clear hV
 obtain ⟨w1, hw1⟩ : ∃ w1, w1 = w.alloc (.cells #[.int .i64 n, .bool b, .slice A l.length c] 27) := ⟨_, rfl⟩
 have HX : Hid (w1.heap[w.heap.size]? = some (.cells #[.int .i64 n, .bool b, .slice A l.length c] 27 (0, 0)) ∧ Below w.heap.size w w1) := zh (by rw [hw1]; exact ⟨heap_alloc_new _ _, below_alloc (Below.refl _ _) _⟩)
 go_enter Tryz.func10, Tryz.ntmps10
 go_wp2_with (go_at_call 17; rw [← hw1]; go_loud ((with_reducible refine (max_walk HO.out HA.out HLC.out ?s1).mono ?_); (case s1 => exact Kd.C_below HR.out HX.out.2); rintro e w3 ⟨hb, m, A1, c1, rfl, hR, hP, hT⟩; rw [← HVE.out]; have HB3 := zh (And.intro (below_step HX.out.2 hb) hT); clear hb hR hP hT))
 go_ret2
 exact ⟨rfl, HB3.out.1, HB3.out.2⟩
def TCutAt (X : List Slot) (r : Int) (w : World) (e : Ending) (w' : World) : Prop := ∃ v : Value, e = .returned (.tuple #[v, .int .i64 r]) ∧ Kd.R kSlot 65 w' w.heap.size (fun _ => True) v X ∧ Below w.heap.size w w'
set_option maxHeartbeats 8000000 in
set_option maxRecDepth 100000 in
theorem cut_walk (o : TfOk n h s t l) (ha : askT n l s t h = 0) (hlc : l.length ≤ c) (hr : Kd.C kArc w A l.length l) :
  Calls Tryz.prog 13 #[.agg #[.int .i64 n, .bool b, .slice A l.length c], .int .i64 s, .int .i64 t, .int .i64 h] w (TCutAt (tfCut n h s t b l) 0 w) := by
 have HO := zh o
 have HR := zh hr
 have HA := zh ha
 have HLC := zh hlc
 obtain ⟨E, hE⟩ : ∃ E, E = tfA n h s t b l := ⟨_, rfl⟩
 have HNO : Hid (NetOk ((h + 1) * n + 2) E) := zh (by rw [hE]; exact tf_net o b)
 have HE := zh hE
 have hu := Tryz.underlying27
 have hu3 := Tryz.underlying68
 clear o hr ha hlc hE
 obtain ⟨w1, hw1⟩ : ∃ w1, w1 = w.alloc (.cells #[.int .i64 n, .bool b, .slice A l.length c] 27) := ⟨_, rfl⟩
 have HX : Hid (w1.heap[w.heap.size]? = some (.cells #[.int .i64 n, .bool b, .slice A l.length c] 27 (0, 0)) ∧ Below w.heap.size w w1) := zh (by rw [hw1]; exact ⟨heap_alloc_new _ _, below_alloc (Below.refl _ _) _⟩)
 go_enter Tryz.func13, Tryz.ntmps13
 go_wp2_with (go_at_call 27; rw [← hw1]; go_loud ((with_reducible refine (ask_walk (b := b) (c := c) ?s1 HLC.out).mono ?_); (case s1 => exact Kd.C_below HR.out HX.out.2); rintro e w9 ⟨rfl, hb⟩; rw [HA.out]; have HN9 := zh (And.intro (blk_below HX.out.1 hb) (below_step HX.out.2 hb)); clear HX hb; have HX := HN9; clear HN9; have x0 : w9.cell? ⟨w.heap.size, 0, none⟩ = some (.int .i64 n) := (blk_cell HX.out.1 0).trans rfl; have x1 : w9.cell? ⟨w.heap.size, 1, none⟩ = some (.bool b) := (blk_cell HX.out.1 1).trans rfl; have x2 : w9.cell? ⟨w.heap.size, 2, none⟩ = some (.slice A l.length c) := (blk_cell HX.out.1 2).trans rfl))
 generalize hw5 : w9 = w5 at *
 clear hw5
 go_region_held3 (fun w' => w'.cell? ⟨w.heap.size, 0, none⟩ = some (.int .i64 n) ∧ w'.cell? ⟨w.heap.size, 1, none⟩ = some (.bool b) ∧ w'.cell? ⟨w.heap.size, 2, none⟩ = some (.slice A l.length c)) (first | exact HS10.out | exact HS9.out | go_keep) ((first
  |(go_at_call 28; (with_reducible refine (tof_walk E HE.out rfl rfl rfl HO.out HLC.out ?s1).mono ?_); (case s1 => exact Kd.C_below HR.out (below_step HX.out.2 zD)); rintro e w3 ⟨w0, gg, v, B, D, bf, f, S, rfl, k1, k2, k3, k4, k5, k6⟩; have hb9 : Below w5.heap.size w5 w3 := below_step zD k6; have HS9 : Hid (w3.cell? ⟨w.heap.size, 0, none⟩ = some (.int .i64 n) ∧ w3.cell? ⟨w.heap.size, 1, none⟩ = some (.bool b) ∧ w3.cell? ⟨w.heap.size, 2, none⟩ = some (.slice A l.length c)) := zh ⟨pw_cell_below hb9 x0, pw_cell_below hb9 x1, pw_cell_below hb9 x2⟩; have HB3 := zh (below_step HX.out.2 hb9); have K1 := zh k1; have K3 := zh k3; have K4 := zh (And.intro k4 k5); clear k1 k2 k3 k4 k5 k6 hb9)
  |(go_at_call 29; (with_reducible refine (slots_walk w0 gg ((h + 1) * n) ((h + 1) * n + 1) ((h + 1) * n + 2) rfl rfl n v E B D bf f _ _ ?s1 HNO.out HO.out.net.n0 ?s2 K4.out.1).mono ?_); (case s1 => exact K1.out.below zD); (case s2 => exact blk_below K3.out zD); rintro e w10 ⟨v10, d, rows, rfl, m1, m2, m3, m4, m5⟩; have hb10 : Below w3.heap.size w3 w10 := below_step zD m5; have HB10 := zh (below_step HB3.out hb10); have HS10 : Hid (w10.cell? ⟨w.heap.size, 0, none⟩ = some (.int .i64 n) ∧ w10.cell? ⟨w.heap.size, 1, none⟩ = some (.bool b) ∧ w10.cell? ⟨w.heap.size, 2, none⟩ = some (.slice A l.length c)) := zh ⟨pw_cell_below hb10 HS9.out.1, pw_cell_below hb10 HS9.out.2.1, pw_cell_below hb10 HS9.out.2.2⟩; have HM1 := zh (Kd.R_lower (base' := w.heap.size) m1 (Nat.le_trans HB3.out.size (show w3.heap.size ≤ _ from Nat.le_refl _))); have HCV : Hid (slotsOf n d ((h + 1) * n) = tfCut n h s t b l) := zh (by have h9 := (cutOf_eq (n := n) HNO.out (by omega) (by omega) ⟨f, S, rows, K4.out.1, K4.out.2, m3, m4⟩).symm; rw [h9, HE.out]; rfl); clear m1 m2 m3 m4 m5 hb10)))
 all_goals
  go_wp2
  go_ret2
  refine ⟨_, rfl, ?_, ?_⟩
  ·have h9 := HM1.out
   rw [HCV.out] at h9
   first
    |exact h9
    |exact Kd.R_drew h9
  ·first
    |exact HB10.out
    |exact pw_below_drewN HB10.out _
end
section
variable {n s t h : Int} {b : Bool} {A : Option Addr} {c : Nat} {l : List Arc} {w : World} {r : Int}
def Bad3 (r : Int) (w : World) (e : Ending) (w' : World) : Prop := e = .returned (.tuple #[.slice none 0 0, .int .i64 0, .int .i64 r]) ∧ Below w.heap.size w w'
def Bad2 (x : Value) (r : Int) (w : World) (e : Ending) (w' : World) : Prop := e = .returned (.tuple #[x, .int .i64 r]) ∧ Below w.heap.size w w'
set_option maxHeartbeats 4000000 in
theorem max_bad (ha : askT n l s t h = r) (h0 : r ≠ 0) (hlc : l.length ≤ c) (hr : Kd.C kArc w A l.length l) :
  Calls Tryz.prog 17 #[.agg #[.int .i64 n, .bool b, .slice A l.length c], .int .i64 s, .int .i64 t, .int .i64 h] w (Bad3 r w) := by
 have HR := zh hr
 have HA := zh ha
 have HLC := zh hlc
 have hu := Tryz.underlying27
 have e1 : (r != 0) = true := bne_iff_ne.2 h0
 have e2 : (r == 0) = false := beq_eq_false_iff_ne.2 h0
 have H0 := zh h0
 clear hr ha hlc h0
 obtain ⟨w1, hw1⟩ : ∃ w1, w1 = w.alloc (.cells #[.int .i64 n, .bool b, .slice A l.length c] 27) := ⟨_, rfl⟩
 have HX : Hid (w1.heap[w.heap.size]? = some (.cells #[.int .i64 n, .bool b, .slice A l.length c] 27 (0, 0)) ∧ Below w.heap.size w w1) := zh (by rw [hw1]; exact ⟨heap_alloc_new _ _, below_alloc (Below.refl _ _) _⟩)
 go_enter Tryz.func17, Tryz.ntmps17
 go_wp2_with (go_at_call 27; rw [← hw1]; go_loud ((with_reducible refine (ask_walk (b := b) (c := c) ?s1 HLC.out).mono ?_); (case s1 => exact Kd.C_below HR.out HX.out.2); rintro e w9 ⟨rfl, hb⟩; rw [HA.out]; have HN9 := zh (And.intro (blk_below HX.out.1 hb) (below_step HX.out.2 hb)); clear HX hb; have HX := HN9; clear HN9; have x0 : w9.cell? ⟨w.heap.size, 0, none⟩ = some (.int .i64 n) := (blk_cell HX.out.1 0).trans rfl; have x1 : w9.cell? ⟨w.heap.size, 1, none⟩ = some (.bool b) := (blk_cell HX.out.1 1).trans rfl; have x2 : w9.cell? ⟨w.heap.size, 2, none⟩ = some (.slice A l.length c) := (blk_cell HX.out.1 2).trans rfl))
 go_ret3
 exact ⟨rfl, HX.out.2⟩
set_option maxHeartbeats 4000000 in
theorem most_bad (ha : askT n l s t h = r) (h0 : r ≠ 0) (hlc : l.length ≤ c) (hr : Kd.C kArc w A l.length l) :
  Calls Tryz.prog 10 #[.agg #[.int .i64 n, .bool b, .slice A l.length c], .int .i64 s, .int .i64 t, .int .i64 h] w (Bad2 (.int .i64 0) r w) := by
 have HR := zh hr
 have HA := zh ha
 have HLC := zh hlc
 have hu := Tryz.underlying27
 have e1 : (r != 0) = true := bne_iff_ne.2 h0
 have e2 : (r == 0) = false := beq_eq_false_iff_ne.2 h0
 have H0 := zh h0
 clear hr ha hlc h0
 obtain ⟨w1, hw1⟩ : ∃ w1, w1 = w.alloc (.cells #[.int .i64 n, .bool b, .slice A l.length c] 27) := ⟨_, rfl⟩
 have HX : Hid (w1.heap[w.heap.size]? = some (.cells #[.int .i64 n, .bool b, .slice A l.length c] 27 (0, 0)) ∧ Below w.heap.size w w1) := zh (by rw [hw1]; exact ⟨heap_alloc_new _ _, below_alloc (Below.refl _ _) _⟩)
 go_enter Tryz.func10, Tryz.ntmps10
 go_wp2_with (go_at_call 17; rw [← hw1]; go_loud ((with_reducible refine (max_bad HA.out H0.out HLC.out ?s1).mono ?_); (case s1 => exact Kd.C_below HR.out HX.out.2); rintro e w9 ⟨rfl, hb⟩; have HN9 := zh (And.intro (blk_below HX.out.1 hb) (below_step HX.out.2 hb)); clear HX hb; have HX := HN9; clear HN9))
 go_ret2
 exact ⟨rfl, HX.out.2⟩
set_option maxHeartbeats 4000000 in
theorem cut_bad (ha : askT n l s t h = r) (h0 : r ≠ 0) (hlc : l.length ≤ c) (hr : Kd.C kArc w A l.length l) :
  Calls Tryz.prog 13 #[.agg #[.int .i64 n, .bool b, .slice A l.length c], .int .i64 s, .int .i64 t, .int .i64 h] w (Bad2 (.slice none 0 0) r w) := by
 have HR := zh hr
 have HA := zh ha
 have HLC := zh hlc
 have hu := Tryz.underlying27
 have e1 : (r != 0) = true := bne_iff_ne.2 h0
 have e2 : (r == 0) = false := beq_eq_false_iff_ne.2 h0
 have H0 := zh h0
 clear hr ha hlc h0
 obtain ⟨w1, hw1⟩ : ∃ w1, w1 = w.alloc (.cells #[.int .i64 n, .bool b, .slice A l.length c] 27) := ⟨_, rfl⟩
 have HX : Hid (w1.heap[w.heap.size]? = some (.cells #[.int .i64 n, .bool b, .slice A l.length c] 27 (0, 0)) ∧ Below w.heap.size w w1) := zh (by rw [hw1]; exact ⟨heap_alloc_new _ _, below_alloc (Below.refl _ _) _⟩)
 go_enter Tryz.func13, Tryz.ntmps13
 go_wp2_with (go_at_call 27; rw [← hw1]; go_loud ((with_reducible refine (ask_walk (b := b) (c := c) ?s1 HLC.out).mono ?_); (case s1 => exact Kd.C_below HR.out HX.out.2); rintro e w9 ⟨rfl, hb⟩; rw [HA.out]; have HN9 := zh (And.intro (blk_below HX.out.1 hb) (below_step HX.out.2 hb)); clear HX hb; have HX := HN9; clear HN9; have x0 : w9.cell? ⟨w.heap.size, 0, none⟩ = some (.int .i64 n) := (blk_cell HX.out.1 0).trans rfl; have x1 : w9.cell? ⟨w.heap.size, 1, none⟩ = some (.bool b) := (blk_cell HX.out.1 1).trans rfl; have x2 : w9.cell? ⟨w.heap.size, 2, none⟩ = some (.slice A l.length c) := (blk_cell HX.out.1 2).trans rfl))
 go_ret2
 exact ⟨rfl, HX.out.2⟩
end
def U8 (x : Int) : Prop := 0 ≤ x ∧ x ≤ 255
structure NetSm (m : Nat) (n : Int) (l : List Arc) : Prop where
 n2 : 2 ≤ n
 n5 : n ≤ 5
 ll : l.length ≤ m
 arc : ∀ x, x ∈ l → (0 ≤ x.f0 ∧ x.f0 < n) ∧ (0 ≤ x.f1 ∧ x.f1 < n) ∧ (0 ≤ x.f2 ∧ x.f2 ≤ 5) ∧ 0 ≤ x.f3 ∧ x.f3 ≤ 3
def arcCells (l : List Arc) : List Value := l.flatMap fun x => [.int .i64 x.f0, .int .i64 x.f1, .int .i64 x.f2, .int .i64 x.f3]
theorem arcCells_get : ∀ (l : List Arc) (j : Nat) (x : Arc), l[j]? = some x → ∀ (i : Nat) (u : Value), ([.int .i64 x.f0, .int .i64 x.f1, .int .i64 x.f2, .int .i64 x.f3] : List Value)[i]? = some u → (arcCells l)[j * 4 + i]? = some u
 |[], j, x, h, _, _, _ => by simp at h
 |y :: l, 0, x, h, i, u, hu => by
  have e : y = x := by simpa using h
  subst e
  have hi : i < 4 := (List.getElem?_eq_some_iff.1 hu).1
  show ([Value.int .i64 y.f0, .int .i64 y.f1, .int .i64 y.f2, .int .i64 y.f3] ++ arcCells l)[0 * 4 + i]? = some u
  rw [Nat.zero_mul, Nat.zero_add, List.getElem?_append_left hi]
  exact hu
 |y :: l, j + 1, x, h, i, u, hu => by
  have h2 : l[j]? = some x := by simpa using h
  show ([Value.int .i64 y.f0, .int .i64 y.f1, .int .i64 y.f2, .int .i64 y.f3] ++ arcCells l)[(j + 1) * 4 + i]? = some u
  rw [show (j + 1) * 4 + i = 4 + (j * 4 + i) by omega, List.getElem?_append_right (by simp)]
  simp only [List.length_cons, List.length_nil, Nat.zero_add, Nat.reduceAdd, Nat.add_sub_cancel_left]
  exact arcCells_get l j x h2 i u hu
abbrev lineL : List Arc := [⟨0, 1, 2, 1⟩, ⟨1, 2, 2, 1⟩]
theorem arcs_blk {W : World} {g : Nat} {l : List Arc} (hl : l.length ≤ 100000) (h : W.heap[g]? = some (.cells (arcCells l).toArray 57 (0, 0))) : Kd.C kArc W (some ⟨g, 0, none⟩) l.length l := by
 refine ⟨rfl, by omega, fun _ => ⟨_, rfl, fun j p hj => ⟨[.int .i64 p.f0, .int .i64 p.f1, .int .i64 p.f2, .int .i64 p.f3], rfl, k57_mk _ p, fun i u hu => ?_⟩⟩⟩
 have h1 := arcCells_get l j p hj i u hu
 have h2 : W.cell? ⟨g, j * 4 + i, none⟩ = some u := by
  refine (blk_cell h (j * 4 + i)).trans ?_
  rw [List.getElem?_toArray]
  exact h1
 have h3 : (Addr.add ⟨g, 0, none⟩ (j * kArc.sz + i)) = ⟨g, j * 4 + i, none⟩ := by
  have : kArc.sz = 4 := rfl
  rw [this]
  unfold Addr.add
  split
  ·rename_i h4
   rw [h4]
  ·simp
 rw [h3]
 exact h2
set_option maxHeartbeats 4000000 in
set_option maxRecDepth 100000 in
theorem line_walk (b : Bool) (w : World) : Calls Tryz.prog 26 #[.bool b] w fun e w' => ∃ g, e = .returned (.agg #[.int .i64 3, .bool b, .slice (some ⟨g, 0, none⟩) 2 2]) ∧ Kd.C kArc w' (some ⟨g, 0, none⟩) 2 lineL ∧ Below w.heap.size w w' := by
 have hu := Tryz.underlying27
 go_enter Tryz.func26, Tryz.ntmps26
 go_wp2
 refine bodyPost_ret (results_cell_row rfl _ _ w.heap.size 27 #[.int .i64 3, .bool b, .slice (some ⟨w.heap.size + 1, 0, none⟩) 2 2] (0, 0) _ rfl (blk_alloc (heap_alloc_new w _) _) hu rfl (by kernel_rfl)) rfl ?_
 exact ⟨_, rfl, arcs_blk (l := lineL) (by decide) (alloc_at (by simp)), below_alloc (below_alloc (Below.refl _ _) _) _⟩
def topB (E : List Arc) (M : Nat) (N N1 : Int) (f : List Int) (S : Int → Bool) : Bool :=
 decide (f.length = E.length) && (decide (∀ i, i < E.length → 0 ≤ dOf f i ∧ dOf f i ≤ capOf E i) && (decide (∀ v, v < M → ((v : Int) = N ∨ (v : Int) = N1 ∨ leaves E.length (frOf E) (toOf E) (dOf f) v = 0)) && (decide (∀ i, i < E.length → (S (frOf E i) = false ∨ capOf E i ≤ dOf f i ∨ S (toOf E i) = true) ∧ (S (toOf E i) = false ∨ dOf f i ≤ 0 ∨ S (frOf E i) = true)) && (S N && !S N1))))
theorem top_dec {E : List Arc} {M : Nat} {N N1 : Int} {f : List Int} {S : Int → Bool} (h : topB E M N N1 f S = true) : FlowOk E f ∧ Top E.length (frOf E) (toOf E) M N N1 (capOf E) (dOf f) S := by
 unfold topB at h
 simp only [Bool.and_eq_true, decide_eq_true_eq, Bool.not_eq_true'] at h
 obtain ⟨h1, h2, h3, h4, h5, h6⟩ := h
 refine ⟨⟨h1, fun i i0 i1 => ?_⟩, fun i hi => h2 i hi, fun v hv c1 c2 => ?_, fun i hi => ?_, h5, h6⟩
 ·obtain ⟨k, rfl⟩ := Int.eq_ofNat_of_zero_le i0
  exact h2 k (by omega)
 ·rcases h3 v hv with e | e | e
  ·exact absurd e c1
  ·exact absurd e c2
  ·exact e
 ·obtain ⟨a, c⟩ := h4 i hi
  refine ⟨fun g1 g2 => ?_, fun g1 g2 => ?_⟩
  ·rcases a with e | e | e
   ·rw [e] at g1; cases g1
   ·omega
   ·exact e
  ·rcases c with e | e | e
   ·rw [e] at g1; cases g1
   ·omega
   ·exact e
theorem line_sm : NetSm 6 (3 : Nat) lineL where
 n2 := by decide
 n5 := by decide
 ll := by decide
 arc x hx := by
  simp only [lineL, List.mem_cons, List.not_mem_nil, or_false] at hx
  rcases hx with rfl | rfl <;> decide
theorem tf_sm {m n h s t : Nat} {l : List Arc} (hm : m ≤ 40) (hN : NetSm m n l) (hs : s < n) (ht : t < n) (hst : s ≠ t) (hh : h ≤ 16) : TfOk n h s t l ∧ askT n l s t h = 0 := by
 have n2 := hN.n2
 have n5 := hN.n5
 have ll := hN.ll
 have ha : ∀ i : Nat, i < l.length → _ := fun i hi => hN.arc _ (mem_arcAt hi)
 have o : TfOk n h s t l := ⟨⟨by omega, by omega, by omega, Nat.le_trans (Nat.mul_le_mul (show h + 1 ≤ 17 by omega) (show n ≤ 5 by omega)) (by decide), Nat.le_trans (Nat.mul_le_mul (show h + 1 ≤ 17 by omega) (show l.length ≤ 40 by omega)) (by decide), fun i hi => ⟨(ha i hi).1, (ha i hi).2.1⟩, fun i hi => by have := ha i hi; omega⟩, fun i hi => by have := ha i hi; omega, hs, ht, hst, by omega⟩
 exact ⟨o, ask_of o (by omega) (by omega)⟩
theorem line_five : tfV 3 5 0 2 false lineL = 8 := by
 have o := (tf_sm (h := 5) (s := 0) (t := 2) (by decide) line_sm (by decide) (by decide) (by decide) (by decide)).1
 have h := top_dec (E := tfArcs lineL false 3 5 0 2 ((5 + 1) * 3) ((5 + 1) * 3 + 1)) (M := (5 + 1) * 3 + 2) (N := ((5 + 1) * 3 : Nat)) (N1 := ((5 + 1) * 3 + 1 : Nat)) (f := [2, 0, 2, 2, 2, 2, 2, 2, 0, 2, 2, 2, 2, 2, 0, 0, 0, 0, 2, 2, 2, 2]) (S := fun v => decide (v ∈ ([18, 0, 3, 6, 9, 12, 15, 16] : List Int))) (by decide +kernel)
 unfold tfV
 rw [mfVal_eq (o.arcs false) (by decide) h.1 h.2]
 decide +kernel
theorem line_one : tfCut 3 1 0 2 true lineL = [⟨0, 0⟩, ⟨0, 1⟩, ⟨1, 1⟩] := by
 have o := (tf_sm (h := 1) (s := 0) (t := 2) (by decide) line_sm (by decide) (by decide) (by decide) (by decide)).1
 have h := top_dec (E := tfArcs lineL true 3 1 0 2 ((1 + 1) * 3) ((1 + 1) * 3 + 1)) (M := (1 + 1) * 3 + 2) (N := ((1 + 1) * 3 : Nat)) (N1 := ((1 + 1) * 3 + 1 : Nat)) (f := [0, 0, 0, 0, 0, 0, 0]) (S := fun v => decide (v ∈ ([6, 0, 3, 4] : List Int))) (by decide +kernel)
 have key : ∀ u : Nat, u < (1 + 1) * 3 → (InAll (tfArcs lineL true 3 1 0 2 ((1 + 1) * 3) ((1 + 1) * 3 + 1)) ((1 + 1) * 3 + 2) ((1 + 1) * 3) ((1 + 1) * 3 + 1) u ↔ u = 0 ∨ u = 3 ∨ u = 4) := fun u hu => by
  refine ⟨fun hA => ?_, fun hu2 f2 S2 b1 b2 => ?_⟩
  ·have hx := hA _ _ h.1 h.2
   have e : u = 0 ∨ u = 1 ∨ u = 2 ∨ u = 3 ∨ u = 4 ∨ u = 5 := by omega
   rcases e with rfl | rfl | rfl | rfl | rfl | rfl
   ·exact .inl rfl
   ·exact absurd hx (by decide)
   ·exact absurd hx (by decide)
   ·exact .inr (.inl rfl)
   ·exact .inr (.inr rfl)
   ·exact absurd hx (by decide)
  ·have hc := top_closed (ends_arcs (o.arcs true)) ⟨by decide, by decide⟩ h.2 b2
   have h6 : S2 6 = true := b2.2.2.2.1
   have h0 : S2 0 = true := (hc 3 (by decide +kernel)).1 h6 (by decide +kernel)
   have h3 : S2 3 = true := (hc 4 (by decide +kernel)).1 h6 (by decide +kernel)
   have h4 : S2 4 = true := (hc 0 (by decide +kernel)).1 h0 (by decide +kernel)
   rcases hu2 with rfl | rfl | rfl
   ·exact h0
   ·exact h3
   ·exact h4
 unfold tfCut cutOf
 rw [slotsOf_same 3 (d2 := [0, -1, -1, 0, 0, -1]) ((1 + 1) * 3) (fun u hu => by
  rw [cutD_iff hu, key u hu]
  have e : u = 0 ∨ u = 1 ∨ u = 2 ∨ u = 3 ∨ u = 4 ∨ u = 5 := by omega
  rcases e with rfl | rfl | rfl | rfl | rfl | rfl <;> decide)]
 rfl
theorem line_ask (h : Int) (h0 : h < 0) : askT 3 lineL 0 2 h = 1 := by
 have h1 : endsV 3 lineL 0 2 = 0 := by decide +kernel
 have h2 : spanV h = 1 := by
  unfold spanV
  rw [if_pos h0]
 unfold askT askS
 rw [if_pos h1, h2]
 rfl
end Go.Proofs.YtdfagllncopmjaaGreat.H
end
section
namespace Go.Proofs.YtdfagllncopmjaaGreat.H
open Go Go.RowKit Go.Proofs.YtdfagllncopmjaaGreat.PrintC Go.Proofs.YtdfagllncopmjaaGreatW.PrintWords Go.Proofs.YtdfagllncopmjaaGreatW.PrintLast Go.Proofs.YtdfagllncopmjaaGreatW.PrintMore Go.Proofs.YtdfagllncopmjaaGreat.Flow
set_option linter.unusedVariables false
set_option linter.unusedSimpArgs false
def stepV (x : Stp) : Value := .agg #[.int .i64 x.f0, .bool x.f1]
set_option maxHeartbeats 4000000 in
set_option maxRecDepth 100000 in
theorem rfrom_walk (n : Int) (b : Bool) (A : Option Addr) (c : Nat) (l : List Arc) (x : Stp) (w : World) (hr : Kd.C k57 w A l.length l) (h0 : 0 ≤ x.f0) (h1 : x.f0 < (l.length : Int)) :
  Calls Tryz.prog 61 #[.agg #[.int .i64 n, .bool b, .slice A l.length c], stepV x] w fun e w' => e = .returned (.int .i64 (src l x)) ∧ Below w.heap.size w w' := by
 have hu := Tryz.underlying27
 have hu2 := Tryz.underlying123
 obtain ⟨a, d⟩ := x
 have h0 : 0 ≤ a := h0
 have h1 : a < (l.length : Int) := h1
 unfold stepV
 cases d with
 |false =>
  obtain ⟨w1, hw1⟩ : ∃ w1, w1 = (w.alloc (.cells #[.int .i64 n, .bool b, .slice A l.length c] 27)).alloc (.cells #[.int .i64 a, .bool false] 123) := ⟨_, rfl⟩
  have HB : Hid (Below w.heap.size w w1) := zh (by rw [hw1]; exact below_alloc (below_alloc (Below.refl _ _) _) _)
  obtain ⟨ad, ea, y0, y1, y2, y3⟩ := at_T57 (Kd.C_below hr HB.out) a h0 h1
  have z2 : w1.cell? ⟨w.heap.size, 2, none⟩ = some (.slice A l.length c) := by rw [hw1]; exact (blk_cell (blk_alloc (heap_alloc_new _ _) _) 2).trans rfl
  have x0 : w1.cell? ⟨w.heap.size + 1, 0, none⟩ = some (.int .i64 a) := by rw [hw1]; exact (blk_cell (alloc_at (by simp)) 0).trans rfl
  have x1 : w1.cell? ⟨w.heap.size + 1, 1, none⟩ = some (.bool false) := by rw [hw1]; exact (blk_cell (alloc_at (by simp)) 1).trans rfl
  subst ea
  subst hw1
  clear hr
  go_enter Tryz.func61, Tryz.ntmps61
  go_wp2
  go_ret
  exact ⟨rfl, HB.out⟩
 |true =>
  obtain ⟨w1, hw1⟩ : ∃ w1, w1 = (w.alloc (.cells #[.int .i64 n, .bool b, .slice A l.length c] 27)).alloc (.cells #[.int .i64 a, .bool true] 123) := ⟨_, rfl⟩
  have HB : Hid (Below w.heap.size w w1) := zh (by rw [hw1]; exact below_alloc (below_alloc (Below.refl _ _) _) _)
  obtain ⟨ad, ea, y0, y1, y2, y3⟩ := at_T57 (Kd.C_below hr HB.out) a h0 h1
  have z2 : w1.cell? ⟨w.heap.size, 2, none⟩ = some (.slice A l.length c) := by rw [hw1]; exact (blk_cell (blk_alloc (heap_alloc_new _ _) _) 2).trans rfl
  have x0 : w1.cell? ⟨w.heap.size + 1, 0, none⟩ = some (.int .i64 a) := by rw [hw1]; exact (blk_cell (alloc_at (by simp)) 0).trans rfl
  have x1 : w1.cell? ⟨w.heap.size + 1, 1, none⟩ = some (.bool true) := by rw [hw1]; exact (blk_cell (alloc_at (by simp)) 1).trans rfl
  subst ea
  subst hw1
  clear hr
  go_enter Tryz.func61, Tryz.ntmps61
  go_wp2
  go_ret
  exact ⟨rfl, HB.out⟩
set_option maxHeartbeats 4000000 in
set_option maxRecDepth 100000 in
theorem rto_walk (n : Int) (b : Bool) (A : Option Addr) (c : Nat) (l : List Arc) (x : Stp) (w : World) (hr : Kd.C k57 w A l.length l) (h0 : 0 ≤ x.f0) (h1 : x.f0 < (l.length : Int)) :
  Calls Tryz.prog 90 #[.agg #[.int .i64 n, .bool b, .slice A l.length c], stepV x] w fun e w' => e = .returned (.int .i64 (tgt l x)) ∧ Below w.heap.size w w' := by
 have hu := Tryz.underlying27
 have hu2 := Tryz.underlying123
 obtain ⟨a, d⟩ := x
 have h0 : 0 ≤ a := h0
 have h1 : a < (l.length : Int) := h1
 unfold stepV
 cases d with
 |false =>
  obtain ⟨w1, hw1⟩ : ∃ w1, w1 = (w.alloc (.cells #[.int .i64 n, .bool b, .slice A l.length c] 27)).alloc (.cells #[.int .i64 a, .bool false] 123) := ⟨_, rfl⟩
  have HB : Hid (Below w.heap.size w w1) := zh (by rw [hw1]; exact below_alloc (below_alloc (Below.refl _ _) _) _)
  obtain ⟨ad, ea, y0, y1, y2, y3⟩ := at_T57 (Kd.C_below hr HB.out) a h0 h1
  have z2 : w1.cell? ⟨w.heap.size, 2, none⟩ = some (.slice A l.length c) := by rw [hw1]; exact (blk_cell (blk_alloc (heap_alloc_new _ _) _) 2).trans rfl
  have x0 : w1.cell? ⟨w.heap.size + 1, 0, none⟩ = some (.int .i64 a) := by rw [hw1]; exact (blk_cell (alloc_at (by simp)) 0).trans rfl
  have x1 : w1.cell? ⟨w.heap.size + 1, 1, none⟩ = some (.bool false) := by rw [hw1]; exact (blk_cell (alloc_at (by simp)) 1).trans rfl
  subst ea
  subst hw1
  clear hr
  go_enter Tryz.func90, Tryz.ntmps90
  go_wp2
  go_ret
  exact ⟨rfl, HB.out⟩
 |true =>
  obtain ⟨w1, hw1⟩ : ∃ w1, w1 = (w.alloc (.cells #[.int .i64 n, .bool b, .slice A l.length c] 27)).alloc (.cells #[.int .i64 a, .bool true] 123) := ⟨_, rfl⟩
  have HB : Hid (Below w.heap.size w w1) := zh (by rw [hw1]; exact below_alloc (below_alloc (Below.refl _ _) _) _)
  obtain ⟨ad, ea, y0, y1, y2, y3⟩ := at_T57 (Kd.C_below hr HB.out) a h0 h1
  have z2 : w1.cell? ⟨w.heap.size, 2, none⟩ = some (.slice A l.length c) := by rw [hw1]; exact (blk_cell (blk_alloc (heap_alloc_new _ _) _) 2).trans rfl
  have x0 : w1.cell? ⟨w.heap.size + 1, 0, none⟩ = some (.int .i64 a) := by rw [hw1]; exact (blk_cell (alloc_at (by simp)) 0).trans rfl
  have x1 : w1.cell? ⟨w.heap.size + 1, 1, none⟩ = some (.bool true) := by rw [hw1]; exact (blk_cell (alloc_at (by simp)) 1).trans rfl
  subst ea
  subst hw1
  clear hr
  go_enter Tryz.func90, Tryz.ntmps90
  go_wp2
  go_ret
  exact ⟨rfl, HB.out⟩
set_option maxHeartbeats 4000000 in
set_option maxRecDepth 100000 in
theorem rleft_walk (n : Int) (b : Bool) (A : Option Addr) (c : Nat) (l : List Arc) (Af : Option Addr) (cf : Nat) (f : List Int) (x : Stp) (w : World) (hr : Kd.C k57 w A l.length l) (hf : Kd.C (Kd.int .i64) w Af f.length f) (h0 : 0 ≤ x.f0) (h1 : x.f0 < (l.length : Int)) (h2 : x.f0 < (f.length : Int))
  (hb : 0 ≤ rmv l f x ∧ rmv l f x ≤ 1099511627776) :
  Calls Tryz.prog 62 #[.agg #[.int .i64 n, .bool b, .slice A l.length c], .slice Af f.length cf, stepV x] w fun e w' => e = .returned (.int .i64 (rmv l f x)) ∧ Below w.heap.size w w' := by
 have hu := Tryz.underlying27
 have hu2 := Tryz.underlying123
 obtain ⟨a, d⟩ := x
 have h0 : 0 ≤ a := h0
 have h1 : a < (l.length : Int) := h1
 have h2 : a < (f.length : Int) := h2
 unfold stepV
 cases d with
 |false =>
  obtain ⟨w1, hw1⟩ : ∃ w1, w1 = (w.alloc (.cells #[.int .i64 n, .bool b, .slice A l.length c] 27)).alloc (.cells #[.int .i64 a, .bool false] 123) := ⟨_, rfl⟩
  have HB : Hid (Below w.heap.size w w1) := zh (by rw [hw1]; exact below_alloc (below_alloc (Below.refl _ _) _) _)
  obtain ⟨ad, ea, y0, y1, y2, y3⟩ := at_T57 (Kd.C_below hr HB.out) a h0 h1
  obtain ⟨ae, eb, z0⟩ := Kd.at_int (Kd.C_below hf HB.out) a h0 h2
  have z2 : w1.cell? ⟨w.heap.size, 2, none⟩ = some (.slice A l.length c) := by rw [hw1]; exact (blk_cell (blk_alloc (heap_alloc_new _ _) _) 2).trans rfl
  have x0 : w1.cell? ⟨w.heap.size + 1, 0, none⟩ = some (.int .i64 a) := by rw [hw1]; exact (blk_cell (alloc_at (by simp)) 0).trans rfl
  have x1 : w1.cell? ⟨w.heap.size + 1, 1, none⟩ = some (.bool false) := by rw [hw1]; exact (blk_cell (alloc_at (by simp)) 1).trans rfl
  subst ea
  subst eb
  subst hw1
  clear hr hf
  go_enter Tryz.func62, Tryz.ntmps62
  have hb : 0 ≤ (rd_T57 l a).f2 - rd f a ∧ (rd_T57 l a).f2 - rd f a ≤ 1099511627776 := hb
  have eb : IntKind.i64.wrap ((rd_T57 l a).f2 - rd f a) = (rd_T57 l a).f2 - rd f a := IntWalk.i64_in _ (by omega)
  go_wp2
  refine stepS (S := fun w' => w'.cell? ⟨w.heap.size, 2, none⟩ = some (.slice (some ad) l.length c) ∧ w'.cell? ⟨w.heap.size + 1, 0, none⟩ = some (.int .i64 a) ∧ w'.cell? ⟨(ad.add (a.toNat * 4)).block, (ad.add (a.toNat * 4)).off + 2, none⟩ = some (.int .i64 (rd_T57 l a).f2) ∧ w'.cell? (ae.add a.toNat) = some (.int .i64 (rd f a))) (ds := []) 14 (by kernel_rfl) rfl ⟨z2, x0, y2, z0⟩ (fun hHeld => ?_)
  repeat (first | refine rP 14 ?_ | refine rT 14 hHeld ?_)
  refine done_ (by kernel_rfl) ?_
  go_wp2
  go_ret
  exact ⟨rfl, below_drew1 HB.out⟩
 |true =>
  obtain ⟨w1, hw1⟩ : ∃ w1, w1 = (w.alloc (.cells #[.int .i64 n, .bool b, .slice A l.length c] 27)).alloc (.cells #[.int .i64 a, .bool true] 123) := ⟨_, rfl⟩
  have HB : Hid (Below w.heap.size w w1) := zh (by rw [hw1]; exact below_alloc (below_alloc (Below.refl _ _) _) _)
  obtain ⟨ad, ea, y0, y1, y2, y3⟩ := at_T57 (Kd.C_below hr HB.out) a h0 h1
  obtain ⟨ae, eb, z0⟩ := Kd.at_int (Kd.C_below hf HB.out) a h0 h2
  have z2 : w1.cell? ⟨w.heap.size, 2, none⟩ = some (.slice A l.length c) := by rw [hw1]; exact (blk_cell (blk_alloc (heap_alloc_new _ _) _) 2).trans rfl
  have x0 : w1.cell? ⟨w.heap.size + 1, 0, none⟩ = some (.int .i64 a) := by rw [hw1]; exact (blk_cell (alloc_at (by simp)) 0).trans rfl
  have x1 : w1.cell? ⟨w.heap.size + 1, 1, none⟩ = some (.bool true) := by rw [hw1]; exact (blk_cell (alloc_at (by simp)) 1).trans rfl
  subst ea
  subst eb
  subst hw1
  clear hr hf
  go_enter Tryz.func62, Tryz.ntmps62
  go_wp2
  go_ret
  exact ⟨rfl, HB.out⟩
def HasP (N : List Int) (v r : Int) : Prop := (r = -1 ∧ ∀ j : Nat, j < N.length → rd N (j : Int) ≠ v) ∨ ∃ j : Nat, r = (j : Int) ∧ j < N.length ∧ rd N (j : Int) = v
def HasAt (N : List Int) (v : Int) (w : World) (e : Ending) (w' : World) : Prop := ∃ r : Int, e = .returned (.int .i64 r) ∧ HasP N v r ∧ Below w.heap.size w w'
set_option maxHeartbeats 4000000 in
set_option maxRecDepth 100000 in
theorem rhas_walk (An : Option Addr) (cn : Nat) (N : List Int) (vb : Value) (Ab : Option Addr) (nb cb : Nat) (hvb : vb = .slice Ab nb cb) (v : Int) (w : World) (hr : Kd.C (Kd.int .i64) w An N.length N) (hl : N.length ≤ 1000000) :
  Calls Tryz.prog 60 #[.agg #[.slice An N.length cn, vb], .int .i64 v] w (HasAt N v w) := by
 have hu := Tryz.underlying119
 subst hvb
 have HR := zh hr
 clear hr
 go_enter Tryz.func60, Tryz.ntmps60
 go_wp2
 have HX := zh (heap_alloc_new w (.cells #[.slice An N.length cn, .slice Ab nb cb] 119))
 have HB : Hid (Below w.heap.size w (w.alloc (.cells #[.slice An N.length cn, .slice Ab nb cb] 119))) := zh (below_alloc (Below.refl _ _) _)
 generalize w.alloc (.cells #[.slice An N.length cn, .slice Ab nb cb] 119) = w1 at HX HB ⊢
 go_loopg [5] N.length (fun k iv W => ∃ i : Nat, i ≤ N.length ∧ iv = .int .i64 i ∧ k = N.length - i ∧ Hid (W.heap[w.heap.size]? = some (.cells #[.slice An N.length cn, .slice Ab nb cb] 119 (0, 0)) ∧ Below w.heap.size w W ∧ ∀ j : Nat, j < i → rd N (j : Int) ≠ v))
 case atStart => exact ⟨0, Nat.zero_le _, rfl, rfl, zh ⟨HX.out, HB.out, fun j hj => absurd hj (Nat.not_lt_zero _)⟩⟩
 case round =>
  obtain ⟨i, hi, rfl, rfl, HL⟩ := hrel
  clear HX HB
  have x0 : wr.cell? ⟨w.heap.size, 0, none⟩ = some (.slice An N.length cn) := (blk_cell HL.out.1 0).trans rfl
  by_cases c1 : i < N.length
  ·have c1' : (i : Int) < (N.length : Int) := by omega
   have i0 : (0 : Int) ≤ (i : Int) := by omega
   obtain ⟨ad, ea, y0⟩ := Kd.at_int (Kd.C_below HR.out HL.out.2.1) (i : Int) i0 c1'
   subst ea
   rw [Int.toNat_natCast] at y0
   by_cases c2 : rd N (i : Int) = v
   ·have HE := zh c2
    have t1 : (rd N (i : Int) == v) = true := beq_iff_eq.2 c2
    clear c2
    go_wp2
    go_ret
    exact ⟨i, rfl, .inr ⟨i, rfl, c1, HE.out⟩, HL.out.2.1⟩
   ·have HE := zh c2
    have t1 : (rd N (i : Int) == v) = false := beq_eq_false_iff_ne.2 c2
    clear c2
    go_wp2
    go_roundg (N.length - (i + 1))
    case measure => omega
    case rel => exact ⟨i + 1, by omega, by go_num, rfl, zh ⟨HL.out.1, HL.out.2.1, fun j hj => by
     rcases Nat.lt_or_eq_of_le (Nat.le_of_lt_succ hj) with h | rfl
     ·exact HL.out.2.2 j h
     ·exact HE.out⟩⟩
  ·have c1' : ¬ (i : Int) < (N.length : Int) := by omega
   have e : i = N.length := by omega
   have HE := zh e
   clear e
   go_wp2
   go_ret
   exact ⟨-1, rfl, .inl ⟨rfl, fun j hj => HL.out.2.2 j (by have := HE.out; omega)⟩, HL.out.2.1⟩
def stAt (B : List Stp) (j : Nat) : Stp := B.getD j ⟨0, false⟩
structure Sg (l : List Arc) (L : List Stp) (M : Nat) (s : Int) (N : List Int) (B : List Stp) : Prop where
 len : B.length = N.length
 pos : 0 < N.length
 hd : rd N 0 = s
 nd : N.Nodup
 rng : ∀ v, v ∈ N → 0 ≤ v ∧ v < M
 tree : ∃ d : Int → Int, d s = 0 ∧ ∀ j : Nat, 0 < j → j < N.length → stAt B j ∈ L ∧ tgt l (stAt B j) = rd N (j : Int) ∧ ∃ i : Nat, i < j ∧ src l (stAt B j) = rd N (i : Int) ∧ d (rd N (j : Int)) = d (rd N (i : Int)) + 1
theorem rd_get {N : List Int} {j : Nat} (h : j < N.length) : rd N (j : Int) = N[j] := by
 unfold rd
 rw [Int.toNat_natCast, List.getD_eq_getElem?_getD, List.getElem?_eq_getElem h]
 rfl
theorem rd_mem {N : List Int} {j : Nat} (h : j < N.length) : rd N (j : Int) ∈ N := by rw [rd_get h]; exact List.getElem_mem _
theorem mem_rd {N : List Int} {v : Int} (h : v ∈ N) : ∃ j : Nat, j < N.length ∧ rd N (j : Int) = v := by
 obtain ⟨j, hj, e⟩ := List.mem_iff_getElem.1 h
 exact ⟨j, hj, by rw [rd_get hj, e]⟩
theorem rd_app {N M : List Int} {j : Nat} (h : j < N.length) : rd (N ++ M) (j : Int) = rd N (j : Int) := by
 rw [rd_get h, rd_get (by rw [List.length_append]; omega), List.getElem_append_left h]
theorem rd_last (N : List Int) (v : Int) : rd (N ++ [v]) (N.length : Int) = v := by
 rw [rd_get (by rw [List.length_append]; exact Nat.lt_succ_self _), List.getElem_append_right (Nat.le_refl _)]
 simp
theorem stAt_app {B C : List Stp} {j : Nat} (h : j < B.length) : stAt (B ++ C) j = stAt B j := by
 unfold stAt
 rw [List.getD_eq_getElem?_getD, List.getD_eq_getElem?_getD, List.getElem?_append_left h]
theorem stAt_last (B : List Stp) (x : Stp) : stAt (B ++ [x]) B.length = x := by
 unfold stAt
 simp
theorem nodup_int {M : Nat} {N : List Int} (h : N.Nodup) (hr : ∀ v, v ∈ N → 0 ≤ v ∧ v < M) : N.length ≤ M := by
 have h1 : (N.map Int.toNat).Nodup := by
  refine List.pairwise_map.2 (List.Pairwise.imp_of_mem (R := fun a b => a ≠ b) (fun {a b} ha hb hab e => hab ?_) h)
  have := hr a ha
  have := hr b hb
  omega
 have h2 := Flow.nodup_le h1 (n := M) (fun a ha => by
  obtain ⟨v, hv, rfl⟩ := List.mem_map.1 ha
  have := hr v hv
  omega)
 rwa [List.length_map] at h2
section
variable {l : List Arc} {L : List Stp} {M : Nat} {s : Int} {N : List Int} {B : List Stp}
theorem Sg.le (h : Sg l L M s N B) : N.length ≤ M := nodup_int h.nd h.rng
theorem Sg.start (h0 : 0 ≤ s) (h1 : s < M) (x : Stp) : Sg l L M s [s] [x] where
 len := rfl
 pos := Nat.one_pos
 hd := rfl
 nd := by simp
 rng := fun v hv => by
  obtain rfl := List.mem_singleton.1 hv
  exact ⟨h0, h1⟩
 tree := ⟨fun _ => 0, rfl, fun j h2 h3 => by
  have : j < 1 := h3
  omega⟩
theorem Sg.snoc (h : Sg l L M s N B) {x : Stp} (hx : x ∈ L) {i : Nat} (hi : i < N.length) (hs : src l x = rd N (i : Int)) (ht : ∀ j : Nat, j < N.length → rd N (j : Int) ≠ tgt l x) (hr : 0 ≤ tgt l x ∧ tgt l x < M) : Sg l L M s (N ++ [tgt l x]) (B ++ [x]) where
 len := by rw [List.length_append, List.length_append, h.len]; rfl
 pos := by rw [List.length_append]; exact Nat.lt_of_lt_of_le h.pos (Nat.le_add_right _ _)
 hd := (rd_app (j := 0) h.pos).trans h.hd
 nd := by
  refine List.nodup_append.2 ⟨h.nd, by simp, fun a ha b hb e => ?_⟩
  obtain ⟨j, hj, e2⟩ := mem_rd ha
  obtain rfl := List.mem_singleton.1 hb
  exact ht j hj (e2.trans e)
 rng := fun v hv => by
  rcases List.mem_append.1 hv with hv | hv
  ·exact h.rng v hv
  ·obtain rfl := List.mem_singleton.1 hv
   exact hr
 tree := by
  obtain ⟨d, d0, hd⟩ := h.tree
  have hst : s ≠ tgt l x := fun e => ht 0 h.pos (h.hd.trans e)
  obtain ⟨D, hD⟩ : ∃ D : Int → Int, ∀ v, D v = if v = tgt l x then d (rd N (i : Int)) + 1 else d v := ⟨_, fun _ => rfl⟩
  refine ⟨D, by rw [hD, if_neg hst]; exact d0, fun j h0 h1 => ?_⟩
  rw [List.length_append] at h1
  by_cases hj : j < N.length
  ·obtain ⟨h2, h3, i', h4, h5, h6⟩ := hd j h0 hj
   rw [stAt_app (by rw [h.len]; exact hj), rd_app hj]
   refine ⟨h2, h3, i', h4, by rw [rd_app (by omega)]; exact h5, ?_⟩
   rw [rd_app (by omega), hD, hD, if_neg (ht j hj), if_neg (ht i' (by omega))]
   exact h6
  ·have e : j = N.length := by
    have : j < N.length + 1 := h1
    omega
   subst e
   rw [← h.len, stAt_last, h.len, rd_last]
   exact ⟨hx, rfl, i, hi, by rw [rd_app hi]; exact hs, by rw [rd_app hi, hD, hD, if_pos rfl, if_neg (ht i hi)]⟩
end
def Cl (l : List Arc) (L : List Stp) (N : List Int) (i k : Nat) : Prop := (∀ a : Nat, a < i → ∀ x, x ∈ L → src l x = rd N (a : Int) → tgt l x ∈ N) ∧ ∀ b : Nat, b < k → src l (stAt L b) = rd N (i : Int) → tgt l (stAt L b) ∈ N
section
variable {l : List Arc} {L : List Stp} {N : List Int} {i k : Nat}
theorem Cl.zero : Cl l L N 0 0 := ⟨fun a h => absurd h (Nat.not_lt_zero _), fun b h => absurd h (Nat.not_lt_zero _)⟩
theorem Cl.next (h : Cl l L N i L.length) : Cl l L N (i + 1) 0 := ⟨fun a ha x hx e => by
 rcases Nat.lt_or_eq_of_le (Nat.le_of_lt_succ ha) with h1 | rfl
 ·exact h.1 a h1 x hx e
 ·obtain ⟨b, hb, e2⟩ := List.mem_iff_getElem.1 hx
  have e3 : stAt L b = x := by
   unfold stAt
   rw [List.getD_eq_getElem?_getD, List.getElem?_eq_getElem hb, e2]
   rfl
  have := h.2 b hb
  rw [e3] at this
  exact this e, fun b h => absurd h (Nat.not_lt_zero _)⟩
theorem Cl.skip (h : Cl l L N i k) (hc : src l (stAt L k) = rd N (i : Int) → tgt l (stAt L k) ∈ N) : Cl l L N i (k + 1) := ⟨h.1, fun b hb e => by
 rcases Nat.lt_or_eq_of_le (Nat.le_of_lt_succ hb) with h1 | rfl
 ·exact h.2 b h1 e
 ·exact hc e⟩
theorem Cl.grow (h : Cl l L N i k) (hi : i < N.length) (t : Int) : Cl l L (N ++ [t]) i k := ⟨fun a ha x hx e => by
 rw [rd_app (by omega)] at e
 exact List.mem_append_left _ (h.1 a ha x hx e), fun b hb e => by
 rw [rd_app hi] at e
 exact List.mem_append_left _ (h.2 b hb e)⟩
end
structure SoI (w : World) (gx : Nat) (cn : Array Value) (N : List Int) (B : List Stp) (v1 v2 : Value) (W : World) : Prop where
 bx : W.heap[gx]? = some (.cells #[v1, v2] 119 (0, 0))
 r1 : Kd.R (Kd.int .i64) 3 W w.heap.size (fun _ => True) v1 N
 r2 : Kd.R kStep 123 W w.heap.size (fun _ => True) v2 B
 bn : W.heap[w.heap.size]? = some (.cells cn 27 (0, 0))
 br : W.heap[w.heap.size + 1]? = some (.cells #[.slice none 0 0, .slice none 0 0] 119 (0, 0))
 ge : w.heap.size + 1 < gx
 low : Below w.heap.size w W
section
variable {w W W1 : World} {gx : Nat} {cn : Array Value} {N : List Int} {B : List Stp} {v1 v2 : Value}
theorem SoI.below (h : SoI w gx cn N B v1 v2 W) (hb : Below W.heap.size W W1) : SoI w gx cn N B v1 v2 W1 := ⟨blk_below h.bx hb, Kd.R_below h.r1 hb, Kd.R_below h.r2 hb, blk_below h.bn hb, blk_below h.br hb, h.ge, below_step h.low hb⟩
theorem SoI.drew (h : SoI w gx cn N B v1 v2 W) : SoI w gx cn N B v1 v2 W.drew := ⟨blk_drew h.bx, Kd.R_drew h.r1, Kd.R_drew h.r2, blk_drew h.bn, blk_drew h.br, h.ge, below_drew1 h.low⟩
theorem SoI.add1 (h : SoI w gx cn N B v1 v2 W) {N' : List Int} {v : Value} (ho : Kd.R (Kd.int .i64) 3 W1 w.heap.size (fun _ => True) v N') (hb : Below w.heap.size w W1) (hg : W.grownBy W1 v1.ownBlock) : SoI w gx cn N' B v v2 (W1.setCell ⟨gx, 0, none⟩ v) := by
 have hx := blk_grown h.bx hg (Kd.R_ne h.r1 h.bx (by decide))
 have hn := blk_grown h.bn hg (Kd.R_ne h.r1 h.bn (by decide))
 have hr := blk_grown h.br hg (Kd.R_ne h.r1 h.br (by decide))
 have h2 := Kd.R_over' h.r2 (Kd.R_typed h.r1) (by decide) hg
 have hge := h.ge
 exact ⟨blk_put hx 0 v rfl, Kd.R_mono (Kd.R_far (p := ⟨gx, 0, none⟩) (Kd.R_types ho hx (by decide)) (fun _ hk => hk.2) v) (fun _ hk => trivial), Kd.R_mono (Kd.R_far (p := ⟨gx, 0, none⟩) (Kd.R_types h2 hx (by decide)) (fun _ hk => hk.2) v) (fun _ hk => trivial),
  blk_far hn (by show w.heap.size ≠ gx; omega) v, blk_far hr (by show w.heap.size + 1 ≠ gx; omega) v, hge, below_set hb (by omega)⟩
theorem SoI.add2 (h : SoI w gx cn N B v1 v2 W) {B' : List Stp} {v : Value} (ho : Kd.R kStep 123 W1 w.heap.size (fun _ => True) v B') (hb : Below w.heap.size w W1) (hg : W.grownBy W1 v2.ownBlock) : SoI w gx cn N B' v1 v (W1.setCell ⟨gx, 1, none⟩ v) := by
 have hx := blk_grown h.bx hg (Kd.R_ne h.r2 h.bx (by decide))
 have hn := blk_grown h.bn hg (Kd.R_ne h.r2 h.bn (by decide))
 have hr := blk_grown h.br hg (Kd.R_ne h.r2 h.br (by decide))
 have h2 := Kd.R_over' h.r1 (Kd.R_typed h.r2) (by decide) hg
 have hge := h.ge
 exact ⟨blk_put hx 1 v rfl, Kd.R_mono (Kd.R_far (p := ⟨gx, 1, none⟩) (Kd.R_types h2 hx (by decide)) (fun _ hk => hk.2) v) (fun _ hk => trivial), Kd.R_mono (Kd.R_far (p := ⟨gx, 1, none⟩) (Kd.R_types ho hx (by decide)) (fun _ hk => hk.2) v) (fun _ hk => trivial),
  blk_far hn (by show w.heap.size ≠ gx; omega) v, blk_far hr (by show w.heap.size + 1 ≠ gx; omega) v, hge, below_set hb (by omega)⟩
end
end Go.Proofs.YtdfagllncopmjaaGreat.H
end
section
namespace Go.Proofs.YtdfagllncopmjaaGreat.H
open Go Go.RowKit Go.Proofs.YtdfagllncopmjaaGreatW.PrintWords Go.Proofs.YtdfagllncopmjaaGreatW.PrintLast Go.Proofs.YtdfagllncopmjaaGreatW.PrintMore
section
variable {P : Program} {md : Region.Mode} {ops : Array Oper} {Q : Exit → Act → World → Prop} {S : World → Prop} {ds : List Nat}
theorem stepEi (i : Nat) {N : Option Tmp} {oi : Oper} {fuel : Nat} {l : Array Bool} {a : Act} {w : World} (hi : ops[i]? = some oi) (hN : oi.dst = N) (hc : readyB md ops l (l.setIfInBounds i true) i = true) (hd : i ∉ ds)
  (h : ∀ K : Act → World → Prop, Shut (∀ a' w', S w' → (S w' → wpAnyLast P md ops Q S ds fuel (l.setIfInBounds i true) a' w') → K a' w') → if Region.wanted oi (yielded ops a.tmps) = true then Oper.wp P oi a w K Q else K (a.put N undef) w) :
  wpAnyLast P md ops Q S ds (fuel + 1) l a w := one_ _ hi hN hc hd h
theorem stepLi (i : Nat) {N : Option Tmp} {oi : Oper} {fuel : Nat} {l : Array Bool} {a : Act} {w : World} (hi : ops[i]? = some oi) (hN : oi.dst = N) (hc : readyB md ops l (l.setIfInBounds i true) i = true) (hd : i ∈ ds)
  (h : ∀ K : Act → World → Prop, Shut (∀ a' w', wpAnyLast P md ops Q S ds fuel (l.setIfInBounds i true) a' w' → K a' w') → if Region.wanted oi (yielded ops a.tmps) = true then Oper.wp P oi a w K Q else K (a.put N undef) w) :
  wpAnyLast P md ops Q S ds (fuel + 1) l a w := last_ _ hi hN hc hd h
end
end Go.Proofs.YtdfagllncopmjaaGreat.H
end
section
namespace Go.Proofs.YtdfagllncopmjaaGreat.H
open Go Go.RowKit Go.Proofs.YtdfagllncopmjaaGreat.PrintC Go.Proofs.YtdfagllncopmjaaGreatW.PrintWords Go.Proofs.YtdfagllncopmjaaGreatW.PrintLast Go.Proofs.YtdfagllncopmjaaGreatW.PrintMore Go.Proofs.YtdfagllncopmjaaGreat.Flow
set_option linter.unusedVariables false
set_option linter.unusedSimpArgs false
def StP (l : List Arc) (f : List Int) (i : Nat) (L : List Stp) : Prop := (∀ x : Stp, x ∈ L ↔ (0 ≤ x.f0 ∧ x.f0 < (i : Int)) ∧ 0 < rmv l f x) ∧ L.length ≤ 2 * i
def StepsAt (l : List Arc) (f : List Int) (w : World) (e : Ending) (w' : World) : Prop := ∃ (L : List Stp) (A1 : Option Addr) (c1 : Nat), e = .returned (.slice A1 L.length c1) ∧ Kd.R kStep 123 w' w.heap.size (fun _ => True) (.slice A1 L.length c1) L ∧ StP l f l.length L ∧ Below w.heap.size w w'
theorem StP.zero {l : List Arc} {f : List Int} : StP l f 0 [] := ⟨fun x => ⟨fun h => (nomatch h), fun h => absurd h.1 (fun h2 => by have := h2.1; have := h2.2; omega)⟩, Nat.zero_le _⟩
theorem StP.next {l : List Arc} {f : List Int} {i : Nat} {L : List Stp} (h : StP l f i L) {a b : List Stp} (ha : a = if 0 < rmv l f ⟨i, false⟩ then [⟨i, false⟩] else []) (hb : b = if 0 < rmv l f ⟨i, true⟩ then [⟨i, true⟩] else []) : StP l f (i + 1) (L ++ a ++ b) := by
 refine ⟨fun x => ?_, ?_⟩
 ·have hma : x ∈ a ↔ x = ⟨i, false⟩ ∧ 0 < rmv l f ⟨i, false⟩ := by
   rw [ha]
   split <;> simp_all
  have hmb : x ∈ b ↔ x = ⟨i, true⟩ ∧ 0 < rmv l f ⟨i, true⟩ := by
   rw [hb]
   split <;> simp_all
  rw [List.mem_append, List.mem_append, h.1 x, hma, hmb]
  obtain ⟨y, d⟩ := x
  constructor
  ·rintro ((⟨h1, h2⟩ | ⟨h1, h2⟩) | ⟨h1, h2⟩)
   ·exact ⟨⟨h1.1, by have := h1.2; show y < ((i + 1 : Nat) : Int); have : y < (i : Int) := this; omega⟩, h2⟩
   ·injection h1 with e1 e2
    subst e1 e2
    exact ⟨⟨by show (0 : Int) ≤ (i : Int); omega, by show (i : Int) < ((i + 1 : Nat) : Int); omega⟩, h2⟩
   ·injection h1 with e1 e2
    subst e1 e2
    exact ⟨⟨by show (0 : Int) ≤ (i : Int); omega, by show (i : Int) < ((i + 1 : Nat) : Int); omega⟩, h2⟩
  ·rintro ⟨⟨h1, h2⟩, h3⟩
   have h1 : 0 ≤ y := h1
   have h2 : y < ((i + 1 : Nat) : Int) := h2
   by_cases e : y = (i : Int)
   ·subst e
    cases d
    ·exact .inl (.inr ⟨rfl, h3⟩)
    ·exact .inr ⟨rfl, h3⟩
   ·exact .inl (.inl ⟨⟨h1, by show y < (i : Int); omega⟩, h3⟩)
 ·have la : a.length ≤ 1 := by rw [ha]; split <;> simp
  have lb : b.length ≤ 1 := by rw [hb]; split <;> simp
  rw [List.length_append, List.length_append]
  have := h.2
  omega
set_option maxHeartbeats 4000000 in
set_option maxRecDepth 100000 in
theorem rsteps_walk (M : Nat) (n : Int) (b : Bool) (A : Option Addr) (c : Nat) (l : List Arc) (Af : Option Addr) (cf : Nat) (f : List Int) (w : World) (hn : NetOk M l) (hf : FlowOk l f) (hr : Kd.C k57 w A l.length l) (hF : Kd.C (Kd.int .i64) w Af f.length f) :
  Calls Tryz.prog 40 #[.agg #[.int .i64 n, .bool b, .slice A l.length c], .slice Af f.length cf] w (StepsAt l f w) := by
 have hu := Tryz.underlying27
 have hu2 := Tryz.underlying123
 have hu3 := Tryz.underlying57
 have HR := zh hr
 have HF := zh hF
 have HLEN := zh hf.len
 have hll := hn.ll
 clear hr hF
 go_enter Tryz.func40, Tryz.ntmps40
 obtain ⟨w1, hw1⟩ : ∃ w1, w1 = w.alloc (.cells #[.int .i64 n, .bool b, .slice A l.length c] 27) := ⟨_, rfl⟩
 have HX : Hid (w1.heap[w.heap.size]? = some (.cells #[.int .i64 n, .bool b, .slice A l.length c] 27 (0, 0))) := zh (by rw [hw1]; exact heap_alloc_new _ _)
 have HB : Hid (Below w.heap.size w w1) := zh (by rw [hw1]; exact below_alloc (Below.refl _ _) _)
 go_wp2
 rw [← hw1]
 clear hw1
 rw [HLEN.out]
 go_loopg [5, 6] l.length (fun k ov iv W => ∃ (i : Nat) (Lq : List Stp) (Ao : Option Addr) (co : Nat), i ≤ l.length ∧ ov = .slice Ao Lq.length co ∧ iv = .int .i64 i ∧ k = l.length - i ∧ Hid (Kd.R kStep 123 W w.heap.size (fun _ => True) (.slice Ao Lq.length co) Lq ∧ W.heap[w.heap.size]? = some (.cells #[.int .i64 n, .bool b, .slice A l.length c] 27 (0, 0)) ∧ Below w.heap.size w W ∧ StP l f i Lq))
 case atStart => exact ⟨0, [], none, 0, Nat.zero_le _, rfl, rfl, rfl, zh ⟨Kd.R_nil _ _ _ _ _, HX.out, HB.out, StP.zero⟩⟩
 case round =>
  obtain ⟨i, Lq, Ao, co, hi, rfl, rfl, rfl, HL⟩ := hrel
  clear HX HB
  by_cases d1 : i < l.length
  ·have i0 : (0 : Int) ≤ (i : Int) := by omega
   have i1 : (i : Int) < (l.length : Int) := by omega
   have hcap := (hn.caps (i : Int) i0 i1)
   have hfw := (hf.wit (i : Int) i0 i1)
   have C0 : rmv l f ⟨i, false⟩ = (rd_T57 l (i : Int)).f2 - rd f (i : Int) := rfl
   have C9 : rmv l f ⟨i, true⟩ = rd f (i : Int) := rfl
   obtain ⟨ad, ea, y0, y1, y2, y3⟩ := at_T57 (Kd.C_drew (Kd.C_below HR.out HL.out.2.2.1)) (i : Int) i0 i1
   subst ea
   obtain ⟨ae, eb, z0⟩ := Kd.at_int (Kd.C_drew (Kd.C_below HF.out HL.out.2.2.1)) (i : Int) i0 (by rw [HLEN.out]; exact i1)
   subst eb
   rw [Int.toNat_natCast] at y2 z0
   obtain ⟨cp, hcp⟩ : ∃ cp, cp = (rd_T57 l (i : Int)).f2 := ⟨_, rfl⟩
   obtain ⟨fv, hfv⟩ : ∃ fv, fv = rd f (i : Int) := ⟨_, rfl⟩
   rw [← hcp] at y2 C0 hcap hfw
   rw [← hfv] at z0 C0 C9 hfw
   have x2 : wr.drew.cell? ⟨w.heap.size, 2, none⟩ = some (.slice (some ad) l.length c) := (blk_cell (blk_drew HL.out.2.1) 2).trans rfl
   have ZF : Hid (∀ W, Below w.heap.size w W → W.cell? (ae.add i) = some (.int .i64 fv)) := zh (fun W hW => by
    obtain ⟨ae2, e2, z2⟩ := Kd.at_int (Kd.C_below HF.out hW) (i : Int) i0 (by rw [HLEN.out]; exact i1)
    injection e2 with e2
    subst e2
    rw [Int.toNat_natCast, ← hfv] at z2
    exact z2)
   clear y0 y1 y3 hcp hfv
   have HO : Hid (Kd.R kStep 123 wr.drew w.heap.size (fun _ => True) (.slice Ao Lq.length co) Lq ∧ wr.drew.heap[w.heap.size]? = some (.cells #[.int .i64 n, .bool b, .slice (some ad) l.length c] 27 (0, 0)) ∧ Below w.heap.size w wr.drew) := zh ⟨Kd.R_drew HL.out.1, blk_drew HL.out.2.1, below_drew1 HL.out.2.2.1⟩
   go_wp2
   refine stepS (S := fun w' => w'.cell? ⟨w.heap.size, 2, none⟩ = some (.slice (some ad) l.length c) ∧ w'.cell? ⟨(ad.add (i * 4)).block, (ad.add (i * 4)).off + 2, none⟩ = some (.int .i64 cp) ∧ w'.cell? (ae.add i) = some (.int .i64 fv)) (ds := []) 11 (by kernel_rfl) rfl ⟨x2, y2, z0⟩ (fun hHeld => ?_)
   generalize wr.drew = wd at HO hHeld x2 y2 z0 ⊢
   repeat (first | refine rP 11 ?_ | refine rT 11 hHeld ?_)
   refine done_ (by kernel_rfl) ?_
   by_cases c1 : fv < cp
   ·have C1 : Hid (0 < rmv l f ⟨i, false⟩) := zh (by rw [C0]; omega)
    by_cases c2 : 0 < fv
    ·have C2 : Hid (0 < rmv l f ⟨i, true⟩) := zh (by rw [C9]; exact c2)
     clear C0 C9
     go_wp2_with (first
      |((with_reducible refine gate_dst (N := 28) rfl ?_); go_loud (refine Kd.R_append kStep (w0 := w) w.heap.size rfl (.tmp 24) (.tmp 27) 88 123 (.agg #[.int .i64 0, .bool false]) 16 rfl Tryz.underlying88 info123 rfl (by decide) (by decide) (.slice Ao Lq.length co) (Lq) ⟨(i : Int), false⟩ [.int .i64 (i : Int), .bool false] (fun _ => True) (fun _ => False) rfl ?aX ?aP (fun _ hk => hk.elim) ?aF ?aO ?aB ?aS ?aL ?_); (case aX => first | rfl | (simp; done) | (simp; rfl)); (case aP => exact k123_mkM _ _ _ (⟨(i : Int), false⟩ : Stp)); (case aF => exact fun _ _ => trivial); (case aO => exact HO.out.1); (case aB => exact HO.out.2.2); (case aS => exact HO.out.2.2.size); (case aL => have := HL.out.2.2.2.2; (try rw [List.length_append]); (try simp only [List.length_cons, List.length_nil]); omega); go_loud ((intro v1 w1 ho hb hg hat; obtain ⟨A1, k1, e9⟩ := Kd.R_slice ho; rw [show ((Lq) ++ [(⟨(i : Int), false⟩ : Stp)]).length = Lq.length + 1 by (rw [List.length_append]; (try rw [List.length_append]); rfl)] at e9; subst e9; have HN9 := zh (And.intro ho (And.intro (blk_grown HO.out.2.1 hg (Kd.R_ne HO.out.1 HO.out.2.1 (by decide))) hb)); (try clear z0); have z0 : w1.cell? (ae.add i) = some (.int .i64 fv) := ZF.out _ hb; clear ho hb hg hat HO; have HO := HN9; clear HN9)))
      |((with_reducible refine gate_dst (N := 38) rfl ?_); go_loud (refine Kd.R_append kStep (w0 := w) w.heap.size rfl (.tmp 34) (.tmp 37) 88 123 (.agg #[.int .i64 0, .bool false]) 16 rfl Tryz.underlying88 info123 rfl (by decide) (by decide) (.slice A1 (Lq.length + 1) k1) (Lq ++ [(⟨(i : Int), false⟩ : Stp)]) ⟨(i : Int), true⟩ [.int .i64 (i : Int), .bool true] (fun _ => True) (fun _ => False) rfl ?aX ?aP (fun _ hk => hk.elim) ?aF ?aO ?aB ?aS ?aL ?_); (case aX => first | rfl | (simp; done) | (simp; rfl)); (case aP => exact k123_mkM _ _ _ (⟨(i : Int), true⟩ : Stp)); (case aF => exact fun _ _ => trivial); (case aO => exact HO.out.1); (case aB => exact HO.out.2.2); (case aS => exact HO.out.2.2.size); (case aL => have := HL.out.2.2.2.2; (try rw [List.length_append]); (try simp only [List.length_cons, List.length_nil]); omega); go_loud ((intro v2 w2 ho hb hg hat; obtain ⟨A2, k2, e9⟩ := Kd.R_slice ho; rw [show ((Lq ++ [(⟨(i : Int), false⟩ : Stp)]) ++ [(⟨(i : Int), true⟩ : Stp)]).length = (Lq.length + 1) + 1 by (rw [List.length_append]; (try rw [List.length_append]); rfl)] at e9; subst e9; have HN9 := zh (And.intro ho (And.intro (blk_grown HO.out.2.1 hg (Kd.R_ne HO.out.1 HO.out.2.1 (by decide))) hb)); (try clear z0); have z0 : w2.cell? (ae.add i) = some (.int .i64 fv) := ZF.out _ hb; clear ho hb hg hat HO; have HO := HN9; clear HN9))))
     have hnx := HL.out.2.2.2.next (a := [(⟨(i : Int), false⟩ : Stp)]) (b := [(⟨(i : Int), true⟩ : Stp)]) (by rw [if_pos (by have := C1.out; omega)]) (by rw [if_pos (by have := C2.out; omega)])
     go_roundg (l.length - (i + 1))
     case measure => omega
     case rel => exact ⟨i + 1, Lq ++ [(⟨(i : Int), false⟩ : Stp)] ++ [(⟨(i : Int), true⟩ : Stp)], A2, k2, by omega, by simp, by go_num, by omega, zh ⟨by rw [show (Lq ++ [(⟨(i : Int), false⟩ : Stp)] ++ [(⟨(i : Int), true⟩ : Stp)]).length = ((Lq.length + 1) + 1) by simp]; first | exact HO.out.1 | simpa using HO.out.1, HO.out.2.1, HO.out.2.2, hnx⟩⟩
    ·have C2 : Hid (¬ 0 < rmv l f ⟨i, true⟩) := zh (by rw [C9]; exact c2)
     clear C0 C9
     go_wp2_with (first
      |((with_reducible refine gate_dst (N := 28) rfl ?_); go_loud (refine Kd.R_append kStep (w0 := w) w.heap.size rfl (.tmp 24) (.tmp 27) 88 123 (.agg #[.int .i64 0, .bool false]) 16 rfl Tryz.underlying88 info123 rfl (by decide) (by decide) (.slice Ao Lq.length co) (Lq) ⟨(i : Int), false⟩ [.int .i64 (i : Int), .bool false] (fun _ => True) (fun _ => False) rfl ?aX ?aP (fun _ hk => hk.elim) ?aF ?aO ?aB ?aS ?aL ?_); (case aX => first | rfl | (simp; done) | (simp; rfl)); (case aP => exact k123_mkM _ _ _ (⟨(i : Int), false⟩ : Stp)); (case aF => exact fun _ _ => trivial); (case aO => exact HO.out.1); (case aB => exact HO.out.2.2); (case aS => exact HO.out.2.2.size); (case aL => have := HL.out.2.2.2.2; (try rw [List.length_append]); (try simp only [List.length_cons, List.length_nil]); omega); go_loud ((intro v1 w1 ho hb hg hat; obtain ⟨A1, k1, e9⟩ := Kd.R_slice ho; rw [show ((Lq) ++ [(⟨(i : Int), false⟩ : Stp)]).length = Lq.length + 1 by (rw [List.length_append]; (try rw [List.length_append]); rfl)] at e9; subst e9; have HN9 := zh (And.intro ho (And.intro (blk_grown HO.out.2.1 hg (Kd.R_ne HO.out.1 HO.out.2.1 (by decide))) hb)); (try clear z0); have z0 : w1.cell? (ae.add i) = some (.int .i64 fv) := ZF.out _ hb; clear ho hb hg hat HO; have HO := HN9; clear HN9))))
     have hnx := HL.out.2.2.2.next (a := [(⟨(i : Int), false⟩ : Stp)]) (b := ([] : List Stp)) (by rw [if_pos (by have := C1.out; omega)]) (by rw [if_neg (by have := C2.out; omega)])
     go_roundg (l.length - (i + 1))
     case measure => omega
     case rel => exact ⟨i + 1, Lq ++ [(⟨(i : Int), false⟩ : Stp)] ++ ([] : List Stp), A1, k1, by omega, by simp, by go_num, by omega, zh ⟨by rw [show (Lq ++ [(⟨(i : Int), false⟩ : Stp)] ++ ([] : List Stp)).length = (Lq.length + 1) by simp]; first | exact HO.out.1 | simpa using HO.out.1, HO.out.2.1, HO.out.2.2, hnx⟩⟩
   ·have C1 : Hid (¬ 0 < rmv l f ⟨i, false⟩) := zh (by rw [C0]; omega)
    by_cases c2 : 0 < fv
    ·have C2 : Hid (0 < rmv l f ⟨i, true⟩) := zh (by rw [C9]; exact c2)
     clear C0 C9
     go_wp2_with (first
      |((with_reducible refine gate_dst (N := 38) rfl ?_); go_loud (refine Kd.R_append kStep (w0 := w) w.heap.size rfl (.tmp 34) (.tmp 37) 88 123 (.agg #[.int .i64 0, .bool false]) 16 rfl Tryz.underlying88 info123 rfl (by decide) (by decide) (.slice Ao Lq.length co) (Lq) ⟨(i : Int), true⟩ [.int .i64 (i : Int), .bool true] (fun _ => True) (fun _ => False) rfl ?aX ?aP (fun _ hk => hk.elim) ?aF ?aO ?aB ?aS ?aL ?_); (case aX => first | rfl | (simp; done) | (simp; rfl)); (case aP => exact k123_mkM _ _ _ (⟨(i : Int), true⟩ : Stp)); (case aF => exact fun _ _ => trivial); (case aO => exact HO.out.1); (case aB => exact HO.out.2.2); (case aS => exact HO.out.2.2.size); (case aL => have := HL.out.2.2.2.2; (try rw [List.length_append]); (try simp only [List.length_cons, List.length_nil]); omega); go_loud ((intro v1 w1 ho hb hg hat; obtain ⟨A1, k1, e9⟩ := Kd.R_slice ho; rw [show ((Lq) ++ [(⟨(i : Int), true⟩ : Stp)]).length = Lq.length + 1 by (rw [List.length_append]; (try rw [List.length_append]); rfl)] at e9; subst e9; have HN9 := zh (And.intro ho (And.intro (blk_grown HO.out.2.1 hg (Kd.R_ne HO.out.1 HO.out.2.1 (by decide))) hb)); (try clear z0); have z0 : w1.cell? (ae.add i) = some (.int .i64 fv) := ZF.out _ hb; clear ho hb hg hat HO; have HO := HN9; clear HN9))))
     have hnx := HL.out.2.2.2.next (a := ([] : List Stp)) (b := [(⟨(i : Int), true⟩ : Stp)]) (by rw [if_neg (by have := C1.out; omega)]) (by rw [if_pos (by have := C2.out; omega)])
     go_roundg (l.length - (i + 1))
     case measure => omega
     case rel => exact ⟨i + 1, Lq ++ ([] : List Stp) ++ [(⟨(i : Int), true⟩ : Stp)], A1, k1, by omega, by simp, by go_num, by omega, zh ⟨by rw [show (Lq ++ ([] : List Stp) ++ [(⟨(i : Int), true⟩ : Stp)]).length = (Lq.length + 1) by simp]; first | exact HO.out.1 | simpa using HO.out.1, HO.out.2.1, HO.out.2.2, hnx⟩⟩
    ·have C2 : Hid (¬ 0 < rmv l f ⟨i, true⟩) := zh (by rw [C9]; exact c2)
     clear C0 C9
     go_wp2
     have hnx := HL.out.2.2.2.next (a := ([] : List Stp)) (b := ([] : List Stp)) (by rw [if_neg (by have := C1.out; omega)]) (by rw [if_neg (by have := C2.out; omega)])
     go_roundg (l.length - (i + 1))
     case measure => omega
     case rel => exact ⟨i + 1, Lq ++ ([] : List Stp) ++ ([] : List Stp), Ao, co, by omega, by simp, by go_num, by omega, zh ⟨by rw [show (Lq ++ ([] : List Stp) ++ ([] : List Stp)).length = Lq.length by simp]; first | exact HO.out.1 | simpa using HO.out.1, HO.out.2.1, HO.out.2.2, hnx⟩⟩
  ·have e : i = l.length := by omega
   have d2 : ¬ (i : Int) < (l.length : Int) := by omega
   have HE := zh e
   clear e
   go_wp2
   go_ret
   exact ⟨Lq, Ao, co, rfl, HL.out.1, by have := HL.out.2.2.2; rw [HE.out] at this; exact this, HL.out.2.2.1⟩
def SoughtAt (l : List Arc) (L : List Stp) (M : Nat) (s : Int) (w : World) (e : Ending) (w' : World) : Prop :=
 ∃ (N : List Int) (B : List Stp) (A1 : Option Addr) (c1 : Nat) (A2 : Option Addr) (c2 : Nat), e = .returned (.agg #[.slice A1 N.length c1, .slice A2 B.length c2]) ∧ Kd.R (Kd.int .i64) 3 w' w.heap.size (fun _ => True) (.slice A1 N.length c1) N ∧
  Kd.R kStep 123 w' w.heap.size (fun _ => True) (.slice A2 B.length c2) B ∧ Sg l L M s N B ∧ Cl l L N N.length 0 ∧ Below w.heap.size w w'
theorem so_cells {w W : World} {gx : Nat} {n : Int} {b : Bool} {A A1 A2 : Option Addr} {c c1 c2 m1 m2 : Nat} {l : List Arc} {L : List Stp} {N : List Int} {B : List Stp} {ad : Addr} (hL : Kd.C kStep w (some ad) L.length L) (h : SoI w gx #[.int .i64 n, .bool b, .slice A l.length c] N B (.slice A1 m1 c1) (.slice A2 m2 c2) W) {j : Nat} (hj : j < L.length) {x : Stp} (hx : x = stAt L j) :
  W.cell? ⟨w.heap.size, 0, none⟩ = some (.int .i64 n) ∧ W.cell? ⟨w.heap.size, 1, none⟩ = some (.bool b) ∧ W.cell? ⟨w.heap.size, 2, none⟩ = some (.slice A l.length c) ∧ W.cell? (ad.add (j * 2)) = some (.int .i64 x.f0) ∧ W.cell? ⟨(ad.add (j * 2)).block, (ad.add (j * 2)).off + 1, none⟩ = some (.bool x.f1) ∧ W.cell? ⟨gx, 0, none⟩ = some (.slice A1 m1 c1) ∧ W.cell? ⟨gx, 1, none⟩ = some (.slice A2 m2 c2) := by
 obtain ⟨ae, ea, y0, y1⟩ := at_T123 (Kd.C_below hL h.low) (j : Int) (by omega) (by omega)
 injection ea with ea
 subst ea
 rw [Int.toNat_natCast] at y0 y1
 have hx0 : (rd_T123 L (j : Int)) = x := by rw [hx]; unfold rd_T123 stAt; rw [Int.toNat_natCast]; rfl
 rw [hx0] at y0 y1
 exact ⟨(blk_cell h.bn 0).trans rfl, (blk_cell h.bn 1).trans rfl, (blk_cell h.bn 2).trans rfl, y0, y1, (blk_cell h.bx 0).trans rfl, (blk_cell h.bx 1).trans rfl⟩
set_option maxHeartbeats 4000000 in
set_option maxRecDepth 100000 in
theorem sought_walk (n : Int) (b : Bool) (A : Option Addr) (c : Nat) (l : List Arc) (s : Int) (As : Option Addr) (cs : Nat) (L : List Stp) (M : Nat) (w : World) (hr : Kd.C k57 w A l.length l) (hL : Kd.C kStep w As L.length L)
  (hin : ∀ x, x ∈ L → (0 ≤ x.f0 ∧ x.f0 < (l.length : Int)) ∧ 0 ≤ tgt l x ∧ tgt l x < M) (h0 : 0 ≤ s) (h1 : s < M) (hm : M ≤ 10000) (hl : L.length ≤ 400000) :
  Calls Tryz.prog 59 #[.agg #[.int .i64 n, .bool b, .slice A l.length c], .int .i64 s, .slice As L.length cs] w (SoughtAt l L M s w) := by
 have hu := Tryz.underlying27
 have hu2 := Tryz.underlying123
 have hu3 := Tryz.underlying119
 have HR := zh hr
 have HL0 := zh hL
 have HIN := zh hin
 have HS := zh (And.intro h0 h1)
 clear hr hL hin h0 h1
 go_enter Tryz.func59, Tryz.ntmps59
 obtain ⟨w3, hw3⟩ : ∃ w3, w3 = ((w.alloc (.cells #[.int .i64 n, .bool b, .slice A l.length c] 27)).alloc (.cells #[.slice none 0 0, .slice none 0 0] 119)).alloc (.cells #[.slice none 0 0, .slice none 0 0] 119) := ⟨_, rfl⟩
 have HI : Hid (SoI w (w.heap.size + 1 + 1) #[.int .i64 n, .bool b, .slice A l.length c] [] [] (.slice none 0 0) (.slice none 0 0) w3) := zh (by
  rw [hw3]
  exact ⟨alloc_at (by simp), Kd.R_nil _ _ _ _ _, Kd.R_nil _ _ _ _ _, blk_alloc (blk_alloc (heap_alloc_new _ _) _) _, blk_alloc (alloc_at (by simp)) _, by omega, below_alloc (below_alloc (below_alloc (Below.refl _ _) _) _) _⟩)
 go_wp2_with (first
  |((with_reducible refine gate_dst (N := 14) rfl ?_); rw [← hw3]; go_loud (refine Kd.R_append (Kd.int .i64) (w0 := w) w.heap.size rfl (.tmp 11) (.tmp 13) 60 3 (.int .i64 0) 8 rfl Tryz.underlying60 infoInt rfl (by decide) (by decide) (.slice none 0 0) ([] : List Int) s [.int .i64 s] (fun _ => True) (fun _ => False) rfl (by rw [hw3]; simp; rfl) ?aP (fun _ hk => hk.elim) ?aF ?aO ?aB ?aS ?aL ?_); (case aP => exact rfl); (case aF => exact fun _ _ => trivial); (case aO => exact Kd.R_nil _ _ _ _ _); (case aB => exact HI.out.low); (case aS => exact HI.out.low.size); (case aL => decide); intro v1 w9 ho hb hg hat; rw [List.nil_append] at ho; obtain ⟨A1, c1, rfl⟩ := (show ∃ A c, v1 = .slice A 1 c from Kd.R_slice ho); have HJ := zh (HI.out.add1 ho hb hg); have z0 : w9.cell? ⟨w.heap.size + 1 + 1, 0, none⟩ = some (.slice none 0 0) := (blk_cell (blk_grown HI.out.bx hg (by simp [Value.ownBlock])) 0).trans rfl; have z1 : w9.cell? ⟨w.heap.size + 1 + 1, 1, none⟩ = some (.slice none 0 0) := (blk_cell (blk_grown HI.out.bx hg (by simp [Value.ownBlock])) 1).trans rfl; have z2 : w9.frozen? ⟨w.heap.size + 1 + 1, 0, none⟩ = false := blk_frozen (blk_grown HI.out.bx hg (by simp [Value.ownBlock])) 0; have z3 : w9.frozen? ⟨w.heap.size + 1 + 1, 1, none⟩ = false := blk_frozen (blk_grown HI.out.bx hg (by simp [Value.ownBlock])) 1; clear ho hb hg hat HI)
  |((with_reducible refine gate_dst (N := 20) rfl ?_); go_loud (refine Kd.R_append kStep (w0 := w) w.heap.size rfl (.tmp 17) (.tmp 19) 88 123 (.agg #[.int .i64 0, .bool false]) 16 rfl Tryz.underlying88 info123 rfl (by decide) (by decide) (.slice none 0 0) ([] : List Stp) ⟨0, false⟩ [.int .i64 0, .bool false] (fun _ => True) (fun _ => False) rfl ?aX ?aP (fun _ hk => hk.elim) ?aF ?aO ?aB ?aS ?aL ?_); (case aX => first | (simp; done) | (simp; rfl)); (case aP => exact k123_mkM _ _ _ (⟨0, false⟩ : Stp)); (case aF => exact fun _ _ => trivial); (case aO => exact Kd.R_nil _ _ _ _ _); (case aB => exact HJ.out.low); (case aS => exact HJ.out.low.size); (case aL => decide); go_loud ((intro v2 w10 ho hb hg hat; rw [List.nil_append] at ho; obtain ⟨A2, c2, rfl⟩ := (show ∃ A c, v2 = .slice A 1 c from Kd.R_slice ho); have HI2 := zh (HJ.out.add2 ho hb hg); have z0 : w10.cell? ⟨w.heap.size + 1 + 1, 1, none⟩ = some (.slice none 0 0) := (blk_cell (blk_grown HJ.out.bx hg (by simp [Value.ownBlock])) 1).trans rfl; have z1 : w10.frozen? ⟨w.heap.size + 1 + 1, 1, none⟩ = false := blk_frozen (blk_grown HJ.out.bx hg (by simp [Value.ownBlock])) 1; have z5 : w10.cell? ⟨w.heap.size + 1 + 1, 0, none⟩ = some (.slice A1 1 c1) := (blk_cell (blk_grown HJ.out.bx hg (by simp [Value.ownBlock])) 0).trans rfl; clear ho hb hg hat HJ))))
 clear z0 z1 z5 hw3 w3
 generalize w10.setCell ⟨w.heap.size + 1 + 1, 1, none⟩ (.slice A2 1 c2) = w11 at HI2 ⊢
 generalize w.heap.size + 1 + 1 = gx at HI2 ⊢
 go_loopg [8] M (fun k iv W => ∃ (i : Nat) (N : List Int) (B : List Stp) (A1 : Option Addr) (c1 : Nat) (A2 : Option Addr) (c2 : Nat), i ≤ N.length ∧ iv = .int .i64 i ∧ k = M - i ∧ Hid (SoI w gx #[.int .i64 n, .bool b, .slice A l.length c] N B (.slice A1 N.length c1) (.slice A2 B.length c2) W ∧ Sg l L M s N B ∧ Cl l L N i 0))
 case atStart => exact ⟨0, [s], [⟨0, false⟩], A1, c1, A2, c2, Nat.zero_le _, rfl, rfl, zh ⟨HI2.out, Sg.start HS.out.1 HS.out.2 _, Cl.zero⟩⟩
 case round =>
  obtain ⟨i, N, B, A1, c1, A2, c2, hi, rfl, rfl, HL⟩ := hrel
  clear HI2
  have x0 : wr.cell? ⟨gx, 0, none⟩ = some (.slice A1 N.length c1) := (blk_cell HL.out.1.bx 0).trans rfl
  have hNM := HL.out.2.1.le
  by_cases d1 : i < N.length
  ·have d1' : (i : Int) < (N.length : Int) := by omega
   go_wp2
   have HD := zh (And.intro hi (And.intro hNM d1))
   clear x0
   go_loopg [9] L.length (fun k kv W => ∃ (j : Nat) (N : List Int) (B : List Stp) (A1 : Option Addr) (c1 : Nat) (A2 : Option Addr) (c2 : Nat), j ≤ L.length ∧ kv = .int .i64 j ∧ k = L.length - j ∧ Hid (i < N.length ∧ SoI w gx #[.int .i64 n, .bool b, .slice A l.length c] N B (.slice A1 N.length c1) (.slice A2 B.length c2) W ∧ Sg l L M s N B ∧ Cl l L N i j))
   case atStart => exact ⟨0, N, B, A1, c1, A2, c2, Nat.zero_le _, rfl, rfl, zh ⟨HD.out.2.2, HL.out⟩⟩
   case round =>
    clear HL d1' d1 hi hNM
    obtain ⟨j, N, B, A1, c1, A2, c2, hj, rfl, rfl, HL⟩ := hrel
    by_cases d2 : j < L.length
    ·have d2' : (j : Int) < (L.length : Int) := by omega
     have j0 : (0 : Int) ≤ (j : Int) := by omega
     have i0 : (0 : Int) ≤ (i : Int) := by omega
     have i1 : (i : Int) < (N.length : Int) := by have := HL.out.1; omega
     go_wp2
     obtain ⟨ad, ea, y0, y1⟩ := at_T123 (Kd.C_drew (Kd.C_below HL0.out HL.out.2.1.low)) (j : Int) j0 d2'
     subst ea
     rw [Int.toNat_natCast] at y0 y1
     obtain ⟨ae, eb, y2⟩ := Kd.at_int (Kd.C_drew (Kd.R_reads' HL.out.2.1.r1).2.2) (i : Int) i0 i1
     subst eb
     rw [Int.toNat_natCast] at y2
     obtain ⟨x, hx⟩ : ∃ x, x = stAt L j := ⟨_, rfl⟩
     have hx0 : (rd_T123 L (j : Int)) = x := by rw [hx]; unfold rd_T123 stAt; rw [Int.toNat_natCast]; rfl
     rw [hx0] at y0 y1
     have hxm : x ∈ L := by rw [hx]; exact getD_mem d2 _
     have HX := zh (HIN.out x hxm)
     have HXE := zh (And.intro hxm hx)
     have HI9 := zh HL.out.2.1.drew
     have x0 : wr.drew.cell? ⟨w.heap.size, 0, none⟩ = some (.int .i64 n) := (blk_cell HI9.out.bn 0).trans rfl
     have x1 : wr.drew.cell? ⟨w.heap.size, 1, none⟩ = some (.bool b) := (blk_cell HI9.out.bn 1).trans rfl
     have x2 : wr.drew.cell? ⟨w.heap.size, 2, none⟩ = some (.slice A l.length c) := (blk_cell HI9.out.bn 2).trans rfl
     have x3 : wr.drew.cell? ⟨gx, 0, none⟩ = some (.slice (some ae) N.length c1) := (blk_cell HI9.out.bx 0).trans rfl
     have x4 : wr.drew.cell? ⟨gx, 1, none⟩ = some (.slice A2 B.length c2) := (blk_cell HI9.out.bx 1).trans rfl
     clear hx hx0 hxm
     refine stepS (S := fun w' => w'.cell? ⟨w.heap.size, 0, none⟩ = some (.int .i64 n) ∧ w'.cell? ⟨w.heap.size, 1, none⟩ = some (.bool b) ∧ w'.cell? ⟨w.heap.size, 2, none⟩ = some (.slice A l.length c) ∧ w'.cell? (ad.add (j * 2)) = some (.int .i64 x.f0) ∧ w'.cell? ⟨(ad.add (j * 2)).block, (ad.add (j * 2)).off + 1, none⟩ = some (.bool x.f1) ∧ w'.cell? ⟨gx, 0, none⟩ = some (.slice (some ae) N.length c1) ∧ w'.cell? ⟨gx, 1, none⟩ = some (.slice A2 B.length c2) ∧ w'.cell? (ae.add i) = some (.int .i64 (rd N (i : Int)))) (ds := [20]) 23 (by kernel_rfl) rfl ⟨x0, x1, x2, y0, y1, x3, x4, y2⟩ (fun hHeld => ?_)
     generalize wr.drew = wd at HI9 hHeld ⊢
     clear x0 x1 x2 x3 x4 y0 y1 y2
     refine sT 0 hHeld ?_
     refine sP 1 ?_
     refine sP 2 ?_
     refine sP 3 ?_
     refine sT 4 hHeld ?_
     refine sP 6 ?_
     refine sT 7 hHeld ?_
     refine sP 8 ?_
     refine sP 9 ?_
     refine sT 10 hHeld ?_
     refine stepEi 5 (N := some 40) rfl rfl (by kernel_rfl) (by decide) (fun K hK => ?_)
     refine goes_ Tryz.func61 (by kernel_rfl) rfl #[.agg #[.int .i64 n, .bool b, .slice A l.length c], .agg #[.int .i64 x.f0, .bool x.f1]] (by rfl) rfl rfl (by (try simp only [List.map_toArray, List.map_cons, List.map_nil]); rfl) ?_
     refine (rfrom_walk n b A c l x _ (Kd.C_below HR.out HI9.out.low) HX.out.1.1 HX.out.1.2).mono ?_
     rintro e w5 ⟨rfl, hb⟩
     refine ⟨_, rfl, ?_⟩
     have HI9' := zh (HI9.out.below hb)
     refine hK.out _ _ ⟨pw_cell_below hb hHeld.1, pw_cell_below hb hHeld.2.1, pw_cell_below hb hHeld.2.2.1, pw_cell_below hb hHeld.2.2.2.1, pw_cell_below hb hHeld.2.2.2.2.1, pw_cell_below hb hHeld.2.2.2.2.2.1, pw_cell_below hb hHeld.2.2.2.2.2.2.1, pw_cell_below hb hHeld.2.2.2.2.2.2.2⟩ (fun hH2 => ?_)
     clear hK K hHeld hb HI9 wd
     have HI9 := HI9'
     have hHeld := hH2
     clear HI9' hH2
     refine sN ?_
     have hNM := HL.out.2.2.1.le
     by_cases q : src l x = rd N (i : Int)
     ·have q1 : (src l x == rd N (i : Int)) = true := beq_iff_eq.2 q
      have q2 : decide (src l x = rd N (i : Int)) = true := decide_eq_true q
      have HQ := zh q
      clear q
      refine sP 11 ?_
      refine sP 12 ?_
      refine sT 13 hHeld ?_
      refine sT 14 hHeld ?_
      refine sP 15 ?_
      refine sP 16 ?_
      refine sP 17 ?_
      refine sT 18 hHeld ?_
      refine stepEi 19 (N := some 54) rfl rfl (by kernel_rfl) (by decide) (fun K hK => ?_)
      refine goes_ Tryz.func90 (by kernel_rfl) rfl #[.agg #[.int .i64 n, .bool b, .slice A l.length c], .agg #[.int .i64 x.f0, .bool x.f1]] (by rfl) rfl rfl (by (try simp only [List.map_toArray, List.map_cons, List.map_nil]); rfl) ?_
      refine (rto_walk n b A c l x _ (Kd.C_below HR.out HI9.out.low) HX.out.1.1 HX.out.1.2).mono ?_
      rintro e w5 ⟨rfl, hb⟩
      refine ⟨_, rfl, ?_⟩
      have HI9' := zh (HI9.out.below hb)
      refine hK.out _ _ ⟨pw_cell_below hb hHeld.1, pw_cell_below hb hHeld.2.1, pw_cell_below hb hHeld.2.2.1, pw_cell_below hb hHeld.2.2.2.1, pw_cell_below hb hHeld.2.2.2.2.1, pw_cell_below hb hHeld.2.2.2.2.2.1, pw_cell_below hb hHeld.2.2.2.2.2.2.1, pw_cell_below hb hHeld.2.2.2.2.2.2.2⟩ (fun hH2 => ?_)
      clear hK K hHeld hb HI9
      have HI9 := HI9'
      have hHeld := hH2
      clear HI9' hH2
      refine sN ?_
      refine stepLi 20 (N := some 55) rfl rfl (by kernel_rfl) (by decide) (fun K hK => ?_)
      refine goes_ Tryz.func60 (by kernel_rfl) rfl #[.agg #[.slice (some ae) N.length c1, .slice A2 B.length c2], .int .i64 (tgt l x)] (by rfl) rfl rfl (by (try simp only [List.map_toArray, List.map_cons, List.map_nil]); rfl) ?_
      refine (rhas_walk (some ae) c1 N (.slice A2 B.length c2) A2 B.length c2 rfl (tgt l x) _ (Kd.R_reads' HI9.out.r1).2.2 (by omega)).mono ?_
      rintro e w5 ⟨r, rfl, hP, hb⟩
      refine ⟨_, rfl, ?_⟩
      have HI8 := zh (HI9.out.below hb)
      have HP := zh hP
      refine hK.out _ _ ?_
      clear hK K hHeld hb HI9 hP
      refine sN ?_
      refine sP 21 ?_
      refine sP 22 ?_
      refine done_ (by kernel_rfl) ?_
      by_cases r0 : r < 0
      ·go_wp2
       refine stepS (S := fun w' => w'.cell? ⟨w.heap.size, 0, none⟩ = some (.int .i64 n) ∧ w'.cell? ⟨w.heap.size, 1, none⟩ = some (.bool b) ∧ w'.cell? ⟨w.heap.size, 2, none⟩ = some (.slice A l.length c) ∧ w'.cell? (ad.add (j * 2)) = some (.int .i64 x.f0) ∧ w'.cell? ⟨(ad.add (j * 2)).block, (ad.add (j * 2)).off + 1, none⟩ = some (.bool x.f1) ∧ w'.cell? ⟨gx, 0, none⟩ = some (.slice (some ae) (N).length c1) ∧ w'.cell? ⟨gx, 1, none⟩ = some (.slice A2 B.length c2)) (ds := [9, 11]) 12 (by kernel_rfl) rfl (so_cells HL0.out HI8.out.drew (by omega) HXE.out.2) (fun hHeld => ?_)
       have HI9 := zh HI8.out.drew
       generalize w5.drew = w5 at HI9 hHeld ⊢
       clear HI8
       refine sP 0 ?_
       refine sT 1 hHeld ?_
       refine sT 2 hHeld ?_
       refine sP 3 ?_
       refine sP 4 ?_
       refine sP 5 ?_
       refine sT 6 hHeld ?_
       refine stepEi 7 (N := some 65) rfl rfl (by kernel_rfl) (by decide) (fun K hK => ?_)
       refine goes_ Tryz.func90 (by kernel_rfl) rfl #[.agg #[.int .i64 n, .bool b, .slice A l.length c], .agg #[.int .i64 x.f0, .bool x.f1]] (by rfl) rfl rfl (by (try simp only [List.map_toArray, List.map_cons, List.map_nil]); rfl) ?_
       refine (rto_walk n b A c l x _ (Kd.C_below HR.out HI9.out.low) HX.out.1.1 HX.out.1.2).mono ?_
       rintro e w5 ⟨rfl, hb⟩
       refine ⟨_, rfl, ?_⟩
       have HI9' := zh (HI9.out.below hb)
       refine hK.out _ _ ⟨pw_cell_below hb hHeld.1, pw_cell_below hb hHeld.2.1, pw_cell_below hb hHeld.2.2.1, pw_cell_below hb hHeld.2.2.2.1, pw_cell_below hb hHeld.2.2.2.2.1, pw_cell_below hb hHeld.2.2.2.2.2.1, pw_cell_below hb hHeld.2.2.2.2.2.2⟩ (fun hH2 => ?_)
       clear hK K hHeld hb HI9
       have HI9 := HI9'
       have hHeld := hH2
       clear HI9' hH2
       refine sN ?_
       refine stepEi 8 (N := some 66) rfl rfl (by kernel_rfl) (by decide) (fun K hK => ?_)
       refine value_ (w1 := ?_) (v := ?_) (by rfl) rfl ?_ ?_
       rotate_left 2
       ·go_simp
        constructor
        ·rfl
        ·rfl
       have hb := below_alloc (Below.refl w5.heap.size w5) (.cells #[.int .i64 (tgt l x)] 3 (0, 0))
       refine hK.out _ _ ⟨pw_cell_below hb hHeld.1, pw_cell_below hb hHeld.2.1, pw_cell_below hb hHeld.2.2.1, pw_cell_below hb hHeld.2.2.2.1, pw_cell_below hb hHeld.2.2.2.2.1, pw_cell_below hb hHeld.2.2.2.2.2.1, pw_cell_below hb hHeld.2.2.2.2.2.2⟩ (fun hH2 => ?_)
       clear hK K hHeld hb hH2
       refine sN ?_
       refine stepLi 9 (N := some 67) rfl rfl (by kernel_rfl) (by decide) (fun K hK => ?_)
       (repeat rw [drew_of_alloc])
       refine Kd.R_append_step (Kd.int .i64) (w0 := w) w.heap.size (by rfl) (.tmp 59) (.tmp 66) 60 3 (.int .i64 0) 8 (by rfl) Tryz.underlying60 infoInt rfl (by decide) (by decide) (.slice (some ae) N.length c1) N (tgt l x) [.int .i64 (tgt l x)] (fun _ => True) (fun _ => False) (by rfl) (by rfl) rfl (fun _ hk => hk.elim) (fun _ _ => trivial) ?aO ?aB ?aS (by omega) ?_
       case aO => exact HI9.out.r1
       case aB => exact HI9.out.low
       case aS => exact HI9.out.low.size
       intro v1 w7 ho hb hg hat
       obtain ⟨A1n, c1n, e9⟩ := Kd.R_slice ho
       rw [show (N ++ [tgt l x]).length = N.length + 1 by rw [List.length_append]; rfl] at e9
       subst e9
       have HJ := zh (HI9.out.add1 ho hb hg)
       have z0 : w7.cell? ⟨gx, 0, none⟩ = some (.slice (some ae) N.length c1) := (blk_cell (blk_grown HI9.out.bx hg (Kd.R_ne HI9.out.r1 HI9.out.bx (by decide))) 0).trans rfl
       have z2 : w7.frozen? ⟨gx, 0, none⟩ = false := blk_frozen (blk_grown HI9.out.bx hg (Kd.R_ne HI9.out.r1 HI9.out.bx (by decide))) 0
       clear ho hb hg hat HI9
       refine hK.out _ _ ?_
       clear hK K
       refine norm_ (a' := ?_) (by (show Act.put _ (some 67) _ = _; simp only [Act.put, List.setIfInBounds_toArray, List.set_cons_zero, List.set_cons_succ]; rfl)) ?_
       refine sP 10 ?_
       refine stepLi 11 (N := none) rfl rfl (by kernel_rfl) (by decide) (fun K hK => ?_)
       refine skip_ (w1 := ?_) (by rfl) rfl ?_ ?_
       rotate_left
       ·go_simp
        rfl
       refine hK.out _ _ ?_
       clear hK K z0 z2
       generalize w7.setCell ⟨gx, 0, none⟩ (.slice A1n (N.length + 1) c1n) = w8 at HJ ⊢
       refine done_ (by kernel_rfl) ?_
       go_wp2
       refine stepS (S := fun w' => w'.cell? ⟨w.heap.size, 0, none⟩ = some (.int .i64 n) ∧ w'.cell? ⟨w.heap.size, 1, none⟩ = some (.bool b) ∧ w'.cell? ⟨w.heap.size, 2, none⟩ = some (.slice A l.length c) ∧ w'.cell? (ad.add (j * 2)) = some (.int .i64 x.f0) ∧ w'.cell? ⟨(ad.add (j * 2)).block, (ad.add (j * 2)).off + 1, none⟩ = some (.bool x.f1) ∧ w'.cell? ⟨gx, 0, none⟩ = some (.slice A1n (N.length + 1) c1n) ∧ w'.cell? ⟨gx, 1, none⟩ = some (.slice A2 B.length c2)) (ds := [7, 9]) 10 (by kernel_rfl) rfl (so_cells HL0.out HJ.out.drew (by omega) HXE.out.2) (fun hHeld => ?_)
       have HI9 := zh HJ.out.drew
       generalize w8.drew = w5 at HI9 hHeld ⊢
       clear HJ
       refine sP 0 ?_
       refine sT 1 hHeld ?_
       refine sP 2 ?_
       refine sP 3 ?_
       refine sP 4 ?_
       refine sT 5 hHeld ?_
       refine stepEi 6 (N := some 75) rfl rfl (by kernel_rfl) (by decide) (fun K hK => ?_)
       refine value_ (w1 := ?_) (v := ?_) (by rfl) rfl ?_ ?_
       rotate_left 2
       ·go_simp
        constructor
        ·rfl
        ·rfl
       have hb := below_alloc (Below.refl w5.heap.size w5) (.cells #[.int .i64 x.f0, .bool x.f1] 123 (0, 0))
       refine hK.out _ _ ⟨pw_cell_below hb hHeld.1, pw_cell_below hb hHeld.2.1, pw_cell_below hb hHeld.2.2.1, pw_cell_below hb hHeld.2.2.2.1, pw_cell_below hb hHeld.2.2.2.2.1, pw_cell_below hb hHeld.2.2.2.2.2.1, pw_cell_below hb hHeld.2.2.2.2.2.2⟩ (fun hH2 => ?_)
       clear hK K hHeld hb hH2
       refine sN ?_
       refine stepLi 7 (N := some 76) rfl rfl (by kernel_rfl) (by decide) (fun K hK => ?_)
       (repeat rw [drew_of_alloc])
       refine Kd.R_append_step kStep (w0 := w) w.heap.size (by rfl) (.tmp 70) (.tmp 75) 88 123 (.agg #[.int .i64 0, .bool false]) 16 (by rfl) Tryz.underlying88 info123 rfl (by decide) (by decide) (.slice A2 B.length c2) B x [.int .i64 x.f0, .bool x.f1] (fun _ => True) (fun _ => False) (by rfl) (by rfl) (k123_mkM _ _ _ x) (fun _ hk => hk.elim) (fun _ _ => trivial) ?aO ?aB ?aS (by have := HL.out.2.2.1.len; omega) ?_
       case aO => exact HI9.out.r2
       case aB => exact HI9.out.low
       case aS => exact HI9.out.low.size
       intro v2 w7 ho hb hg hat
       obtain ⟨A2n, c2n, e9⟩ := Kd.R_slice ho
       rw [show (B ++ [x]).length = B.length + 1 by rw [List.length_append]; rfl] at e9
       subst e9
       have HJ2 := zh (HI9.out.add2 ho hb hg)
       have z0 : w7.cell? ⟨gx, 1, none⟩ = some (.slice A2 B.length c2) := (blk_cell (blk_grown HI9.out.bx hg (Kd.R_ne HI9.out.r2 HI9.out.bx (by decide))) 1).trans rfl
       have z2 : w7.frozen? ⟨gx, 1, none⟩ = false := blk_frozen (blk_grown HI9.out.bx hg (Kd.R_ne HI9.out.r2 HI9.out.bx (by decide))) 1
       clear ho hb hg hat HI9
       refine hK.out _ _ ?_
       clear hK K
       refine norm_ (a' := ?_) (by (show Act.put _ (some 76) _ = _; simp only [Act.put, List.setIfInBounds_toArray, List.set_cons_zero, List.set_cons_succ]; rfl)) ?_
       refine sP 8 ?_
       refine stepLi 9 (N := none) rfl rfl (by kernel_rfl) (by decide) (fun K hK => ?_)
       refine skip_ (w1 := ?_) (by rfl) rfl ?_ ?_
       rotate_left
       ·go_simp
        rfl
       refine hK.out _ _ ?_
       clear hK K z0 z2
       generalize w7.setCell ⟨gx, 1, none⟩ (.slice A2n (B.length + 1) c2n) = w9 at HJ2 ⊢
       refine done_ (by kernel_rfl) ?_
       go_wp2
       have hne : ∀ k : Nat, k < N.length → rd N (k : Int) ≠ tgt l x := by
        rcases HP.out with ⟨_, h⟩ | ⟨k, h, _⟩
        ·exact h
        ·omega
       have hi9 := HL.out.1
       have hsn := HL.out.2.2.1.snoc HXE.out.1 hi9 HQ.out hne HX.out.2
       have hcl := (HL.out.2.2.2.grow hi9 (tgt l x)).skip (fun _ => List.mem_append_right _ (by rw [← HXE.out.2]; exact List.mem_singleton.2 rfl))
       go_roundg (L.length - (j + 1))
       case measure => omega
       case rel => exact ⟨j + 1, N ++ [tgt l x], B ++ [x], A1n, c1n, A2n, c2n, by omega, by go_num, rfl, zh ⟨by rw [List.length_append]; omega, by rw [show (N ++ [tgt l x]).length = N.length + 1 by rw [List.length_append]; rfl, show (B ++ [x]).length = B.length + 1 by rw [List.length_append]; rfl]; exact HJ2.out, hsn, hcl⟩⟩
      ·go_wp2
       have hmem : tgt l x ∈ N := by
        rcases HP.out with ⟨h, _⟩ | ⟨k, _, h1, h2⟩
        ·omega
        ·rw [← h2]; exact rd_mem h1
       go_roundg (L.length - (j + 1))
       case measure => omega
       case rel => exact ⟨j + 1, N, B, some ae, c1, A2, c2, by omega, by go_num, rfl, zh ⟨HL.out.1, HI8.out, HL.out.2.2.1, HL.out.2.2.2.skip (fun _ => by rw [← HXE.out.2]; exact hmem)⟩⟩
     ·have q1 : (src l x == rd N (i : Int)) = false := beq_eq_false_iff_ne.2 q
      have q2 : decide (src l x = rd N (i : Int)) = false := decide_eq_false q
      have HQ := zh q
      clear q
      refine sP 11 ?_
      refine sP 12 ?_
      refine sP 13 ?_
      refine sP 14 ?_
      refine sP 15 ?_
      refine sP 16 ?_
      refine sP 17 ?_
      refine sP 18 ?_
      refine sP 19 ?_
      refine sP 20 ?_
      refine sP 21 ?_
      refine sP 22 ?_
      refine done_ (by kernel_rfl) ?_
      go_wp2
      go_roundg (L.length - (j + 1))
      case measure => omega
      case rel => exact ⟨j + 1, N, B, some ae, c1, A2, c2, by omega, by go_num, rfl, zh ⟨HL.out.1, HI9.out, HL.out.2.2.1, HL.out.2.2.2.skip (fun e => absurd (by rw [← HXE.out.2] at e; exact e) HQ.out)⟩⟩
    ·go_wp2
     have e : j = L.length := by omega
     have hd := HD.out
     go_roundg (M - (i + 1))
     case measure => omega
     case rel => exact ⟨i + 1, N, B, A1, c1, A2, c2, HL.out.1, by rw [wrap1 i (by omega)], rfl, zh ⟨HL.out.2.1, HL.out.2.2.1, Cl.next (by rw [← e]; exact HL.out.2.2.2)⟩⟩
  ·have e : i = N.length := by omega
   have d1' : ¬ (i : Int) < (N.length : Int) := by omega
   have HE := zh e
   clear e
   have x1 : wr.cell? ⟨gx, 1, none⟩ = some (.slice A2 B.length c2) := (blk_cell HL.out.1.bx 1).trans rfl
   have z0 : wr.cell? ⟨w.heap.size + 1, 0, none⟩ = some (.slice none 0 0) := (blk_cell HL.out.1.br 0).trans rfl
   have z1 : wr.cell? ⟨w.heap.size + 1, 1, none⟩ = some (.slice none 0 0) := (blk_cell HL.out.1.br 1).trans rfl
   have z2 : wr.frozen? ⟨w.heap.size + 1, 0, none⟩ = false := blk_frozen HL.out.1.br 0
   have z3 : wr.frozen? ⟨w.heap.size + 1, 1, none⟩ = false := blk_frozen HL.out.1.br 1
   go_wp2
   refine bodyPost_ret (results_cell_row rfl _ _ (w.heap.size + 1) 119 #[.slice A1 N.length c1, .slice A2 B.length c2] (0, 0) _ rfl (blk_put (cs := #[.slice A1 N.length c1, .slice none 0 0]) (blk_put (cs := #[.slice none 0 0, .slice none 0 0]) HL.out.1.br 0 _ rfl) 1 _ rfl) hu3 rfl (by kernel_rfl)) rfl ?_
   have hbr := HL.out.1.br
   have g1 := Kd.R_mono (Kd.R_far (p := ⟨w.heap.size + 1, 1, none⟩) (Kd.R_far (p := ⟨w.heap.size + 1, 0, none⟩) (Kd.R_types HL.out.1.r1 hbr (by decide)) (fun _ hk => hk.2) (.slice A1 N.length c1)) (fun _ hk => hk.2) (.slice A2 B.length c2)) (ok' := fun _ => True) (fun _ _ => trivial)
   have g2 := Kd.R_mono (Kd.R_far (p := ⟨w.heap.size + 1, 1, none⟩) (Kd.R_far (p := ⟨w.heap.size + 1, 0, none⟩) (Kd.R_types HL.out.1.r2 hbr (by decide)) (fun _ hk => hk.2) (.slice A1 N.length c1)) (fun _ hk => hk.2) (.slice A2 B.length c2)) (ok' := fun _ => True) (fun _ _ => trivial)
   exact ⟨N, B, A1, c1, A2, c2, rfl, g1, g2, HL.out.2.1, by have := HL.out.2.2; rw [HE.out] at this; exact this, below_set (below_set HL.out.1.low (by omega)) (by omega)⟩
def WayP (l : List Arc) (L : List Stp) (s t : Int) (d : Int → Int) (way : List Stp) : Prop := (∀ x, x ∈ way → x ∈ L ∧ d (tgt l x) = d (src l x) + 1) ∧ Chain (frOf l) (toOf l) s (way.map toSt) t
def NoWay (l : List Arc) (L : List Stp) (M : Nat) (s t : Int) : Prop := ∃ N : List Int, s ∈ N ∧ t ∉ N ∧ ∀ x, x ∈ L → src l x ∈ N → tgt l x ∈ N
def WayAt (l : List Arc) (L : List Stp) (M : Nat) (s t : Int) (w : World) (e : Ending) (w' : World) : Prop := Below w.heap.size w w' ∧
 ((e = .returned (.tuple #[.slice none 0 0, .bool false]) ∧ NoWay l L M s t) ∨
  ∃ (way : List Stp) (A1 : Option Addr) (c1 : Nat) (d : Int → Int), e = .returned (.tuple #[.slice A1 way.length c1, .bool true]) ∧ Kd.R kStep 123 w' w.heap.size (fun _ => True) (.slice A1 way.length c1) way ∧ WayP l L s t d way ∧ way.length ≤ M)
theorem rd_inj {N : List Int} (h : N.Nodup) {i j : Nat} (hi : i < N.length) (hj : j < N.length) (e : rd N (i : Int) = rd N (j : Int)) : i = j := by
 rw [rd_get hi, rd_get hj] at e
 have hp := List.pairwise_iff_getElem.1 h
 rcases Nat.lt_trichotomy i j with g | g | g
 ·exact absurd e (hp i j hi hj g)
 ·exact g
 ·exact absurd e.symm (hp j i hj hi g)
theorem noway_of {l : List Arc} {L : List Stp} {M : Nat} {s t : Int} {N : List Int} {B : List Stp} (h : Sg l L M s N B) (hc : Cl l L N N.length 0) (ht : ∀ j : Nat, j < N.length → rd N (j : Int) ≠ t) : NoWay l L M s t :=
 ⟨N, by have := rd_mem (N := N) (j := 0) h.pos; rwa [show ((0 : Nat) : Int) = 0 from rfl, h.hd] at this, fun hm => by
  obtain ⟨j, hj, e⟩ := mem_rd hm
  exact ht j hj e, fun x hx hm => by
  obtain ⟨j, hj, e⟩ := mem_rd hm
  exact hc.1 j hj x hx e.symm⟩
theorem chain_front {l : List Arc} {x : Stp} {W : List Stp} {v t : Int} (h0 : 0 ≤ x.f0) (h1 : tgt l x = v) (h : Chain (frOf l) (toOf l) v (W.reverse.map toSt) t) : Chain (frOf l) (toOf l) (src l x) ((W ++ [x]).reverse.map toSt) t := by
 rw [List.reverse_append]
 show Chain (frOf l) (toOf l) (src l x) (toSt x :: W.reverse.map toSt) t
 exact ⟨src_st x h0, by rw [tgt_st x h0, h1]; exact h⟩
theorem twoOk {md : Region.Mode} {ops : Array Oper} {i j : Nat} {l : Array Bool} (h : (Region.ready md ops l == [i, j]) = true) : (Region.ready md ops l == [i, j] && l.setIfInBounds i true == l.setIfInBounds i true && l.setIfInBounds j true == l.setIfInBounds j true) = true := by
 rw [h]
 simp
structure WaI (w : World) (gf : Nat) (cn : Array Value) (N : List Int) (B : List Stp) (A1 : Option Addr) (c1 : Nat) (A2 : Option Addr) (c2 : Nat) (W : World) : Prop where
 bn : W.heap[w.heap.size]? = some (.cells cn 27 (0, 0))
 bf : W.heap[gf]? = some (.cells #[.slice A1 N.length c1, .slice A2 B.length c2] 119 (0, 0))
 r1 : Kd.R (Kd.int .i64) 3 W w.heap.size (fun k => k < gf) (.slice A1 N.length c1) N
 r2 : Kd.R kStep 123 W w.heap.size (fun k => k < gf) (.slice A2 B.length c2) B
 ge : w.heap.size < gf
 low : Below w.heap.size w W
 lt : gf < W.heap.size
section
variable {w W W1 : World} {gf : Nat} {cn : Array Value} {N : List Int} {B : List Stp} {A1 : Option Addr} {c1 : Nat} {A2 : Option Addr} {c2 : Nat}
theorem WaI.below (h : WaI w gf cn N B A1 c1 A2 c2 W) (hb : Below W.heap.size W W1) : WaI w gf cn N B A1 c1 A2 c2 W1 := ⟨blk_below h.bn hb, blk_below h.bf hb, Kd.R_below h.r1 hb, Kd.R_below h.r2 hb, h.ge, below_step h.low hb, Nat.lt_of_lt_of_le h.lt hb.size⟩
theorem WaI.start {w1 w2 : World} (hx : w1.heap[w.heap.size]? = some (.cells cn 27 (0, 0))) (hb1 : Below w.heap.size w w1) (hr1 : Kd.R (Kd.int .i64) 3 w2 w1.heap.size (fun _ => True) (.slice A1 N.length c1) N) (hr2 : Kd.R kStep 123 w2 w1.heap.size (fun _ => True) (.slice A2 B.length c2) B) (hb : Below w1.heap.size w1 w2) :
  WaI w w2.heap.size cn N B A1 c1 A2 c2 (w2.alloc (.cells #[.slice A1 N.length c1, .slice A2 B.length c2] 119)) where
 bn := blk_alloc (blk_below hx hb) _
 bf := heap_alloc_new _ _
 r1 := Kd.R_alloc (Kd.R_lower (Kd.R_mono (Kd.R_bound hr1) (fun k hk => hk.2.2.1)) hb1.size) _
 r2 := Kd.R_alloc (Kd.R_lower (Kd.R_mono (Kd.R_bound hr2) (fun k hk => hk.2.2.1)) hb1.size) _
 ge := Nat.lt_of_lt_of_le (blk_lt hx) hb.size
 low := below_alloc (below_step hb1 hb) _
 lt := by rw [alloc_size]; omega
theorem WaI.drew (h : WaI w gf cn N B A1 c1 A2 c2 W) : WaI w gf cn N B A1 c1 A2 c2 W.drew := ⟨blk_drew h.bn, blk_drew h.bf, Kd.R_drew h.r1, Kd.R_drew h.r2, h.ge, below_drew1 h.low, h.lt⟩
theorem WaI.grown (h : WaI w gf cn N B A1 c1 A2 c2 W) {row : Option Nat} (hg : W.grownBy W1 row) (hr : ∀ k, row = some k → gf < k) (hb : Below w.heap.size w W1) : WaI w gf cn N B A1 c1 A2 c2 W1 :=
 ⟨blk_grown h.bn hg (fun e => by have := hr _ e.symm; have := h.ge; omega), blk_grown h.bf hg (fun e => by have := hr _ e.symm; omega), Kd.R_grown h.r1 hg (fun k hk e => by have := hr _ e.symm; omega), Kd.R_grown h.r2 hg (fun k hk e => by have := hr _ e.symm; omega), h.ge, hb, Nat.lt_of_lt_of_le h.lt hg.size⟩
theorem WaI.set (h : WaI w gf cn N B A1 c1 A2 c2 W) {p : Addr} (hp : gf < p.block) (v : Value) : WaI w gf cn N B A1 c1 A2 c2 (W.setCell p v) :=
 ⟨blk_far h.bn (by have := h.ge; omega) v, blk_far h.bf (by omega) v, Kd.R_far h.r1 (fun k hk => by omega) v, Kd.R_far h.r2 (fun k hk => by omega) v, h.ge, h.low.setCell (by have := h.ge; omega) v, by rw [show (W.setCell p v).heap.size = W.heap.size from by simp]; exact h.lt⟩
end
set_option maxHeartbeats 4000000 in
set_option maxRecDepth 100000 in
theorem way_walk (n : Int) (b : Bool) (A : Option Addr) (c : Nat) (l : List Arc) (s t : Int) (As : Option Addr) (cs : Nat) (L : List Stp) (M : Nat) (w : World) (hr : Kd.C k57 w A l.length l) (hL : Kd.C kStep w As L.length L)
  (hin : ∀ x, x ∈ L → (0 ≤ x.f0 ∧ x.f0 < (l.length : Int)) ∧ 0 ≤ tgt l x ∧ tgt l x < M) (h0 : 0 ≤ s) (h1 : s < M) (hm : M ≤ 10000) (hl : L.length ≤ 400000) :
  Calls Tryz.prog 39 #[.agg #[.int .i64 n, .bool b, .slice A l.length c], .int .i64 s, .int .i64 t, .slice As L.length cs] w (WayAt l L M s t w) := by
 have hu := Tryz.underlying27
 have hu2 := Tryz.underlying123
 have hu3 := Tryz.underlying119
 have HR := zh hr
 have HIN := zh hin
 have HSO : Hid (∀ W, Below w.heap.size w W → Calls Tryz.prog 59 #[.agg #[.int .i64 n, .bool b, .slice A l.length c], .int .i64 s, .slice As L.length cs] W (SoughtAt l L M s W)) := zh (fun W hW => sought_walk n b A c l s As cs L M W (Kd.C_below hr hW) (Kd.C_below hL hW) hin h0 h1 hm hl)
 clear hr hL hin h0 h1 hl
 go_enter Tryz.func39, Tryz.ntmps39
 obtain ⟨w1, hw1⟩ : ∃ w1, w1 = w.alloc (.cells #[.int .i64 n, .bool b, .slice A l.length c] 27) := ⟨_, rfl⟩
 have HB1 : Hid (Below w.heap.size w w1) := zh (by rw [hw1]; exact below_alloc (Below.refl _ _) _)
 have HX1 : Hid (w1.heap[w.heap.size]? = some (.cells #[.int .i64 n, .bool b, .slice A l.length c] 27 (0, 0))) := zh (by rw [hw1]; exact heap_alloc_new _ _)
 go_wp2_with (first
  |(go_at_call 59; go_loud ((rw [← hw1]; refine (HSO.out _ HB1.out).mono ?_; rintro e w2 ⟨N, B, A1, c1, A2, c2, rfl, hr1, hr2, hsg, hcl, hb⟩; have HN := zh (And.intro hsg hcl); have HI : Hid (WaI w w2.heap.size #[.int .i64 n, .bool b, .slice A l.length c] N B A1 c1 A2 c2 (w2.alloc (.cells #[.slice A1 N.length c1, .slice A2 B.length c2] 119))) := zh (WaI.start HX1.out HB1.out hr1 hr2 hb); clear hr1 hr2 hsg hcl hb)))
  |(go_at_call 60; go_loud ((refine (rhas_walk A1 c1 N (.slice A2 B.length c2) A2 B.length c2 rfl t _ (Kd.R_reads' HI.out.r1).2.2 (by have := HN.out.1.le; omega)).mono ?_; rintro e w3 ⟨r, rfl, hP, hb⟩; have HI3 := zh (HI.out.below hb); have HP := zh hP; clear hP hb HI; have r9 : -1 ≤ r ∧ r ≤ 1000000 := (by have h9 := HN.out.1.le; rcases HP.out with ⟨h, _⟩ | ⟨k, h, h2, _⟩ <;> omega)))))
 ·have hz : r < 0 := by assumption
  go_ret2
  refine ⟨HI3.out.low, .inl ⟨rfl, noway_of HN.out.1 HN.out.2 ?_⟩⟩
  rcases HP.out with ⟨_, h⟩ | ⟨k, h, _⟩
  ·exact h
  ·omega
 obtain ⟨j0, hj0, e0⟩ : ∃ j : Nat, j < N.length ∧ rd N (j : Int) = t := by
  rcases HP.out with ⟨h, _⟩ | ⟨k, _, h2, h3⟩
  ·omega
  ·exact ⟨k, h2, h3⟩
 obtain ⟨d, hd0, hd⟩ := HN.out.1.tree
 have HD := zh hd
 have HJ0 := zh (And.intro hj0 e0)
 have hNM := HN.out.1.le
 have HLEN := zh HN.out.1.len
 have hhd := zh HN.out.1.hd
 clear hd hd0 hj0 e0
 generalize w2.heap.size = gf at HI3 ⊢
 go_loopg [11, 12] (j0 + 1) (fun k bv vv W => ∃ (j : Nat) (Wy : List Stp) (Ab : Option Addr) (cb : Nat), j < N.length ∧ bv = .slice Ab Wy.length cb ∧ vv = .int .i64 (rd N (j : Int)) ∧ k = j + 1 ∧ Wy.length + j ≤ N.length ∧ Hid (WaI w gf #[.int .i64 n, .bool b, .slice A l.length c] N B A1 c1 A2 c2 W ∧ Kd.R kStep 123 W w.heap.size (fun k => gf < k) (.slice Ab Wy.length cb) Wy ∧ WayP l L (rd N (j : Int)) t d Wy.reverse))
 case atStart => exact ⟨j0, [], none, 0, HJ0.out.1, rfl, by rw [HJ0.out.2], rfl, by have := HJ0.out.1; show 0 + j0 ≤ N.length; omega, zh ⟨HI3.out, Kd.R_nil _ _ _ _ _, fun x hx => (nomatch hx), HJ0.out.2⟩⟩
 case round =>
  obtain ⟨j, Wy, Ab, cb, hjl, rfl, rfl, rfl, hwl, HL⟩ := hrel
  clear HI3
  by_cases hs : rd N (j : Int) = s
  ·have t1 : (rd N (j : Int) == s) = true := beq_iff_eq.2 hs
   have t2 : (rd N (j : Int) != s) = false := by simpa using hs
   have HS := zh hs
   clear hs
   have hwn : Wy.length ≤ 1000000 := by omega
   go_wp2
   have HWP := zh HL.out.2.2
   have HRB := zh (Kd.R_mono (Kd.R_bound HL.out.2.1) (ok' := fun k => k < wr.heap.size) (fun k hk => hk.2.2.1))
   have HLOW := zh HL.out.1.low
   obtain ⟨gm, hgm⟩ : ∃ gm, gm = wr.heap.size := ⟨_, rfl⟩
   rw [← hgm] at HRB
   have HGM := zh (Nat.le_of_eq hgm)
   clear hgm
   go_loopg [14, 15] (Wy.length + 1) (fun k ov iv W => ∃ (m : Nat) (Ao : Option Addr) (co : Nat), m ≤ Wy.length ∧ ov = .slice Ao m co ∧ iv = .int .i64 ((Wy.length : Int) - 1 - m) ∧ k = Wy.length + 1 - m ∧ Hid (Kd.R kStep 123 W w.heap.size (fun k => k < gm) (.slice Ab Wy.length cb) Wy ∧ Kd.R kStep 123 W w.heap.size (fun k => gm ≤ k) (.slice Ao m co) (Wy.reverse.take m) ∧ gm ≤ W.heap.size ∧ Below w.heap.size w W))
   case atStart => exact ⟨0, none, 0, Nat.zero_le _, rfl, by first | rfl | go_num | simp, rfl, zh ⟨HRB.out, Kd.R_nil _ _ _ _ _, HGM.out, HLOW.out⟩⟩
   case round =>
    clear HL HRB HLOW HGM
    obtain ⟨m, Ao, co, hmW, rfl, rfl, rfl, HL⟩ := hrel
    by_cases hmw : m < Wy.length
    ·obtain ⟨q, hq⟩ : ∃ q : Nat, q = Wy.length - 1 - m := ⟨_, rfl⟩
     have hq2 : (Wy.length : Int) - 1 - m = (q : Int) := by omega
     have hqw : q < Wy.length := by omega
     rw [hq2]
     have q0 : (0 : Int) ≤ (q : Int) := by omega
     have q1 : (q : Int) < (Wy.length : Int) := by omega
     obtain ⟨ad, ea, y0, y1⟩ := at_T123 (Kd.R_reads' HL.out.1).2.2 (q : Int) q0 q1
     subst ea
     rw [Int.toNat_natCast] at y0 y1
     obtain ⟨x, hx⟩ : ∃ x, x = stAt Wy q := ⟨_, rfl⟩
     have hx0 : (rd_T123 Wy (q : Int)) = x := by rw [hx]; unfold rd_T123 stAt; rw [Int.toNat_natCast]; rfl
     rw [hx0] at y0 y1
     have HXR : Hid (Wy.reverse.take m ++ [x] = Wy.reverse.take (m + 1)) := zh (by
      rw [take_pushS (by rw [List.length_reverse]; exact hmw), hx]
      congr 2
      unfold stAt
      rw [List.getD_eq_getElem?_getD, List.getD_eq_getElem?_getD, List.getElem?_eq_getElem hqw, List.getElem?_eq_getElem (by rw [List.length_reverse]; exact hmw), List.getElem_reverse]
      simp only [hq])
     have HQ2 := zh (And.intro hq hq2)
     clear hx hx0 hq hq2
     go_wp2_with ((with_reducible refine gate_dst (N := 55) rfl ?_); go_loud (refine Kd.R_append kStep (w0 := w) w.heap.size rfl (.tmp 49) (.tmp 54) 88 123 (.agg #[.int .i64 0, .bool false]) 16 rfl Tryz.underlying88 info123 rfl (by decide) (by decide) (.slice Ao m co) (Wy.reverse.take m) x [.int .i64 x.f0, .bool x.f1] (fun k => gm ≤ k) (fun _ => False) rfl ?aX ?aP (fun _ hk => hk.elim) ?aF ?aO ?aB ?aS ?aL ?_); (case aX => first | rfl | (simp; done) | (simp; rfl)); (case aP => exact k123_mkM _ _ _ x); (case aF => exact fun k hk => Nat.le_trans HL.out.2.2.1 hk); (case aO => exact HL.out.2.1); (case aB => exact HL.out.2.2.2); (case aS => exact HL.out.2.2.2.size); (case aL => rw [List.length_take, List.length_reverse]; omega); go_loud ((intro v1 w9 ho hb hg hat; rw [HXR.out] at ho; obtain ⟨Aon, con, e9⟩ := Kd.R_slice ho; rw [show (Wy.reverse.take (m + 1)).length = m + 1 by rw [List.length_take, List.length_reverse]; omega] at e9; subst e9; have HN9 := zh (And.intro (Kd.R_grown HL.out.1 hg (fun k hk e => by have := HL.out.2.1.1 _ e.symm; omega)) (And.intro ho (And.intro (Nat.le_trans HL.out.2.2.1 hg.size) hb))); clear ho hb hg hat y0 y1)))
     have hq3 := HQ2.out
     go_roundg (Wy.length + 1 - (m + 1))
     case measure => omega
     case rel => exact ⟨m + 1, Aon, con, by omega, by go_num, by first | (congr 1; omega) | (rw [show (Wy.length : Int) - 1 - ((m + 1 : Nat) : Int) = (q : Int) - 1 by omega]; done) | (rw [show (Wy.length : Int) - 1 - ((m + 1 : Nat) : Int) = (q : Int) - 1 by omega]; go_num), rfl, HN9⟩
    ·have hm9 : m = Wy.length := by omega
     have hq2 : (Wy.length : Int) - 1 - m = -1 := by omega
     rw [hq2]
     have HM9 := zh hm9
     clear hm9 hq2
     go_wp2
     go_ret2
     have hm9 := HM9.out
     have hlr : (Wy.reverse).length = m := by rw [List.length_reverse, hm9]
     have htk : Wy.reverse.take m = Wy.reverse := List.take_of_length_le (by omega)
     have hr9 := HL.out.2.1
     rw [htk] at hr9
     exact ⟨HL.out.2.2.2, .inr ⟨Wy.reverse, Ao, co, d, by rw [hlr]; rfl, by rw [hlr]; exact Kd.R_mono hr9 (fun _ _ => trivial), by rw [← HS.out]; exact HWP.out, by omega⟩⟩
  ·have t1 : (rd N (j : Int) == s) = false := beq_eq_false_iff_ne.2 hs
   have t2 : (rd N (j : Int) != s) = true := bne_iff_ne.2 hs
   have hj1 : 0 < j := by
    rcases Nat.eq_zero_or_pos j with h | h
    ·rw [h] at hs
     exact absurd hhd.out hs
    ·exact h
   obtain ⟨hxL, hxt, i', hi', hxs, hxd⟩ := HD.out j hj1 hjl
   obtain ⟨x, hx⟩ : ∃ x, x = stAt B j := ⟨_, rfl⟩
   rw [← hx] at hxL hxt hxs
   have HX := zh (And.intro hxL (And.intro hxt (And.intro hi' (And.intro hxs hxd))))
   have HXB := zh (HIN.out x hxL)
   clear hs hxL hxt hi' hxs hxd
   go_wp2
   obtain ⟨ad, ea, y0, y1⟩ := at_T123 (Kd.C_drew (Kd.R_reads' HL.out.1.r2).2.2) (j : Int) (by omega) (by have := HLEN.out; omega)
   subst ea
   rw [Int.toNat_natCast] at y0 y1
   have hx0 : (rd_T123 B (j : Int)) = x := by rw [hx]; unfold rd_T123 stAt; rw [Int.toNat_natCast]; rfl
   rw [hx0] at y0 y1
   clear hx hx0
   have x0 : wr.drew.cell? ⟨gf, 0, none⟩ = some (.slice A1 N.length c1) := (blk_cell (blk_drew HL.out.1.bf) 0).trans rfl
   have x1 : wr.drew.cell? ⟨gf, 1, none⟩ = some (.slice (some ad) B.length c2) := (blk_cell (blk_drew HL.out.1.bf) 1).trans rfl
   have jb : (0 : Int) ≤ (j : Int) := by omega
   have jb2 : (j : Int) < (B.length : Int) := by have := HLEN.out; omega
   refine stepS (S := fun w' => w'.cell? ⟨gf, 0, none⟩ = some (.slice A1 N.length c1) ∧ w'.cell? ⟨gf, 1, none⟩ = some (.slice (some ad) B.length c2) ∧ w'.cell? (ad.add (j * 2)) = some (.int .i64 x.f0) ∧ w'.cell? ⟨(ad.add (j * 2)).block, (ad.add (j * 2)).off + 1, none⟩ = some (.bool x.f1)) (ds := [8]) 9 (by kernel_rfl) rfl ⟨x0, x1, y0, y1⟩ (fun hHeld => ?_)
   have HI9 := zh HL.out.1.drew
   have RB9 := zh (Kd.R_mono (Kd.R_bound (Kd.R_drew HL.out.2.1)) (ok' := fun k => gf < k ∧ k < wr.drew.heap.size) (fun k hk => ⟨hk.1, hk.2.2.1⟩))
   generalize wr.drew = w5 at HI9 RB9 hHeld ⊢
   clear x0 x1 y0 y1
   refine sP 0 ?_
   refine sT 1 hHeld ?_
   refine sT 2 hHeld ?_
   refine sP 3 ?_
   refine two_ (i := 4) (j := 7) (Ni := some 32) (Nj := some 13) _ _ rfl rfl rfl rfl (twoOk (by kernel_rfl)) (by decide) (by decide) ?_ ?_
   ·intro K hK
    refine goes_ Tryz.func60 (by kernel_rfl) rfl #[.agg #[.slice A1 N.length c1, .slice (some ad) B.length c2], .int .i64 (rd N (j : Int))] (by rfl) rfl rfl (by (try simp only [List.map_toArray, List.map_cons, List.map_nil]); rfl) ?_
    refine (rhas_walk A1 c1 N (.slice (some ad) B.length c2) (some ad) B.length c2 rfl (rd N (j : Int)) _ (Kd.R_reads' HI9.out.r1).2.2 (by have := HLEN.out; omega)).mono ?_
    rintro e w6 ⟨r, rfl, hP, hb⟩
    refine ⟨_, rfl, ?_⟩
    obtain rfl : r = (j : Int) := by
     rcases hP with ⟨_, h⟩ | ⟨k, rfl, h2, h3⟩
     ·exact absurd rfl (h j hjl)
     ·rw [rd_inj HN.out.1.nd h2 hjl h3]
    clear hP
    have HI8 := zh (HI9.out.below hb)
    have RB8 := zh (Kd.R_below RB9.out hb)
    have HS8 := zh hb.size
    refine hK.out _ _ ⟨pw_cell_below hb hHeld.1, pw_cell_below hb hHeld.2.1, pw_cell_below hb hHeld.2.2.1, pw_cell_below hb hHeld.2.2.2⟩ (fun hH2 => ?_)
    clear hK K hHeld hb HI9 RB9
    have hHeld := hH2
    clear hH2
    refine sN ?_
    refine sP 5 ?_
    refine sT 6 hHeld ?_
    refine stepEi 7 (N := some 13) rfl rfl (by kernel_rfl) (by decide) (fun K hK => ?_)
    refine value_ (w1 := ?_) (v := ?_) (by rfl) rfl ?_ ?_
    rotate_left 2
    ·go_simp
     constructor
     ·rfl
     ·rfl
    have hb := below_alloc (Below.refl w6.heap.size w6) (.cells #[.int .i64 0, .bool false] 123 (0, 0))
    refine hK.out _ _ ⟨pw_cell_below hb hHeld.1, pw_cell_below hb hHeld.2.1, pw_cell_below hb hHeld.2.2.1, pw_cell_below hb hHeld.2.2.2⟩ (fun hH2 => ?_)
    have HXZ : Hid ((w6.alloc (.cells #[.int .i64 0, .bool false] 123 (0, 0))).heap[w6.heap.size]? = some (.cells #[.int .i64 0, .bool false] 123 (0, 0))) := zh (heap_alloc_new _ _)
    have HWZ := zh (HI8.out.below hb)
    have RBZ := zh (Kd.R_below RB8.out hb)
    have GG : Hid (gf < w6.heap.size ∧ w5.heap.size ≤ w6.heap.size) := zh ⟨HI8.out.lt, HS8.out⟩
    clear hK K hHeld hH2 hb HI8 RB8 HS8
    refine sN ?_
    generalize (w6.alloc (.cells #[.int .i64 0, .bool false] 123 (0, 0))) = wz at HXZ HWZ RBZ ⊢
    generalize w6.heap.size = gs at HXZ GG ⊢
    have q0 : wz.cell? ⟨gs, 0, none⟩ = some (.int .i64 0) := (blk_cell HXZ.out 0).trans rfl
    have q1 : wz.cell? ⟨gs, 1, none⟩ = some (.bool false) := (blk_cell HXZ.out 1).trans rfl
    have q2 : wz.frozen? ⟨gs, 0, none⟩ = false := blk_frozen HXZ.out 0
    have q3 : wz.frozen? ⟨gs, 1, none⟩ = false := blk_frozen HXZ.out 1
    refine stepLi 8 (N := none) rfl rfl (by kernel_rfl) (by decide) (fun K hK => ?_)
    refine skip_ (w1 := ?_) (by rfl) rfl ?_ ?_
    rotate_left
    ·go_simp
     rfl
    refine hK.out _ _ ?_
    clear hK K q0 q1 q2 q3
    have HW1 := zh ((HWZ.out.set (p := ⟨gs, 0, none⟩) GG.out.1 (.int .i64 x.f0)).set (p := ⟨gs, 1, none⟩) GG.out.1 (.bool x.f1))
    have HX1 : Hid (((wz.setCell ⟨gs, 0, none⟩ (.int .i64 x.f0)).setCell ⟨gs, 1, none⟩ (.bool x.f1)).heap[gs]? = some (.cells #[.int .i64 x.f0, .bool x.f1] 123 (0, 0))) := zh (blk_put (cs := #[.int .i64 x.f0, .bool false]) (blk_put (cs := #[.int .i64 0, .bool false]) HXZ.out 0 _ rfl) 1 _ rfl)
    have HRB := zh (Kd.R_mono (Kd.R_far (p := ⟨gs, 1, none⟩) (Kd.R_far (p := ⟨gs, 0, none⟩) RBZ.out (fun k hk => by have := GG.out.2; have := hk.2; show k ≠ gs; omega) (.int .i64 x.f0)) (fun k hk => by have := GG.out.2; have := hk.2; show k ≠ gs; omega) (.bool x.f1)) (ok' := fun k => gf < k) (fun k hk => hk.1))
    generalize (wz.setCell ⟨gs, 0, none⟩ (.int .i64 x.f0)).setCell ⟨gs, 1, none⟩ (.bool x.f1) = wy at HW1 HX1 HRB ⊢
    have NEQ : Hid (some gs ≠ (Value.slice Ab Wy.length cb).ownBlock) := zh (fun e => by have := (RBZ.out.1 _ e.symm).2; have := GG.out.2; omega)
    clear HXZ HWZ RBZ
    refine done_ (by kernel_rfl) ?_
    have p0 : wy.cell? ⟨gs, 0, none⟩ = some (.int .i64 x.f0) := (blk_cell HX1.out 0).trans rfl
    have p1 : wy.cell? ⟨gs, 1, none⟩ = some (.bool x.f1) := (blk_cell HX1.out 1).trans rfl
    go_wp2_with (first
     |((with_reducible refine gate_dst (N := 38) rfl ?_); go_loud (refine Kd.R_append kStep (w0 := w) w.heap.size rfl (.tmp 35) (.tmp 37) 88 123 (.agg #[.int .i64 0, .bool false]) 16 rfl Tryz.underlying88 info123 rfl (by decide) (by decide) (.slice Ab Wy.length cb) Wy x [.int .i64 x.f0, .bool x.f1] (fun k => gf < k) (fun _ => False) rfl ?aX ?aP (fun _ hk => hk.elim) ?aF ?aO ?aB ?aS ?aL ?_); (case aX => first | rfl | (simp; done) | (simp; rfl)); (case aP => exact k123_mkM _ _ _ x); (case aF => exact fun k hk => by have := HW1.out.lt; omega); (case aO => exact HRB.out); (case aB => exact HW1.out.low); (case aS => exact HW1.out.low.size); (case aL => omega); go_loud ((intro v1 w9 ho hb hg hat; obtain ⟨Abn, cbn, e9⟩ := Kd.R_slice ho; rw [show (Wy ++ [x]).length = Wy.length + 1 by rw [List.length_append]; rfl] at e9; subst e9; have HW2 := zh (HW1.out.grown hg (fun k hk => HRB.out.1 k hk) hb); have HX2 := zh (blk_grown HX1.out hg NEQ.out); have HR2 := zh ho; clear ho hb hg hat HW1 HX1 HRB p0 p1; have p0 : w9.cell? ⟨gs, 0, none⟩ = some (.int .i64 x.f0) := (blk_cell HX2.out 0).trans rfl; have p1 : w9.cell? ⟨gs, 1, none⟩ = some (.bool x.f1) := (blk_cell HX2.out 1).trans rfl; have n0 : w9.cell? ⟨w.heap.size, 0, none⟩ = some (.int .i64 n) := (blk_cell HW2.out.bn 0).trans rfl; have n1 : w9.cell? ⟨w.heap.size, 1, none⟩ = some (.bool b) := (blk_cell HW2.out.bn 1).trans rfl; have n2 : w9.cell? ⟨w.heap.size, 2, none⟩ = some (.slice A l.length c) := (blk_cell HW2.out.bn 2).trans rfl)))
     |(go_at_call 61; go_loud ((refine (rfrom_walk n b A c l x _ (Kd.C_below HR.out HW2.out.low) HXB.out.1.1 HXB.out.1.2).mono ?_; rintro e w10 ⟨rfl, hb⟩; have HW3 := zh (HW2.out.below hb); have HR3 := zh (Kd.R_below HR2.out hb); clear hb HW2 HR2 HX2 p0 p1 n0 n1 n2))))
    obtain ⟨hxL, hxt, hi', hxs, hxd⟩ := HX.out
    have el : (Wy ++ [x]).length = Wy.length + 1 := by rw [List.length_append]; rfl
    go_roundg (i' + 1)
    case measure => omega
    case rel => exact ⟨i', Wy ++ [x], Abn, cbn, by omega, by rw [el], by rw [hxs], rfl, by rw [el]; omega, zh ⟨HW3.out, by rw [el]; exact HR3.out, fun y hy => by
     rcases List.mem_append.1 (List.mem_reverse.1 hy) with h | h
     ·exact HL.out.2.2.1 y (List.mem_reverse.2 h)
     ·obtain rfl := List.mem_singleton.1 h
      exact ⟨hxL, by rw [hxt, hxs, hxd]⟩, by rw [← hxs]; exact chain_front HXB.out.1.1 hxt HL.out.2.2.2⟩⟩
   ·intro K hK
    refine value_ (w1 := ?_) (v := ?_) (by rfl) rfl ?_ ?_
    rotate_left 2
    ·go_simp
     constructor
     ·rfl
     ·rfl
    have hb := below_alloc (Below.refl w5.heap.size w5) (.cells #[.int .i64 0, .bool false] 123 (0, 0))
    refine hK.out _ _ ⟨pw_cell_below hb hHeld.1, pw_cell_below hb hHeld.2.1, pw_cell_below hb hHeld.2.2.1, pw_cell_below hb hHeld.2.2.2⟩ (fun hH2 => ?_)
    have HXZ0 : Hid ((w5.alloc (.cells #[.int .i64 0, .bool false] 123 (0, 0))).heap[w5.heap.size]? = some (.cells #[.int .i64 0, .bool false] 123 (0, 0))) := zh (heap_alloc_new _ _)
    have HI8 := zh (HI9.out.below hb)
    have RB8 := zh (Kd.R_below RB9.out hb)
    have GG : Hid (gf < w5.heap.size ∧ w5.heap.size ≤ w5.heap.size) := zh ⟨HI9.out.lt, Nat.le_refl _⟩
    clear hK K hHeld hb HI9 RB9
    have HI9 := HI8
    have hHeld := hH2
    clear hH2 HI8
    refine sN ?_
    refine stepEi 4 (N := some 32) rfl rfl (by kernel_rfl) (by decide) (fun K hK => ?_)
    refine goes_ Tryz.func60 (by kernel_rfl) rfl #[.agg #[.slice A1 N.length c1, .slice (some ad) B.length c2], .int .i64 (rd N (j : Int))] (by rfl) rfl rfl (by (try simp only [List.map_toArray, List.map_cons, List.map_nil]); rfl) ?_
    refine (rhas_walk A1 c1 N (.slice (some ad) B.length c2) (some ad) B.length c2 rfl (rd N (j : Int)) _ (Kd.R_reads' HI9.out.r1).2.2 (by have := HLEN.out; omega)).mono ?_
    rintro e w6 ⟨r, rfl, hP, hb⟩
    refine ⟨_, rfl, ?_⟩
    obtain rfl : r = (j : Int) := by
     rcases hP with ⟨_, h⟩ | ⟨k, rfl, h2, h3⟩
     ·exact absurd rfl (h j hjl)
     ·rw [rd_inj HN.out.1.nd h2 hjl h3]
    clear hP
    have HWZ := zh (HI9.out.below hb)
    have RBZ := zh (Kd.R_below RB8.out hb)
    have HXZ := zh (blk_below HXZ0.out hb)
    refine hK.out _ _ ⟨pw_cell_below hb hHeld.1, pw_cell_below hb hHeld.2.1, pw_cell_below hb hHeld.2.2.1, pw_cell_below hb hHeld.2.2.2⟩ (fun hH2 => ?_)
    clear hK K hHeld hb HI9 RB8 HXZ0
    have hHeld := hH2
    clear hH2
    refine sN ?_
    refine sP 5 ?_
    refine sT 6 hHeld ?_
    generalize w5.heap.size = gs at HXZ GG RBZ ⊢
    have q0 : w6.cell? ⟨gs, 0, none⟩ = some (.int .i64 0) := (blk_cell HXZ.out 0).trans rfl
    have q1 : w6.cell? ⟨gs, 1, none⟩ = some (.bool false) := (blk_cell HXZ.out 1).trans rfl
    have q2 : w6.frozen? ⟨gs, 0, none⟩ = false := blk_frozen HXZ.out 0
    have q3 : w6.frozen? ⟨gs, 1, none⟩ = false := blk_frozen HXZ.out 1
    refine stepLi 8 (N := none) rfl rfl (by kernel_rfl) (by decide) (fun K hK => ?_)
    refine skip_ (w1 := ?_) (by rfl) rfl ?_ ?_
    rotate_left
    ·go_simp
     rfl
    refine hK.out _ _ ?_
    clear hK K q0 q1 q2 q3
    have HW1 := zh ((HWZ.out.set (p := ⟨gs, 0, none⟩) GG.out.1 (.int .i64 x.f0)).set (p := ⟨gs, 1, none⟩) GG.out.1 (.bool x.f1))
    have HX1 : Hid (((w6.setCell ⟨gs, 0, none⟩ (.int .i64 x.f0)).setCell ⟨gs, 1, none⟩ (.bool x.f1)).heap[gs]? = some (.cells #[.int .i64 x.f0, .bool x.f1] 123 (0, 0))) := zh (blk_put (cs := #[.int .i64 x.f0, .bool false]) (blk_put (cs := #[.int .i64 0, .bool false]) HXZ.out 0 _ rfl) 1 _ rfl)
    have HRB := zh (Kd.R_mono (Kd.R_far (p := ⟨gs, 1, none⟩) (Kd.R_far (p := ⟨gs, 0, none⟩) RBZ.out (fun k hk => by have := GG.out.2; have := hk.2; show k ≠ gs; omega) (.int .i64 x.f0)) (fun k hk => by have := GG.out.2; have := hk.2; show k ≠ gs; omega) (.bool x.f1)) (ok' := fun k => gf < k) (fun k hk => hk.1))
    generalize (w6.setCell ⟨gs, 0, none⟩ (.int .i64 x.f0)).setCell ⟨gs, 1, none⟩ (.bool x.f1) = wy at HW1 HX1 HRB ⊢
    have NEQ : Hid (some gs ≠ (Value.slice Ab Wy.length cb).ownBlock) := zh (fun e => by have := (RBZ.out.1 _ e.symm).2; have := GG.out.2; omega)
    clear HXZ HWZ RBZ
    refine done_ (by kernel_rfl) ?_
    have p0 : wy.cell? ⟨gs, 0, none⟩ = some (.int .i64 x.f0) := (blk_cell HX1.out 0).trans rfl
    have p1 : wy.cell? ⟨gs, 1, none⟩ = some (.bool x.f1) := (blk_cell HX1.out 1).trans rfl
    go_wp2_with (first
     |((with_reducible refine gate_dst (N := 38) rfl ?_); go_loud (refine Kd.R_append kStep (w0 := w) w.heap.size rfl (.tmp 35) (.tmp 37) 88 123 (.agg #[.int .i64 0, .bool false]) 16 rfl Tryz.underlying88 info123 rfl (by decide) (by decide) (.slice Ab Wy.length cb) Wy x [.int .i64 x.f0, .bool x.f1] (fun k => gf < k) (fun _ => False) rfl ?aX ?aP (fun _ hk => hk.elim) ?aF ?aO ?aB ?aS ?aL ?_); (case aX => first | rfl | (simp; done) | (simp; rfl)); (case aP => exact k123_mkM _ _ _ x); (case aF => exact fun k hk => by have := HW1.out.lt; omega); (case aO => exact HRB.out); (case aB => exact HW1.out.low); (case aS => exact HW1.out.low.size); (case aL => omega); go_loud ((intro v1 w9 ho hb hg hat; obtain ⟨Abn, cbn, e9⟩ := Kd.R_slice ho; rw [show (Wy ++ [x]).length = Wy.length + 1 by rw [List.length_append]; rfl] at e9; subst e9; have HW2 := zh (HW1.out.grown hg (fun k hk => HRB.out.1 k hk) hb); have HX2 := zh (blk_grown HX1.out hg NEQ.out); have HR2 := zh ho; clear ho hb hg hat HW1 HX1 HRB p0 p1; have p0 : w9.cell? ⟨gs, 0, none⟩ = some (.int .i64 x.f0) := (blk_cell HX2.out 0).trans rfl; have p1 : w9.cell? ⟨gs, 1, none⟩ = some (.bool x.f1) := (blk_cell HX2.out 1).trans rfl; have n0 : w9.cell? ⟨w.heap.size, 0, none⟩ = some (.int .i64 n) := (blk_cell HW2.out.bn 0).trans rfl; have n1 : w9.cell? ⟨w.heap.size, 1, none⟩ = some (.bool b) := (blk_cell HW2.out.bn 1).trans rfl; have n2 : w9.cell? ⟨w.heap.size, 2, none⟩ = some (.slice A l.length c) := (blk_cell HW2.out.bn 2).trans rfl)))
     |(go_at_call 61; go_loud ((refine (rfrom_walk n b A c l x _ (Kd.C_below HR.out HW2.out.low) HXB.out.1.1 HXB.out.1.2).mono ?_; rintro e w10 ⟨rfl, hb⟩; have HW3 := zh (HW2.out.below hb); have HR3 := zh (Kd.R_below HR2.out hb); clear hb HW2 HR2 HX2 p0 p1 n0 n1 n2))))
    obtain ⟨hxL, hxt, hi', hxs, hxd⟩ := HX.out
    have el : (Wy ++ [x]).length = Wy.length + 1 := by rw [List.length_append]; rfl
    go_roundg (i' + 1)
    case measure => omega
    case rel => exact ⟨i', Wy ++ [x], Abn, cbn, by omega, by rw [el], by rw [hxs], rfl, by rw [el]; omega, zh ⟨HW3.out, by rw [el]; exact HR3.out, fun y hy => by
     rcases List.mem_append.1 (List.mem_reverse.1 hy) with h | h
     ·exact HL.out.2.2.1 y (List.mem_reverse.2 h)
     ·obtain rfl := List.mem_singleton.1 h
      exact ⟨hxL, by rw [hxt, hxs, hxd]⟩, by rw [← hxs]; exact chain_front HXB.out.1.1 hxt HL.out.2.2.2⟩⟩
attribute [local go_sem] min2_int
set_option linter.unusedVariables false
set_option linter.unusedSimpArgs false
def BottleAt (l : List Arc) (f : List Int) (way : List Stp) (w : World) (e : Ending) (w' : World) : Prop := ∃ r : Int, e = .returned (.int .i64 r) ∧ (∀ x, x ∈ way → r ≤ rmv l f x) ∧ (∃ x, x ∈ way ∧ r = rmv l f x) ∧ Below w.heap.size w w'
set_option maxHeartbeats 4000000 in
set_option maxRecDepth 100000 in
theorem bottle_walk (M : Nat) (n : Int) (b : Bool) (A : Option Addr) (c : Nat) (l : List Arc) (Af : Option Addr) (cf : Nat) (f : List Int) (Aw : Option Addr) (cw : Nat) (way : List Stp) (w : World) (hn : NetOk M l) (hf : FlowOk l f) (hr : Kd.C k57 w A l.length l) (hF : Kd.C (Kd.int .i64) w Af f.length f) (hW : Kd.C kStep w Aw way.length way) (hin : ∀ x, x ∈ way → 0 ≤ x.f0 ∧ x.f0 < (l.length : Int)) (h0 : 0 < way.length) (hwl : way.length ≤ 1000000) :
  Calls Tryz.prog 42 #[.agg #[.int .i64 n, .bool b, .slice A l.length c], .slice Af f.length cf, .slice Aw way.length cw] w (BottleAt l f way w) := by
 have hu := Tryz.underlying27
 have hu2 := Tryz.underlying123
 have HR := zh hr
 have HF := zh hF
 have HWA := zh hW
 have HIN := zh hin
 clear hr hF hW hin
 go_enter Tryz.func42, Tryz.ntmps42
 obtain ⟨w1, hw1⟩ : ∃ w1, w1 = w.alloc (.cells #[.int .i64 n, .bool b, .slice A l.length c] 27) := ⟨_, rfl⟩
 have HX : Hid (w1.heap[w.heap.size]? = some (.cells #[.int .i64 n, .bool b, .slice A l.length c] 27 (0, 0)) ∧ Below w.heap.size w w1) := zh (by rw [hw1]; exact ⟨heap_alloc_new _ _, below_alloc (Below.refl _ _) _⟩)
 go_wp2
 rw [← hw1]
 clear hw1
 have h00 : (0 : Int) < (way.length : Int) := by omega
 obtain ⟨ad, ea, y0, y1⟩ := at_T123 (Kd.C_drew (Kd.C_below HWA.out HX.out.2)) 0 (Int.le_refl 0) h00
 subst ea
 obtain ⟨x, hx0⟩ : ∃ x, x = rd_T123 way 0 := ⟨_, rfl⟩
 rw [← hx0] at y0 y1
 have hxm : x ∈ way := by
  rw [hx0]
  unfold rd_T123
  exact getD_mem h0 _
 have hx := HIN.out x hxm
 have HXM := zh hxm
 have HB9 := zh (And.intro (blk_drew HX.out.1) (below_drew1 HX.out.2))
 have x0 : w1.drew.cell? ⟨w.heap.size, 0, none⟩ = some (.int .i64 n) := (blk_cell HB9.out.1 0).trans rfl
 have x1 : w1.drew.cell? ⟨w.heap.size, 1, none⟩ = some (.bool b) := (blk_cell HB9.out.1 1).trans rfl
 have x2 : w1.drew.cell? ⟨w.heap.size, 2, none⟩ = some (.slice A l.length c) := (blk_cell HB9.out.1 2).trans rfl
 have HX0 : Hid (stAt way 0 = x) := zh (by rw [hx0]; rfl)
 clear hx0 hxm
 refine stepS (S := fun w' => w'.cell? ⟨w.heap.size, 0, none⟩ = some (.int .i64 n) ∧ w'.cell? ⟨w.heap.size, 1, none⟩ = some (.bool b) ∧ w'.cell? ⟨w.heap.size, 2, none⟩ = some (.slice A l.length c) ∧ w'.cell? ad = some (.int .i64 x.f0) ∧ w'.cell? ⟨ad.block, ad.off + 1, none⟩ = some (.bool x.f1)) (ds := [5]) 7 (by kernel_rfl) rfl ⟨x0, x1, x2, y0, y1⟩ (fun hHeld => ?_)
 generalize w1.drew = wd at HB9 hHeld ⊢
 clear x0 x1 x2 y0 y1
 refine sT 0 hHeld ?_
 refine sP 1 ?_
 refine sP 2 ?_
 refine sP 3 ?_
 refine sT 4 hHeld ?_
 refine stepLi 5 (N := some 14) rfl rfl (by kernel_rfl) (by decide) (fun K hK => ?_)
 refine goes_ Tryz.func62 (by kernel_rfl) rfl #[.agg #[.int .i64 n, .bool b, .slice A l.length c], .slice Af f.length cf, .agg #[.int .i64 x.f0, .bool x.f1]] (by rfl) rfl rfl (by (try simp only [List.map_toArray, List.map_cons, List.map_nil]); rfl) ?_
 refine (rleft_walk n b A c l Af cf f x _ (Kd.C_below HR.out HB9.out.2) (Kd.C_below HF.out HB9.out.2) hx.1 hx.2 (by rw [hf.len]; exact hx.2) (room_ok hn hf hx.1 hx.2)).mono ?_
 rintro e w5 ⟨rfl, hb⟩
 refine ⟨_, rfl, ?_⟩
 have HB8 := zh (And.intro (blk_below HB9.out.1 hb) (below_step HB9.out.2 hb))
 refine hK.out _ _ ?_
 clear hK K hHeld hb HB9
 refine sN ?_
 refine sP 6 ?_
 refine done_ (by kernel_rfl) ?_
 go_wp2
 go_loopg [7, 8] (way.length - 1) (fun k kv iv W => ∃ (i : Nat) (z : Int), (1 ≤ i ∧ i ≤ way.length) ∧ kv = .int .i64 z ∧ iv = .int .i64 i ∧ k = way.length - i ∧ (0 ≤ z ∧ z ≤ 1099511627776) ∧ Hid (W.heap[w.heap.size]? = some (.cells #[.int .i64 n, .bool b, .slice A l.length c] 27 (0, 0)) ∧ Below w.heap.size w W ∧ (∀ j : Nat, j < i → z ≤ rmv l f (stAt way j)) ∧ ∃ y, y ∈ way ∧ z = rmv l f y))
 case atStart => exact ⟨1, rmv l f x, ⟨Nat.le_refl _, h0⟩, rfl, rfl, rfl, room_ok hn hf hx.1 hx.2, zh ⟨HB8.out.1, HB8.out.2, fun j hj => by
  obtain rfl : j = 0 := by omega
  rw [HX0.out]
  exact Int.le_refl _, x, HXM.out, rfl⟩⟩
 case round =>
  clear HB8 HXM HX0 hx
  obtain ⟨i, z, hi, rfl, rfl, rfl, hz, HL⟩ := hrel
  by_cases d1 : i < way.length
  ·have i0 : (0 : Int) ≤ (i : Int) := by omega
   have i1 : (i : Int) < (way.length : Int) := by omega
   go_wp2
   obtain ⟨ad2, ea, y0, y1⟩ := at_T123 (Kd.C_drew (Kd.C_below HWA.out HL.out.2.1)) (i : Int) i0 i1
   injection ea with ea
   subst ea
   rw [Int.toNat_natCast] at y0 y1
   obtain ⟨x, hx0⟩ : ∃ x, x = stAt way i := ⟨_, rfl⟩
   have hx1 : (rd_T123 way (i : Int)) = x := by rw [hx0]; unfold rd_T123 stAt; rw [Int.toNat_natCast]; rfl
   rw [hx1] at y0 y1
   have hxm : x ∈ way := by rw [hx0]; exact getD_mem d1 _
   have hx := HIN.out x hxm
   have hrx := room_ok hn hf hx.1 hx.2
   have HXM := zh (And.intro hxm hx0)
   have HB9 := zh (And.intro (blk_drew HL.out.1) (below_drew1 HL.out.2.1))
   have x0 : wr.drew.cell? ⟨w.heap.size, 0, none⟩ = some (.int .i64 n) := (blk_cell HB9.out.1 0).trans rfl
   have x1 : wr.drew.cell? ⟨w.heap.size, 1, none⟩ = some (.bool b) := (blk_cell HB9.out.1 1).trans rfl
   have x2 : wr.drew.cell? ⟨w.heap.size, 2, none⟩ = some (.slice A l.length c) := (blk_cell HB9.out.1 2).trans rfl
   clear hx0 hx1 hxm
   refine stepS (S := fun w' => w'.cell? ⟨w.heap.size, 0, none⟩ = some (.int .i64 n) ∧ w'.cell? ⟨w.heap.size, 1, none⟩ = some (.bool b) ∧ w'.cell? ⟨w.heap.size, 2, none⟩ = some (.slice A l.length c) ∧ w'.cell? (ad.add (i * 2)) = some (.int .i64 x.f0) ∧ w'.cell? ⟨(ad.add (i * 2)).block, (ad.add (i * 2)).off + 1, none⟩ = some (.bool x.f1)) (ds := [7]) 10 (by kernel_rfl) rfl ⟨x0, x1, x2, y0, y1⟩ (fun hHeld => ?_)
   generalize wr.drew = wd at HB9 hHeld ⊢
   clear x0 x1 x2 y0 y1
   refine sP 0 ?_
   refine sT 1 hHeld ?_
   refine sP 2 ?_
   refine sP 3 ?_
   refine sP 4 ?_
   refine sP 5 ?_
   refine sT 6 hHeld ?_
   refine stepLi 7 (N := some 28) rfl rfl (by kernel_rfl) (by decide) (fun K hK => ?_)
   refine goes_ Tryz.func62 (by kernel_rfl) rfl #[.agg #[.int .i64 n, .bool b, .slice A l.length c], .slice Af f.length cf, .agg #[.int .i64 x.f0, .bool x.f1]] (by rfl) rfl rfl (by (try simp only [List.map_toArray, List.map_cons, List.map_nil]); rfl) ?_
   refine (rleft_walk n b A c l Af cf f x _ (Kd.C_below HR.out HB9.out.2) (Kd.C_below HF.out HB9.out.2) hx.1 hx.2 (by rw [hf.len]; exact hx.2) (room_ok hn hf hx.1 hx.2)).mono ?_
   rintro e w5 ⟨rfl, hb⟩
   refine ⟨_, rfl, ?_⟩
   have HB8 := zh (And.intro (blk_below HB9.out.1 hb) (below_step HB9.out.2 hb))
   refine hK.out _ _ ?_
   clear hK K hHeld hb HB9
   refine sN ?_
   obtain ⟨rx, hrx9⟩ : ∃ rx, rx = rmv l f x := ⟨_, rfl⟩
   rw [← hrx9] at hrx ⊢
   have HRX := zh hrx9
   clear hrx9
   refine sP 8 ?_
   refine sP 9 ?_
   refine done_ (by kernel_rfl) ?_
   go_wp2
   go_roundg (way.length - (i + 1))
   case measure => omega
   case rel => exact ⟨i + 1, min z rx, by omega, rfl, by go_num, by omega, by omega, zh ⟨HB8.out.1, HB8.out.2, fun j hj => by
    rcases Nat.lt_or_eq_of_le (Nat.le_of_lt_succ hj) with g | rfl
    ·have := HL.out.2.2.1 j g
     omega
    ·rw [← HXM.out.2, ← HRX.out]
     omega, by
    rcases Int.le_total z rx with g | g
    ·rw [Int.min_eq_left g]
     exact HL.out.2.2.2
    ·rw [Int.min_eq_right g]
     exact ⟨x, HXM.out.1, HRX.out⟩⟩⟩
  ·have e : i = way.length := by omega
   have d2 : ¬ (i : Int) < (way.length : Int) := by omega
   have HE := zh e
   clear e
   go_wp2
   go_ret
   exact ⟨z, rfl, fun y hy => by
    obtain ⟨j, hj, e2⟩ := List.mem_iff_getElem.1 hy
    have := HL.out.2.2.1 j (by rw [HE.out]; exact hj)
    unfold stAt at this
    rw [List.getD_eq_getElem?_getD, List.getElem?_eq_getElem hj, e2] at this
    exact this, HL.out.2.2.2, HL.out.2.1⟩
end Go.Proofs.YtdfagllncopmjaaGreat.H
end
section
namespace Go.Proofs.YtdfagllncopmjaaGreat.H
open Go Go.RowKit Go.Proofs.YtdfagllncopmjaaGreat.PrintC Go.Proofs.YtdfagllncopmjaaGreatW.PrintWords Go.Proofs.YtdfagllncopmjaaGreatW.PrintLast Go.Proofs.YtdfagllncopmjaaGreatW.PrintMore Go.Proofs.YtdfagllncopmjaaGreat.Flow
set_option linter.unusedVariables false
set_option linter.unusedSimpArgs false
def PushedAt (g : List Int) (w : World) (e : Ending) (w' : World) : Prop := ∃ (A1 : Option Addr) (c1 : Nat), e = .returned (.slice A1 g.length c1) ∧ Kd.R (Kd.int .i64) 3 w' w.heap.size (fun _ => True) (.slice A1 g.length c1) g ∧ Below w.heap.size w w'
theorem int_elem {W : World} {base g n c : Nat} {ok : Nat → Prop} {f : List Int} (h : Kd.R (Kd.int .i64) 3 W base ok (.slice (some ⟨g, 0, none⟩) n c) f) (a : Int) (h0 : 0 ≤ a) (h1 : a < n) :
  W.cell? ⟨g, a.toNat, none⟩ = some (.int .i64 (rd f a)) ∧ W.frozen? ⟨g, a.toNat, none⟩ = false ∧ ∀ v : Int, Kd.R (Kd.int .i64) 3 (W.setCell ⟨g, a.toNat, none⟩ (.int .i64 v)) base ok (.slice (some ⟨g, 0, none⟩) n c) (f.set a.toNat v) := by
 obtain ⟨ce, hcl, hM, hcc, hfr⟩ := Kd.R_elem h 0 a h0 h1
 obtain rfl : ce = [.int .i64 (f.getD a.toNat 0)] := hM
 have h2 := hcc 0 _ rfl
 have h3 := hfr 0
 simp only [show (Kd.int .i64).sz = 1 from rfl, Nat.mul_one, Nat.add_zero] at h2 h3
 refine ⟨h2, h3, fun v => ?_⟩
 have h4 := (Kd.R_seg h a h0 h1 (seg := [.int .i64 v]) (j := 0) hcl hcc (show 1 ≤ 1 from by decide) (x' := v) rfl (okp := fun _ => False) (fun _ hk => hk.elim)).1
 simp only [World.setCells, show (Kd.int .i64).sz = 1 from rfl, Nat.mul_one, Nat.add_zero] at h4
 exact h4
set_option maxHeartbeats 4000000 in
set_option maxRecDepth 100000 in
theorem pushed_walk (l : List Arc) (Af : Option Addr) (cf : Nat) (f : List Int) (Aw : Option Addr) (cw : Nat) (way : List Stp) (k : Int) (w : World) (hF : Kd.C (Kd.int .i64) w Af f.length f) (hW : Kd.C kStep w Aw way.length way) (hin : ∀ x, x ∈ way → 0 ≤ x.f0 ∧ x.f0 < (f.length : Int)) (hwl : way.length ≤ 1000000) (hfl : f.length ≤ 1000000) (hk : 0 ≤ k ∧ k ≤ 1099511627776)
  (hok : ∀ j, j ≤ way.length → ∀ a : Int, 0 ≤ a → a < f.length → 0 ≤ rd (goL f (way.take j) k) a ∧ rd (goL f (way.take j) k) a ≤ 1099511627776) :
  Calls Tryz.prog 41 #[.slice Af f.length cf, .slice Aw way.length cw, .int .i64 k] w (PushedAt (goL f way k) w) := by
 have hu2 := Tryz.underlying123
 have HF := zh hF
 have HWA := zh hW
 have HIN := zh hin
 have HOK := zh hok
 clear hF hW hin hok
 go_enter Tryz.func41, Tryz.ntmps41
 go_wp2_with ((with_reducible refine gate_builtin (b := .append) (xs := #[.tmp 9, .tmp 10]) rfl ?_); (try (refine gate_guard (by rfl) ?_; dsimp only)); at_builtin; go_loud (refine Kd.R_append_rows (Kd.int .i64) (w0 := w) w.heap.size rfl (.tmp 9) (.tmp 10) 60 3 (.int .i64 0) 8 rfl Tryz.underlying60 infoInt rfl (by decide) (by decide) (.slice none 0 0) ([] : List Int) f _ _ _ (fun _ => True) (fun _ => False) rfl rfl ?aO ?aR (fun _ _ h => h) (fun _ h => h.elim) ?aF ?aB ?aS ?aL ?_); (case aR => exact HF.out); (case aB => exact Below.refl _ _); (case aF => exact fun _ _ => trivial); (case aO => exact Kd.R_nil _ _ _ _ _); (case aS => exact Nat.le_refl _); (case aL => show (0 + f.length) * 8 ≤ 140737488355328; omega); go_loud ((intro v1 w1 ho hb hg hat; rw [List.nil_append] at ho; obtain ⟨A1, c1, rfl⟩ := Kd.R_slice ho; have HO := zh (And.intro ho hb); clear ho hb hg hat)))
 go_loopg [8] way.length (fun k' iv W => ∃ i : Nat, i ≤ way.length ∧ iv = .int .i64 i ∧ k' = way.length - i ∧ Hid (Kd.R (Kd.int .i64) 3 W w.heap.size (fun _ => True) (.slice A1 f.length c1) (goL f (way.take i) k) ∧ Below w.heap.size w W))
 case atStart => exact ⟨0, Nat.zero_le _, rfl, rfl, HO⟩
 case round =>
  obtain ⟨i, hi, rfl, rfl, HL⟩ := hrel
  clear HO
  by_cases d1 : i < way.length
  ·have i0 : (0 : Int) ≤ (i : Int) := by omega
   have i1 : (i : Int) < (way.length : Int) := by omega
   obtain ⟨ad, ea, y0, y1⟩ := at_T123 (Kd.C_below HWA.out HL.out.2) (i : Int) i0 i1
   subst ea
   rw [Int.toNat_natCast] at y0 y1
   obtain ⟨x, hx0⟩ : ∃ x, x = stAt way i := ⟨_, rfl⟩
   have hx1 : (rd_T123 way (i : Int)) = x := by rw [hx0]; unfold rd_T123 stAt; rw [Int.toNat_natCast]; rfl
   rw [hx1] at y0 y1
   have hxm : x ∈ way := by rw [hx0]; exact getD_mem d1 _
   have hx := HIN.out x hxm
   obtain ⟨g, hg⟩ : ∃ g, g = goL f (way.take i) k := ⟨_, rfl⟩
   have hgl : g.length = f.length := by rw [hg]; exact goL_len k _ f
   have HGS0 : Hid (goL f (way.take (i + 1)) k = goF g x k) := zh (by rw [take_pushS d1, goL_snoc, ← hg, hx0]; rfl)
   have hfb := HOK.out i hi x.f0 hx.1 hx.2
   have hfb2 := HOK.out (i + 1) d1 x.f0 hx.1 hx.2
   rw [HGS0.out] at hfb2
   have HL2 := HL
   rw [← hg] at HL hfb
   clear hx0 hx1 hxm HL2
   have HGL := zh hgl
   have hx2 : x.f0 < (f.length : Int) := hx.2
   obtain ⟨go, co, eo, hge, _⟩ := Kd.R_form HL.out.1 (by omega)
   rw [hgl] at eo
   injection eo with e1 _ e3
   subst e1 e3
   have HGO := zh hge
   have q0 := (int_elem HL.out.1 x.f0 hx.1 hx2).1
   obtain ⟨fv, hfv⟩ : ∃ fv, fv = rd g x.f0 := ⟨_, rfl⟩
   rw [← hfv] at q0 hfb
   have hsame : rd (goF g x k) x.f0 = if x.f1 = true then fv - k else fv + k := by
    unfold goF
    rw [← hfv]
    unfold rd
    rw [List.getD_eq_getElem?_getD, List.getElem?_set_self (by omega)]
    rfl
   rw [hsame] at hfb2
   have HGF : Hid (goF g x k = g.set x.f0.toNat (if x.f1 = true then fv - k else fv + k)) := zh (by unfold goF; rw [hfv])
   clear hg hgl hge hfv hsame
   obtain ⟨xa, xb⟩ := x
   cases xb with
   |true =>
    have hfb2 : 0 ≤ fv - k ∧ fv - k ≤ 1099511627776 := hfb2
    have HGS : Hid (goL f (way.take (i + 1)) k = g.set xa.toNat (fv - k)) := zh (HGS0.out.trans HGF.out)
    clear HGS0 HGF
    have y0 : wr.cell? (ad.add (i * 2)) = some (.int .i64 xa) := y0
    have y1 : wr.cell? ⟨(ad.add (i * 2)).block, (ad.add (i * 2)).off + 1, none⟩ = some (.bool true) := y1
    have q0 : wr.cell? ⟨go, xa.toNat, none⟩ = some (.int .i64 fv) := q0
    have xa0 : 0 ≤ xa := hx.1
    have xa1 : xa < (f.length : Int) := hx2
    go_wp2
    refine stepS (S := fun w' => w'.cell? (ad.add (i * 2)) = some (.int .i64 xa) ∧ w'.cell? ⟨go, xa.toNat, none⟩ = some (.int .i64 fv)) (ds := [17]) 18 (by kernel_rfl) rfl ⟨by simpa using y0, by simpa using q0⟩ (fun hHeld => ?_)
    have HG := zh (And.intro (Kd.R_drew HL.out.1) (And.intro (below_drew1 HL.out.2) (int_elem (Kd.R_drew HL.out.1) xa xa0 xa1).2.2))
    have q1 := (int_elem (Kd.R_drew HL.out.1) xa xa0 xa1).2.1
    generalize wr.drew = wd at HG hHeld q0 q1 ⊢
    clear y0 y1
    refine sP 0 ?_
    refine sP 1 ?_
    refine sP 2 ?_
    refine sP 3 ?_
    refine sP 4 ?_
    refine sT 5 hHeld ?_
    refine sP 6 ?_
    refine sP 7 ?_
    refine sP 8 ?_
    refine sP 9 ?_
    refine sP 10 ?_
    refine sT 11 hHeld ?_
    refine sP 12 ?_
    refine sT 13 hHeld ?_
    refine sP 14 ?_
    refine sP 15 ?_
    refine sP 16 ?_
    refine stepLi 17 (N := none) rfl rfl (by kernel_rfl) (by decide) (fun K hK => ?_)
    refine skip_ (w1 := ?_) (by rfl) rfl ?_ ?_
    rotate_left
    ·go_simp
     rfl
    refine hK.out _ _ ?_
    clear hK K hHeld
    refine done_ (by kernel_rfl) ?_
    have HG2 := zh (And.intro (HG.out.2.2 (fv - k)) (below_set HG.out.2.1 HGO.out (j := xa.toNat) (v := .int .i64 (fv - k))))
    clear HG q0 q1
    go_wp2
    go_roundg (way.length - (i + 1))
    case measure => omega
    case rel => exact ⟨i + 1, by omega, by go_num, rfl, zh ⟨by rw [HGS.out]; exact HG2.out.1, HG2.out.2⟩⟩
   |false =>
    have hfb2 : 0 ≤ fv + k ∧ fv + k ≤ 1099511627776 := hfb2
    have HGS : Hid (goL f (way.take (i + 1)) k = g.set xa.toNat (fv + k)) := zh (HGS0.out.trans HGF.out)
    clear HGS0 HGF
    have y0 : wr.cell? (ad.add (i * 2)) = some (.int .i64 xa) := y0
    have y1 : wr.cell? ⟨(ad.add (i * 2)).block, (ad.add (i * 2)).off + 1, none⟩ = some (.bool false) := y1
    have q0 : wr.cell? ⟨go, xa.toNat, none⟩ = some (.int .i64 fv) := q0
    have xa0 : 0 ≤ xa := hx.1
    have xa1 : xa < (f.length : Int) := hx2
    go_wp2
    refine stepS (S := fun w' => w'.cell? (ad.add (i * 2)) = some (.int .i64 xa) ∧ w'.cell? ⟨go, xa.toNat, none⟩ = some (.int .i64 fv)) (ds := [17]) 18 (by kernel_rfl) rfl ⟨by simpa using y0, by simpa using q0⟩ (fun hHeld => ?_)
    have HG := zh (And.intro (Kd.R_drew HL.out.1) (And.intro (below_drew1 HL.out.2) (int_elem (Kd.R_drew HL.out.1) xa xa0 xa1).2.2))
    have q1 := (int_elem (Kd.R_drew HL.out.1) xa xa0 xa1).2.1
    generalize wr.drew = wd at HG hHeld q0 q1 ⊢
    clear y0 y1
    refine sP 0 ?_
    refine sP 1 ?_
    refine sP 2 ?_
    refine sP 3 ?_
    refine sP 4 ?_
    refine sT 5 hHeld ?_
    refine sP 6 ?_
    refine sP 7 ?_
    refine sP 8 ?_
    refine sP 9 ?_
    refine sP 10 ?_
    refine sT 11 hHeld ?_
    refine sP 12 ?_
    refine sT 13 hHeld ?_
    refine sP 14 ?_
    refine sP 15 ?_
    refine sP 16 ?_
    refine stepLi 17 (N := none) rfl rfl (by kernel_rfl) (by decide) (fun K hK => ?_)
    refine skip_ (w1 := ?_) (by rfl) rfl ?_ ?_
    rotate_left
    ·go_simp
     rfl
    refine hK.out _ _ ?_
    clear hK K hHeld
    refine done_ (by kernel_rfl) ?_
    have HG2 := zh (And.intro (HG.out.2.2 (fv + k)) (below_set HG.out.2.1 HGO.out (j := xa.toNat) (v := .int .i64 (fv + k))))
    clear HG q0 q1
    go_wp2
    go_roundg (way.length - (i + 1))
    case measure => omega
    case rel => exact ⟨i + 1, by omega, by go_num, rfl, zh ⟨by rw [HGS.out]; exact HG2.out.1, HG2.out.2⟩⟩
  ·have e : i = way.length := by omega
   have d2 : ¬ (i : Int) < (way.length : Int) := by omega
   have HE := zh e
   clear e
   go_wp2
   go_ret
   have h9 := HL.out.1
   rw [HE.out, List.take_of_length_le (Nat.le_refl _)] at h9
   have hgl := goL_len k way f
   exact ⟨A1, c1, by rw [hgl]; rfl, by rw [hgl]; exact h9, HL.out.2⟩
theorem wayOk_of {M : Nat} {l : List Arc} {f : List Int} {L : List Stp} {s t : Nat} {d : Int → Int} {way : List Stp} (hn : NetOk M l) (hL : StP l f l.length L) (h : WayP l L s t d way) : WayOk M l f (fun u => d (u : Int)) s t way := by
 have ha : ∀ x, x ∈ way → (0 ≤ x.f0 ∧ x.f0 < (l.length : Int)) ∧ 0 < rmv l f x := fun x hx => (hL.1 x).1 (h.1 x hx).1
 exact ⟨fun x hx => (ha x hx).1, fun x hx => (ha x hx).2, fun x hx => by
  have h1 := tgt_ok hn (ha x hx).1.1 (ha x hx).1.2
  have h2 := src_ok hn (ha x hx).1.1 (ha x hx).1.2
  show d (((tgt l x).toNat : Nat) : Int) = d (((src l x).toNat : Nat) : Int) + 1
  rw [Int.toNat_of_nonneg h1.1, Int.toNat_of_nonneg h2.1]
  exact (h.1 x hx).2, h.2⟩
theorem nw_closed {M : Nat} {l : List Arc} {f : List Int} {L : List Stp} {s t : Int} (hL : StP l f l.length L) (h : NoWay l L M s t) : ∃ S : Int → Bool, Closed l.length (frOf l) (toOf l) (capOf l) (dOf f) S ∧ S s = true ∧ S t = false := by
 obtain ⟨N, h1, h2, h3⟩ := h
 refine ⟨fun v => decide (v ∈ N), fun i hi => ⟨fun g1 g2 => ?_, fun g1 g2 => ?_⟩, decide_eq_true h1, decide_eq_false h2⟩
 ·have hx : (⟨(i : Int), false⟩ : Stp) ∈ L := (hL.1 _).2 ⟨⟨by show (0 : Int) ≤ (i : Int); omega, by show (i : Int) < (l.length : Int); omega⟩, by
   show 0 < (rd_T57 l (i : Int)).f2 - rd f (i : Int)
   have : rd f (i : Int) < (rd_T57 l (i : Int)).f2 := g2
   omega⟩
  exact decide_eq_true (h3 _ hx (of_decide_eq_true g1))
 ·have hx : (⟨(i : Int), true⟩ : Stp) ∈ L := (hL.1 _).2 ⟨⟨by show (0 : Int) ≤ (i : Int); omega, by show (i : Int) < (l.length : Int); omega⟩, g2⟩
  exact decide_eq_true (h3 _ hx (of_decide_eq_true g1))
theorem top_of {M : Nat} {l : List Arc} {f : List Int} {L : List Stp} {s t : Nat} (hf : FlowOk l f) (hb : Bal l.length (frOf l) (toOf l) M s t (dOf f)) (hL : StP l f l.length L) (h : NoWay l L M s t) : ∃ S : Int → Bool, Top l.length (frOf l) (toOf l) M s t (capOf l) (dOf f) S := by
 obtain ⟨S, h1⟩ := nw_closed hL h
 exact ⟨S, within_of hf, hb, h1⟩
def BestAt (l : List Arc) (M s t : Nat) (w : World) (e : Ending) (w' : World) : Prop := ∃ (f : List Int) (A1 : Option Addr) (c1 : Nat) (S : Int → Bool), e = .returned (.slice A1 f.length c1) ∧ Kd.C (Kd.int .i64) w' A1 f.length f ∧ FlowOk l f ∧ Top l.length (frOf l) (toOf l) M s t (capOf l) (dOf f) S ∧ Below w.heap.size w w'
theorem rsteps_at (M : Nat) (n : Int) (b : Bool) (A : Option Addr) (c : Nat) (l : List Arc) (Af : Option Addr) (cf : Nat) (f : List Int) (m : Nat) (hm : f.length = m) (w : World) (hn : NetOk M l) (hf : FlowOk l f) (hr : Kd.C k57 w A l.length l) (hF : Kd.C (Kd.int .i64) w Af f.length f) :
  Calls Tryz.prog 40 #[.agg #[.int .i64 n, .bool b, .slice A l.length c], .slice Af m cf] w (StepsAt l f w) := by
 subst hm
 exact rsteps_walk M n b A c l Af cf f w hn hf hr hF
theorem bottle_at (M : Nat) (n : Int) (b : Bool) (A : Option Addr) (c : Nat) (l : List Arc) (Af : Option Addr) (cf : Nat) (f : List Int) (m : Nat) (hm : f.length = m) (Aw : Option Addr) (cw : Nat) (way : List Stp) (w : World) (hn : NetOk M l) (hf : FlowOk l f) (hr : Kd.C k57 w A l.length l) (hF : Kd.C (Kd.int .i64) w Af f.length f) (hW : Kd.C kStep w Aw way.length way) (hin : ∀ x, x ∈ way → 0 ≤ x.f0 ∧ x.f0 < (l.length : Int)) (h0 : 0 < way.length) (hwl : way.length ≤ 1000000) :
  Calls Tryz.prog 42 #[.agg #[.int .i64 n, .bool b, .slice A l.length c], .slice Af m cf, .slice Aw way.length cw] w (BottleAt l f way w) := by
 subst hm
 exact bottle_walk M n b A c l Af cf f Aw cw way w hn hf hr hF hW hin h0 hwl
theorem pushed_at (l : List Arc) (Af : Option Addr) (cf : Nat) (f : List Int) (m : Nat) (hm : f.length = m) (Aw : Option Addr) (cw : Nat) (way : List Stp) (k : Int) (w : World) (hF : Kd.C (Kd.int .i64) w Af f.length f) (hW : Kd.C kStep w Aw way.length way) (hin : ∀ x, x ∈ way → 0 ≤ x.f0 ∧ x.f0 < (f.length : Int)) (hwl : way.length ≤ 1000000) (hfl : f.length ≤ 1000000) (hk : 0 ≤ k ∧ k ≤ 1099511627776)
  (hok : ∀ j, j ≤ way.length → ∀ a : Int, 0 ≤ a → a < f.length → 0 ≤ rd (goL f (way.take j) k) a ∧ rd (goL f (way.take j) k) a ≤ 1099511627776) :
  Calls Tryz.prog 41 #[.slice Af m cf, .slice Aw way.length cw, .int .i64 k] w (PushedAt (goL f way k) w) := by
 subst hm
 exact pushed_walk l Af cf f Aw cw way k w hF hW hin hwl hfl hk hok
set_option maxHeartbeats 4000000 in
set_option maxRecDepth 100000 in
theorem best_walk (M s t : Nat) (n : Int) (b : Bool) (A : Option Addr) (c : Nat) (l : List Arc) (w : World) (hn : NetOk M l) (hcap : ∀ i : Int, 0 ≤ i → i < l.length → 0 ≤ (rd_T57 l i).f2) (hs : s < M) (ht : t < M) (hst : s ≠ t) (hr : Kd.C k57 w A l.length l) :
  Calls Tryz.prog 24 #[.agg #[.int .i64 n, .bool b, .slice A l.length c], .int .i64 s, .int .i64 t] w (BestAt l M s t w) := by
 have HN := zh hn
 have HR := zh hr
 have HZ := zh (zero_flow (n := M) (s := s) (t := t) hcap)
 have HST := zh (And.intro hs (And.intro ht hst))
 have hll := hn.ll
 have hm1 := hn.n1
 clear hn hcap hr hst
 have hu := Tryz.underlying27
 have hmk : ∀ W : World, (Instr.makeSlice 60 (.int .i64 (l.length : Int)) (.int .i64 (l.length : Int))).run Tryz.prog W = .ok (.slice (some ⟨W.heap.size, 0, none⟩) l.length l.length) (W.alloc (.cells (madeCells #[.int .i64 0] l.length) 3)) := fun W => by
  obtain ⟨i0, hi, hz0, hz1, hz2⟩ := info_parts infoInt
  have := run_make (P := Tryz.prog) W 60 3 i0 (.int .i64 0) Tryz.underlying60 hi hz0 .i64 .i64 (l.length : Int) (l.length : Int) (by omega) (by omega) (by rw [hz2]; omega) (by omega)
  rw [hz1, Int.toNat_natCast, Nat.mul_one] at this
  exact this
 go_enter Tryz.func24, Tryz.ntmps24
 obtain ⟨w1, hw1⟩ : ∃ w1, w1 = w.alloc (.cells #[.int .i64 n, .bool b, .slice A l.length c] 27) := ⟨_, rfl⟩
 have hbk := made_blk (w.alloc (.cells #[.int .i64 n, .bool b, .slice A l.length c] 27)) l.length
 obtain ⟨w2, hw2⟩ : ∃ w2, w2 = (w.alloc (.cells #[.int .i64 n, .bool b, .slice A l.length c] 27)).alloc (.cells (madeCells #[.int .i64 0] l.length) 3) := ⟨_, rfl⟩
 rw [← hw2] at hbk
 rw [alloc_size] at hbk
 have HX : Hid (w2.heap[w.heap.size]? = some (.cells #[.int .i64 n, .bool b, .slice A l.length c] 27 (0, 0)) ∧ Below w.heap.size w w2 ∧ Kd.C (Kd.int .i64) w2 (some ⟨w.heap.size + 1, 0, none⟩) (List.replicate l.length (0 : Int)).length (List.replicate l.length (0 : Int))) := zh ⟨by rw [hw2]; exact blk_alloc (heap_alloc_new _ _) _, by rw [hw2]; exact below_alloc (below_alloc (Below.refl _ _) _) _, IntBlk.reads hbk (by rw [List.length_replicate]; omega)⟩
 clear hbk hw1 w1
 go_wp2
 rw [← hw2]
 clear hw2 hmk
 obtain ⟨T, hT⟩ : ∃ T, T = takes l.length (frOf l) (toOf l) (capOf l) (fun v => decide (v = (s : Int))) := ⟨_, rfl⟩
 have HT := zh hT
 clear hT
 generalize w.heap.size + 1 = g0 at HX ⊢
 go_loopg [7] ((T - leaves l.length (frOf l) (toOf l) (dOf (List.replicate l.length (0 : Int))) s).toNat + 1) (fun k fv W => ∃ (f : List Int) (Af : Option Addr) (cf : Nat), fv = .slice Af l.length cf ∧ k = (T - leaves l.length (frOf l) (toOf l) (dOf f) s).toNat + 1 ∧ Hid (W.heap[w.heap.size]? = some (.cells #[.int .i64 n, .bool b, .slice A l.length c] 27 (0, 0)) ∧ Below w.heap.size w W ∧ Kd.C (Kd.int .i64) W Af f.length f ∧ FlowOk l f ∧ Bal l.length (frOf l) (toOf l) M s t (dOf f)))
 case atStart => exact ⟨List.replicate l.length 0, some ⟨g0, 0, none⟩, l.length, rfl, rfl, zh ⟨HX.out.1, HX.out.2.1, HX.out.2.2, HZ.out.1, HZ.out.2⟩⟩
 case round =>
  obtain ⟨f, Af, cf, rfl, rfl, HL⟩ := hrel
  clear HX HZ
  have HFL := zh HL.out.2.2.2.1.len
  go_wp2
  have HB9 := zh (And.intro (blk_drew HL.out.1) (And.intro (below_drew1 HL.out.2.1) (Kd.C_drew HL.out.2.2.1)))
  have x0 : wr.drew.cell? ⟨w.heap.size, 0, none⟩ = some (.int .i64 n) := (blk_cell HB9.out.1 0).trans rfl
  have x1 : wr.drew.cell? ⟨w.heap.size, 1, none⟩ = some (.bool b) := (blk_cell HB9.out.1 1).trans rfl
  have x2 : wr.drew.cell? ⟨w.heap.size, 2, none⟩ = some (.slice A l.length c) := (blk_cell HB9.out.1 2).trans rfl
  refine stepS (S := fun w' => w'.cell? ⟨w.heap.size, 0, none⟩ = some (.int .i64 n) ∧ w'.cell? ⟨w.heap.size, 1, none⟩ = some (.bool b) ∧ w'.cell? ⟨w.heap.size, 2, none⟩ = some (.slice A l.length c)) (ds := [6]) 12 (by kernel_rfl) rfl ⟨x0, x1, x2⟩ (fun hHeld => ?_)
  generalize wr.drew = wd at HB9 hHeld ⊢
  clear x0 x1 x2
  refine sT 0 hHeld ?_
  refine sP 1 ?_
  refine sP 2 ?_
  refine sT 3 hHeld ?_
  refine sP 4 ?_
  refine stepEi 5 (N := some 20) rfl rfl (by kernel_rfl) (by decide) (fun K hK => ?_)
  refine goes_ Tryz.func40 (by kernel_rfl) rfl #[.agg #[.int .i64 n, .bool b, .slice A l.length c], .slice Af l.length cf] (by rfl) rfl rfl (by (try simp only [List.map_toArray, List.map_cons, List.map_nil]); rfl) ?_
  refine (rsteps_at M n b A c l Af cf f l.length HFL.out _ HN.out HL.out.2.2.2.1 (Kd.C_below HR.out HB9.out.2.1) HB9.out.2.2).mono ?_
  rintro e w5 ⟨L, As, cs, rfl, hrL, hst, hb⟩
  refine ⟨_, rfl, ?_⟩
  have HB8 := zh (And.intro (blk_below HB9.out.1 hb) (And.intro (below_step HB9.out.2.1 hb) (Kd.C_below HB9.out.2.2 hb)))
  have HLS := zh (And.intro (Kd.R_reads' hrL).2.2 hst)
  refine hK.out _ _ ⟨pw_cell_below hb hHeld.1, pw_cell_below hb hHeld.2.1, pw_cell_below hb hHeld.2.2⟩ (fun _ => ?_)
  clear hK K hHeld hb HB9 hrL hst
  refine sN ?_
  refine stepLi 6 (N := some 21) rfl rfl (by kernel_rfl) (by decide) (fun K hK => ?_)
  refine goes_ Tryz.func39 (by kernel_rfl) rfl #[.agg #[.int .i64 n, .bool b, .slice A l.length c], .int .i64 s, .int .i64 t, .slice As L.length cs] (by rfl) rfl rfl (by (try simp only [List.map_toArray, List.map_cons, List.map_nil]); rfl) ?_
  refine (way_walk n b A c l s t As cs L M _ (Kd.C_below HR.out HB8.out.2.1) HLS.out.1 (fun x hx => by have h9 := (HLS.out.2.1 x).1 hx; exact ⟨h9.1, tgt_ok HN.out h9.1.1 h9.1.2⟩) (by omega) (by have := HST.out.1; omega) hm1 (by have := HLS.out.2.2; omega)).mono ?_
  rintro e w6 ⟨hb, (⟨rfl, hno⟩ | ⟨way, Aw, cw, d, rfl, hrw, hwp, hwl⟩)⟩
  ·refine ⟨_, rfl, ?_⟩
   have HB7 := zh (And.intro (below_step HB8.out.2.1 hb) (Kd.C_below HB8.out.2.2 hb))
   have HNO := zh hno
   refine hK.out _ _ ?_
   clear hK K hb HB8 hno
   refine sN ?_
   refine sP 7 ?_
   refine sP 8 ?_
   refine sP 9 ?_
   refine sP 10 ?_
   refine sP 11 ?_
   refine done_ (by kernel_rfl) ?_
   go_wp2
   go_ret
   obtain ⟨S, hS⟩ := top_of HL.out.2.2.2.1 HL.out.2.2.2.2 HLS.out.2 HNO.out
   exact ⟨f, Af, cf, S, by rw [HFL.out]; rfl, HB7.out.2, HL.out.2.2.2.1, hS, HB7.out.1⟩
  ·refine ⟨_, rfl, ?_⟩
   have HB7 := zh (And.intro (blk_below HB8.out.1 hb) (And.intro (below_step HB8.out.2.1 hb) (Kd.C_below HB8.out.2.2 hb)))
   have HWY := zh (And.intro (Kd.R_reads' hrw).2.2 (wayOk_of HN.out HLS.out.2 hwp))
   refine hK.out _ _ ?_
   clear hK K hb HB8 hrw hwp
   refine sN ?_
   refine sP 7 ?_
   refine sP 8 ?_
   refine sP 9 ?_
   refine sP 10 ?_
   refine sP 11 ?_
   refine done_ (by kernel_rfl) ?_
   have x0 : w6.cell? ⟨w.heap.size, 0, none⟩ = some (.int .i64 n) := (blk_cell HB7.out.1 0).trans rfl
   have x1 : w6.cell? ⟨w.heap.size, 1, none⟩ = some (.bool b) := (blk_cell HB7.out.1 1).trans rfl
   have x2 : w6.cell? ⟨w.heap.size, 2, none⟩ = some (.slice A l.length c) := (blk_cell HB7.out.1 2).trans rfl
   have hwp0 : 0 < way.length := by
    rcases way with _ | ⟨x, way⟩
    ·have := HWY.out.2.chain
     have h9 : (s : Int) = (t : Int) := this
     exact absurd (Int.ofNat.inj h9) HST.out.2.2
    ·exact Nat.succ_pos _
   go_wp2_with (first
    |(go_at_call 42; go_loud ((refine (bottle_at M n b A c l Af cf f l.length HFL.out Aw cw way _ HN.out HL.out.2.2.2.1 (Kd.C_below HR.out HB7.out.2.1) HB7.out.2.2 HWY.out.1 HWY.out.2.arcs hwp0 (by omega)).mono ?_; rintro e w7 ⟨r, rfl, hr1, hr2, hb⟩; have HBT := zh (And.intro hr1 hr2); have HB6 := zh (And.intro (blk_below HB7.out.1 hb) (And.intro (below_step HB7.out.2.1 hb) (Kd.C_below HB7.out.2.2 hb))); have HW6 := zh (Kd.C_below HWY.out.1 hb); have hr0 : 1 ≤ r ∧ r ≤ 1099511627776 := (by obtain ⟨x, hx, e⟩ := hr2; have h1 := HWY.out.2.room x hx; have h2 := HWY.out.2.arcs x hx; have h3 := room_ok HN.out HL.out.2.2.2.1 h2.1 h2.2; omega); clear hr1 hr2 hb)))
    |(go_at_call 41; go_loud ((refine (pushed_at l Af cf f l.length HFL.out Aw cw way r _ HB6.out.2.2 HW6.out (fun x hx => by rw [HFL.out]; exact HWY.out.2.arcs x hx) (by omega) (by rw [HFL.out]; omega) ⟨by omega, hr0.2⟩ (fun j hj a h1 h2 => by have h3 := push_flow HL.out.2.2.2.1 HWY.out.2 (k := r) (by omega) HBT.out.1 j; have h4 := h3.wit a h1 (by rw [HFL.out] at h2; exact h2); have h5 := HN.out.caps a h1 (by rw [HFL.out] at h2; exact h2); omega)).mono ?_; rintro e w8 ⟨A8, c8, rfl, hr8, hb⟩; have HB5 := zh (And.intro (blk_below HB6.out.1 hb) (And.intro (below_step HB6.out.2.1 hb) (Kd.R_reads' hr8).2.2)); clear hr8 hb))))
   have HPF := zh (push_flow HL.out.2.2.2.1 HWY.out.2 (k := r) (by omega) HBT.out.1 way.length)
   have HPV := zh (push_value HL.out.2.2.2.1 HWY.out.2 (k := r) HST.out.2.2 HL.out.2.2.2.2)
   have hGL : (goL f way r).length = l.length := (goL_len ..).trans HFL.out
   have hnv := HPV.out.2
   have hvt : leaves l.length (frOf l) (toOf l) (dOf f) s + r ≤ T := by
    rw [← hnv, HT.out]
    exact value_top HN.out (by have := HPF.out; rw [List.take_length] at this; exact this) HPV.out.1 HST.out.1 HST.out.2.2
   go_roundg ((T - leaves l.length (frOf l) (toOf l) (dOf (goL f way r)) s).toNat + 1)
   case measure => rw [hnv]; omega
   case rel => exact ⟨goL f way r, A8, c8, by rw [hGL], rfl, zh ⟨HB5.out.1, HB5.out.2.1, HB5.out.2.2, by have := HPF.out; rw [List.take_length] at this; exact this, HPV.out.1⟩⟩
end Go.Proofs.YtdfagllncopmjaaGreat.H
end
section
namespace Go.Proofs.YtdfagllncopmjaaGreat.H
open Go Go.RowKit Go.Proofs.YtdfagllncopmjaaGreat.PrintC Go.Proofs.YtdfagllncopmjaaGreat.PrintE Go.Proofs.YtdfagllncopmjaaGreatW.PrintWords Go.Proofs.YtdfagllncopmjaaGreatW.PrintLast Go.Proofs.YtdfagllncopmjaaGreatW.PrintMore Go.Proofs.YtdfagllncopmjaaGreat.Flow
section
variable {M N N1 : Nat} {l : List Arc} {f : List Int} {L : List Stp} {S : Int → Bool}
theorem chain_in {T : Int → Bool} (hc : Closed l.length (frOf l) (toOf l) (capOf l) (dOf f) T) (hL : StP l f l.length L) : ∀ (way : List Stp) (s t : Int), (∀ x, x ∈ way → x ∈ L) → Chain (frOf l) (toOf l) s (way.map toSt) t → T s = true → T t = true
 |[], s, t, _, h, hs => by
  rw [← show s = t from h]
  exact hs
 |x :: way, s, t, hin, h, hs => by
  obtain ⟨a1, a2⟩ := (hL.1 x).1 (hin x (List.mem_cons_self ..))
  have h1 : sFrom (frOf l) (toOf l) (toSt x) = s := h.1
  have h2 : Chain (frOf l) (toOf l) (sTo (frOf l) (toOf l) (toSt x)) (way.map toSt) t := h.2
  rw [tgt_st x a1.1] at h2
  rw [src_st x a1.1] at h1
  refine chain_in hc hL way _ t (fun y hy => hin y (List.mem_cons_of_mem _ hy)) h2 ?_
  obtain ⟨i, hi⟩ := Int.eq_ofNat_of_zero_le a1.1
  have hc2 := hc i (by omega)
  unfold rmv at a2
  unfold src at h1
  unfold tgt
  rw [hi] at a2 h1 ⊢
  cases hb2 : x.f1 with
  |true =>
   rw [hb2, if_pos rfl] at a2 h1
   rw [if_pos rfl]
   exact hc2.2 (by rw [show toOf l i = s from h1]; exact hs) a2
  |false =>
   rw [hb2] at a2 h1
   simp only [Bool.false_eq_true, if_false] at a2 h1 ⊢
   exact hc2.1 (by rw [show frOf l i = s from h1]; exact hs) (by show rd f (i : Int) < (rd_T57 l (i : Int)).f2; omega)
theorem way_in {u : Nat} {d : Int → Int} {way : List Stp} (hn : NetOk M l) (hN : N < M) (ht : Top l.length (frOf l) (toOf l) M N N1 (capOf l) (dOf f) S) (hL : StP l f l.length L) (h : WayP l L N u d way) : InAll l M N N1 u := fun f2 S2 b1 b2 =>
 chain_in (top_closed (ends_ok hn) ⟨by omega, by omega⟩ ht b2) hL way N u (fun x hx => (h.1 x hx).1) h.2 b2.2.2.2.1
theorem noway_in {u : Nat} (hf : FlowOk l f) (ht : Top l.length (frOf l) (toOf l) M N N1 (capOf l) (dOf f) S) (hL : StP l f l.length L) (h : NoWay l L M N u) : ¬ InAll l M N N1 u := fun hA => by
 obtain ⟨T, h1, h2, h3⟩ := nw_closed hL h
 have hx := hA f (fun v => T v && S v) hf ⟨ht.1, ht.2.1, fun i hi => ⟨fun g1 g2 => ?_, fun g1 g2 => ?_⟩, ?_, ?_⟩
 ·rw [h3] at hx
  cases hx
 ·have g3 := Bool.and_eq_true_iff.1 g1
  exact Bool.and_eq_true_iff.2 ⟨(h1 i hi).1 g3.1 g2, (ht.2.2.1 i hi).1 g3.2 g2⟩
 ·have g3 := Bool.and_eq_true_iff.1 g1
  exact Bool.and_eq_true_iff.2 ⟨(h1 i hi).2 g3.1 g2, (ht.2.2.1 i hi).2 g3.2 g2⟩
 ·show (T N && S N) = true
  rw [h2, ht.2.2.2.1]
  rfl
 ·show (T N1 && S N1) = false
  rw [ht.2.2.2.2, Bool.and_false]
end
end Go.Proofs.YtdfagllncopmjaaGreat.H
end
section
namespace Go.Proofs.YtdfagllncopmjaaGreat.H
open Go Go.RowKit Go.Proofs.YtdfagllncopmjaaGreat.PrintC Go.Proofs.YtdfagllncopmjaaGreatW.PrintWords Go.Proofs.YtdfagllncopmjaaGreatW.PrintLast Go.Proofs.YtdfagllncopmjaaGreatW.PrintMore Go.Proofs.YtdfagllncopmjaaGreat.Flow
set_option linter.unusedVariables false
set_option linter.unusedSimpArgs false
def lv1 (l : List Arc) (f : List Int) (v : Int) (i : Nat) : Int := (if frOf l i = v then dOf f i else 0) - (if toOf l i = v then dOf f i else 0)
theorem lv_is (l : List Arc) (f : List Int) (v : Int) : leaves l.length (frOf l) (toOf l) (dOf f) v = sumN l.length (lv1 l f v) := rfl
set_option maxHeartbeats 4000000 in
set_option maxRecDepth 100000 in
theorem leaves_walk (M : Nat) (n : Int) (b : Bool) (A : Option Addr) (c : Nat) (l : List Arc) (Af : Option Addr) (cf : Nat) (f : List Int) (v : Int) (w : World) (hn : NetOk M l) (hf : FlowOk l f) (hr : Kd.C k57 w A l.length l) (hF : Kd.C (Kd.int .i64) w Af f.length f) :
  Calls Tryz.prog 25 #[.agg #[.int .i64 n, .bool b, .slice A l.length c], .slice Af f.length cf, .int .i64 v] w fun e w' => e = .returned (.int .i64 (leaves l.length (frOf l) (toOf l) (dOf f) v)) ∧ Below w.heap.size w w' := by
 have hu := Tryz.underlying27
 have hu3 := Tryz.underlying57
 have HR := zh hr
 have HF := zh hF
 have HLEN := zh hf.len
 have hll := hn.ll
 rw [lv_is]
 clear hr hF
 go_enter Tryz.func25, Tryz.ntmps25
 obtain ⟨w1, hw1⟩ : ∃ w1, w1 = w.alloc (.cells #[.int .i64 n, .bool b, .slice A l.length c] 27) := ⟨_, rfl⟩
 have HX : Hid (w1.heap[w.heap.size]? = some (.cells #[.int .i64 n, .bool b, .slice A l.length c] 27 (0, 0)) ∧ Below w.heap.size w w1) := zh (by rw [hw1]; exact ⟨heap_alloc_new _ _, below_alloc (Below.refl _ _) _⟩)
 go_wp2
 rw [← hw1]
 clear hw1
 rw [HLEN.out]
 go_loopg [7, 8] l.length (fun k kv iv W => ∃ (i : Nat) (z : Int), i ≤ l.length ∧ kv = .int .i64 z ∧ iv = .int .i64 i ∧ k = l.length - i ∧ (-(i * 1099511627776 : Int) ≤ z ∧ z ≤ i * 1099511627776) ∧ Hid (W.heap[w.heap.size]? = some (.cells #[.int .i64 n, .bool b, .slice A l.length c] 27 (0, 0)) ∧ Below w.heap.size w W ∧ z = sumN i (lv1 l f v)))
 case atStart => exact ⟨0, 0, Nat.zero_le _, rfl, rfl, rfl, by omega, zh ⟨HX.out.1, HX.out.2, rfl⟩⟩
 case round =>
  obtain ⟨i, z, hi, rfl, rfl, rfl, hz, HL⟩ := hrel
  clear HX
  by_cases d1 : i < l.length
  ·have i0 : (0 : Int) ≤ (i : Int) := by omega
   have i1 : (i : Int) < (l.length : Int) := by omega
   have hcap := (hn.caps (i : Int) i0 i1)
   have hfw := (hf.wit (i : Int) i0 i1)
   obtain ⟨ad, ea, y0, y1, y2, y3⟩ := at_T57 (Kd.C_below HR.out HL.out.2.1) (i : Int) i0 i1
   subst ea
   obtain ⟨ae, eb, z0⟩ := Kd.at_int (Kd.C_below HF.out HL.out.2.1) (i : Int) i0 (by rw [HLEN.out]; exact i1)
   subst eb
   rw [Int.toNat_natCast] at y0 y1 z0
   obtain ⟨fv, hfv⟩ : ∃ fv, fv = rd f (i : Int) := ⟨_, rfl⟩
   obtain ⟨p, hp⟩ : ∃ p, p = (rd_T57 l (i : Int)).f0 := ⟨_, rfl⟩
   obtain ⟨q, hq⟩ : ∃ q, q = (rd_T57 l (i : Int)).f1 := ⟨_, rfl⟩
   rw [← hfv] at z0 hfw
   rw [← hp] at y0
   rw [← hq] at y1
   have f0 : 0 ≤ fv ∧ fv ≤ 1099511627776 := by omega
   have x2 : wr.cell? ⟨w.heap.size, 2, none⟩ = some (.slice (some ad) l.length c) := (blk_cell HL.out.1 2).trans rfl
   have G : Hid (lv1 l f v i = (if p = v then fv else 0) - (if q = v then fv else 0)) := zh (by unfold lv1 frOf toOf dOf arcAt; rw [← hp, ← hq, ← hfv])
   clear y2 y3 hcap hfw hfv hp hq
   by_cases ca : p = v
   ·by_cases cb : q = v
    ·have t1 : (p == v) = true := beq_iff_eq.2 ca
     have t2 : (q == v) = true := beq_iff_eq.2 cb
     have G2 := zh (show lv1 l f v i = fv - fv by rw [G.out, if_pos ca, if_pos cb])
     clear ca cb
     go_wp2
     go_roundg (l.length - (i + 1))
     case measure => omega
     case rel => exact ⟨i + 1, ((z + fv) - fv), by omega, by first | rfl | go_num, by go_num, by omega, by have := hz; constructor <;> omega, zh ⟨HL.out.1, HL.out.2.1, by rw [sumN, ← HL.out.2.2, G2.out]; omega⟩⟩
    ·have t1 : (p == v) = true := beq_iff_eq.2 ca
     have t2 : (q == v) = false := beq_eq_false_iff_ne.2 cb
     have G2 := zh (show lv1 l f v i = fv - 0 by rw [G.out, if_pos ca, if_neg cb])
     clear ca cb
     go_wp2
     go_roundg (l.length - (i + 1))
     case measure => omega
     case rel => exact ⟨i + 1, (z + fv), by omega, by first | rfl | go_num, by go_num, by omega, by have := hz; constructor <;> omega, zh ⟨HL.out.1, HL.out.2.1, by rw [sumN, ← HL.out.2.2, G2.out]; omega⟩⟩
   ·by_cases cb : q = v
    ·have t1 : (p == v) = false := beq_eq_false_iff_ne.2 ca
     have t2 : (q == v) = true := beq_iff_eq.2 cb
     have G2 := zh (show lv1 l f v i = 0 - fv by rw [G.out, if_neg ca, if_pos cb])
     clear ca cb
     go_wp2
     go_roundg (l.length - (i + 1))
     case measure => omega
     case rel => exact ⟨i + 1, (z - fv), by omega, by first | rfl | go_num, by go_num, by omega, by have := hz; constructor <;> omega, zh ⟨HL.out.1, HL.out.2.1, by rw [sumN, ← HL.out.2.2, G2.out]; omega⟩⟩
    ·have t1 : (p == v) = false := beq_eq_false_iff_ne.2 ca
     have t2 : (q == v) = false := beq_eq_false_iff_ne.2 cb
     have G2 := zh (show lv1 l f v i = 0 - 0 by rw [G.out, if_neg ca, if_neg cb])
     clear ca cb
     go_wp2
     go_roundg (l.length - (i + 1))
     case measure => omega
     case rel => exact ⟨i + 1, z, by omega, by first | rfl | go_num, by go_num, by omega, by have := hz; constructor <;> omega, zh ⟨HL.out.1, HL.out.2.1, by rw [sumN, ← HL.out.2.2, G2.out]; omega⟩⟩
  ·have e : i = l.length := by omega
   have d2 : ¬ (i : Int) < (l.length : Int) := by omega
   have HE := zh e
   clear e
   go_wp2
   go_ret
   exact ⟨by rw [HL.out.2.2, HE.out]; rfl, HL.out.2.1⟩
end Go.Proofs.YtdfagllncopmjaaGreat.H
end
section
namespace Go.Proofs.YtdfagllncopmjaaGreat.H
open Go Go.RowKit Go.Proofs.YtdfagllncopmjaaGreat.PrintC Go.Proofs.YtdfagllncopmjaaGreat.PrintE Go.Proofs.YtdfagllncopmjaaGreatW.PrintWords Go.Proofs.YtdfagllncopmjaaGreatW.PrintLast Go.Proofs.YtdfagllncopmjaaGreatW.PrintMore Go.Proofs.YtdfagllncopmjaaGreat.Flow
set_option linter.unusedVariables false
set_option linter.unusedSimpArgs false
theorem best_at (M s t : Nat) (sv tv : Int) (hsv : sv = s) (htv : tv = t) (n : Int) (b : Bool) (A : Option Addr) (c : Nat) (l : List Arc) (w : World) (hn : NetOk M l) (hcap : ∀ i : Int, 0 ≤ i → i < l.length → 0 ≤ (rd_T57 l i).f2) (hs : s < M) (ht : t < M) (hst : s ≠ t) (hr : Kd.C k57 w A l.length l) :
  Calls Tryz.prog 24 #[.agg #[.int .i64 n, .bool b, .slice A l.length c], .int .i64 sv, .int .i64 tv] w (BestAt l M s t w) := by
 subst hsv htv
 exact best_walk M s t n b A c l w hn hcap hs ht hst hr
theorem leaves_at (M N : Nat) (v : Int) (hv : v = N) (n : Int) (b : Bool) (A : Option Addr) (c : Nat) (l : List Arc) (Af : Option Addr) (cf : Nat) (f : List Int) (V : Int) (hV : V = leaves l.length (frOf l) (toOf l) (dOf f) N) (w : World) (hn : NetOk M l) (hf : FlowOk l f) (hr : Kd.C k57 w A l.length l) (hF : Kd.C (Kd.int .i64) w Af f.length f) :
  Calls Tryz.prog 25 #[.agg #[.int .i64 n, .bool b, .slice A l.length c], .slice Af f.length cf, .int .i64 v] w fun e w' => e = .returned (.int .i64 V) ∧ Below w.heap.size w w' := by
 subst hv hV
 exact leaves_walk M n b A c l Af cf f N w hn hf hr hF
end Go.Proofs.YtdfagllncopmjaaGreat.H
end
section
namespace Go.Proofs.YtdfagllncopmjaaGreat.H
open Go Go.RowKit Go.Proofs.YtdfagllncopmjaaGreat.PrintC Go.Proofs.YtdfagllncopmjaaGreat.PrintE Go.Proofs.YtdfagllncopmjaaGreatW.PrintWords Go.Proofs.YtdfagllncopmjaaGreatW.PrintLast Go.Proofs.YtdfagllncopmjaaGreatW.PrintMore
theorem appSlot : AppK Tryz.prog kSlot 35 65 (fun x => [.int .i64 x.f0, .int .i64 x.f1]) := ⟨Tryz.underlying35, ⟨_, 16, infoSlot, rfl, by decide, by decide⟩, by decide, k65_mkM⟩
end Go.Proofs.YtdfagllncopmjaaGreat.H
end
section
namespace Go.Proofs.YtdfagllncopmjaaGreat.H
open Go Go.RowKit Go.Proofs.YtdfagllncopmjaaGreat.PrintC Go.Proofs.YtdfagllncopmjaaGreat.PrintE Go.Proofs.YtdfagllncopmjaaGreatW.PrintWords Go.Proofs.YtdfagllncopmjaaGreatW.PrintLast Go.Proofs.YtdfagllncopmjaaGreatW.PrintMore Go.Proofs.YtdfagllncopmjaaGreat.Flow
set_option linter.unusedVariables false
set_option linter.unusedSimpArgs false
def RSlotsAt (X : List Slot) (w : World) (e : Ending) (w' : World) : Prop := ∃ (Ao : Option Addr) (co : Nat), e = .returned (.slice Ao X.length co) ∧ Kd.R kSlot 65 w' w.heap.size (fun _ => True) (.slice Ao X.length co) X ∧ Below w.heap.size w w'
set_option maxHeartbeats 4000000 in
set_option maxRecDepth 100000 in
theorem rslots_walk (n h N N1 M : Nat) (b b2 : Bool) (A : Option Addr) (c k : Nat) (A3 : Option Addr) (c3 : Nat) (E : List Arc) (Af : Option Addr) (cf : Nat) (f : List Int) (T : Int → Bool) (w : World) (hn0 : 0 < n) (hnb : n ≤ 4000) (hhb : h ≤ 4000) (hN : N = (h + 1) * n) (hM : M = N + 2) (hNb : N ≤ 4000) (hE : NetOk M E) (hf : FlowOk E f) (ht : Top E.length (frOf E) (toOf E) M N N1 (capOf E) (dOf f) T) (hr : Kd.C kArc w A3 E.length E) (hF : Kd.C (Kd.int .i64) w Af f.length f) :
  Calls Tryz.prog 30 #[.agg #[.int .i64 n, .bool b, .slice A k c], .int .i64 h, .agg #[.int .i64 M, .bool b2, .slice A3 E.length c3], .slice Af f.length cf] w (RSlotsAt (cutOf n E M N N1) w) := by
 have hu := Tryz.underlying27
 have hu2 := Tryz.underlying65
 have HR := zh hr
 have HF := zh hF
 have HE := zh hE
 have HFO := zh hf
 have HT := zh ht
 have hll := hE.ll
 obtain ⟨D, hD⟩ : ∃ D, D = cutD E M N N1 := ⟨_, rfl⟩
 have HD : Hid (∀ u : Nat, u < N → (0 ≤ rd D (u : Int) ↔ InAll E M N N1 u)) := zh (by rw [hD]; exact fun u hu => cutD_iff hu)
 have HC : Hid (cutOf n E M N N1 = slotsOf n D N) := zh (by rw [hD]; rfl)
 have e1 : IntKind.i64.wrap ((h : Int) + 1) = (h : Int) + 1 := IntWalk.i64_in _ (by omega)
 have e2 : IntKind.i64.wrap (((h : Int) + 1) * (n : Int)) = (N : Int) := by
  have h8 : ((h : Int) + 1) * (n : Int) = (N : Int) := by rw [hN, Int.natCast_mul]; rfl
  rw [h8]
  exact IntWalk.i64_in _ (by omega)
 have e3 : (M : Int) - 2 = (N : Int) := by omega
 have HE3 := zh e3
 have HM := zh hM
 have hMb : M ≤ 5000 := by omega
 have hM2 : 2 ≤ M := by omega
 clear hr hF hE hf ht hN hM e3 hD
 go_enter Tryz.func30, Tryz.ntmps30
 obtain ⟨w1, hw1⟩ : ∃ w1, w1 = (w.alloc (.cells #[.int .i64 n, .bool b, .slice A k c] 27)).alloc (.cells #[.int .i64 M, .bool b2, .slice A3 E.length c3] 27) := ⟨_, rfl⟩
 have HX : Hid (w1.heap[w.heap.size]? = some (.cells #[.int .i64 n, .bool b, .slice A k c] 27 (0, 0)) ∧ w1.heap[w.heap.size + 1]? = some (.cells #[.int .i64 M, .bool b2, .slice A3 E.length c3] 27 (0, 0)) ∧ Below w.heap.size w w1) := zh (by
  rw [hw1]
  exact ⟨blk_alloc (heap_alloc_new _ _) _, alloc_at (by rw [alloc_size]), below_alloc (below_alloc (Below.refl _ _) _) _⟩)
 go_wp2_with (go_at_call 40; rw [← hw1]; go_loud ((with_reducible refine (rsteps_walk M _ b2 A3 c3 E Af cf f _ ?s1 ?s2 ?s3 ?s4).mono ?_); (case s1 => exact HE.out); (case s2 => exact HFO.out); (case s3 => exact Kd.C_below HR.out HX.out.2.2); (case s4 => exact Kd.C_below HF.out HX.out.2.2); rintro e w3 ⟨L, As, cs, rfl, hL, hst, hb⟩; have HX3 := zh (And.intro (blk_below HX.out.1 hb) (And.intro (blk_below HX.out.2.1 hb) (And.intro (below_step HX.out.2.2 hb) (Kd.R_reads' hL).2.2))); have HST := zh hst; clear hb hL hst HX))
 go_loopg [9, 11] (N + 1) (fun k ov iv W => ∃ (i : Nat) (Ao : Option Addr) (co : Nat), i ≤ N ∧ ov = .slice Ao (slotsOf n D i).length co ∧ iv = .int .i64 i ∧ k = N + 1 - i ∧ Hid (Kd.R kSlot 65 W w3.heap.size (fun _ => True) (.slice Ao (slotsOf n D i).length co) (slotsOf n D i) ∧ Below w3.heap.size w3 W))
 case atStart => exact ⟨0, none, 0, Nat.zero_le _, rfl, rfl, rfl, zh ⟨Kd.R_nil _ _ _ _ _, Below.refl _ _⟩⟩
 case round =>
  obtain ⟨i, Ao, co, hi, rfl, rfl, rfl, HL⟩ := hrel
  have HB := zh (below_step HX3.out.2.2.1 HL.out.2)
  have x0 : wr.cell? ⟨w.heap.size, 0, none⟩ = some (.int .i64 n) := (blk_cell (blk_below HX3.out.1 HL.out.2) 0).trans rfl
  have y0 : wr.cell? ⟨w.heap.size + 1, 0, none⟩ = some (.int .i64 M) := (blk_cell (blk_below HX3.out.2.1 HL.out.2) 0).trans rfl
  have y1 : wr.cell? ⟨w.heap.size + 1, 1, none⟩ = some (.bool b2) := (blk_cell (blk_below HX3.out.2.1 HL.out.2) 1).trans rfl
  have y2 : wr.cell? ⟨w.heap.size + 1, 2, none⟩ = some (.slice A3 E.length c3) := (blk_cell (blk_below HX3.out.2.1 HL.out.2) 2).trans rfl
  by_cases hlt : i < N
  ·have hlt2 : (i : Int) < (N : Int) := by omega
   by_cases hin : InAll E M N N1 i
   ·have HIN := zh hin
    clear hin
    go_wp2_with (go_at_call 39; go_loud ((with_reducible refine (way_walk _ b2 A3 c3 E _ _ As cs L M _ ?s1 ?s2 ?s3 ?s4 ?s5 ?s6 ?s7).mono ?_); (case s1 => exact Kd.C_below HR.out HB.out); (case s2 => exact Kd.C_below HX3.out.2.2.2 HL.out.2); (case s3 => exact (fun x hx => by have h9 := (HST.out.1 x).1 hx; exact ⟨h9.1, tgt_ok HE.out h9.1.1 h9.1.2⟩)); (case s4 => omega); (case s5 => have := HE3.out; omega); (case s6 => omega); (case s7 => have := HST.out.2; omega); rw [HE3.out]; rintro e w4 ⟨hb, (⟨_, hno⟩ | ⟨way, Aw, cw, d, rfl, hrw, hwp, hwl⟩)⟩; (exact absurd HIN.out (noway_in HFO.out HT.out HST.out hno)); have HB4 := zh (below_step HL.out.2 hb); have HO := zh (Kd.R_below HL.out.1 hb); have x9 : w4.cell? ⟨w.heap.size, 0, none⟩ = some (.int .i64 n) := pw_cell_below hb x0; clear hb hrw hwp hwl))
    have hnz : ¬ n = 0 := by omega
    have n9 : (1 : Int) ≤ (n : Int) := by omega
    have e7 : IntKind.i64.wrap ((i : Int) / (n : Int)) = (i : Int) / (n : Int) := by
     have h8 : (i : Int) / (n : Int) = ((i / n : Nat) : Int) := rfl
     have h7 : i / n ≤ i := Nat.div_le_self _ _
     rw [h8]
     generalize i / n = q at h7
     exact IntWalk.i64_in _ (by omega)
    have er : (i : Int).tmod (n : Int) = (i : Int) % (n : Int) := rfl
    have HLE := zh (slotsOf_len n D i)
    refine stepS (S := fun w' => w'.cell? ⟨w.heap.size, 0, none⟩ = some (.int .i64 n)) (ds := [11]) 13 (by kernel_rfl) rfl x9 (fun hHeld => ?_)
    have HO9 := zh (And.intro (Kd.R_drew HO.out) (below_drew1 HB4.out))
    generalize w4.drew = wd at HO9 hHeld ⊢
    repeat (first | refine rP 13 ?_ | refine rT 13 hHeld ?_)
    refine sB 10 hHeld (fun hHeld => ?_)
    refine sA 11 appSlot (slotsOf n D i) ⟨(i : Int) % (n : Int), (i : Int) / (n : Int)⟩ HO9.out.1 HO9.out.2 HO9.out.2.size (by have := HLE.out; omega) (fun A1 c1 w9 ho hb hg => ?_)
    refine sN ?_
    refine rP 13 ?_
    refine done_ (by kernel_rfl) ?_
    have hs9 : slotsOf n D (i + 1) = slotsOf n D i ++ [⟨(i : Int) % (n : Int), (i : Int) / (n : Int)⟩] := by
     rw [slotsOf, if_pos ((HD.out i hlt).2 HIN.out)]
    have hl9 : (slotsOf n D (i + 1)).length = (slotsOf n D i).length + 1 := by rw [hs9, List.length_append]; rfl
    rw [← hs9, ← hl9] at ho
    rw [← hl9]
    have HF9 := zh (And.intro ho hb)
    clear ho hb hg hs9 er e7 hl9
    go_wp2
    go_roundg (N - i)
    case measure => omega
    case rel => exact ⟨i + 1, A1, c1, by omega, rfl, by go_num, by omega, HF9⟩
   ·have HIN := zh hin
    clear hin
    go_wp2_with (go_at_call 39; go_loud ((with_reducible refine (way_walk _ b2 A3 c3 E _ _ As cs L M _ ?s1 ?s2 ?s3 ?s4 ?s5 ?s6 ?s7).mono ?_); (case s1 => exact Kd.C_below HR.out HB.out); (case s2 => exact Kd.C_below HX3.out.2.2.2 HL.out.2); (case s3 => exact (fun x hx => by have h9 := (HST.out.1 x).1 hx; exact ⟨h9.1, tgt_ok HE.out h9.1.1 h9.1.2⟩)); (case s4 => omega); (case s5 => have := HE3.out; omega); (case s6 => omega); (case s7 => have := HST.out.2; omega); rw [HE3.out]; rintro e w4 ⟨hb, (⟨rfl, hno⟩ | ⟨way, Aw, cw, d, rfl, hrw, hwp, hwl⟩)⟩; rotate_left; (exact absurd (way_in HE.out (by have := HM.out; omega) HT.out HST.out hwp) HIN.out); have HB4 := zh (below_step HL.out.2 hb); have HO := zh (Kd.R_below HL.out.1 hb); clear hb hno))
    have hs9 : slotsOf n D (i + 1) = slotsOf n D i := by
     rw [slotsOf, if_neg (fun e => HIN.out ((HD.out i hlt).1 e)), List.append_nil]
    have HS9 := zh hs9
    clear hs9
    go_roundg (N - i)
    case measure => omega
    case rel => exact ⟨i + 1, Ao, co, by omega, by rw [HS9.out], by go_num, by omega, by rw [HS9.out]; exact zh ⟨HO.out, HB4.out⟩⟩
  ·have hlt2 : ¬ (i : Int) < (N : Int) := by omega
   have e : i = N := by omega
   subst e
   go_wp2
   go_ret
   rw [RSlotsAt, HC.out]
   exact ⟨_, _, rfl, Kd.R_lower HL.out.1 HX3.out.2.2.1.size, HB.out⟩
set_option maxHeartbeats 4000000 in
set_option maxRecDepth 100000 in
theorem sameslots_walk (A1 A2 : Option Addr) (c1 c2 : Nat) (X : List Slot) (w : World) (h1 : Kd.C kSlot w A1 X.length X) (h2 : Kd.C kSlot w A2 X.length X) (hl : X.length ≤ 1000000) :
  Calls Tryz.prog 15 #[.slice A1 X.length c1, .slice A2 X.length c2] w fun e w' => e = .returned (.bool true) ∧ Below w.heap.size w w' := by
 have H1 := zh h1
 have H2 := zh h2
 have hu2 := Tryz.underlying65
 clear h1 h2
 go_enter Tryz.func15, Tryz.ntmps15
 go_wp2
 go_loopg [5] (X.length + 1) (fun k iv W => ∃ i : Nat, i ≤ X.length ∧ iv = .int .i64 i ∧ k = X.length + 1 - i ∧ Hid (Below w.heap.size w W))
 case atStart => exact ⟨0, Nat.zero_le _, rfl, rfl, zh (Below.refl _ _)⟩
 case round =>
  obtain ⟨i, hi, rfl, rfl, HB⟩ := hrel
  by_cases hlt : i < X.length
  ·have i0 : (0 : Int) ≤ (i : Int) := by omega
   have i1 : (i : Int) < (X.length : Int) := by omega
   obtain ⟨a1, e1, y0, y1⟩ := at_T65 (Kd.C_drew (Kd.C_below H1.out HB.out)) (i : Int) i0 i1
   obtain ⟨a2, e2, z0, z1⟩ := at_T65 (Kd.C_drew (Kd.C_below H2.out HB.out)) (i : Int) i0 i1
   subst e1 e2
   rw [Int.toNat_natCast] at y0 y1 z0 z1
   obtain ⟨s, hs⟩ : ∃ s, s = rd_T65 X (i : Int) := ⟨_, rfl⟩
   rw [← hs] at y0 y1 z0 z1
   clear hs
   go_wp2
   refine stepS (S := fun w' => w'.cell? (a1.add (i * 2)) = some (.int .i64 s.f0) ∧ w'.cell? ⟨(a1.add (i * 2)).block, (a1.add (i * 2)).off + 1, none⟩ = some (.int .i64 s.f1) ∧ w'.cell? (a2.add (i * 2)) = some (.int .i64 s.f0) ∧ w'.cell? ⟨(a2.add (i * 2)).block, (a2.add (i * 2)).off + 1, none⟩ = some (.int .i64 s.f1)) (ds := []) 9 (by kernel_rfl) rfl ⟨y0, y1, z0, z1⟩ (fun hHeld => ?_)
   have HB9 := zh (below_drew1 HB.out)
   generalize wr.drew = wd at HB9 hHeld ⊢
   repeat (first | refine rP 9 ?_ | refine rT 9 hHeld ?_)
   refine done_ (by kernel_rfl) ?_
   go_wp2
   go_roundg (X.length - i)
   case measure => omega
   case rel => exact ⟨i + 1, by omega, by go_num, by omega, HB9⟩
  ·have e : i = X.length := by omega
   subst e
   go_wp2
   go_ret
   exact ⟨rfl, HB.out⟩
def slotCells (l : List Slot) : List Value := l.flatMap fun x => [.int .i64 x.f0, .int .i64 x.f1]
theorem slotCells_get : ∀ (l : List Slot) (j : Nat) (x : Slot), l[j]? = some x → ∀ (i : Nat) (u : Value), ([.int .i64 x.f0, .int .i64 x.f1] : List Value)[i]? = some u → (slotCells l)[j * 2 + i]? = some u
 |[], j, x, h, _, _, _ => by simp at h
 |y :: l, 0, x, h, i, u, hu => by
  have e : y = x := by simpa using h
  subst e
  have hi : i < 2 := (List.getElem?_eq_some_iff.1 hu).1
  show ([Value.int .i64 y.f0, .int .i64 y.f1] ++ slotCells l)[0 * 2 + i]? = some u
  rw [Nat.zero_mul, Nat.zero_add, List.getElem?_append_left hi]
  exact hu
 |y :: l, j + 1, x, h, i, u, hu => by
  have h2 : l[j]? = some x := by simpa using h
  show ([Value.int .i64 y.f0, .int .i64 y.f1] ++ slotCells l)[(j + 1) * 2 + i]? = some u
  rw [show (j + 1) * 2 + i = 2 + (j * 2 + i) by omega, List.getElem?_append_right (by simp)]
  simp only [List.length_cons, List.length_nil, Nat.zero_add, Nat.reduceAdd, Nat.add_sub_cancel_left]
  exact slotCells_get l j x h2 i u hu
theorem slots_blk {W : World} {g : Nat} {l : List Slot} (hl : l.length ≤ 100000) (h : W.heap[g]? = some (.cells (slotCells l).toArray 65 (0, 0))) : Kd.C kSlot W (some ⟨g, 0, none⟩) l.length l := by
 refine ⟨rfl, by omega, fun _ => ⟨_, rfl, fun j p hj => ⟨[.int .i64 p.f0, .int .i64 p.f1], rfl, k65_mk _ p, fun i u hu => ?_⟩⟩⟩
 have h1 := slotCells_get l j p hj i u hu
 have h2 : W.cell? ⟨g, j * 2 + i, none⟩ = some u := by
  refine (blk_cell h (j * 2 + i)).trans ?_
  rw [List.getElem?_toArray]
  exact h1
 have h3 : (Addr.add ⟨g, 0, none⟩ (j * kSlot.sz + i)) = ⟨g, j * 2 + i, none⟩ := by
  have : kSlot.sz = 2 := rfl
  rw [this]
  unfold Addr.add
  split
  ·rename_i h4
   rw [h4]
  ·simp
 rw [h3]
 exact h2
abbrev sl3 : List Slot := [⟨0, 0⟩, ⟨0, 1⟩, ⟨1, 1⟩]
theorem five_line {A : Option Addr} {w : World} (hA : Kd.C kArc w A 2 lineL) :
  Calls Tryz.prog 10 #[.agg #[.int .i64 3, .bool false, .slice A 2 2], .int .i64 0, .int .i64 2, .int .i64 5] w fun e w' => e = .returned (.tuple #[.int .i64 8, .int .i64 0]) ∧ Below w.heap.size w w' := by
 have o := tf_sm (h := 5) (s := 0) (t := 2) (by decide) line_sm (by decide) (by decide) (by decide) (by decide)
 have h := most_walk (n := 3) (h := 5) (s := 0) (t := 2) (b := false) (A := A) (c := 2) (l := lineL) (w := w) o.1 o.2 (Nat.le_refl 2) hA
 rw [line_five] at h
 exact h.mono (fun e w' k => ⟨k.1, k.2.1⟩)
theorem one_line {A : Option Addr} {w : World} (hA : Kd.C kArc w A 2 lineL) :
  Calls Tryz.prog 13 #[.agg #[.int .i64 3, .bool true, .slice A 2 2], .int .i64 0, .int .i64 2, .int .i64 1] w fun e w' => ∃ (A1 : Option Addr) (c1 : Nat), e = .returned (.tuple #[.slice A1 3 c1, .int .i64 0]) ∧ Kd.C kSlot w' A1 3 sl3 ∧ Below w.heap.size w w' := by
 have o := tf_sm (h := 1) (s := 0) (t := 2) (by decide) line_sm (by decide) (by decide) (by decide) (by decide)
 have h := cut_walk (n := 3) (h := 1) (s := 0) (t := 2) (b := true) (A := A) (c := 2) (l := lineL) (w := w) o.1 o.2 (Nat.le_refl 2) hA
 rw [line_one] at h
 refine h.mono (fun e w' k => ?_)
 obtain ⟨v, k1, k2, k3⟩ := k
 obtain ⟨A1, c1, rfl⟩ := Kd.R_slice k2
 exact ⟨A1, c1, k1, (Kd.R_reads' k2).2.2, k3⟩
theorem neg_line {A : Option Addr} {w : World} (hA : Kd.C kArc w A 2 lineL) :
  Calls Tryz.prog 17 #[.agg #[.int .i64 3, .bool true, .slice A 2 2], .int .i64 0, .int .i64 2, .int .i64 (-1)] w (Bad3 1 w) :=
 max_bad (n := 3) (s := 0) (t := 2) (h := -1) (b := true) (A := A) (c := 2) (l := lineL) (line_ask (-1) (by decide)) (by decide) (Nat.le_refl 2) hA
theorem same_line {A1 A2 : Option Addr} {c1 : Nat} {w : World} (h1 : Kd.C kSlot w A1 3 sl3) (h2 : Kd.C kSlot w A2 3 sl3) :
  Calls Tryz.prog 15 #[.slice A1 3 c1, .slice A2 3 3] w fun e w' => e = .returned (.bool true) ∧ Below w.heap.size w w' :=
 sameslots_walk A1 A2 c1 3 sl3 w h1 h2 (by decide)
set_option maxHeartbeats 4000000 in
set_option maxRecDepth 100000 in
theorem awake_walk (w : World) : Calls Tryz.prog 12 #[] w fun e w' => e = .returned (.bool true) ∧ Below w.heap.size w w' := by
 have hu := Tryz.underlying65
 have HB := zh (Below.refl w.heap.size w)
 go_enter Tryz.func12, Tryz.ntmps12
 go_wp2_with (first
  |(go_at_call 26; have hC9 := HC.out; (with_reducible refine (line_walk _ _).mono ?_); rintro e wl ⟨gl, rfl, hA, hb⟩; have HL := zh hA; have HC8 := zh (Kd.C_below hC9 hb); have HN9 := zh (below_step HB.out hb); clear HB HC hb hA hC9; have HB := HN9; have HC := HC8; clear HN9 HC8)
  |(go_at_call 26; go_loud ((with_reducible refine (line_walk _ _).mono ?_); rintro e wl ⟨gl, rfl, hA, hb⟩; have HL := zh hA; have HN9 := zh (below_step HB.out hb); clear HB hb hA; have HB := HN9; clear HN9))
  |(go_at_call 10; go_loud ((with_reducible refine (five_line HL.out).mono ?_); rintro e w2 ⟨rfl, hb⟩; have HN9 := zh (below_step HB.out hb); clear HB hb HL; have HB := HN9; clear HN9))
  |(go_at_call 13; go_loud ((with_reducible refine (one_line HL.out).mono ?_); rintro e w4 ⟨A1, c1, rfl, hC, hb⟩; have HC := zh hC; have HN9 := zh (below_step HB.out hb); clear HB hb HL hC; have HB := HN9; clear HN9))
  |(go_at_call 17; go_loud ((with_reducible refine (neg_line HL.out).mono ?_); rintro e w6 ⟨rfl, hb⟩; have HN9 := zh (below_step HB.out hb); have HC8 := zh (Kd.C_below HC.out hb); clear HB HC hb; have HB := HN9; have HC := HC8; clear HN9 HC8))
  |(go_at_call 15; go_loud ((with_reducible refine (same_line ?s1 ?s2).mono ?_); (case s1 => exact Kd.C_below HC.out (below_alloc (Below.refl _ _) _)); (case s2 => exact slots_blk (l := sl3) (by decide) (alloc_at rfl)); rintro e w7 ⟨rfl, hb⟩; have HN9 := zh (below_step (below_alloc HB.out _) hb); clear HB hb; have HB := HN9; clear HN9)))
 go_ret
 exact ⟨rfl, HB.out⟩
structure Knd where
 f0 : Bool
 f1 : Bool
 f2 : Int
 f3 : Int
 f4 : Int
def kKnd : Kd Knd := Kd.iso (Kd.pair Kd.bool (Kd.pair Kd.bool (Kd.pair (Kd.int .i64) (Kd.pair (Kd.int .i64) (Kd.int .i64))))) (fun x : Knd => (x.f0, x.f1, x.f2, x.f3, x.f4))
theorem kKnd_mkM (w : World) (base : Nat) (ok : Nat → Prop) (x : Knd) : kKnd.M w base ok x [.bool x.f0, .bool x.f1, .int .i64 x.f2, .int .i64 x.f3, .int .i64 x.f4] := ⟨[.bool x.f0], [.bool x.f1, .int .i64 x.f2, .int .i64 x.f3, .int .i64 x.f4], rfl, rfl, ⟨[.bool x.f1], [.int .i64 x.f2, .int .i64 x.f3, .int .i64 x.f4], rfl, rfl, ⟨[.int .i64 x.f2], [.int .i64 x.f3, .int .i64 x.f4], rfl, rfl, ⟨[.int .i64 x.f3], [.int .i64 x.f4], rfl, rfl, rfl⟩⟩⟩⟩
theorem infoKnd : (Tryz.prog.info? 117).map (fun i => (i.zero, i.size, i.bytes)) = some (some (.agg #[.bool false, .bool false, .int .i64 0, .int .i64 0, .int .i64 0]), 5, 32) := by kernel_rfl
theorem appKnd : AppK Tryz.prog kKnd 85 117 (fun x => [.bool x.f0, .bool x.f1, .int .i64 x.f2, .int .i64 x.f3, .int .i64 x.f4]) := ⟨Tryz.underlying85, ⟨_, 32, infoKnd, rfl, by decide, by decide⟩, by decide, kKnd_mkM⟩
theorem appArc : AppK Tryz.prog kArc 25 57 (fun x => [.int .i64 x.f0, .int .i64 x.f1, .int .i64 x.f2, .int .i64 x.f3]) := ⟨Tryz.underlying25, ⟨_, 32, infoArc, rfl, by decide, by decide⟩, by decide, k57_mkM⟩
structure AkI (w : World) (xs : Array Value) (v u : Value) (L : List Arc) (K : List Knd) (W : World) : Prop where
 bx : W.heap[w.heap.size]? = some (.cells xs 27 (0, 0))
 ar : Kd.R kArc 57 W w.heap.size (fun _ => True) v L
 kr : Kd.R kKnd 117 W w.heap.size (fun _ => True) u K
 low : Below w.heap.size w W
 len : K.length = L.length
section
variable {w W W1 : World} {xs : Array Value} {v u v2 : Value} {L L2 : List Arc} {K K2 : List Knd}
theorem AkI.below (h : AkI w xs v u L K W) (hb : Below W.heap.size W W1) : AkI w xs v u L K W1 := ⟨blk_below h.bx hb, Kd.R_below h.ar hb, Kd.R_below h.kr hb, below_step h.low hb, h.len⟩
theorem AkI.grow (h : AkI w xs v u L K W) (hg : W.grownBy W1 v.ownBlock) (ho : Kd.R kArc 57 W1 w.heap.size (fun _ => True) v2 L2) (hb : Below w.heap.size w W1) :
  W1.heap[w.heap.size]? = some (.cells xs 27 (0, 0)) ∧ Kd.R kKnd 117 W1 w.heap.size (fun _ => True) u K :=
 ⟨blk_grown h.bx hg (Kd.R_ne h.ar h.bx (by decide)), Kd.R_over' h.kr (v := v) (Kd.R_typed h.ar) (by decide) hg⟩
theorem ak_grow {g : Value} (hx : W.heap[w.heap.size]? = some (.cells xs 27 (0, 0))) (ha : Kd.R kArc 57 W w.heap.size (fun _ => True) v L) (hk : Kd.R kKnd 117 W w.heap.size (fun _ => True) u K) (hg : W.grownBy W1 u.ownBlock) (ho : Kd.R kKnd 117 W1 w.heap.size (fun _ => True) g K2) (hb : Below w.heap.size w W1) (hl : K2.length = L.length) : AkI w xs v g L K2 W1 :=
 ⟨blk_grown hx hg (Kd.R_ne hk hx (by decide)), Kd.R_over' ha (v := u) (Kd.R_typed hk) (by decide) hg, ho, hb, hl⟩
end
theorem bW_same (keeps : Nat → Bool) {n h : Int} {a : Nat} {s : BSt} (hk : ∀ v, ¬ ((a : Int) < h ∧ keeps v = true)) : ∀ v, bW keeps n h a s v = s
 |0 => rfl
 |v + 1 => by
  rw [bW]
  rw [if_neg (hk v)]
  exact bW_same keeps hk v
theorem snc_len {α : Type} (L : List α) (x : α) : (L ++ [x]).length = L.length + 1 := by rw [List.length_append]; rfl
def RArcsAt (E : List Arc) (w : World) (e : Ending) (w' : World) : Prop := ∃ (A1 : Option Addr) (c1 : Nat) (u : Value), e = .returned (.tuple #[.slice A1 E.length c1, u]) ∧ Kd.R kArc 57 w' w.heap.size (fun _ => True) (.slice A1 E.length c1) E ∧ Below w.heap.size w w'
set_option maxHeartbeats 8000000 in
set_option maxRecDepth 100000 in
theorem rarcs_walk (n h s t N N1 : Nat) (b : Bool) (A : Option Addr) (c : Nat) (l : List Arc) (E : List Arc) (w : World) (o : TfOk n h s t l) (hr : Kd.C kArc w A l.length l) (hN : N = (h + 1) * n) (hN1 : N1 = N + 1) (hE : E = tfArcs l b n h s t N N1) :
  Calls Tryz.prog 38 #[.agg #[.int .i64 n, .bool b, .slice A l.length c], .int .i64 s, .int .i64 t, .int .i64 h] w (RArcsAt E w) := by
 have HN := zh o.net
 have HR := zh hr
 have HE := zh hE
 have HN1 := zh hN1
 have hn1 := o.net.n1
 have hn0 := o.net.n0
 have hh1 := o.net.h1
 have hll := o.net.ll
 have hNb := o.net.hn
 have hs9 := o.hs
 have ht9 := o.ht
 rw [← hN] at hNb
 have e1 : IntKind.i64.wrap ((h : Int) + 1) = (h : Int) + 1 := IntWalk.i64_in _ (by omega)
 have e2 : IntKind.i64.wrap (((h : Int) + 1) * (n : Int)) = (N : Int) := by
  have h8 : ((h : Int) + 1) * (n : Int) = (N : Int) := by rw [hN, Int.natCast_mul]; rfl
  rw [h8]
  exact IntWalk.i64_in _ (by omega)
 have HEE := zh (And.intro e1 e2)
 have HLEN : Hid (∀ k, k ≤ h + 1 → ((bA l (useT s t) (keepsT b s t) n h (h + 1)).arcs ++ fArcs N n s (h + 1) ++ lArcs N1 n t k).length ≤ 30000 ∧ ((bA l (useT s t) (keepsT b s t) n h (h + 1)).arcs ++ fArcs N n s k).length ≤ 30000) := zh (fun k hk => by
  have h1 := (bA_le l (useT s t) (keepsT b s t) n h (h + 1)).1
  have h2 := o.net.hn
  have h3 := o.net.hl
  rw [Nat.mul_add] at h1
  rw [List.length_append, List.length_append, List.length_append, fArcs_len, lArcs_len, fArcs_len]
  omega)
 clear o hr hE hN1 hN
 have hu := Tryz.underlying27
 have hu2 := Tryz.underlying57
 have hu3 := Tryz.underlying117
 go_enter Tryz.func38, Tryz.ntmps38
 obtain ⟨w1, hw1⟩ : ∃ w1, w1 = w.alloc (.cells #[.int .i64 n, .bool b, .slice A l.length c] 27) := ⟨_, rfl⟩
 have HI : Hid (AkI w #[.int .i64 n, .bool b, .slice A l.length c] (.slice none 0 0) (.slice none 0 0) [] [] w1) := zh (by
  rw [hw1]
  exact ⟨heap_alloc_new _ _, Kd.R_nil _ _ _ _ _, Kd.R_nil _ _ _ _ _, below_alloc (Below.refl _ _) _, rfl⟩)
 go_wp2
 rw [← hw1]
 clear hw1 e1 e2
 go_loopg [10, 11, 13] (h + 2) (fun k ov kv cv W => ∃ (a : Nat) (Ao Ak : Option Addr) (co ck : Nat) (L : List Arc) (K : List Knd), a ≤ h + 1 ∧ ov = .slice Ao L.length co ∧ kv = .slice Ak K.length ck ∧ cv = .int .i64 a ∧ k = h + 2 - a ∧ Hid (L = (bA l (useT s t) (keepsT b s t) n h a).arcs ∧ AkI w #[.int .i64 n, .bool b, .slice A l.length c] (.slice Ao L.length co) (.slice Ak K.length ck) L K W))
 case atStart => exact ⟨0, none, none, 0, 0, [], [], Nat.zero_le _, rfl, rfl, rfl, rfl, zh ⟨rfl, HI.out⟩⟩
 case round =>
  obtain ⟨a, Ao, Ak, co, ck, L, K, ha, rfl, rfl, rfl, rfl, HL⟩ := hrel
  clear HI
  by_cases hlt : a ≤ h
  ·have hlt2 : (a : Int) ≤ (h : Int) := by omega
   obtain ⟨m0, hm0⟩ : ∃ m0 : Int, m0 = (a : Int) * (n : Int) := ⟨_, rfl⟩
   have hmb0 : 0 ≤ m0 ∧ m0 ≤ 4000000 := by
    have h9 := mul_bd (a := (a : Int)) (n := (n : Int)) (A := 4000) (N := 1000) (by omega) (by omega) (by omega) (by omega)
    rw [← hm0] at h9
    omega
   have f0 : IntKind.i64.wrap ((a : Int) * (n : Int)) = m0 := by rw [← hm0]; exact IntWalk.i64_in _ (by omega)
   obtain ⟨m1, hm1⟩ : ∃ m1 : Int, m1 = ((a : Int) + 1) * (n : Int) := ⟨_, rfl⟩
   have hmb1 : 0 ≤ m1 ∧ m1 ≤ 5000000 := by
    have h9 := mul_bd (a := (a : Int) + 1) (n := (n : Int)) (A := 5000) (N := 1000) (by omega) (by omega) (by omega) (by omega)
    rw [← hm1] at h9
    omega
   have f1 : IntKind.i64.wrap (((a : Int) + 1) * (n : Int)) = m1 := by rw [← hm1]; exact IntWalk.i64_in _ (by omega)
   have HM0 := zh (And.intro hm0 hm1)
   clear hm0 hm1
   go_wp2
   go_loopg [10, 11, 14] (l.length + 1) (fun k ov kv iv W => ∃ (j : Nat) (Ao Ak : Option Addr) (co ck : Nat) (L : List Arc) (K : List Knd), j ≤ l.length ∧ ov = .slice Ao L.length co ∧ kv = .slice Ak K.length ck ∧ iv = .int .i64 j ∧ k = l.length + 1 - j ∧ Hid (L = (bM l (useT s t) n h a (bA l (useT s t) (keepsT b s t) n h a) j).arcs ∧ AkI w #[.int .i64 n, .bool b, .slice A l.length c] (.slice Ao L.length co) (.slice Ak K.length ck) L K W))
   case atStart => exact ⟨0, Ao, Ak, co, ck, L, K, Nat.zero_le _, rfl, rfl, rfl, rfl, zh ⟨HL.out.1, HL.out.2⟩⟩
   case round =>
    clear HL Ao Ak co ck L K
    obtain ⟨j, Ao, Ak, co, ck, L, K, hj, rfl, rfl, rfl, rfl, HL⟩ := hrel
    have HSL : Hid (L.length ≤ 14000) := zh (by
     have h7 := (bM_le l (useT s t) n h a (bA_le l (useT s t) (keepsT b s t) n h a) j).1
     have h8 := HN.out.room hlt
     rw [← HL.out.1] at h7
     omega)
    have x2 : wr.cell? ⟨w.heap.size, 2, none⟩ = some (.slice A l.length c) := (blk_cell HL.out.2.bx 2).trans rfl
    by_cases hjl : j < l.length
    ·obtain ⟨ad, ea, y0, y1, y2, y3⟩ := at_T57 (Kd.C_below HR.out HL.out.2.low) (j : Int) (by omega) (by omega)
     subst ea
     rw [Int.toNat_natCast] at y0 y1 y2 y3
     obtain ⟨x, hx⟩ : ∃ x, x = arcAt l j := ⟨_, rfl⟩
     have hx2 : rd_T57 l (j : Int) = x := by rw [hx]; rfl
     rw [hx2] at y0 y1 y2 y3
     have j0 : (0 : Int) ≤ (j : Int) := by omega
     have j1 : (j : Int) < (l.length : Int) := by omega
     have hti := HN.out.time j hjl
     rw [← hx] at hti
     have hti0 := hti.1
     have hti1 := hti.2
     have hen := HN.out.ends j hjl
     rw [← hx] at hen
     have hf0 : 0 ≤ x.f0 := hen.1.1
     have hf1 : x.f0 ≤ 1000 := by omega
     have hf2 : 0 ≤ x.f1 := hen.2.1
     have hf3 : x.f1 ≤ 1000 := by omega
     have HX := zh hx
     clear hx hx2 hti hen
     have HI1 := zh (HL.out.2.below (below_alloc (Below.refl _ wr) (.cells #[.int .i64 x.f0, .int .i64 x.f1, .int .i64 x.f2, .int .i64 x.f3] 57)))
     by_cases htm : (a : Int) + x.f3 ≤ (h : Int)
     ·have htd : decide ((a : Int) + x.f3 ≤ (h : Int)) = true := by simpa using htm
      obtain ⟨m2, hm2⟩ : ∃ m2 : Int, m2 = ((a : Int) + x.f3) * (n : Int) := ⟨_, rfl⟩
      have hmb2 : 0 ≤ m2 ∧ m2 ≤ 4000000 := by
       have h9 := mul_bd (a := (a : Int) + x.f3) (n := (n : Int)) (A := 4000) (N := 1000) (by omega) (by omega) (by omega) (by omega)
       rw [← hm2] at h9
       omega
      have f2 : IntKind.i64.wrap (((a : Int) + x.f3) * (n : Int)) = m2 := by rw [← hm2]; exact IntWalk.i64_in _ (by omega)
      have HM2 := zh hm2
      clear hm2
      have hcs : ((x.f1 != (s : Int)) = false ∧ Hid (useT s t x = false)) ∨ ((x.f1 != (s : Int)) = true ∧ (x.f0 != (t : Int)) = false ∧ Hid (useT s t x = false)) ∨ ((x.f1 != (s : Int)) = true ∧ (x.f0 != (t : Int)) = true ∧ Hid (useT s t x = true)) := by
       unfold useT
       cases (x.f1 != (s : Int))
       ·exact .inl ⟨rfl, zh rfl⟩
       ·cases (x.f0 != (t : Int))
        ·exact .inr (.inl ⟨rfl, rfl, zh rfl⟩)
        ·exact .inr (.inr ⟨rfl, rfl, zh rfl⟩)
      rcases hcs with ⟨d1, HUX⟩ | ⟨d1, d2, HUX⟩ | ⟨d1, d2, HUX⟩
      iterate 2
       ·go_wp2
        go_roundg (l.length - j)
        case measure => omega
        case rel =>
         refine ⟨j + 1, Ao, Ak, co, ck, L, K, by omega, rfl, rfl, by go_num, by omega, zh ⟨?_, HI1.out⟩⟩
         rw [bM]
         rw [← HX.out, if_neg (fun e => by have := HUX.out; rw [e.2] at this; cases this)]
         exact HL.out.1
      ·go_wp2_with (first
        |((with_reducible refine gate_dst (N := 76) rfl ?_); (refine gA (w0 := w) (base := w.heap.size) appArc L ⟨m0 + x.f0, m2 + x.f1, x.f2, 0⟩ ?aO ?aB ?aS ?aL ?_); (case aO => exact HI1.out.ar); (case aB => exact HI1.out.low); (case aS => exact HI1.out.low.size); (case aL => have := HSL.out; omega); go_loud (intro A1 c1 w9 ho hb hg; have HG := zh (And.intro ho (And.intro hb (HI1.out.grow hg ho hb))); clear ho hb hg))
        |((with_reducible refine gate_dst (N := 82) rfl ?_); (refine gA (w0 := w) (base := w.heap.size) appKnd K ⟨true, false, (j : Int), 0, (a : Int)⟩ ?aO ?aB ?aS ?aL ?_); (case aO => exact HG.out.2.2.2); (case aB => exact HG.out.2.1); (case aS => exact HG.out.2.1.size); (case aL => have := HSL.out; have := HI1.out.len; omega); go_loud (intro A2 c2 w8 ho hb hg; have HF := zh (ak_grow HG.out.2.2.1 HG.out.1 HG.out.2.2.2 hg ho hb (by rw [snc_len, snc_len, HI1.out.len])); clear ho hb hg)))
       go_roundg (l.length - j)
       case measure => omega
       case rel =>
        refine ⟨j + 1, A1, A2, c1, c2, L ++ [⟨m0 + x.f0, m2 + x.f1, x.f2, 0⟩], K ++ [⟨true, false, (j : Int), 0, (a : Int)⟩], by omega, by rw [snc_len], by rw [snc_len], by go_num, by omega, zh ⟨?_, by rw [snc_len, snc_len]; exact HF.out⟩⟩
        rw [bM]
        rw [← HX.out, if_pos ⟨htm, HUX.out⟩]
        show L ++ [⟨m0 + x.f0, m2 + x.f1, x.f2, 0⟩] = (bM l (useT s t) n h a (bA l (useT s t) (keepsT b s t) n h a) j).arcs ++ [⟨(a : Int) * n + x.f0, ((a : Int) + x.f3) * n + x.f1, x.f2, 0⟩]
        rw [HM2.out, HM0.out.1, ← HL.out.1]
     ·have htd : decide ((a : Int) + x.f3 ≤ (h : Int)) = false := by simpa using htm
      go_wp2
      go_roundg (l.length - j)
      case measure => omega
      case rel =>
       refine ⟨j + 1, Ao, Ak, co, ck, L, K, by omega, rfl, rfl, by go_num, by omega, zh ⟨?_, HI1.out⟩⟩
       rw [bM]
       rw [← HX.out, if_neg (fun e => by have := e.1; omega)]
       exact HL.out.1
    ·have hj2 : ¬ (j : Int) < (l.length : Int) := by omega
     have e : j = l.length := by omega
     subst e
     go_wp2
     clear x2
     go_loopg [10, 11, 16] (n + 1) (fun k ov kv iv W => ∃ (u : Nat) (Ao Ak : Option Addr) (co ck : Nat) (L : List Arc) (K : List Knd), u ≤ n ∧ ov = .slice Ao L.length co ∧ kv = .slice Ak K.length ck ∧ iv = .int .i64 u ∧ k = n + 1 - u ∧ Hid (L = (bW (keepsT b s t) n h a (bM l (useT s t) n h a (bA l (useT s t) (keepsT b s t) n h a) l.length) u).arcs ∧ AkI w #[.int .i64 n, .bool b, .slice A l.length c] (.slice Ao L.length co) (.slice Ak K.length ck) L K W))
     case atStart => exact ⟨0, Ao, Ak, co, ck, L, K, Nat.zero_le _, rfl, rfl, rfl, rfl, zh ⟨HL.out.1, HL.out.2⟩⟩
     case round =>
      clear HL HSL Ao Ak co ck L K
      obtain ⟨u, Ao, Ak, co, ck, L, K, hu9, rfl, rfl, rfl, rfl, HL⟩ := hrel
      have HSL : Hid (L.length ≤ 14000) := zh (by
       have h7 := (bW_le (keepsT b s t) n h a (bM_le l (useT s t) n h a (bA_le l (useT s t) (keepsT b s t) n h a) l.length) u).1
       have h8 := HN.out.room hlt
       rw [← HL.out.1] at h7
       omega)
      have x1 : wr.cell? ⟨w.heap.size, 1, none⟩ = some (.bool b) := (blk_cell HL.out.2.bx 1).trans rfl
      by_cases hul : u < n
      ·have hul2 : (u : Int) < (n : Int) := by omega
       have hud : decide ((u : Int) < (n : Int)) = true := decide_eq_true hul2
       cases hbb : b with
       |false =>
        subst hbb
        go_wp2
        go_roundg (h + 2 - (a + 1))
        case measure => omega
        case rel =>
         refine ⟨a + 1, Ao, Ak, co, ck, L, K, by omega, rfl, rfl, by go_num, by omega, zh ⟨?_, HL.out.2⟩⟩
         rw [HL.out.1, bA, bW_same _ (fun v e => by cases e.2), bW_same _ (fun v e => by cases e.2)]
       |true =>
        subst hbb
        by_cases hah : (a : Int) < (h : Int)
        ·have hahd : decide ((a : Int) < (h : Int)) = true := by simpa using hah
         have hcs : (((u : Int) != (s : Int)) = false ∧ Hid (keepsT true s t u = false)) ∨ (((u : Int) != (s : Int)) = true ∧ ((u : Int) != (t : Int)) = false ∧ Hid (keepsT true s t u = false)) ∨ (((u : Int) != (s : Int)) = true ∧ ((u : Int) != (t : Int)) = true ∧ Hid (keepsT true s t u = true)) := by
          unfold keepsT
          cases ((u : Int) != (s : Int))
          ·exact .inl ⟨rfl, zh rfl⟩
          ·cases ((u : Int) != (t : Int))
           ·exact .inr (.inl ⟨rfl, rfl, zh rfl⟩)
           ·exact .inr (.inr ⟨rfl, rfl, zh rfl⟩)
         have HI1 := zh HL.out.2
         rcases hcs with ⟨d1, HKX⟩ | ⟨d1, d2, HKX⟩ | ⟨d1, d2, HKX⟩
         iterate 2
          ·go_wp2
           go_roundg (n - u)
           case measure => omega
           case rel =>
            refine ⟨u + 1, Ao, Ak, co, ck, L, K, by omega, rfl, rfl, by go_num, by omega, zh ⟨?_, HL.out.2⟩⟩
            rw [bW]
            rw [if_neg (fun e => by have := HKX.out; rw [e.2] at this; cases this)]
            exact HL.out.1
         ·go_wp2_with (first
           |((with_reducible refine gate_dst (N := 119) rfl ?_); (refine gA (w0 := w) (base := w.heap.size) appArc L ⟨m0 + (u : Int), m1 + (u : Int), 1099511627776, 0⟩ ?aO ?aB ?aS ?aL ?_); (case aO => exact HI1.out.ar); (case aB => exact HI1.out.low); (case aS => exact HI1.out.low.size); (case aL => have := HSL.out; omega); go_loud (intro A1 c1 w9 ho hb hg; have HG := zh (And.intro ho (And.intro hb (HI1.out.grow hg ho hb))); clear ho hb hg))
           |((with_reducible refine gate_dst (N := 125) rfl ?_); (refine gA (w0 := w) (base := w.heap.size) appKnd K ⟨false, true, 0, (u : Int), (a : Int)⟩ ?aO ?aB ?aS ?aL ?_); (case aO => exact HG.out.2.2.2); (case aB => exact HG.out.2.1); (case aS => exact HG.out.2.1.size); (case aL => have := HSL.out; have := HI1.out.len; omega); go_loud (intro A2 c2 w8 ho hb hg; have HF := zh (ak_grow HG.out.2.2.1 HG.out.1 HG.out.2.2.2 hg ho hb (by rw [snc_len, snc_len, HI1.out.len])); clear ho hb hg)))
          go_roundg (n - u)
          case measure => omega
          case rel =>
           refine ⟨u + 1, A1, A2, c1, c2, L ++ [⟨m0 + (u : Int), m1 + (u : Int), 1099511627776, 0⟩], K ++ [⟨false, true, 0, (u : Int), (a : Int)⟩], by omega, by rw [snc_len], by rw [snc_len], by go_num, by omega, zh ⟨?_, by rw [snc_len, snc_len]; exact HF.out⟩⟩
           rw [bW]
           rw [if_pos ⟨hah, HKX.out⟩]
           show L ++ [⟨m0 + (u : Int), m1 + (u : Int), 1099511627776, 0⟩] = (bW (keepsT true s t) n h a (bM l (useT s t) n h a (bA l (useT s t) (keepsT true s t) n h a) l.length) u).arcs ++ [⟨(a : Int) * n + u, ((a : Int) + 1) * n + u, 1099511627776, 0⟩]
           rw [HM0.out.1, HM0.out.2, ← HL.out.1]
        ·have hahd : decide ((a : Int) < (h : Int)) = false := by simpa using hah
         go_wp2
         go_roundg (h + 2 - (a + 1))
         case measure => omega
         case rel =>
          refine ⟨a + 1, Ao, Ak, co, ck, L, K, by omega, rfl, rfl, by go_num, by omega, zh ⟨?_, HL.out.2⟩⟩
          rw [HL.out.1, bA, bW_same _ (fun v e => absurd e.1 (by omega)), bW_same _ (fun v e => absurd e.1 (by omega))]
      ·have hul2 : ¬ (u : Int) < (n : Int) := by omega
       have hud : decide ((u : Int) < (n : Int)) = false := decide_eq_false hul2
       have e : u = n := by omega
       have HU := zh e
       clear e
       go_wp2
       go_roundg (h + 2 - (a + 1))
       case measure => omega
       case rel =>
        refine ⟨a + 1, Ao, Ak, co, ck, L, K, by omega, rfl, rfl, by go_num, by omega, zh ⟨?_, HL.out.2⟩⟩
        rw [HL.out.1, bA, HU.out]
  ·have hlt2 : ¬ (a : Int) ≤ (h : Int) := by omega
   have e : a = h + 1 := by omega
   have HA := zh e
   clear e
   have e1 := HEE.out.1
   have e2 := HEE.out.2
   go_wp2
   go_loopg [10, 11, 17] (h + 2) (fun k ov kv cv W => ∃ (a : Nat) (Ao Ak : Option Addr) (co ck : Nat) (L : List Arc) (K : List Knd), a ≤ h + 1 ∧ ov = .slice Ao L.length co ∧ kv = .slice Ak K.length ck ∧ cv = .int .i64 a ∧ k = h + 2 - a ∧ Hid (L = (bA l (useT s t) (keepsT b s t) n h (h + 1)).arcs ++ fArcs N n s a ∧ AkI w #[.int .i64 n, .bool b, .slice A l.length c] (.slice Ao L.length co) (.slice Ak K.length ck) L K W))
   case atStart => exact ⟨0, Ao, Ak, co, ck, L, K, Nat.zero_le _, rfl, rfl, rfl, rfl, zh ⟨by rw [HL.out.1, HA.out, fArcs, List.append_nil], HL.out.2⟩⟩
   case round =>
    clear HL HA hlt2 Ao Ak co ck L K
    obtain ⟨i, Ao, Ak, co, ck, L, K, hi, rfl, rfl, rfl, rfl, HL⟩ := hrel
    by_cases hil : i ≤ h
    ·have hil2 : (i : Int) ≤ (h : Int) := by omega
     have HSL : Hid (L.length ≤ 30000) := zh (by rw [HL.out.1]; exact (HLEN.out i hi).2)
     obtain ⟨m0, hm0⟩ : ∃ m0 : Int, m0 = (i : Int) * (n : Int) := ⟨_, rfl⟩
     have hmb0 : 0 ≤ m0 ∧ m0 ≤ 4000000 := by
      have h9 := mul_bd (a := (i : Int)) (n := (n : Int)) (A := 4000) (N := 1000) (by omega) (by omega) (by omega) (by omega)
      rw [← hm0] at h9
      omega
     have f0 : IntKind.i64.wrap ((i : Int) * (n : Int)) = m0 := by rw [← hm0]; exact IntWalk.i64_in _ (by omega)
     have HM0 := zh hm0
     clear hm0
     have HI1 := zh HL.out.2
     go_wp2_with (first
      |((with_reducible refine gate_dst (N := 143) rfl ?_); (refine gA (w0 := w) (base := w.heap.size) appArc L ⟨(N : Int), m0 + (s : Int), 1099511627776, 0⟩ ?aO ?aB ?aS ?aL ?_); (case aO => exact HI1.out.ar); (case aB => exact HI1.out.low); (case aS => exact HI1.out.low.size); (case aL => have := HSL.out; omega); go_loud (intro A1 c1 w9 ho hb hg; have HG := zh (And.intro ho (And.intro hb (HI1.out.grow hg ho hb))); clear ho hb hg))
      |((with_reducible refine gate_dst (N := 149) rfl ?_); (refine gA (w0 := w) (base := w.heap.size) appKnd K ⟨false, false, 0, (s : Int), (i : Int)⟩ ?aO ?aB ?aS ?aL ?_); (case aO => exact HG.out.2.2.2); (case aB => exact HG.out.2.1); (case aS => exact HG.out.2.1.size); (case aL => have := HSL.out; have := HI1.out.len; omega); go_loud (intro A2 c2 w8 ho hb hg; have HF := zh (ak_grow HG.out.2.2.1 HG.out.1 HG.out.2.2.2 hg ho hb (by rw [snc_len, snc_len, HI1.out.len])); clear ho hb hg)))
     go_roundg (h + 1 - i)
     case measure => omega
     case rel =>
      refine ⟨i + 1, A1, A2, c1, c2, L ++ [⟨(N : Int), m0 + (s : Int), 1099511627776, 0⟩], K ++ [⟨false, false, 0, (s : Int), (i : Int)⟩], by omega, by rw [snc_len], by rw [snc_len], by go_num, by omega, zh ⟨?_, by rw [snc_len, snc_len]; exact HF.out⟩⟩
      rw [fArcs, ← List.append_assoc, ← HL.out.1, ← HM0.out]
    ·have hil2 : ¬ (i : Int) ≤ (h : Int) := by omega
     have e : i = h + 1 := by omega
     have HA := zh e
     clear e
     have f1 : IntKind.i64.wrap ((N : Int) + 1) = (N1 : Int) := by
      rw [HN1.out]
      exact IntWalk.i64_in _ (by omega)
     go_wp2
     go_loopg [10, 11, 18] (h + 2) (fun k ov kv cv W => ∃ (a : Nat) (Ao Ak : Option Addr) (co ck : Nat) (L : List Arc) (K : List Knd), a ≤ h + 1 ∧ ov = .slice Ao L.length co ∧ kv = .slice Ak K.length ck ∧ cv = .int .i64 a ∧ k = h + 2 - a ∧ Hid (L = (bA l (useT s t) (keepsT b s t) n h (h + 1)).arcs ++ fArcs N n s (h + 1) ++ lArcs N1 n t a ∧ AkI w #[.int .i64 n, .bool b, .slice A l.length c] (.slice Ao L.length co) (.slice Ak K.length ck) L K W))
     case atStart => exact ⟨0, Ao, Ak, co, ck, L, K, Nat.zero_le _, rfl, rfl, rfl, rfl, zh ⟨by rw [HL.out.1, HA.out, lArcs, List.append_nil], HL.out.2⟩⟩
     case round =>
      clear HL HA hil2 Ao Ak co ck L K
      obtain ⟨i, Ao, Ak, co, ck, L, K, hi, rfl, rfl, rfl, rfl, HL⟩ := hrel
      by_cases hil : i ≤ h
      ·have hil2 : (i : Int) ≤ (h : Int) := by omega
       have HSL : Hid (L.length ≤ 30000) := zh (by rw [HL.out.1]; exact (HLEN.out i hi).1)
       obtain ⟨m0, hm0⟩ : ∃ m0 : Int, m0 = (i : Int) * (n : Int) := ⟨_, rfl⟩
       have hmb0 : 0 ≤ m0 ∧ m0 ≤ 4000000 := by
        have h9 := mul_bd (a := (i : Int)) (n := (n : Int)) (A := 4000) (N := 1000) (by omega) (by omega) (by omega) (by omega)
        rw [← hm0] at h9
        omega
       have f0 : IntKind.i64.wrap ((i : Int) * (n : Int)) = m0 := by rw [← hm0]; exact IntWalk.i64_in _ (by omega)
       have HM0 := zh hm0
       clear hm0
       have HI1 := zh HL.out.2
       go_wp2_with (first
        |((with_reducible refine gate_dst (N := 168) rfl ?_); (refine gA (w0 := w) (base := w.heap.size) appArc L ⟨m0 + (t : Int), (N1 : Int), 1099511627776, 0⟩ ?aO ?aB ?aS ?aL ?_); (case aO => exact HI1.out.ar); (case aB => exact HI1.out.low); (case aS => exact HI1.out.low.size); (case aL => have := HSL.out; omega); go_loud (intro A1 c1 w9 ho hb hg; have HG := zh (And.intro ho (And.intro hb (HI1.out.grow hg ho hb))); clear ho hb hg))
        |((with_reducible refine gate_dst (N := 174) rfl ?_); (refine gA (w0 := w) (base := w.heap.size) appKnd K ⟨false, false, 0, (t : Int), (i : Int)⟩ ?aO ?aB ?aS ?aL ?_); (case aO => exact HG.out.2.2.2); (case aB => exact HG.out.2.1); (case aS => exact HG.out.2.1.size); (case aL => have := HSL.out; have := HI1.out.len; omega); go_loud (intro A2 c2 w8 ho hb hg; have HF := zh (ak_grow HG.out.2.2.1 HG.out.1 HG.out.2.2.2 hg ho hb (by rw [snc_len, snc_len, HI1.out.len])); clear ho hb hg)))
       go_roundg (h + 1 - i)
       case measure => omega
       case rel =>
        refine ⟨i + 1, A1, A2, c1, c2, L ++ [⟨m0 + (t : Int), (N1 : Int), 1099511627776, 0⟩], K ++ [⟨false, false, 0, (t : Int), (i : Int)⟩], by omega, by rw [snc_len], by rw [snc_len], by go_num, by omega, zh ⟨?_, by rw [snc_len, snc_len]; exact HF.out⟩⟩
        rw [lArcs, ← List.append_assoc, ← HL.out.1, ← HM0.out]
      ·have hil2 : ¬ (i : Int) ≤ (h : Int) := by omega
       have e : i = h + 1 := by omega
       subst e
       go_wp2
       go_ret2
       have hL : L = E := by rw [HL.out.1, HE.out]; rfl
       exact ⟨Ao, co, .slice Ak K.length ck, by rw [← hL]; rfl, by rw [← hL]; exact HL.out.2.ar, HL.out.2.low⟩
def RBuildAt (M : Nat) (E : List Arc) (w : World) (e : Ending) (w' : World) : Prop := ∃ (A1 : Option Addr) (c1 : Nat), e = .returned (.tuple #[.agg #[.int .i64 M, .bool false, .slice A1 E.length c1], .int .i64 0]) ∧ Kd.C kArc w' A1 E.length E ∧ Below w.heap.size w w'
section
variable {n h s t N N1 M : Nat} {b : Bool} {A : Option Addr} {c : Nat} {l : List Arc} {w : World}
set_option maxHeartbeats 4000000 in
set_option maxRecDepth 100000 in
theorem rbuild_walk (E : List Arc) (hE : E = tfArcs l b n h s t N N1) (eN : N = (h + 1) * n) (e1 : N1 = N + 1) (e2 : M = N + 2) (o : TfOk n h s t l) (ha : askT n l s t h = 0) (hr : Kd.C kArc w A l.length l) :
  Calls Tryz.prog 23 #[.agg #[.int .i64 n, .bool b, .slice A l.length c], .int .i64 s, .int .i64 t, .int .i64 h] w (RBuildAt M E w) := by
 have HO := zh o
 have HR := zh hr
 have HA := zh ha
 have HE := zh hE
 have HEE := zh (And.intro eN (And.intro e1 e2))
 have hh9 := o.hh
 have hNb := o.net.hn
 rw [← eN] at hNb
 have w1e : IntKind.i64.wrap ((h : Int) + 1) = (h : Int) + 1 := IntWalk.i64_in _ (by omega)
 have w2e : IntKind.i64.wrap (((h : Int) + 1) * (n : Int)) = (N : Int) := by
  have h8 : ((h : Int) + 1) * (n : Int) = (N : Int) := by rw [eN, Int.natCast_mul]; rfl
  rw [h8]
  exact IntWalk.i64_in _ (by omega)
 have w3e : IntKind.i64.wrap ((N : Int) + 2) = (M : Int) := by
  rw [e2]
  exact IntWalk.i64_in _ (by omega)
 have hu := Tryz.underlying27
 clear o hr ha hE eN e1 e2
 obtain ⟨w1, hw1⟩ : ∃ w1, w1 = (w.alloc (.cells #[.int .i64 n, .bool b, .slice A l.length c] 27)).alloc (.cells #[.int .i64 0, .bool false, .slice none 0 0] 27) := ⟨_, rfl⟩
 have HX : Hid (w1.heap[w.heap.size]? = some (.cells #[.int .i64 n, .bool b, .slice A l.length c] 27 (0, 0)) ∧ w1.heap[w.heap.size + 1]? = some (.cells #[.int .i64 0, .bool false, .slice none 0 0] 27 (0, 0)) ∧ Below w.heap.size w w1) := zh (by
  rw [hw1]
  exact ⟨blk_alloc (heap_alloc_new _ _) _, alloc_at (by rw [alloc_size]), below_alloc (below_alloc (Below.refl _ _) _) _⟩)
 go_enter Tryz.func23, Tryz.ntmps23
 go_wp2_with (first
  |(go_at_call 16; rw [← hw1]; go_loud ((with_reducible refine (rask15_walk (b := b) (c := c) ?s1).mono ?_); (case s1 => exact Kd.C_below HR.out HX.out.2.2); rintro e w9 ⟨rfl, hb⟩; rw [HA.out]; have HN9 := zh (And.intro (blk_below HX.out.1 hb) (And.intro (blk_below HX.out.2.1 hb) (below_step HX.out.2.2 hb))); clear HX hb; have HX := HN9; clear HN9; have x0 : w9.cell? ⟨w.heap.size, 0, none⟩ = some (.int .i64 n) := (blk_cell HX.out.1 0).trans rfl; have x1 : w9.cell? ⟨w.heap.size, 1, none⟩ = some (.bool b) := (blk_cell HX.out.1 1).trans rfl; have x2 : w9.cell? ⟨w.heap.size, 2, none⟩ = some (.slice A l.length c) := (blk_cell HX.out.1 2).trans rfl))
  |(go_at_call 38; go_loud ((with_reducible refine (rarcs_walk n h s t N N1 b A c l E _ HO.out ?s1 HEE.out.1 HEE.out.2.1 HE.out).mono ?_); (case s1 => exact Kd.C_below HR.out HX.out.2.2); rintro e w3 ⟨A1, c1, u, rfl, hR, hb⟩; have HAR := zh hR; have HB3 := zh hb; have HN9 := zh (And.intro (blk_below HX.out.1 hb) (And.intro (blk_below HX.out.2.1 hb) (below_step HX.out.2.2 hb))); clear HX hb hR x0 x1 x2; have HX := HN9; clear HN9; have x0 : w3.cell? ⟨w.heap.size, 0, none⟩ = some (.int .i64 n) := (blk_cell HX.out.1 0).trans rfl; have z0 : w3.cell? ⟨w.heap.size + 1, 0, none⟩ = some (.int .i64 0) := (blk_cell HX.out.2.1 0).trans rfl; have z1 : w3.cell? ⟨w.heap.size + 1, 1, none⟩ = some (.bool false) := (blk_cell HX.out.2.1 1).trans rfl; have z2 : w3.cell? ⟨w.heap.size + 1, 2, none⟩ = some (.slice none 0 0) := (blk_cell HX.out.2.1 2).trans rfl; have f0 := blk_frozen HX.out.2.1 0; have f1 := blk_frozen HX.out.2.1 1; have f2 := blk_frozen HX.out.2.1 2)))
 have r0 := blk_put (cs := #[.int .i64 0, .bool false, .slice none 0 0]) HX.out.2.1 0 (.int .i64 (M : Int)) rfl
 have r1 := blk_put (cs := #[.int .i64 (M : Int), .bool false, .slice none 0 0]) r0 1 (.bool false) rfl
 have r2 := blk_put (cs := #[.int .i64 (M : Int), .bool false, .slice none 0 0]) r1 2 (.slice A1 E.length c1) rfl
 have eM : (M : Int) = (N : Int) + 2 := by have := HEE.out.2.2; omega
 have eM2 := eM.symm
 try rw [eM2]
 refine bodyPost_ret (results_list (rs := [.cell 8 27, .tmp 9]) rfl (by simp) (.cell (w.heap.size + 1) 27 #[.int .i64 (M : Int), .bool false, .slice A1 E.length c1] (0, 0) _ rfl r2 hu rfl (by kernel_rfl) (.tmp .nil))) rfl ?_
 have hR := Kd.R_set (Kd.R_set (Kd.R_set HAR.out HX.out.2.1 (by decide) 0 (.int .i64 (M : Int))) r0 (by decide) 1 (.bool false)) r1 (by decide) 2 (.slice A1 E.length c1)
 exact ⟨A1, c1, rfl, (Kd.R_reads' hR).2.2, below_set (below_set (below_set HX.out.2.2 (Nat.le_succ _)) (Nat.le_succ _)) (Nat.le_succ _)⟩
set_option maxHeartbeats 4000000 in
set_option maxRecDepth 100000 in
theorem rtmost_walk (V : Int) (hV : V = tfV n h s t b l) (o : TfOk n h s t l) (ha : askT n l s t h = 0) (hr : Kd.C kArc w A l.length l) :
  Calls Tryz.prog 11 #[.agg #[.int .i64 n, .bool b, .slice A l.length c], .int .i64 s, .int .i64 t, .int .i64 h] w fun e w' => e = .returned (.tuple #[.int .i64 V, .int .i64 0]) ∧ Below w.heap.size w w' := by
 have hu := Tryz.underlying27
 have HO := zh o
 have HR := zh hr
 have HA := zh ha
 obtain ⟨N, hN⟩ : ∃ N : Nat, N = (h + 1) * n := ⟨_, rfl⟩
 obtain ⟨M, hM⟩ : ∃ M : Nat, M = N + 2 := ⟨_, rfl⟩
 obtain ⟨E, hE⟩ : ∃ E, E = tfArcs l b n h s t N (N + 1) := ⟨_, rfl⟩
 have HNO : Hid (NetOk M E ∧ (∀ i : Int, 0 ≤ i → i < E.length → 0 ≤ (rd_T57 E i).f2) ∧ (∀ x, x ∈ E → ArcOk M x) ∧ tfV n h s t b l = mfVal E M N (N + 1) ∧ tfCut n h s t b l = cutOf n E M N (N + 1)) := zh (by
  subst hN hM hE
  exact ⟨(o.netOk b).1, (o.netOk b).2, o.arcs b, rfl, rfl⟩)
 have hNb : N ≤ 4000 := by rw [hN]; exact o.net.hn
 have HN := zh hN
 have HM := zh hM
 have HE := zh hE
 have HV := zh hV
 have e1 : (M : Int) - 2 = (N : Int) := by omega
 have e2 : (M : Int) - 1 = ((N + 1 : Nat) : Int) := by omega
 have HE1 := zh e1
 have HE2 := zh e2
 have hMb : M ≤ 5000 := by omega
 have hM2 : 2 ≤ M := by omega
 clear o hr ha hN hM hE hV e1 e2
 obtain ⟨w1, hw1⟩ : ∃ w1, w1 = w.alloc (.cells #[.int .i64 n, .bool b, .slice A l.length c] 27) := ⟨_, rfl⟩
 have HX : Hid (w1.heap[w.heap.size]? = some (.cells #[.int .i64 n, .bool b, .slice A l.length c] 27 (0, 0)) ∧ Below w.heap.size w w1) := zh (by rw [hw1]; exact ⟨heap_alloc_new _ _, below_alloc (Below.refl _ _) _⟩)
 go_enter Tryz.func11, Tryz.ntmps11
 go_wp2_with (first
  |(go_at_call 23; rw [← hw1]; go_loud ((with_reducible refine (rbuild_walk (M := M) E HE.out HN.out rfl HM.out HO.out HA.out ?s2).mono ?_); (case s2 => exact Kd.C_below HR.out HX.out.2); rintro e w3 ⟨A3, c3, rfl, hr3, hb⟩; have HX3 := zh (And.intro hr3 (And.intro (below_step HX.out.2 hb) (blk_below HX.out.1 hb))); clear hr3 hb))
  |(go_at_call 24; go_loud ((with_reducible refine (best_at M N (N + 1) _ _ ?s1 ?s2 (M : Int) false A3 c3 E _ ?s3 ?s4 ?s5 ?s6 ?s7 ?s8).mono ?_); (case s1 => exact HE1.out); (case s2 => exact HE2.out); (case s3 => exact HNO.out.1); (case s4 => exact HNO.out.2.1); (case s5 => have := HM.out; omega); (case s6 => have := HM.out; omega); (case s7 => omega); (case s8 => exact Kd.C_below HX3.out.1 (below_alloc (Below.refl _ _) _)); rintro e w4 ⟨f, A4, c4, S, rfl, hf1, hf2, hf3, hb⟩; have HF := zh (And.intro hf1 (And.intro hf2 hf3)); have hb9 := below_step (below_alloc (Below.refl w3.heap.size w3) (.cells #[.int .i64 M, .bool false, .slice A3 E.length c3] 27)) hb; have HX4 := zh (And.intro (blk_below (heap_alloc_new w3 (.cells #[.int .i64 M, .bool false, .slice A3 E.length c3] 27)) hb) (And.intro (below_step HX3.out.2.1 hb9) (And.intro (Kd.C_below HX3.out.1 hb9) (blk_below HX3.out.2.2 hb9)))); have y0 : w4.cell? ⟨w3.heap.size, 0, none⟩ = some (.int .i64 M) := (blk_cell HX4.out.1 0).trans rfl; have y1 : w4.cell? ⟨w3.heap.size, 1, none⟩ = some (.bool false) := (blk_cell HX4.out.1 1).trans rfl; have y2 : w4.cell? ⟨w3.heap.size, 2, none⟩ = some (.slice A3 E.length c3) := (blk_cell HX4.out.1 2).trans rfl; have x0 : w4.cell? ⟨w.heap.size, 0, none⟩ = some (.int .i64 n) := (blk_cell HX4.out.2.2.2 0).trans rfl; have x1 : w4.cell? ⟨w.heap.size, 1, none⟩ = some (.bool b) := (blk_cell HX4.out.2.2.2 1).trans rfl; have x2 : w4.cell? ⟨w.heap.size, 2, none⟩ = some (.slice A l.length c) := (blk_cell HX4.out.2.2.2 2).trans rfl; clear hf1 hf2 hf3 hb hb9))
  |(go_at_call 25; go_loud ((with_reducible refine (leaves_at M N _ ?s1 (M : Int) false A3 c3 E A4 c4 f V ?s2 _ ?s3 ?s4 ?s5 ?s6).mono ?_); (case s1 => exact HE1.out); (case s2 => rw [HV.out, HNO.out.2.2.2.1]; exact mfVal_eq HNO.out.2.2.1 (by have := HM.out; omega) HF.out.2.1 HF.out.2.2); (case s3 => exact HNO.out.1); (case s4 => exact HF.out.2.1); (case s5 => exact HX4.out.2.2.1); (case s6 => exact HF.out.1); rintro e w5 ⟨rfl, hb⟩; have HX5 := zh (below_step HX4.out.2.1 hb); clear hb)))
 go_ret2
 exact ⟨rfl, HX5.out⟩
set_option maxHeartbeats 4000000 in
set_option maxRecDepth 100000 in
theorem rtcut_walk (V : List Slot) (hV : V = tfCut n h s t b l) (o : TfOk n h s t l) (ha : askT n l s t h = 0) (hr : Kd.C kArc w A l.length l) :
  Calls Tryz.prog 14 #[.agg #[.int .i64 n, .bool b, .slice A l.length c], .int .i64 s, .int .i64 t, .int .i64 h] w (TCutAt V 0 w) := by
 have hu := Tryz.underlying27
 have HO := zh o
 have HR := zh hr
 have HA := zh ha
 obtain ⟨N, hN⟩ : ∃ N : Nat, N = (h + 1) * n := ⟨_, rfl⟩
 obtain ⟨M, hM⟩ : ∃ M : Nat, M = N + 2 := ⟨_, rfl⟩
 obtain ⟨E, hE⟩ : ∃ E, E = tfArcs l b n h s t N (N + 1) := ⟨_, rfl⟩
 have HNO : Hid (NetOk M E ∧ (∀ i : Int, 0 ≤ i → i < E.length → 0 ≤ (rd_T57 E i).f2) ∧ (∀ x, x ∈ E → ArcOk M x) ∧ tfV n h s t b l = mfVal E M N (N + 1) ∧ tfCut n h s t b l = cutOf n E M N (N + 1)) := zh (by
  subst hN hM hE
  exact ⟨(o.netOk b).1, (o.netOk b).2, o.arcs b, rfl, rfl⟩)
 have hNb : N ≤ 4000 := by rw [hN]; exact o.net.hn
 have HN := zh hN
 have HM := zh hM
 have HE := zh hE
 have HV := zh hV
 have e1 : (M : Int) - 2 = (N : Int) := by omega
 have e2 : (M : Int) - 1 = ((N + 1 : Nat) : Int) := by omega
 have HE1 := zh e1
 have HE2 := zh e2
 have hMb : M ≤ 5000 := by omega
 have hM2 : 2 ≤ M := by omega
 clear o hr ha hN hM hE hV e1 e2
 obtain ⟨w1, hw1⟩ : ∃ w1, w1 = w.alloc (.cells #[.int .i64 n, .bool b, .slice A l.length c] 27) := ⟨_, rfl⟩
 have HX : Hid (w1.heap[w.heap.size]? = some (.cells #[.int .i64 n, .bool b, .slice A l.length c] 27 (0, 0)) ∧ Below w.heap.size w w1) := zh (by rw [hw1]; exact ⟨heap_alloc_new _ _, below_alloc (Below.refl _ _) _⟩)
 go_enter Tryz.func14, Tryz.ntmps14
 go_wp2_with (first
  |(go_at_call 23; rw [← hw1]; go_loud ((with_reducible refine (rbuild_walk (M := M) E HE.out HN.out rfl HM.out HO.out HA.out ?s2).mono ?_); (case s2 => exact Kd.C_below HR.out HX.out.2); rintro e w3 ⟨A3, c3, rfl, hr3, hb⟩; have HX3 := zh (And.intro hr3 (And.intro (below_step HX.out.2 hb) (blk_below HX.out.1 hb))); clear hr3 hb))
  |(go_at_call 24; go_loud ((with_reducible refine (best_at M N (N + 1) _ _ ?s1 ?s2 (M : Int) false A3 c3 E _ ?s3 ?s4 ?s5 ?s6 ?s7 ?s8).mono ?_); (case s1 => exact HE1.out); (case s2 => exact HE2.out); (case s3 => exact HNO.out.1); (case s4 => exact HNO.out.2.1); (case s5 => have := HM.out; omega); (case s6 => have := HM.out; omega); (case s7 => omega); (case s8 => exact Kd.C_below HX3.out.1 (below_alloc (Below.refl _ _) _)); rintro e w4 ⟨f, A4, c4, S, rfl, hf1, hf2, hf3, hb⟩; have HF := zh (And.intro hf1 (And.intro hf2 hf3)); have hb9 := below_step (below_alloc (Below.refl w3.heap.size w3) (.cells #[.int .i64 M, .bool false, .slice A3 E.length c3] 27)) hb; have HX4 := zh (And.intro (blk_below (heap_alloc_new w3 (.cells #[.int .i64 M, .bool false, .slice A3 E.length c3] 27)) hb) (And.intro (below_step HX3.out.2.1 hb9) (And.intro (Kd.C_below HX3.out.1 hb9) (blk_below HX3.out.2.2 hb9)))); have y0 : w4.cell? ⟨w3.heap.size, 0, none⟩ = some (.int .i64 M) := (blk_cell HX4.out.1 0).trans rfl; have y1 : w4.cell? ⟨w3.heap.size, 1, none⟩ = some (.bool false) := (blk_cell HX4.out.1 1).trans rfl; have y2 : w4.cell? ⟨w3.heap.size, 2, none⟩ = some (.slice A3 E.length c3) := (blk_cell HX4.out.1 2).trans rfl; have x0 : w4.cell? ⟨w.heap.size, 0, none⟩ = some (.int .i64 n) := (blk_cell HX4.out.2.2.2 0).trans rfl; have x1 : w4.cell? ⟨w.heap.size, 1, none⟩ = some (.bool b) := (blk_cell HX4.out.2.2.2 1).trans rfl; have x2 : w4.cell? ⟨w.heap.size, 2, none⟩ = some (.slice A l.length c) := (blk_cell HX4.out.2.2.2 2).trans rfl; clear hf1 hf2 hf3 hb hb9))
  |(go_at_call 30; go_loud ((with_reducible refine (rslots_walk n h N (N + 1) M b false A c l.length A3 c3 E A4 c4 f S _ ?s1 ?s2 ?s3 ?s4 ?s5 ?s6 ?s7 ?s8 ?s9 ?s10 ?s11).mono ?_); (case s1 => exact HO.out.net.n0); (case s2 => have := HO.out.net.n1; omega); (case s3 => have := HO.out.net.h1; omega); (case s4 => exact HN.out); (case s5 => exact HM.out); (case s6 => omega); (case s7 => exact HNO.out.1); (case s8 => exact HF.out.2.1); (case s9 => exact HF.out.2.2); (case s10 => exact HX4.out.2.2.1); (case s11 => exact HF.out.1); rintro e w5 ⟨Ao, co, rfl, ho, hb⟩; have HOO := zh (And.intro ho (below_step HX4.out.2.1 hb)); clear ho hb)))
 go_ret2
 exact ⟨_, rfl, by rw [HV.out, HNO.out.2.2.2.2]; exact Kd.R_lower HOO.out.1 HX4.out.2.1.size, HOO.out.2⟩
end
abbrev CBit := S55
def U8s (l : List CBit) : Prop := ∀ x, x ∈ l → U8 x.f0 ∧ U8 x.f1 ∧ U8 x.f2 ∧ U8 x.f3
theorem rd_mem77 {l : List CBit} {i : Nat} (h : i < l.length) : rd_T55 l (i : Int) ∈ l := by
 unfold rd_T55
 rw [Int.toNat_natCast, List.getD_eq_getElem?_getD, List.getElem?_eq_getElem h]
 exact List.getElem_mem h
def Read12At (m : Nat) (b : Bool) (w : World) (e : Ending) (w' : World) : Prop :=
 ∃ (n : Int) (l : List Arc) (s t h : Int) (A : Option Addr) (c : Nat), e = .returned (.tuple #[.agg #[.int .i64 n, .bool b, .slice A l.length c], .int .i64 s, .int .i64 t, .int .i64 h]) ∧ Kd.R kArc 57 w' w.heap.size (fun _ => True) (.slice A l.length c) l ∧ NetSm m n l ∧ (0 ≤ s ∧ s < n) ∧ (0 ≤ t ∧ t < n) ∧ s ≠ t ∧ (0 ≤ h ∧ h ≤ 7) ∧ Below w.heap.size w w'
theorem tmi_bd {x n : Int} (h0 : 0 ≤ x) (h1 : x < 4611686018427387904) (hn : 0 < n) : 0 ≤ (IntKind.i64.wrap x).tmod n ∧ (IntKind.i64.wrap x).tmod n < n := by
 rw [IntWalk.i64_in x (by omega), Int.tmod_eq_emod_of_nonneg h0]
 exact ⟨Int.emod_nonneg _ (by omega), Int.emod_lt_of_pos _ hn⟩
theorem st_ok {n a3 a4 : Int} (n2 : 2 ≤ n) (n5 : n ≤ 5) (h3 : 0 ≤ a3) (h4 : 0 ≤ a4) (g4 : a4 ≤ 255) : (0 ≤ a3 % n ∧ a3 % n < n) ∧ (0 ≤ (IntKind.i64.wrap (IntKind.i64.wrap (a3 % n + 1) + (IntKind.i64.wrap a4).tmod (IntKind.i64.wrap (n - 1)))).tmod n ∧ (IntKind.i64.wrap (IntKind.i64.wrap (a3 % n + 1) + (IntKind.i64.wrap a4).tmod (IntKind.i64.wrap (n - 1)))).tmod n < n) ∧
  a3 % n ≠ (IntKind.i64.wrap (IntKind.i64.wrap (a3 % n + 1) + (IntKind.i64.wrap a4).tmod (IntKind.i64.wrap (n - 1)))).tmod n := by
 have s0 := Int.emod_nonneg a3 (show n ≠ 0 by omega)
 have s1 := Int.emod_lt_of_pos a3 (show 0 < n by omega)
 generalize a3 % n = s at s0 s1
 rw [IntWalk.i64_in (n - 1) (by omega)]
 have r1 := tmi_bd (x := a4) (n := n - 1) h4 (by omega) (by omega)
 generalize (IntKind.i64.wrap a4).tmod (n - 1) = r at r1
 rw [IntWalk.i64_in (s + 1) (by omega), IntWalk.i64_in (s + 1 + r) (by omega), Int.tmod_eq_emod_of_nonneg (by omega)]
 refine ⟨⟨s0, s1⟩, ⟨Int.emod_nonneg _ (by omega), Int.emod_lt_of_pos _ (by omega)⟩, ?_⟩
 have : n = 2 ∨ n = 3 ∨ n = 4 ∨ n = 5 := by omega
 rcases this with rfl | rfl | rfl | rfl <;> omega
def ArcsSm (n : Int) (l : List Arc) : Prop := ∀ x, x ∈ l → (0 ≤ x.f0 ∧ x.f0 < n) ∧ (0 ≤ x.f1 ∧ x.f1 < n) ∧ (0 ≤ x.f2 ∧ x.f2 ≤ 5) ∧ 0 ≤ x.f3 ∧ x.f3 ≤ 3
set_option maxHeartbeats 4000000 in
set_option maxRecDepth 100000 in
theorem read12_walk (m : Nat) (hm : m ≤ 1000) (i : Int) (hi : i = m) (a0 : Int) (a1 : Bool) (A2 : Option Addr) (c2 : Nat) (l2 : List CBit) (a3 a4 a5 : Int) (w : World) (hr : Kd.C k55 w A2 l2.length l2) (h0 : U8 a0) (hb : U8s l2) (h3 : U8 a3) (h4 : U8 a4) (h5 : U8 a5) :
  Calls Tryz.prog 9 #[.agg #[.int .u8 a0, .bool a1, .slice A2 l2.length c2, .int .u8 a3, .int .u8 a4, .int .u8 a5], .int .i64 i] w (Read12At m a1 w) := by
 have HR := zh hr
 have HU := zh hb
 have hu := Tryz.underlying27
 have hu2 := Tryz.underlying24
 have b0 : 0 ≤ a0 := h0.1
 have b1 : a0 ≤ 255 := h0.2
 have b3 : 0 ≤ a3 := h3.1
 have b4 : a3 ≤ 255 := h3.2
 have b5 : 0 ≤ a4 := h4.1
 have b6 : a4 ≤ 255 := h4.2
 have b7 : 0 ≤ a5 := h5.1
 have b8 : a5 ≤ 255 := h5.2
 clear hr hb h0 h3 h4 h5
 go_enter Tryz.func9, Tryz.ntmps9
 go_wp2
 obtain ⟨n, hn⟩ : ∃ n, n = 2 + a0 % 4 := ⟨_, rfl⟩
 have n2 : 2 ≤ n := by omega
 have n5 : n ≤ 5 := by omega
 rw [← hn]
 clear hn b0 b1
 obtain ⟨w3, hw3⟩ : ∃ w3, w3 = ((w.alloc (.cells #[.int .u8 a0, .bool a1, .slice A2 l2.length c2, .int .u8 a3, .int .u8 a4, .int .u8 a5] 24)).alloc (.cells #[.int .i64 0, .bool false, .slice none 0 0] 27)).alloc (.cells #[.int .i64 n, .bool a1, .slice none 0 0] 27) := ⟨_, rfl⟩
 have HX2 : Hid (w3.heap[w.heap.size]? = some (.cells #[.int .u8 a0, .bool a1, .slice A2 l2.length c2, .int .u8 a3, .int .u8 a4, .int .u8 a5] 24 (0, 0))) := zh (by rw [hw3]; exact blk_alloc (blk_alloc (heap_alloc_new _ _) _) _)
 have HX4 : Hid (w3.heap[w.heap.size + 1]? = some (.cells #[.int .i64 0, .bool false, .slice none 0 0] 27 (0, 0))) := zh (by rw [hw3]; exact blk_alloc (alloc_at (by simp)) _)
 have HX8 : Hid (w3.heap[w.heap.size + 1 + 1]? = some (.cells #[.int .i64 n, .bool a1, .slice none 0 0] 27 (0, 0))) := zh (by rw [hw3]; exact alloc_at (by simp))
 have HB3 : Hid (Below w.heap.size w w3) := zh (by rw [hw3]; exact below_alloc (below_alloc (below_alloc (Below.refl _ _) _) _) _)
 rw [← hw3]
 clear hw3
 obtain ⟨base, hbase⟩ : ∃ base, base = w.heap.size := ⟨_, rfl⟩
 obtain ⟨g4, hg4⟩ : ∃ g4, g4 = w.heap.size + 1 := ⟨_, rfl⟩
 obtain ⟨g8, hg8⟩ : ∃ g8, g8 = w.heap.size + 1 + 1 := ⟨_, rfl⟩
 rw [← hg4] at HX4
 rw [← hg8] at HX8
 rw [← hg8, ← hg4]
 have GE4 : Hid (w.heap.size ≤ g4) := zh (by omega)
 have GE8 : Hid (w.heap.size ≤ g8) := zh (by omega)
 have N84 : Hid (g8 ≠ g4) := zh (by omega)
 have N28 : Hid (w.heap.size ≠ g8) := zh (by omega)
 have N48 : Hid (g4 ≠ g8) := zh (by omega)
 have N24 : Hid (w.heap.size ≠ g4) := zh (by omega)
 clear hg4 hg8 hbase base
 have HI := zh hi
 clear hi
 go_loopg [9] (m + 1) (fun k iv W => ∃ (j : Nat) (acc : List Arc) (Av : Option Addr) (cv : Nat), j ≤ m ∧ iv = .int .i64 j ∧ acc.length = j ∧ k = m + 1 - j ∧ Hid (ArcsSm n acc ∧ Kd.R kArc 57 W w.heap.size (fun _ => True) (.slice Av acc.length cv) acc ∧ W.heap[w.heap.size]? = some (.cells #[.int .u8 a0, .bool a1, .slice A2 l2.length c2, .int .u8 a3, .int .u8 a4, .int .u8 a5] 24 (0, 0)) ∧ W.heap[g4]? = some (.cells #[.int .i64 0, .bool false, .slice none 0 0] 27 (0, 0)) ∧ W.heap[g8]? = some (.cells #[.int .i64 n, .bool a1, .slice Av acc.length cv] 27 (0, 0)) ∧ Below w.heap.size w W))
 case atStart => exact ⟨0, [], none, 0, Nat.zero_le _, rfl, rfl, rfl, zh ⟨fun x hx => (nomatch hx), Kd.R_nil _ _ _ _ _, HX2.out, HX4.out, HX8.out, HB3.out⟩⟩
 case round =>
  obtain ⟨j, acc, Av, cv, hj, rfl, hacc, rfl, HL⟩ := hrel
  clear HX2 HX4 HX8 HB3
  have x2 : wr.cell? ⟨w.heap.size, 2, none⟩ = some (.slice A2 l2.length c2) := (blk_cell HL.out.2.2.1 2).trans rfl
  have i0 : (0 : Int) ≤ (j : Int) := by omega
  by_cases c1 : j < l2.length
  ·have c1' : (j : Int) < (l2.length : Int) := by omega
   by_cases c2' : j < m
   ·have c3 : (j : Int) < i := by rw [HI.out]; omega
    obtain ⟨ad, ea, y0, y1, y2, y3⟩ := at_T55 (Kd.C_below HR.out HL.out.2.2.2.2.2) (j : Int) i0 c1'
    subst ea
    rw [Int.toNat_natCast] at y0 y1 y2 y3
    have hx := HU.out _ (rd_mem77 c1)
    obtain ⟨e0, he0⟩ : ∃ e0, e0 = (rd_T55 l2 (j : Int)).f0 := ⟨_, rfl⟩
    obtain ⟨e1, he1⟩ : ∃ e1, e1 = (rd_T55 l2 (j : Int)).f1 := ⟨_, rfl⟩
    obtain ⟨e2, he2⟩ : ∃ e2, e2 = (rd_T55 l2 (j : Int)).f2 := ⟨_, rfl⟩
    obtain ⟨e3, he3⟩ : ∃ e3, e3 = (rd_T55 l2 (j : Int)).f3 := ⟨_, rfl⟩
    rw [← he0] at y0 hx
    rw [← he1] at y1 hx
    rw [← he2] at y2 hx
    rw [← he3] at y3 hx
    obtain ⟨⟨u0, v0⟩, ⟨u1, v1⟩, ⟨u2, v2⟩, ⟨u3, v3⟩⟩ := hx
    clear he0 he1 he2 he3
    go_wp2
    obtain ⟨wq, hwq⟩ : ∃ wq, wq = wr.alloc (.cells #[.int .u8 e0, .int .u8 e1, .int .u8 e2, .int .u8 e3] 55) := ⟨_, rfl⟩
    have HQ : Hid (Kd.R kArc 57 wq w.heap.size (fun _ => True) (.slice Av acc.length cv) acc ∧ wq.heap[w.heap.size]? = some (.cells #[.int .u8 a0, .bool a1, .slice (some ad) l2.length c2, .int .u8 a3, .int .u8 a4, .int .u8 a5] 24 (0, 0)) ∧ wq.heap[g4]? = some (.cells #[.int .i64 0, .bool false, .slice none 0 0] 27 (0, 0)) ∧ wq.heap[g8]? = some (.cells #[.int .i64 n, .bool a1, .slice Av acc.length cv] 27 (0, 0)) ∧ Below w.heap.size w wq) := zh (by rw [hwq]; exact ⟨Kd.R_below HL.out.2.1 (below_alloc (Below.refl _ _) _), blk_alloc HL.out.2.2.1 _, blk_alloc HL.out.2.2.2.1 _, blk_alloc HL.out.2.2.2.2.1 _, below_alloc HL.out.2.2.2.2.2 _⟩)
    have HX10 : Hid (wq.heap[wr.heap.size]? = some (.cells #[.int .u8 e0, .int .u8 e1, .int .u8 e2, .int .u8 e3] 55 (0, 0))) := zh (by rw [hwq]; exact heap_alloc_new _ _)
    rw [← hwq]
    clear hwq x2 y0 y1 y2 y3
    have HA := zh HL.out.1
    clear HL
    generalize wr.heap.size = go at *
    have x0 : wq.cell? ⟨g8, 0, none⟩ = some (.int .i64 n) := (blk_cell HQ.out.2.2.2.1 0).trans rfl
    have x2 : wq.cell? ⟨g8, 2, none⟩ = some (.slice Av acc.length cv) := (blk_cell HQ.out.2.2.2.1 2).trans rfl
    have y0 : wq.cell? ⟨go, 0, none⟩ = some (.int .u8 e0) := (blk_cell HX10.out 0).trans rfl
    have y1 : wq.cell? ⟨go, 1, none⟩ = some (.int .u8 e1) := (blk_cell HX10.out 1).trans rfl
    have y2 : wq.cell? ⟨go, 2, none⟩ = some (.int .u8 e2) := (blk_cell HX10.out 2).trans rfl
    have y3 : wq.cell? ⟨go, 3, none⟩ = some (.int .u8 e3) := (blk_cell HX10.out 3).trans rfl
    have hn0 : ¬ n = 0 := by omega
    have hal : acc.length ≤ 1000 := by omega
    have HAC := zh hacc
    clear hacc
    refine stepS (S := fun w' => w'.cell? ⟨g8, 0, none⟩ = some (.int .i64 n) ∧ w'.cell? ⟨g8, 2, none⟩ = some (.slice Av acc.length cv) ∧ w'.cell? ⟨go, 0, none⟩ = some (.int .u8 e0) ∧ w'.cell? ⟨go, 1, none⟩ = some (.int .u8 e1) ∧ w'.cell? ⟨go, 2, none⟩ = some (.int .u8 e2) ∧ w'.cell? ⟨go, 3, none⟩ = some (.int .u8 e3)) (ds := [26]) 27 (by kernel_rfl) rfl ⟨x0, x2, y0, y1, y2, y3⟩ (fun hHeld => ?_)
    repeat (first | refine rP 27 ?_ | refine rT 27 hHeld ?_)
    refine stepE 27 (N := some 61) rfl rfl (by kernel_rfl) (by decide) (fun K hK => ?_)
    refine value_ (w1 := ?_) (v := ?_) (by rfl) rfl ?_ ?_
    rotate_left 2
    ·go_simp
     constructor
     ·rfl
     ·rfl
    refine hK.out _ _ ⟨(blk_cell (blk_alloc (blk_drew HQ.out.2.2.2.1) _) 0).trans rfl, (blk_cell (blk_alloc (blk_drew HQ.out.2.2.2.1) _) 2).trans rfl, (blk_cell (blk_alloc (blk_drew HX10.out) _) 0).trans rfl, (blk_cell (blk_alloc (blk_drew HX10.out) _) 1).trans rfl, (blk_cell (blk_alloc (blk_drew HX10.out) _) 2).trans rfl, (blk_cell (blk_alloc (blk_drew HX10.out) _) 3).trans rfl⟩ (fun hHeld => ?_)
    clear hK K
    refine sN ?_
    refine stepE 27 (N := some 62) rfl rfl (by kernel_rfl) (by decide) (fun K hK => ?_)
    (repeat rw [drew_of_alloc])
    refine Kd.R_append_step kArc (w0 := w) w.heap.size (by rfl) (.tmp 39) (.tmp 61) 25 57 (.agg #[.int .i64 0, .int .i64 0, .int .i64 0, .int .i64 0]) 32 (by rfl) Tryz.underlying25 infoArc rfl (by decide) (by decide) (.slice Av acc.length cv) acc ⟨(IntKind.i64.wrap e0).tmod n, (IntKind.i64.wrap e1).tmod n, (IntKind.i64.wrap e2).tmod 6, (IntKind.i64.wrap e3).tmod 4⟩ [.int .i64 ((IntKind.i64.wrap e0).tmod n), .int .i64 ((IntKind.i64.wrap e1).tmod n), .int .i64 ((IntKind.i64.wrap e2).tmod 6), .int .i64 ((IntKind.i64.wrap e3).tmod 4)] (fun _ => True) (fun _ => False) (by rfl) (by rfl) (k57_mkM _ _ _ (⟨(IntKind.i64.wrap e0).tmod n, (IntKind.i64.wrap e1).tmod n, (IntKind.i64.wrap e2).tmod 6, (IntKind.i64.wrap e3).tmod 4⟩ : Arc)) (fun _ hk => hk.elim) (fun _ _ => trivial) ?aO ?aB ?aS (by omega) ?_; (case aO => exact Kd.R_drew HQ.out.1); (case aB => exact below_drew1 HQ.out.2.2.2.2); (case aS => exact HQ.out.2.2.2.2.size); intro v1 w9 ho hb hg hat; obtain ⟨A1, c1, rfl⟩ := Kd.R_slice ho; have HS9 := zh (And.intro ho (And.intro (blk_grown (blk_drew HQ.out.2.1) hg (Kd.R_ne HQ.out.1 HQ.out.2.1 (by decide))) (And.intro (blk_grown (blk_drew HQ.out.2.2.1) hg (Kd.R_ne HQ.out.1 HQ.out.2.2.1 (by decide))) (And.intro (blk_grown (blk_drew HQ.out.2.2.2.1) hg (Kd.R_ne HQ.out.1 HQ.out.2.2.2.1 (by decide))) (And.intro (blk_grown (blk_drew HX10.out) hg (Kd.R_ne HQ.out.1 HX10.out (by decide))) hb))))); clear ho hb hg hat
    refine hK.out _ _ ⟨(blk_cell HS9.out.2.2.2.1 0).trans rfl, (blk_cell HS9.out.2.2.2.1 2).trans rfl, (blk_cell HS9.out.2.2.2.2.1 0).trans rfl, (blk_cell HS9.out.2.2.2.2.1 1).trans rfl, (blk_cell HS9.out.2.2.2.2.1 2).trans rfl, (blk_cell HS9.out.2.2.2.2.1 3).trans rfl⟩ (fun hHeld => ?_)
    clear hK K
    refine sN ?_
    refine rP 27 ?_
    refine stepL 27 (N := none) rfl rfl (by kernel_rfl) (by decide) (fun K hK => ?_)
    have z2 : w9.cell? ⟨g8, 2, none⟩ = some (.slice Av acc.length cv) := (blk_cell HS9.out.2.2.2.1 2).trans rfl
    have f2 : w9.frozen? ⟨g8, 2, none⟩ = false := blk_frozen HS9.out.2.2.2.1 2
    refine skip_ (w1 := ?_) (by rfl) rfl ?_ ?_
    rotate_left
    ·go_simp
     rfl
    refine hK.out _ _ ?_
    clear hK K
    refine done_ (by kernel_rfl) ?_
    go_wp2
    have el : (acc ++ [(⟨(IntKind.i64.wrap e0).tmod n, (IntKind.i64.wrap e1).tmod n, (IntKind.i64.wrap e2).tmod 6, (IntKind.i64.wrap e3).tmod 4⟩ : Arc)]).length = acc.length + 1 := by rw [List.length_append]; rfl
    have hs := HS9.out
    rw [el] at hs
    have q0 := tmi_bd (x := e0) (n := n) u0 (by omega) (by omega)
    have q1 := tmi_bd (x := e1) (n := n) u1 (by omega) (by omega)
    have q2 := tmi_bd (x := e2) (n := 6) u2 (by omega) (by omega)
    have q3 := tmi_bd (x := e3) (n := 4) u3 (by omega) (by omega)
    have har : ArcsSm n (acc ++ [(⟨(IntKind.i64.wrap e0).tmod n, (IntKind.i64.wrap e1).tmod n, (IntKind.i64.wrap e2).tmod 6, (IntKind.i64.wrap e3).tmod 4⟩ : Arc)]) := fun x hx => by
     rcases List.mem_append.1 hx with hx | hx
     ·exact HA.out x hx
     ·obtain rfl := List.mem_singleton.1 hx
      exact ⟨q0, q1, ⟨q2.1, Int.le_of_lt_add_one q2.2⟩, q3.1, Int.le_of_lt_add_one q3.2⟩
    have hac := HAC.out
    go_roundg (m - j)
    case measure => omega
    case rel => exact ⟨j + 1, _, A1, c1, by omega, by go_num, by rw [el, hac], by omega, zh ⟨har, by rw [el]; exact Kd.R_mono (Kd.R_far (p := ⟨g8, 2, none⟩) (Kd.R_types hs.1 hs.2.2.2.1 (by decide)) (fun _ hk => hk.2) (.slice A1 (acc.length + 1) c1)) (fun _ hk => trivial), blk_far hs.2.1 N28.out _, blk_far hs.2.2.1 N48.out _, by rw [el]; exact blk_put (cs := #[.int .i64 n, .bool a1, .slice Av acc.length cv]) hs.2.2.2.1 2 _ rfl, below_set hs.2.2.2.2.2 GE8.out⟩⟩
   ·have c3 : ¬ (j : Int) < i := by rw [HI.out]; omega
    have x3 : wr.cell? ⟨w.heap.size, 3, none⟩ = some (.int .u8 a3) := (blk_cell HL.out.2.2.1 3).trans rfl
    have x4 : wr.cell? ⟨w.heap.size, 4, none⟩ = some (.int .u8 a4) := (blk_cell HL.out.2.2.1 4).trans rfl
    have x5 : wr.cell? ⟨w.heap.size, 5, none⟩ = some (.int .u8 a5) := (blk_cell HL.out.2.2.1 5).trans rfl
    have y0 : wr.cell? ⟨g8, 0, none⟩ = some (.int .i64 n) := (blk_cell HL.out.2.2.2.2.1 0).trans rfl
    have y1 : wr.cell? ⟨g8, 1, none⟩ = some (.bool a1) := (blk_cell HL.out.2.2.2.2.1 1).trans rfl
    have y2 : wr.cell? ⟨g8, 2, none⟩ = some (.slice Av acc.length cv) := (blk_cell HL.out.2.2.2.2.1 2).trans rfl
    have hn0 : ¬ n = 0 := by omega
    have hn1 : ¬ IntKind.i64.wrap (n - 1) = 0 := by rw [IntWalk.i64_in _ (by omega)]; omega
    have HAC := zh hacc
    clear hacc
    go_wp2
    refine stepS (S := fun w' => w'.cell? ⟨w.heap.size, 4, none⟩ = some (.int .u8 a4) ∧ w'.cell? ⟨w.heap.size, 5, none⟩ = some (.int .u8 a5) ∧ w'.cell? ⟨g8, 0, none⟩ = some (.int .i64 n) ∧ w'.cell? ⟨g8, 1, none⟩ = some (.bool a1) ∧ w'.cell? ⟨g8, 2, none⟩ = some (.slice Av acc.length cv)) (ds := []) 14 (by kernel_rfl) rfl ⟨x4, x5, y0, y1, y2⟩ (fun hHeld => ?_)
    repeat (first | refine rP 14 ?_ | refine rT 14 hHeld ?_)
    refine done_ (by kernel_rfl) ?_
    go_wp2
    have r4 := blk_drew (blk_drew HL.out.2.2.2.1)
    refine stepS (S := fun w' => w'.cell? ⟨w.heap.size, 4, none⟩ = some (.int .u8 a4) ∧ w'.cell? ⟨w.heap.size, 5, none⟩ = some (.int .u8 a5) ∧ w'.cell? ⟨g8, 0, none⟩ = some (.int .i64 n) ∧ w'.cell? ⟨g8, 1, none⟩ = some (.bool a1) ∧ w'.cell? ⟨g8, 2, none⟩ = some (.slice Av acc.length cv)) (ds := []) 11 (by kernel_rfl) rfl ⟨x4, x5, y0, y1, y2⟩ (fun hHeld => ?_)
    repeat (first | refine rP 11 ?_ | refine rT 11 hHeld ?_)
    refine stepE 11 (N := none) rfl rfl (by kernel_rfl) (by decide) (fun K hK => ?_)
    have HZ := zh (And.intro (Kd.R_drew (Kd.R_drew HL.out.2.1)) (And.intro r4 (And.intro (blk_drew (blk_drew HL.out.2.2.2.2.1)) (below_drew1 (below_drew1 HL.out.2.2.2.2.2)))))
    generalize wr.drew.drew = wz at hHeld r4 HZ ⊢
    have z0 : wz.cell? ⟨g4, 0, none⟩ = some (.int .i64 0) := (blk_cell r4 0).trans rfl
    have z1 : wz.cell? ⟨g4, 1, none⟩ = some (.bool false) := (blk_cell r4 1).trans rfl
    have z2 : wz.cell? ⟨g4, 2, none⟩ = some (.slice none 0 0) := (blk_cell r4 2).trans rfl
    have f0 := blk_frozen r4 0
    have f1 := blk_frozen r4 1
    have f2 := blk_frozen r4 2
    refine skip_ (w1 := ?_) (by rfl) rfl ?_ ?_
    rotate_left
    ·go_simp
     rfl
    refine hK.out _ _ ⟨((cell_far (p := ⟨g4, _, none⟩) N24.out _).trans (((cell_far (p := ⟨g4, _, none⟩) N24.out _).trans (((cell_far (p := ⟨g4, _, none⟩) N24.out _).trans hHeld.1))))), ((cell_far (p := ⟨g4, _, none⟩) N24.out _).trans (((cell_far (p := ⟨g4, _, none⟩) N24.out _).trans (((cell_far (p := ⟨g4, _, none⟩) N24.out _).trans hHeld.2.1))))), ((cell_far (p := ⟨g4, _, none⟩) N84.out _).trans (((cell_far (p := ⟨g4, _, none⟩) N84.out _).trans (((cell_far (p := ⟨g4, _, none⟩) N84.out _).trans hHeld.2.2.1))))), ((cell_far (p := ⟨g4, _, none⟩) N84.out _).trans (((cell_far (p := ⟨g4, _, none⟩) N84.out _).trans (((cell_far (p := ⟨g4, _, none⟩) N84.out _).trans hHeld.2.2.2.1))))), ((cell_far (p := ⟨g4, _, none⟩) N84.out _).trans (((cell_far (p := ⟨g4, _, none⟩) N84.out _).trans (((cell_far (p := ⟨g4, _, none⟩) N84.out _).trans hHeld.2.2.2.2)))))⟩ (fun hHeld => ?_)
    clear hK K
    repeat (first | refine rP 11 ?_ | refine rT 11 hHeld ?_)
    refine done_ (by kernel_rfl) ?_
    go_wp2
    refine bodyPost_ret (results_list (rs := [.cell 4 27, .tmp 5, .tmp 6, .tmp 7]) rfl (by simp) (.cell g4 27 #[.int .i64 n, .bool a1, .slice Av acc.length cv] (0, 0) _ rfl (blk_put (cs := #[.int .i64 n, .bool a1, .slice none 0 0]) (blk_put (cs := #[.int .i64 n, .bool false, .slice none 0 0]) (blk_put (cs := #[.int .i64 0, .bool false, .slice none 0 0]) r4 0 _ rfl) 1 _ rfl) 2 _ rfl) hu rfl (by kernel_rfl) (.tmp (.tmp (.tmp .nil))))) rfl ?_
    have st := st_ok (n := n) (a3 := a3) (a4 := a4) n2 n5 b3 b5 b6
    have q8 := tmi_bd (x := a5) (n := 8) b7 (by omega) (by decide)
    have hac := HAC.out
    exact ⟨n, acc, _, _, _, Av, cv, rfl, Kd.R_mono (Kd.R_far (p := ⟨g4, 2, none⟩) (Kd.R_far (p := ⟨g4, 1, none⟩) (Kd.R_far (p := ⟨g4, 0, none⟩) (Kd.R_types HZ.out.1 HZ.out.2.1 (by decide)) (fun _ hk => hk.2) (.int .i64 n)) (fun _ hk => hk.2) (.bool a1)) (fun _ hk => hk.2) (.slice Av acc.length cv)) (fun _ hk => trivial), ⟨n2, n5, by omega, HL.out.1⟩, st.1, st.2.1, st.2.2, ⟨q8.1, Int.le_of_lt_add_one q8.2⟩, below_set (below_set (below_set HZ.out.2.2.2 GE4.out) GE4.out) GE4.out⟩
  ·have c3 : ¬ (j : Int) < (l2.length : Int) := by omega
   have x3 : wr.cell? ⟨w.heap.size, 3, none⟩ = some (.int .u8 a3) := (blk_cell HL.out.2.2.1 3).trans rfl
   have x4 : wr.cell? ⟨w.heap.size, 4, none⟩ = some (.int .u8 a4) := (blk_cell HL.out.2.2.1 4).trans rfl
   have x5 : wr.cell? ⟨w.heap.size, 5, none⟩ = some (.int .u8 a5) := (blk_cell HL.out.2.2.1 5).trans rfl
   have y0 : wr.cell? ⟨g8, 0, none⟩ = some (.int .i64 n) := (blk_cell HL.out.2.2.2.2.1 0).trans rfl
   have y1 : wr.cell? ⟨g8, 1, none⟩ = some (.bool a1) := (blk_cell HL.out.2.2.2.2.1 1).trans rfl
   have y2 : wr.cell? ⟨g8, 2, none⟩ = some (.slice Av acc.length cv) := (blk_cell HL.out.2.2.2.2.1 2).trans rfl
   have hn0 : ¬ n = 0 := by omega
   have hn1 : ¬ IntKind.i64.wrap (n - 1) = 0 := by rw [IntWalk.i64_in _ (by omega)]; omega
   have HAC := zh hacc
   clear hacc
   go_wp2
   refine stepS (S := fun w' => w'.cell? ⟨w.heap.size, 4, none⟩ = some (.int .u8 a4) ∧ w'.cell? ⟨w.heap.size, 5, none⟩ = some (.int .u8 a5) ∧ w'.cell? ⟨g8, 0, none⟩ = some (.int .i64 n) ∧ w'.cell? ⟨g8, 1, none⟩ = some (.bool a1) ∧ w'.cell? ⟨g8, 2, none⟩ = some (.slice Av acc.length cv)) (ds := []) 14 (by kernel_rfl) rfl ⟨x4, x5, y0, y1, y2⟩ (fun hHeld => ?_)
   repeat (first | refine rP 14 ?_ | refine rT 14 hHeld ?_)
   refine done_ (by kernel_rfl) ?_
   go_wp2
   have r4 := blk_drew (blk_drew HL.out.2.2.2.1)
   refine stepS (S := fun w' => w'.cell? ⟨w.heap.size, 4, none⟩ = some (.int .u8 a4) ∧ w'.cell? ⟨w.heap.size, 5, none⟩ = some (.int .u8 a5) ∧ w'.cell? ⟨g8, 0, none⟩ = some (.int .i64 n) ∧ w'.cell? ⟨g8, 1, none⟩ = some (.bool a1) ∧ w'.cell? ⟨g8, 2, none⟩ = some (.slice Av acc.length cv)) (ds := []) 11 (by kernel_rfl) rfl ⟨x4, x5, y0, y1, y2⟩ (fun hHeld => ?_)
   repeat (first | refine rP 11 ?_ | refine rT 11 hHeld ?_)
   refine stepE 11 (N := none) rfl rfl (by kernel_rfl) (by decide) (fun K hK => ?_)
   have HZ := zh (And.intro (Kd.R_drew (Kd.R_drew HL.out.2.1)) (And.intro r4 (And.intro (blk_drew (blk_drew HL.out.2.2.2.2.1)) (below_drew1 (below_drew1 HL.out.2.2.2.2.2)))))
   generalize wr.drew.drew = wz at hHeld r4 HZ ⊢
   have z0 : wz.cell? ⟨g4, 0, none⟩ = some (.int .i64 0) := (blk_cell r4 0).trans rfl
   have z1 : wz.cell? ⟨g4, 1, none⟩ = some (.bool false) := (blk_cell r4 1).trans rfl
   have z2 : wz.cell? ⟨g4, 2, none⟩ = some (.slice none 0 0) := (blk_cell r4 2).trans rfl
   have f0 := blk_frozen r4 0
   have f1 := blk_frozen r4 1
   have f2 := blk_frozen r4 2
   refine skip_ (w1 := ?_) (by rfl) rfl ?_ ?_
   rotate_left
   ·go_simp
    rfl
   refine hK.out _ _ ⟨((cell_far (p := ⟨g4, _, none⟩) N24.out _).trans (((cell_far (p := ⟨g4, _, none⟩) N24.out _).trans (((cell_far (p := ⟨g4, _, none⟩) N24.out _).trans hHeld.1))))), ((cell_far (p := ⟨g4, _, none⟩) N24.out _).trans (((cell_far (p := ⟨g4, _, none⟩) N24.out _).trans (((cell_far (p := ⟨g4, _, none⟩) N24.out _).trans hHeld.2.1))))), ((cell_far (p := ⟨g4, _, none⟩) N84.out _).trans (((cell_far (p := ⟨g4, _, none⟩) N84.out _).trans (((cell_far (p := ⟨g4, _, none⟩) N84.out _).trans hHeld.2.2.1))))), ((cell_far (p := ⟨g4, _, none⟩) N84.out _).trans (((cell_far (p := ⟨g4, _, none⟩) N84.out _).trans (((cell_far (p := ⟨g4, _, none⟩) N84.out _).trans hHeld.2.2.2.1))))), ((cell_far (p := ⟨g4, _, none⟩) N84.out _).trans (((cell_far (p := ⟨g4, _, none⟩) N84.out _).trans (((cell_far (p := ⟨g4, _, none⟩) N84.out _).trans hHeld.2.2.2.2)))))⟩ (fun hHeld => ?_)
   clear hK K
   repeat (first | refine rP 11 ?_ | refine rT 11 hHeld ?_)
   refine done_ (by kernel_rfl) ?_
   go_wp2
   refine bodyPost_ret (results_list (rs := [.cell 4 27, .tmp 5, .tmp 6, .tmp 7]) rfl (by simp) (.cell g4 27 #[.int .i64 n, .bool a1, .slice Av acc.length cv] (0, 0) _ rfl (blk_put (cs := #[.int .i64 n, .bool a1, .slice none 0 0]) (blk_put (cs := #[.int .i64 n, .bool false, .slice none 0 0]) (blk_put (cs := #[.int .i64 0, .bool false, .slice none 0 0]) r4 0 _ rfl) 1 _ rfl) 2 _ rfl) hu rfl (by kernel_rfl) (.tmp (.tmp (.tmp .nil))))) rfl ?_
   have st := st_ok (n := n) (a3 := a3) (a4 := a4) n2 n5 b3 b5 b6
   have q8 := tmi_bd (x := a5) (n := 8) b7 (by omega) (by decide)
   have hac := HAC.out
   exact ⟨n, acc, _, _, _, Av, cv, rfl, Kd.R_mono (Kd.R_far (p := ⟨g4, 2, none⟩) (Kd.R_far (p := ⟨g4, 1, none⟩) (Kd.R_far (p := ⟨g4, 0, none⟩) (Kd.R_types HZ.out.1 HZ.out.2.1 (by decide)) (fun _ hk => hk.2) (.int .i64 n)) (fun _ hk => hk.2) (.bool a1)) (fun _ hk => hk.2) (.slice Av acc.length cv)) (fun _ hk => trivial), ⟨n2, n5, by omega, HL.out.1⟩, st.1, st.2.1, st.2.2, ⟨q8.1, Int.le_of_lt_add_one q8.2⟩, below_set (below_set (below_set HZ.out.2.2.2 GE4.out) GE4.out) GE4.out⟩
abbrev smallCells (a0 : Int) (a1 : Bool) (A2 : Option Addr) (k c2 : Nat) (a3 a4 a5 : Int) : Array Value := #[.int .u8 a0, .bool a1, .slice A2 k c2, .int .u8 a3, .int .u8 a4, .int .u8 a5]
structure SmallAt (w : World) (a0 : Int) (l2 : List CBit) (a3 a4 a5 : Int) (A2 : Option Addr) : Prop where
 hr : Kd.C k55 w A2 l2.length l2
 h0 : U8 a0
 hb : U8s l2
 h3 : U8 a3
 h4 : U8 a4
 h5 : U8 a5
theorem SmallAt.below {w w2 : World} {a0 : Int} {l2 : List CBit} {a3 a4 a5 : Int} {A2 : Option Addr} (o : SmallAt w a0 l2 a3 a4 a5 A2) (hb : Below w.heap.size w w2) : SmallAt w2 a0 l2 a3 a4 a5 A2 := ⟨Kd.C_below o.hr hb, o.h0, o.hb, o.h3, o.h4, o.h5⟩
def RdAt (m : Nat) (b : Bool) (w : World) (e : Ending) (w' : World) : Prop :=
 ∃ (n h s t : Nat) (l : List Arc) (A : Option Addr) (c : Nat), e = .returned (.tuple #[.agg #[.int .i64 n, .bool b, .slice A l.length c], .int .i64 s, .int .i64 t, .int .i64 h]) ∧ Kd.C kArc w' A l.length l ∧ l.length ≤ c ∧ TfOk n h s t l ∧ askT n l s t h = 0 ∧ h ≤ 7 ∧ n ≤ 5 ∧ NetSm m n l ∧ Below w.heap.size w w'
theorem rd_walk (m : Nat) (hm : m ≤ 40) (i : Int) (hi : i = m) {a0 : Int} {a1 : Bool} {A2 : Option Addr} {c2 : Nat} {l2 : List CBit} {a3 a4 a5 : Int} {w : World} (o : SmallAt w a0 l2 a3 a4 a5 A2) :
  Calls Tryz.prog 9 #[.agg (smallCells a0 a1 A2 l2.length c2 a3 a4 a5), .int .i64 i] w (RdAt m a1 w) := by
 refine (read12_walk m (by omega) i hi a0 a1 A2 c2 l2 a3 a4 a5 w o.hr o.h0 o.hb o.h3 o.h4 o.h5).mono ?_
 rintro e w' ⟨n, l, s, t, h, A, c, rfl, hR, hN, hs, ht, hst, hh, hb⟩
 have n2 := hN.n2
 have n5 := hN.n5
 obtain ⟨n', rfl⟩ := Int.eq_ofNat_of_zero_le (show 0 ≤ n by omega)
 obtain ⟨s', rfl⟩ := Int.eq_ofNat_of_zero_le hs.1
 obtain ⟨t', rfl⟩ := Int.eq_ofNat_of_zero_le ht.1
 obtain ⟨h', rfl⟩ := Int.eq_ofNat_of_zero_le hh.1
 have q := tf_sm (h := h') (s := s') (t := t') hm hN (by omega) (by omega) (fun e => hst (by rw [e])) (by omega)
 exact ⟨n', h', s', t', l, A, c, rfl, (Kd.R_reads' hR).2.2, (Kd.R_reads' hR).2.1, q.1, q.2, by omega, by omega, hN, hb⟩
section
variable {a0 : Int} {b : Bool} {l2 : List CBit} {a3 a4 a5 : Int} {A2 : Option Addr} {c2 : Nat} {w : World}
set_option maxHeartbeats 4000000 in
set_option maxRecDepth 100000 in
theorem law_most (o : SmallAt w a0 l2 a3 a4 a5 A2) :
  Calls Tryz.prog 3 #[.agg (smallCells a0 b A2 l2.length c2 a3 a4 a5)] w fun e w' => e = .returned (.bool true) ∧ Below w.heap.size w w' := by
 have HO := zh o
 have hu := Tryz.underlying27
 have hu2 := Tryz.underlying24
 clear o
 go_enter Tryz.func3, Tryz.ntmps3
 go_wp2_with (go_at_call 9; have hb1 := below_alloc (Below.refl w.heap.size w) (.cells (smallCells a0 b A2 l2.length c2 a3 a4 a5) 24); go_loud ((with_reducible refine (rd_walk 8 (by decide) 8 (by decide) (HO.out.below hb1)).mono ?_); rintro e w2 ⟨n, h, s, t, l, A, c, rfl, hA, hc, ho, hq, hh7, hn5, hsm, hb⟩; have HB2 := zh (below_step hb1 hb); have HA := zh hA; have HC := zh hc; have HK := zh (And.intro ho hq); clear hb1 hb hA hc ho hq hsm))
 obtain ⟨w3, hw3⟩ : ∃ w3, w3 = w2.alloc (.cells #[.int .i64 n, .bool b, .slice A l.length c] 27) := ⟨_, rfl⟩
 have HX : Hid (w3.heap[w2.heap.size]? = some (.cells #[.int .i64 n, .bool b, .slice A l.length c] 27 (0, 0)) ∧ Below w2.heap.size w2 w3) := zh (by rw [hw3]; exact ⟨heap_alloc_new _ _, below_alloc (Below.refl _ _) _⟩)
 obtain ⟨V, hV⟩ : ∃ V, V = tfV n h s t b l := ⟨_, rfl⟩
 have HV := zh hV
 clear hV
 have t1 : (V == V) = true := by simp
 have t2 : (V != V) = false := by simp
 go_wp2_with (first
  |(go_at_call 10; rw [← hw3]; go_loud ((with_reducible refine (most_walk HK.out.1 HK.out.2 HC.out ?s1).mono ?_); (case s1 => exact Kd.C_below HA.out HX.out.2); rintro e w9 ⟨rfl, hb, _⟩; rw [← HV.out]; have HN9 := zh (And.intro (blk_below HX.out.1 hb) (below_step HX.out.2 hb)); clear HX; have HX := HN9; clear HN9; clear hb; have x0 : w9.cell? ⟨w2.heap.size, 0, none⟩ = some (.int .i64 n) := (blk_cell HX.out.1 0).trans rfl; have x1 : w9.cell? ⟨w2.heap.size, 1, none⟩ = some (.bool b) := (blk_cell HX.out.1 1).trans rfl; have x2 : w9.cell? ⟨w2.heap.size, 2, none⟩ = some (.slice A l.length c) := (blk_cell HX.out.1 2).trans rfl))
  |(go_at_call 11; go_loud ((with_reducible refine (rtmost_walk V HV.out HK.out.1 HK.out.2 ?s1).mono ?_); (case s1 => exact Kd.C_below HA.out HX.out.2); rintro e w9 ⟨rfl, hb⟩; have HN9 := zh (And.intro (blk_below HX.out.1 hb) (below_step HX.out.2 hb)); clear HX; have HX := HN9; clear HN9; clear hb; clear x0 x1 x2; have x0 : w9.cell? ⟨w2.heap.size, 0, none⟩ = some (.int .i64 n) := (blk_cell HX.out.1 0).trans rfl; have x1 : w9.cell? ⟨w2.heap.size, 1, none⟩ = some (.bool b) := (blk_cell HX.out.1 1).trans rfl; have x2 : w9.cell? ⟨w2.heap.size, 2, none⟩ = some (.slice A l.length c) := (blk_cell HX.out.1 2).trans rfl))
  |(go_at_call 12; go_loud ((with_reducible refine (awake_walk _).mono ?_); rintro e w8 ⟨rfl, hb⟩; have HX8 := zh (below_step HX.out.2 hb); clear hb)))
 go_ret
 exact ⟨rfl, below_step HB2.out HX8.out⟩
set_option maxHeartbeats 4000000 in
set_option maxRecDepth 100000 in
theorem law_cuts (o : SmallAt w a0 l2 a3 a4 a5 A2) :
  Calls Tryz.prog 4 #[.agg (smallCells a0 b A2 l2.length c2 a3 a4 a5)] w fun e w' => e = .returned (.bool true) ∧ Below w.heap.size w w' := by
 have HO := zh o
 have hu := Tryz.underlying27
 have hu2 := Tryz.underlying24
 clear o
 go_enter Tryz.func4, Tryz.ntmps4
 go_wp2_with (go_at_call 9; have hb1 := below_alloc (Below.refl w.heap.size w) (.cells (smallCells a0 b A2 l2.length c2 a3 a4 a5) 24); go_loud ((with_reducible refine (rd_walk 6 (by decide) 6 (by decide) (HO.out.below hb1)).mono ?_); rintro e w2 ⟨n, h, s, t, l, A, c, rfl, hA, hc, ho, hq, hh7, hn5, hsm, hb⟩; have HB2 := zh (below_step hb1 hb); have HA := zh hA; have HC := zh hc; have HK := zh (And.intro ho hq); clear hb1 hb hA hc ho hq hsm))
 obtain ⟨w3, hw3⟩ : ∃ w3, w3 = w2.alloc (.cells #[.int .i64 n, .bool b, .slice A l.length c] 27) := ⟨_, rfl⟩
 have HX : Hid (w3.heap[w2.heap.size]? = some (.cells #[.int .i64 n, .bool b, .slice A l.length c] 27 (0, 0)) ∧ Below w2.heap.size w2 w3) := zh (by rw [hw3]; exact ⟨heap_alloc_new _ _, below_alloc (Below.refl _ _) _⟩)
 obtain ⟨V, hV⟩ : ∃ V, V = tfCut n h s t b l := ⟨_, rfl⟩
 have HV := zh hV
 have HXL : Hid (V.length ≤ 1000000) := zh (by
  rw [hV]
  have h1 : (tfCut n h s t b l).length ≤ (h + 1) * n := slotsOf_len _ _ _
  have h2 := HK.out.1.net.hn
  omega)
 clear hV
 go_wp2_with (first
  |(go_at_call 13; rw [← hw3]; go_loud ((with_reducible refine (cut_walk HK.out.1 HK.out.2 HC.out ?s1).mono ?_); (case s1 => exact Kd.C_below HA.out HX.out.2); rintro e w9 ⟨v6, rfl, ho6, hb⟩; rw [← HV.out] at ho6; obtain ⟨A6, c6, rfl⟩ := Kd.R_slice ho6; have HO6 := zh (Kd.R_reads' ho6).2.2; clear ho6; have HN9 := zh (And.intro (blk_below HX.out.1 hb) (below_step HX.out.2 hb)); clear HX; have HX := HN9; clear HN9; clear hb; have x0 : w9.cell? ⟨w2.heap.size, 0, none⟩ = some (.int .i64 n) := (blk_cell HX.out.1 0).trans rfl; have x1 : w9.cell? ⟨w2.heap.size, 1, none⟩ = some (.bool b) := (blk_cell HX.out.1 1).trans rfl; have x2 : w9.cell? ⟨w2.heap.size, 2, none⟩ = some (.slice A l.length c) := (blk_cell HX.out.1 2).trans rfl))
  |(go_at_call 14; go_loud ((with_reducible refine (rtcut_walk V HV.out HK.out.1 HK.out.2 ?s1).mono ?_); (case s1 => exact Kd.C_below HA.out HX.out.2); rintro e w9 ⟨v7, rfl, ho7, hb⟩; obtain ⟨A7, c7, rfl⟩ := Kd.R_slice ho7; have HO7 := zh (And.intro (Kd.R_reads' ho7).2.2 (Kd.C_below HO6.out hb)); clear ho7; have HN9 := zh (And.intro (blk_below HX.out.1 hb) (below_step HX.out.2 hb)); clear HX; have HX := HN9; clear HN9; clear hb; clear x0 x1 x2; have x0 : w9.cell? ⟨w2.heap.size, 0, none⟩ = some (.int .i64 n) := (blk_cell HX.out.1 0).trans rfl; have x1 : w9.cell? ⟨w2.heap.size, 1, none⟩ = some (.bool b) := (blk_cell HX.out.1 1).trans rfl; have x2 : w9.cell? ⟨w2.heap.size, 2, none⟩ = some (.slice A l.length c) := (blk_cell HX.out.1 2).trans rfl))
  |(go_at_call 12; go_loud ((with_reducible refine (awake_walk _).mono ?_); rintro e w8 ⟨rfl, hb⟩; have HX8 := zh (And.intro (below_step HX.out.2 hb) (And.intro (Kd.C_below HO7.out.1 hb) (Kd.C_below HO7.out.2 hb))); clear hb))
  |(go_at_call 15; go_loud ((with_reducible refine (sameslots_walk _ _ _ _ V _ ?s1 ?s2 ?s3).mono ?_); (case s1 => exact HX8.out.2.2); (case s2 => exact HX8.out.2.1); (case s3 => exact HXL.out); rintro e w9 ⟨rfl, hb⟩; have HX9 := zh (below_step HX8.out.1 hb); clear hb)))
 go_ret
 exact ⟨rfl, below_step HB2.out HX9.out⟩
end
end Go.Proofs.YtdfagllncopmjaaGreat.H
end
section
namespace Go.Proofs.YtdfagllncopmjaaGreat.H
open Go Go.ChangeShapes Go.WideShapes Go.ChangeAt Go.RowKit Go.Deep Go.Joins Go.Proofs.YtdfagllncopmjaaGreat.PrintC Go.Proofs.YtdfagllncopmjaaGreat.PrintE Go.Proofs.YtdfagllncopmjaaGreatW.PrintWords Go.Proofs.YtdfagllncopmjaaGreatW.PrintLast
theorem ownK : ownKnob Tryz.prog.godebug = none := by kernel_rfl
theorem laidOutK : laidOutB Tryz.prog = true := by kernel_rfl
noncomputable def laidWorld (os : Os) : World := World.holding Tryz.prog os ⟨#[], #[], []⟩
section
variable {Hh : Type} {enc : TypeId × Value → Hh} {P : Program} {W : World} {base : Nat} {spare : Nat → Bool} {held : Bool}
theorem kc_none {α : Type} (d : Kd α) : Kd.C d W none ([] : List α).length [] := ⟨rfl, by simp, fun h => by simp at h⟩
theorem kc_none2 {α : Type} (d : Kd α) : Kd.C d W none ([] : List α).length [] := ⟨rfl, by simp, fun h => by simp at h⟩
theorem wf_range {n : Int} (h : (Lit.int .i64 n).wf = true) : -9223372036854775808 ≤ n ∧ n ≤ 9223372036854775807 := by
 simp only [Lit.wf, Bool.and_eq_true, decide_eq_true_eq] at h
 exact h
theorem field_of {t : TypeId} {fs : Array Field} {n : Nat} {cs : List Value} {y : DataW Hh × List MemPlace} (hu : P.underlying t = some (.struct fs)) (h : DataW.trod enc P W base spare held n t cs = some y) (i : Nat) (f : Field) (hf : fs[i]? = some f) {k : Nat} (hk : P.cellsOf f.type = k) {cs' : List Value} (hc : (cs.drop f.offset).take k = cs') :
  ∃ m z, DataW.trod enc P W base spare held m f.type cs' = some z := by
 obtain ⟨xs, m, _, _, _, hl, hg⟩ := DataW.trod_struct hu h
 have h1 := hg i f hf
 have hi : i < xs.length := by rw [hl]; exact (Array.getElem?_eq_some_iff.1 hf).1
 rw [List.getElem?_eq_getElem hi, hk, hc] at h1
 exact ⟨m, _, h1⟩
theorem wf_u8 {n : Int} (h : (Lit.int .u8 n).wf = true) : U8 n := by
 simp only [Lit.wf, Bool.and_eq_true, decide_eq_true_eq] at h
 exact h
end
section
variable {Hh : Type} {enc : TypeId × Value → Hh} {W : World} {base : Nat} {spare : Nat → Bool} {held : Bool}
theorem one_u8 {n : Nat} {v : Value} {y : DataW Hh × List MemPlace} (h : DataW.trod enc Tryz.prog W base spare held n 5 [v] = some y) : ∃ k, v = .int .u8 k ∧ U8 k := by
 obtain ⟨k, hc, _, hw⟩ := DataW.trod_int Tryz.underlying5 h
 simp only [List.cons.injEq, and_true] at hc
 exact ⟨k, hc, wf_u8 hw⟩
theorem one_bool {n : Nat} {v : Value} {y : DataW Hh × List MemPlace} (h : DataW.trod enc Tryz.prog W base spare held n 4 [v] = some y) : ∃ b, v = .bool b := by
 obtain ⟨b, hc, _⟩ := DataW.trod_bool Tryz.underlying4 h
 simp only [List.cons.injEq, and_true] at hc
 exact ⟨b, hc⟩
theorem u8_cells : Tryz.prog.cellsOf 5 = 1 := by kernel_rfl
theorem bool_cells : Tryz.prog.cellsOf 4 = 1 := by kernel_rfl
theorem bit_cells : Tryz.prog.cellsOf 55 = 4 := by kernel_rfl
theorem bits_cells : Tryz.prog.cellsOf 22 = 1 := by kernel_rfl
theorem small_cells : Tryz.prog.cellsOf 24 = 6 := by kernel_rfl
set_option maxRecDepth 100000 in
theorem opened_bit {n : Nat} {cs : List Value} {y : DataW Hh × List MemPlace} (h : DataW.trod enc Tryz.prog W base spare held n 55 cs = some y) :
  ∃ a : CBit, cs = [.int .u8 a.f0, .int .u8 a.f1, .int .u8 a.f2, .int .u8 a.f3] ∧ (U8 a.f0 ∧ U8 a.f1 ∧ U8 a.f2 ∧ U8 a.f3) := by
 obtain ⟨y0, y1, y2, y3, m, _, hl, h0, h1, h2, h3⟩ := trod_struct4 Tryz.underlying55 h
 rw [bit_cells] at hl
 match cs, hl with
 |[c0, c1, c2, c3], _ =>
  simp only [u8_cells] at h0 h1 h2 h3
  obtain ⟨k0, rfl, r0⟩ := one_u8 h0
  obtain ⟨k1, rfl, r1⟩ := one_u8 h1
  obtain ⟨k2, rfl, r2⟩ := one_u8 h2
  obtain ⟨k3, rfl, r3⟩ := one_u8 h3
  exact ⟨⟨k0, k1, k2, k3⟩, rfl, r0, r1, r2, r3⟩
set_option maxRecDepth 100000 in
theorem opened_bits {n : Nat} {v : Value} {y : DataW Hh × List MemPlace} (h : DataW.trod enc Tryz.prog W base spare held n 22 [v] = some y) :
  ∃ (A : Option Addr) (c : Nat) (l : List CBit), v = .slice A l.length c ∧ l.length ≤ c ∧ Kd.C k55 W A l.length l ∧ U8s l := by
 rcases open_slice Tryz.underlying22 h with ⟨hcs, _⟩ | ⟨a, len, cap, m, n', D, Pl, hcs, hb, hl, hm, hmm, hx, hi⟩
 ·simp only [List.cons.injEq, and_true] at hcs
  subst hcs
  exact ⟨none, 0, [], rfl, Nat.le_refl _, kc_none _, fun x hx => by cases hx⟩
 ·simp only [List.cons.injEq, and_true] at hcs
  subst hcs
  have hlm : len ≤ m := by
   rw [hmm]
   split
   ·exact hl
   ·exact Nat.le_refl _
  have hq : ∀ i, ∃ s : CBit, i < len → (U8 s.f0 ∧ U8 s.f1 ∧ U8 s.f2 ∧ U8 s.f3) ∧ ∀ j u, [Value.int .u8 s.f0, .int .u8 s.f1, .int .u8 s.f2, .int .u8 s.f3][j]? = some u → W.cell? (a.add (i * 4 + j)) = some u := by
   intro i
   by_cases hlt : i < len
   ·obtain ⟨cs', hc, ht⟩ := hi i (by omega)
    obtain ⟨s, rfl, hr⟩ := opened_bit ht
    rw [bit_cells] at hc
    obtain ⟨_, _, hat⟩ := World.cells?_some hc
    refine ⟨s, fun _ => ⟨hr, fun j u hu => ?_⟩⟩
    have hj : j < 4 := (List.getElem?_eq_some_iff.1 hu).1
    have h4 := hat j hj
    rw [← Go.Deep.add_add, h4, hu]
   ·exact ⟨⟨0, 0, 0, 0⟩, fun h => absurd h hlt⟩
  obtain ⟨g, hg⟩ := Classical.axiomOfChoice hq
  have hml : len ≤ 9223372036854775807 := by unfold maxLen at hm; omega
  refine ⟨some a, cap, (List.range len).map g, by simp, by simpa using hl, ⟨by simp, by simpa using hml, fun _ => ⟨a, rfl, fun j p hj => ?_⟩⟩, ?_⟩
  ·have hj1 : j < len := by have := (List.getElem?_eq_some_iff.1 hj).1; simpa using this
   have hj2 : g j = p := by
    have := hj
    simp [hj1] at this
    exact this
   subst hj2
   exact ⟨_, rfl, k55_mk W (g j), fun i u hu => (hg j hj1).2 i u hu⟩
  ·intro s hs
   obtain ⟨i, hi2, rfl⟩ := List.mem_map.1 hs
   exact (hg i (List.mem_range.1 hi2)).1
theorem one_int {n : Nat} {v : Value} {y : DataW Hh × List MemPlace} (h : DataW.trod enc Tryz.prog W base spare held n 3 [v] = some y) : ∃ k, v = .int .i64 k ∧ (Lit.int .i64 k).wf = true := by
 obtain ⟨k, hc, _, hw⟩ := DataW.trod_int Tryz.underlying3 h
 simp only [List.cons.injEq, and_true] at hc
 exact ⟨k, hc, hw⟩
theorem arc_cells : Tryz.prog.cellsOf 57 = 4 := by kernel_rfl
theorem int_cells : Tryz.prog.cellsOf 3 = 1 := by kernel_rfl
theorem net_cells : Tryz.prog.cellsOf 27 = 3 := by kernel_rfl
set_option maxRecDepth 100000 in
theorem opened_arcc {n : Nat} {cs : List Value} {y : DataW Hh × List MemPlace} (h : DataW.trod enc Tryz.prog W base spare held n 57 cs = some y) :
  ∃ a : Arc, cs = [.int .i64 a.f0, .int .i64 a.f1, .int .i64 a.f2, .int .i64 a.f3] := by
 obtain ⟨y0, y1, y2, y3, m, _, hl, h0, h1, h2, h3⟩ := trod_struct4 Tryz.underlying57 h
 rw [arc_cells] at hl
 match cs, hl with
 |[c0, c1, c2, c3], _ =>
  simp only [int_cells] at h0 h1 h2 h3
  obtain ⟨k0, rfl, r0⟩ := one_int h0
  obtain ⟨k1, rfl, r1⟩ := one_int h1
  obtain ⟨k2, rfl, r2⟩ := one_int h2
  obtain ⟨k3, rfl, r3⟩ := one_int h3
  exact ⟨⟨k0, k1, k2, k3⟩, rfl⟩
set_option maxRecDepth 100000 in
theorem opened_arcs {n : Nat} {v : Value} {y : DataW Hh × List MemPlace} (h : DataW.trod enc Tryz.prog W base spare held n 25 [v] = some y) :
  ∃ (A : Option Addr) (c : Nat) (l : List Arc), v = .slice A l.length c ∧ l.length ≤ c ∧ Kd.C kArc W A l.length l := by
 rcases open_slice Tryz.underlying25 h with ⟨hcs, _⟩ | ⟨a, len, cap, m, n', D, Pl, hcs, hb, hl, hm, hmm, hx, hi⟩
 ·simp only [List.cons.injEq, and_true] at hcs
  subst hcs
  exact ⟨none, 0, [], rfl, Nat.le_refl _, kc_none2 _⟩
 ·simp only [List.cons.injEq, and_true] at hcs
  subst hcs
  have hlm : len ≤ m := by
   rw [hmm]
   split
   ·exact hl
   ·exact Nat.le_refl _
  have hq : ∀ i, ∃ s : Arc, i < len → ∀ j u, [Value.int .i64 s.f0, .int .i64 s.f1, .int .i64 s.f2, .int .i64 s.f3][j]? = some u → W.cell? (a.add (i * 4 + j)) = some u := by
   intro i
   by_cases hlt : i < len
   ·obtain ⟨cs', hc, ht⟩ := hi i (by omega)
    obtain ⟨s, rfl⟩ := opened_arcc ht
    rw [arc_cells] at hc
    obtain ⟨_, _, hat⟩ := World.cells?_some hc
    refine ⟨s, fun _ j u hu => ?_⟩
    have hj : j < 4 := (List.getElem?_eq_some_iff.1 hu).1
    have h4 := hat j hj
    rw [← Go.Deep.add_add, h4, hu]
   ·exact ⟨⟨0, 0, 0, 0⟩, fun h => absurd h hlt⟩
  obtain ⟨g, hg⟩ := Classical.axiomOfChoice hq
  have hml : len ≤ 9223372036854775807 := by unfold maxLen at hm; omega
  refine ⟨some a, cap, (List.range len).map g, by simp, by simpa using hl, ⟨by simp, by simpa using hml, fun _ => ⟨a, rfl, fun j p hj => ?_⟩⟩⟩
  have hj1 : j < len := by have := (List.getElem?_eq_some_iff.1 hj).1; simpa using this
  have hj2 : g j = p := by
   have := hj
   simp [hj1] at this
   exact this
  subst hj2
  exact ⟨_, rfl, k57_mk W (g j), fun i u hu => hg j hj1 i u hu⟩
set_option maxRecDepth 100000 in
theorem opened_net {r : Reach} {b0 : Nat} {v : Value} {d : DataW Hh} {p : List MemPlace} (hv : Value.okWide Tryz.prog W r b0 27 v) (h : DataW.Trod enc Tryz.prog W base spare held 27 v d p) :
  ∃ (n : Int) (b : Bool) (A : Option Addr) (c : Nat) (l : List Arc), v = .agg #[.int .i64 n, .bool b, .slice A l.length c] ∧ l.length ≤ c ∧ Kd.C kArc W A l.length l ∧ True := by
 obtain ⟨v0, v1, v2, y0, y1, y2, n, rfl, _, _, h0, h1, h2⟩ := open_agg3 Tryz.underlying27 (by kernel_rfl) net_cells hv h
 obtain ⟨k0, rfl, r0⟩ := one_int h0
 obtain ⟨b, rfl⟩ := one_bool h1
 obtain ⟨A, c, l, rfl, g1, g2⟩ := opened_arcs h2
 exact ⟨k0, b, A, c, l, rfl, g1, g2, trivial⟩
set_option maxRecDepth 100000 in
theorem small_in {n : Nat} {x0 x1 x2 x3 x4 x5 : Value} {y : DataW Hh × List MemPlace} (hf : DataW.trod enc Tryz.prog W base spare held n 24 [x0, x1, x2, x3, x4, x5] = some y) :
  ∃ a0 b l2 a3 a4 a5 A2 c2, #[x0, x1, x2, x3, x4, x5] = smallCells a0 b A2 l2.length c2 a3 a4 a5 ∧ SmallAt W a0 l2 a3 a4 a5 A2 := by
 obtain ⟨_, _, f0⟩ := field_of Tryz.underlying24 hf 0 _ rfl u8_cells (cs' := [x0]) rfl
 obtain ⟨_, _, f1⟩ := field_of Tryz.underlying24 hf 1 _ rfl bool_cells (cs' := [x1]) rfl
 obtain ⟨_, _, f2⟩ := field_of Tryz.underlying24 hf 2 _ rfl bits_cells (cs' := [x2]) rfl
 obtain ⟨_, _, f3⟩ := field_of Tryz.underlying24 hf 3 _ rfl u8_cells (cs' := [x3]) rfl
 obtain ⟨_, _, f4⟩ := field_of Tryz.underlying24 hf 4 _ rfl u8_cells (cs' := [x4]) rfl
 obtain ⟨_, _, f5⟩ := field_of Tryz.underlying24 hf 5 _ rfl u8_cells (cs' := [x5]) rfl
 obtain ⟨a0, rfl, u0⟩ := one_u8 f0
 obtain ⟨b, rfl⟩ := one_bool f1
 obtain ⟨A2, c2, l2, rfl, h2, r2, u2⟩ := opened_bits f2
 obtain ⟨a3, rfl, u3⟩ := one_u8 f3
 obtain ⟨a4, rfl, u4⟩ := one_u8 f4
 obtain ⟨a5, rfl, u5⟩ := one_u8 f5
 exact ⟨a0, b, l2, a3, a4, a5, A2, c2, rfl, r2, u0, u2, u3, u4, u5⟩
set_option maxRecDepth 100000 in
theorem opened_small {r : Reach} {b0 : Nat} {v : Value} {d : DataW Hh} {p : List MemPlace} (hv : Value.okWide Tryz.prog W r b0 24 v) (h : DataW.Trod enc Tryz.prog W base spare held 24 v d p) :
  ∃ a0 b l2 a3 a4 a5 A2 c2, v = .agg (smallCells a0 b A2 l2.length c2 a3 a4 a5) ∧ SmallAt W a0 l2 a3 a4 a5 A2 := by
 obtain ⟨cs, rfl, hsz⟩ := okWide_struct Tryz.underlying24 hv
 obtain ⟨l⟩ := cs
 match l, hsz.trans small_cells with
 |[x0, x1, x2, x3, x4, x5], _ =>
  obtain ⟨fuel, hf⟩ := h
  obtain ⟨a0, b, l2, a3, a4, a5, A2, c2, e, o⟩ := small_in hf
  exact ⟨a0, b, l2, a3, a4, a5, A2, c2, by rw [← e], o⟩
end
end Go.Proofs.YtdfagllncopmjaaGreat.H
end
