/- The law EvacGrows, walked. -/
import Derived.Test.YtcgdloldkcmhnaaU6
import Derived.Test.YtcgdloldkcmhnaaHGrowsPureS
namespace Go.Proofs.Ytcgdloldkcmhnaa.H
open Go Go.RowKit Go.Proofs.Ytcgdloldkcmhnaa.PrintC Go.Proofs.Ytcgdloldkcmhnaa.PrintE Go.Proofs.YtcgdloldkcmhnaaW.PrintWords Go.Proofs.YtcgdloldkcmhnaaW.PrintLast Go.Proofs.YtcgdloldkcmhnaaW.PrintMore Go.Proofs.Ytcgdloldkcmhnaa.Flow
set_option linter.unusedVariables false
set_option linter.unusedSimpArgs false

section
variable {a0 : Int} {a1 : Bool} {l2 : List CBit} {a3 a4 a5 : Int} {l6 l7 : List Int} {l8 : List CBit3} {l9 : List Int} {A2 : Option Addr} {c2 : Nat} {A6 : Option Addr} {c6 : Nat} {A7 : Option Addr} {c7 : Nat} {A8 : Option Addr} {c8 : Nat} {A9 : Option Addr} {c9 : Nat} {w : World} {v : Value}
set_option maxHeartbeats 4000000 in
set_option maxRecDepth 100000 in
theorem grows_walk (o : CaseAt w v a0 a1 l2 a3 a4 a5 l6 l7 l8 l9 A2 c2 A6 c6 A7 c7 A8 c8 A9 c9) (z : Int) (hz : U8 z) :
    Calls Try.prog 4 #[.agg (caseCells a0 a1 l2 a3 a4 a5 l6 l7 l8 l9 A2 c2 A6 c6 A7 c7 A8 c8 A9 c9), .int .u8 z] w fun e w' => e = .returned (.bool true) ∧ Below w.heap.size w w' := by
  have HO := Lib.hid o
  have hu := Try.underlying32
  have hu2 := Try.underlying29
  have hu3 := Try.underlying44
  have zz : 0 ≤ z ∧ z ≤ 255 := hz
  clear o hz
  go_enter Try.func4, Try.ntmps4
  go_wp2_with (first
    | (go_at_call 13; (with_reducible refine (awake_walk _).mono ?_); rintro e w1 ⟨rfl, hb⟩; have HB1 := Lib.hid (below_step (below_alloc (Below.refl w.heap.size w) (.cells (caseCells a0 a1 l2 a3 a4 a5 l6 l7 l8 l9 A2 c2 A6 c6 A7 c7 A8 c8 A9 c9) 29)) hb); have HX1 := Lib.hid (blk_below (heap_alloc_new w (.cells (caseCells a0 a1 l2 a3 a4 a5 l6 l7 l8 l9 A2 c2 A6 c6 A7 c7 A8 c8 A9 c9) 29)) hb); have x0 := (blk_cell HX1.out 0).trans rfl; have x1 := (blk_cell HX1.out 1).trans rfl; have x2 := (blk_cell HX1.out 2).trans rfl; have x3 := (blk_cell HX1.out 3).trans rfl; have x4 := (blk_cell HX1.out 4).trans rfl; have x5 := (blk_cell HX1.out 5).trans rfl; have x6 := (blk_cell HX1.out 6).trans rfl; have x7 := (blk_cell HX1.out 7).trans rfl; have x8 := (blk_cell HX1.out 8).trans rfl; have x9 := (blk_cell HX1.out 9).trans rfl; clear hb)
    | (go_at_call 10; (with_reducible refine (read_at 8 8 rfl (by decide) (HO.out.below HB1.out)).mono ?_); rintro e w2 ⟨n, h, b, l, p, q, A, c, Ap, cp, Aq, cq, rfl, hA, hc, hp, hcp, hq, hcq, hN, hg, hh, hb⟩; have HB2 := Lib.hid (below_step HB1.out hb); have HA := Lib.hid hA; have HP := Lib.hid hp; have HQ := Lib.hid hq; have HC := Lib.hid (And.intro hc (And.intro hcp hcq)); have HK := Lib.hid (ask_of (m := 8) (by decide) hN hg (show h ≤ 16 by omega)); have HH := Lib.hid hh; have HG := Lib.hid hg; have HK1 := Lib.hid (ask_of (m := 8) (h := h + 1) (by decide) hN hg (show h + 1 ≤ 16 by omega)); clear x0 x1 x2 x3 x4 x5 x6 x7 x8 x9 hb hA hc hp hcp hq hcq hN hg hh))
  obtain ⟨H, hH⟩ : ∃ H : Int, H = h := ⟨_, rfl⟩
  rw [← hH]
  have h8 : 0 ≤ H ∧ H ≤ 7 := by have := HH.out; omega
  have f0 := HK.out.most b (k := 1500) (by decide)
  have hK1 := HK1.out
  have f1 := hK1.most b (k := 1500) (by decide)
  have g1 := hK1.place.mono b
  obtain ⟨V0, hV0⟩ : ∃ V0, V0 = mostV n h b l p q := ⟨_, rfl⟩
  obtain ⟨V1, hV1⟩ : ∃ V1, V1 = mostV n (h + 1) b l p q := ⟨_, rfl⟩
  rw [← hV0] at f0 g1
  rw [← hV1] at f1 g1
  rw [← hH] at f0
  rw [show ((h + 1 : Nat) : Int) = H + 1 by omega] at f1
  have F0 := Lib.hid f0
  have F1 := Lib.hid f1
  have EV0 := Lib.hid hV0
  have EH := Lib.hid hH
  clear f0 f1 hK1 hV0 hV1 hH
  have HB : Hid (Below w.heap.size w (w2.alloc (.cells #[.int .i64 n, .bool b, .slice A l.length c] 32))) := Lib.hid (below_alloc HB2.out _)
  have HW : Hid (Below w2.heap.size w2 (w2.alloc (.cells #[.int .i64 n, .bool b, .slice A l.length c] 32))) := Lib.hid (below_alloc (Below.refl _ _) _)
  have HX : Hid ((w2.alloc (.cells #[.int .i64 n, .bool b, .slice A l.length c] 32)).heap[w2.heap.size]? = some (.cells #[.int .i64 n, .bool b, .slice A l.length c] 32 (0, 0))) := Lib.hid (heap_alloc_new _ _)
  generalize w2.alloc (.cells #[.int .i64 n, .bool b, .slice A l.length c] 32) = w3 at HB HW HX ⊢
  have x0 := (blk_cell HX.out 0).trans rfl
  have x1 := (blk_cell HX.out 1).trans rfl
  have x2 := (blk_cell HX.out 2).trans rfl
  have LEN : Hid (((0 + p.length) * 16 ≤ 140737488355328) ∧ ((0 + q.length) * 16 ≤ 140737488355328)) := Lib.hid (by have := HK.out.place.lp; have := HK.out.place.lq; omega)
  go_wp2_with (first
    | (go_at_call 14; (with_reducible refine (evac_Most.calls 1500 n b A c l Ap cp p Aq cq q H V0 0 _ ?s1 HC.out.1 ?s2 HC.out.2.1 ?s3 HC.out.2.2 F0.out).mono ?_); (case s1 => exact Kd.C_below HA.out HW.out); (case s2 => exact Kd.C_below HP.out HW.out); (case s3 => exact Kd.C_below HQ.out HW.out); rintro e w5 ⟨rfl, hb⟩; have HB5 := Lib.hid (below_step HB.out hb); have HW5 := Lib.hid (below_step HW.out hb); have HX5 := Lib.hid (blk_below HX.out hb); clear HB HW HX; have HB := HB5; have HW := HW5; have HX := HX5; clear HB5 HW5 HX5; (try clear x0 x1 x2); have x0 := (blk_cell HX.out 0).trans rfl; have x1 := (blk_cell HX.out 1).trans rfl; have x2 := (blk_cell HX.out 2).trans rfl; clear hb)
    | (go_at_call 14; (with_reducible refine (evac_Most.calls 1500 n b A c l Ap cp p Aq cq q (H + 1) V1 0 _ ?s1 HC.out.1 ?s2 HC.out.2.1 ?s3 HC.out.2.2 F1.out).mono ?_); (case s1 => exact Kd.C_below HA.out HW.out); (case s2 => exact Kd.C_below HP.out HW.out); (case s3 => exact Kd.C_below HQ.out HW.out); rintro e w5 ⟨rfl, hb⟩; have HB5 := Lib.hid (below_step HB.out hb); have HW5 := Lib.hid (below_step HW.out hb); have HX5 := Lib.hid (blk_below HX.out hb); clear HB HW HX; have HB := HB5; have HW := HW5; have HX := HX5; clear HB5 HW5 HX5; (try clear x0 x1 x2); have x0 := (blk_cell HX.out 0).trans rfl; have x1 := (blk_cell HX.out 1).trans rfl; have x2 := (blk_cell HX.out 2).trans rfl; clear hb)
    | ((with_reducible refine gate_builtin (b := .append) (xs := #[.tmp 49, .tmp 50]) rfl ?_); (try (refine gate_guard (by rfl) ?_; dsimp only)); at_builtin; go_loud (refine Kd.R_append_rows kGrp (w0 := w2) w2.heap.size rfl (.tmp 49) (.tmp 50) 33 44 (.agg #[.int .i64 0, .int .i64 0]) 16 rfl Try.underlying33 infoGrp2 rfl (by decide) (by decide) (.slice none 0 0) ([] : List Grp) p _ _ _ (fun _ => True) (fun _ => False) rfl rfl ?aO ?aR (fun _ _ h => h) (fun _ h => h.elim) ?aF ?aB ?aS ?aL ?_); (case aR => exact Kd.C_below HP.out HW.out); (case aB => exact HW.out); (case aF => exact fun _ hk => trivial); (case aO => exact Kd.R_nil _ _ _ _ _); (case aS => exact below_size HW.out); (case aL => exact LEN.out.1); intro v9 w9 ho hb hg hat; rw [List.nil_append] at ho; have HB9 := Lib.hid (below_step HB2.out hb); have HX9 := Lib.hid (blk_grown HX.out hg (by simp [Value.ownBlock])); clear HB HX HW; have HB := HB9; have HX := HX9; have HW := Lib.hid hb; clear HB9 HX9; (try clear x0 x1 x2); have x0 := (blk_cell HX.out 0).trans rfl; have x1 := (blk_cell HX.out 1).trans rfl; have x2 := (blk_cell HX.out 2).trans rfl; have HM := Lib.hid (Kd.R_mono (ok' := fun k => k < w9.heap.size) (Kd.R_bound ho) (fun k hk => hk.2.2.1)); clear ho hb hg hat)
    | ((with_reducible refine gate_builtin (b := .append) (xs := #[.tmp 52, .tmp 53]) rfl ?_); (try (refine gate_guard (by rfl) ?_; dsimp only)); at_builtin; go_loud (refine Kd.R_append_rows kGrp (w0 := w2) w2.heap.size rfl (.tmp 52) (.tmp 53) 33 44 (.agg #[.int .i64 0, .int .i64 0]) 16 rfl Try.underlying33 infoGrp2 rfl (by decide) (by decide) (.slice none 0 0) ([] : List Grp) q _ _ _ (fun k => w9.heap.size ≤ k) (fun _ => False) rfl rfl ?aO ?aR (fun _ _ h => h) (fun _ h => h.elim) ?aF ?aB ?aS ?aL ?_); (case aR => exact Kd.C_below HQ.out HW.out); (case aB => exact HW.out); (case aF => exact fun _ hk => hk); (case aO => exact Kd.R_nil _ _ _ _ _); (case aS => exact below_size HW.out); (case aL => exact LEN.out.2); intro v10 w10 ho hb hg hat; rw [List.nil_append] at ho; have HB9 := Lib.hid (below_step HB2.out hb); have HX9 := Lib.hid (blk_grown HX.out hg (by simp [Value.ownBlock])); clear HB HX HW; have HB := HB9; have HX := HX9; have HW := Lib.hid hb; clear HB9 HX9; (try clear x0 x1 x2); have x0 := (blk_cell HX.out 0).trans rfl; have x1 := (blk_cell HX.out 1).trans rfl; have x2 := (blk_cell HX.out 2).trans rfl; have HM2 := Lib.hid (Kd.R_grown HM.out hg (by simp [Value.ownBlock])); clear HM; have HM := HM2; clear HM2; have HM9 := Lib.hid ho; clear ho hb hg hat))
  have P0 : 0 < p.length := List.length_pos_iff.mpr HG.out.p0
  have Q0 : 0 < q.length := List.length_pos_iff.mpr HG.out.q0
  obtain ⟨gm, cm, rfl, gm0, gm1, gmB⟩ := Kd.R_form HM.out P0
  obtain ⟨gw, cw, rfl, gw0, gw1, gwB⟩ := Kd.R_form HM9.out Q0
  have GM := Lib.hid (And.intro gm0 (And.intro gm1 gmB))
  have GW := Lib.hid (And.intro gw0 (And.intro gw1 gwB))
  have NE : Hid (gm ≠ gw) := Lib.hid (by
    have u1 := HM.out.1 gm rfl
    have u2 := HM9.out.1 gw rfl
    omega)
  clear gm0 gm1 gmB gw0 gw1 gwB
  obtain ⟨NP, hNP⟩ : ∃ NP : Int, NP = (p.length : Int) := ⟨_, rfl⟩
  obtain ⟨NQ, hNQ⟩ : ∃ NQ : Int, NQ = (q.length : Int) := ⟨_, rfl⟩
  have np0 : ¬ (p.length : Int) = 0 := by omega
  have nq0 : ¬ (q.length : Int) = 0 := by omega
  have hp0 : ¬ p = [] := HG.out.p0
  have hq0 : ¬ q = [] := HG.out.q0
  go_wp2
  refine stepS (S := fun _ => True) (ds := []) 12 (by kernel_rfl) rfl trivial (fun hHeld => ?_)
  repeat (refine stepP 12 (N := some _) (v := ?_) (a' := ?_) rfl rfl (by kernel_rfl) (fun _ _ _ h => h) (Or.inl ⟨by rfl, ?_⟩) ?_ ?_
          rotate_left
          · (intro w'; go_simp; with_reducible rfl)
          rotate_left
          · (simp only [Act.put, List.setIfInBounds_toArray, List.set_cons_zero, List.set_cons_succ]; rfl))
  refine done_ (by kernel_rfl) ?_
  have i0 : 0 ≤ (IntKind.i64.wrap z).tmod NP ∧ (IntKind.i64.wrap z).tmod NP < NP := by
    rw [IntWalk.i64_in z (by omega), Int.tmod_eq_emod_of_nonneg zz.1]
    exact ⟨Int.emod_nonneg _ (by omega), Int.emod_lt_of_pos _ (by omega)⟩
  have j0 : 0 ≤ (IntKind.i64.wrap z).tmod NQ ∧ (IntKind.i64.wrap z).tmod NQ < NQ := by
    rw [IntWalk.i64_in z (by omega), Int.tmod_eq_emod_of_nonneg zz.1]
    exact ⟨Int.emod_nonneg _ (by omega), Int.emod_lt_of_pos _ (by omega)⟩
  rw [hNP] at i0
  rw [hNQ] at j0
  generalize (IntKind.i64.wrap z).tmod (p.length : Int) = I at i0 ⊢
  generalize (IntKind.i64.wrap z).tmod (q.length : Int) = J at j0 ⊢
  obtain ⟨i0, i1⟩ := i0
  obtain ⟨j0, j1⟩ := j0
  clear hNP hNQ NP NQ hHeld
  have HM1 := Lib.hid (Kd.R_drew HM.out)
  have HN1 := Lib.hid (Kd.R_drew HM9.out)
  have HB1' := Lib.hid (below_drew1 HB.out)
  have HW1' := Lib.hid (below_drew1 HW.out)
  have HX1' := Lib.hid (blk_drew HX.out)
  have GM1 := Lib.hid (show w2.heap.size ≤ gm ∧ gm < w9.heap.size ∧ ∃ cells, w10.drew.heap[gm]? = some (.cells cells 44 (0, 0)) from ⟨GM.out.1, HM.out.1 gm rfl, GM.out.2.2⟩)
  have GW1 := Lib.hid (show w2.heap.size ≤ gw ∧ w9.heap.size ≤ gw ∧ ∃ cells, w10.drew.heap[gw]? = some (.cells cells 44 (0, 0)) from ⟨GW.out.1, HM9.out.1 gw rfl, GW.out.2.2⟩)
  clear HM HM9 HB HW HX GM GW x0 x1 x2
  generalize w10.drew = wd at HM1 HN1 HB1' HW1' HX1' GM1 GW1 ⊢
  generalize w9.heap.size = z9 at HM1 HN1 GM1 GW1
  obtain ⟨ce, hcl, hM, hcc, hfr⟩ := Kd.R_elem HM1.out z44 I i0 i1
  obtain rfl := k44_openM hM
  have y1 : wd.cell? ⟨gm, I.toNat * 2 + 1, none⟩ = some (.int .i64 (p.getD I.toNat z44).f1) := hcc 1 _ rfl
  have z1 : wd.frozen? ⟨gm, I.toNat * 2 + 1, none⟩ = false := hfr 1
  have ht : 0 ≤ (p.getD I.toNat z44).f1 ∧ (p.getD I.toNat z44).f1 ≤ 8 := by
    rw [List.getD_eq_getElem?_getD, List.getElem?_eq_getElem (show I.toNat < p.length by omega)]
    exact (HG.out.gp _ (List.getElem_mem _)).2
  have hs := Kd.R_seg HM1.out I i0 i1 (seg := [.int .i64 ((p.getD I.toNat z44).f1 + 1)]) (j := 1) hcl hcc (show 2 ≤ 2 from by decide) (x' := ⟨(p.getD I.toNat z44).f0, (p.getD I.toNat z44).f1 + 1⟩) (k44_mkM _ _ _ _) (fun _ hk => hk)
  simp only [World.setCells, show kGrp.sz = 2 from rfl] at hs
  have HU := Lib.hid (show Kd.R kGrp 44 _ _ _ (.slice (some ⟨gm, 0, none⟩) p.length _) (up p I.toNat) from hs.1)
  have HN2 := Lib.hid (Kd.R_grown HN1.out hs.2 (fun k hk e => by have := GM1.out.2.1; injection e with e; omega))
  clear hcl hM hcc hfr hs
  obtain ⟨ce, hcl, hM, hcc, hfr⟩ := Kd.R_elem HN1.out z44 J j0 j1
  obtain rfl := k44_openM hM
  have y2 : wd.cell? ⟨gw, J.toNat * 2 + 1, none⟩ = some (.int .i64 (q.getD J.toNat z44).f1) := hcc 1 _ rfl
  have z2 : wd.frozen? ⟨gw, J.toNat * 2 + 1, none⟩ = false := hfr 1
  have hu9 : 0 ≤ (q.getD J.toNat z44).f1 ∧ (q.getD J.toNat z44).f1 ≤ 8 := by
    rw [List.getD_eq_getElem?_getD, List.getElem?_eq_getElem (show J.toNat < q.length by omega)]
    exact (HG.out.gq _ (List.getElem_mem _)).2
  clear hcl hM hcc hfr
  obtain ⟨ce, hcl, hM, hcc, hfr⟩ := Kd.R_elem HN2.out z44 J j0 j1
  obtain rfl := k44_openM hM
  have hs := Kd.R_seg HN2.out J j0 j1 (seg := [.int .i64 ((q.getD J.toNat z44).f1 + 1)]) (j := 1) hcl hcc (show 2 ≤ 2 from by decide) (x' := ⟨(q.getD J.toNat z44).f0, (q.getD J.toNat z44).f1 + 1⟩) (k44_mkM _ _ _ _) (fun _ hk => hk)
  simp only [World.setCells, show kGrp.sz = 2 from rfl] at hs
  have HUW := Lib.hid (show Kd.R kGrp 44 _ _ _ (.slice (some ⟨gw, 0, none⟩) q.length _) (up q J.toNat) from hs.1)
  have HUM := Lib.hid (Kd.R_grown HU.out hs.2 (fun k hk e => by have := GW1.out.2.1; injection e with e; omega))
  clear hcl hM hcc hfr hs HU HN2 HM1 HN1
  generalize (p.getD I.toNat z44).f1 = T at y1 ht HUM HUW
  generalize (q.getD J.toNat z44).f1 = U at y2 hu9 HUM HUW
  have ne1 : ¬ gm = gw := NE.out
  have ne2 : ¬ gw = gm := fun e => NE.out e.symm
  have HZ1 : Hid (w.heap.size ≤ gm ∧ w.heap.size ≤ gw) := Lib.hid (by have := HB2.out.size; have := GM1.out.1; have := GW1.out.1; omega)
  have HB := Lib.hid (below_set (below_set HB1'.out HZ1.out.1 (j := I.toNat * 2 + 1) (v := .int .i64 (T + 1))) HZ1.out.2 (j := J.toNat * 2 + 1) (v := .int .i64 (U + 1)))
  have HW := Lib.hid (below_set (below_set HW1'.out GM1.out.1 (j := I.toNat * 2 + 1) (v := .int .i64 (T + 1))) GW1.out.1 (j := J.toNat * 2 + 1) (v := .int .i64 (U + 1)))
  have HX := Lib.hid (blk_far (blk_far HX1'.out (p := ⟨gm, I.toNat * 2 + 1, none⟩) (by obtain ⟨_, _, _, hc⟩ := GM1.out; exact blk_ne HX1'.out hc (by decide)) (.int .i64 (T + 1))) (p := ⟨gw, J.toNat * 2 + 1, none⟩) (by obtain ⟨_, _, _, hc⟩ := GW1.out; exact blk_ne HX1'.out hc (by decide)) (.int .i64 (U + 1)))
  have ne3 : ¬ w2.heap.size = gm := by obtain ⟨_, _, _, hc⟩ := GM1.out; exact blk_ne HX1'.out hc (by decide)
  have ne4 : ¬ w2.heap.size = gw := by obtain ⟨_, _, _, hc⟩ := GW1.out; exact blk_ne HX1'.out hc (by decide)
  have x0 : wd.cell? ⟨w2.heap.size, 0, none⟩ = some (.int .i64 n) := (blk_cell HX1'.out 0).trans rfl
  have x1 : wd.cell? ⟨w2.heap.size, 1, none⟩ = some (.bool b) := (blk_cell HX1'.out 1).trans rfl
  have x2 : wd.cell? ⟨w2.heap.size, 2, none⟩ = some (.slice A l.length c) := (blk_cell HX1'.out 2).trans rfl
  go_wp2_with ((go_at_call 14; fail))
  have hbp : ∀ g, g ∈ p → g.f1 ≤ 1000 := fun g hg => by have := (HG.out.gp g hg).2.2; omega
  have hbq : ∀ g, g ∈ q → g.f1 ≤ 1000 := fun g hg => by have := (HG.out.gq g hg).2.2; omega
  have u1 := most_upP HK.out b I.toNat hbp
  have u2 := most_upQ HK.out b J.toNat hbq
  have f2 := (HK.out.upP I.toNat hbp).most b (k := 1500) (by decide)
  have f3 := (HK.out.upQ J.toNat hbq).most b (k := 1500) (by decide)
  rw [← EV0.out] at u1 u2
  rw [← EH.out] at f2 f3
  generalize mostV n h b l (up p I.toNat) q = V2 at u1 f2
  generalize mostV n h b l p (up q J.toNat) = V3 at u2 f3
  have F2 := Lib.hid f2
  have F3 := Lib.hid f3
  have LP := Lib.hid (up_len p I.toNat)
  have LQ := Lib.hid (up_len q J.toNat)
  generalize up p I.toNat = pp at F2 LP HUM
  generalize up q J.toNat = qq at F3 LQ HUW
  clear f2 f3 x0 x1 x2 y1 y2 z1 z2
  obtain ⟨u1, u3⟩ := u1
  obtain ⟨u2, u4⟩ := u2
  have w1 := most_bd HK.out b
  rw [← EV0.out] at w1
  generalize (wd.setCell ⟨gm, I.toNat * 2 + 1, none⟩ (.int .i64 (T + 1))).setCell ⟨gw, J.toNat * 2 + 1, none⟩ (.int .i64 (U + 1)) = we at HB HW HX HUM HUW ⊢
  go_wp2_with (first
    | (go_at_call 14; (with_reducible refine (most_at 1500 n b A c l (some ⟨gm, 0, none⟩) cm pp p.length LP.out Aq cq q q.length rfl H V2 0 _ ?s1 HC.out.1 ?s2 ?s4 ?s3 HC.out.2.2 F2.out).mono ?_); (case s1 => exact Kd.C_below HA.out HW.out); (case s2 => rw [← LP.out]; exact (Kd.R_reads' (LP.out ▸ HUM.out)).2.2); (case s4 => exact (Kd.R_reads' HUM.out).2.1); (case s3 => exact Kd.C_below HQ.out HW.out); rintro e w5 ⟨rfl, hb⟩; have HN9 := Lib.hid (Kd.R_below HUW.out hb); have HB5 := Lib.hid (below_step HB.out hb); have HW5 := Lib.hid (below_step HW.out hb); have HX5 := Lib.hid (blk_below HX.out hb); clear HB HW HX HUW; have HB := HB5; have HW := HW5; have HX := HX5; have HUW := HN9; clear HB5 HW5 HX5 HN9; have x0 := (blk_cell HX.out 0).trans rfl; have x1 := (blk_cell HX.out 1).trans rfl; have x2 := (blk_cell HX.out 2).trans rfl; clear hb)
    | (go_at_call 14; (with_reducible refine (most_at 1500 n b A c l Ap cp p p.length rfl (some ⟨gw, 0, none⟩) cw qq q.length LQ.out H V3 0 _ ?s1 HC.out.1 ?s2 HC.out.2.1 ?s3 ?s4 F3.out).mono ?_); (case s1 => exact Kd.C_below HA.out HW.out); (case s3 => rw [← LQ.out]; exact (Kd.R_reads' (LQ.out ▸ HUW.out)).2.2); (case s4 => exact (Kd.R_reads' HUW.out).2.1); (case s2 => exact Kd.C_below HP.out HW.out); rintro e w6 ⟨rfl, hb⟩; have HB6 := Lib.hid (below_step HB.out hb); clear hb))
  go_ret
  exact ⟨rfl, HB6.out⟩
end
end Go.Proofs.Ytcgdloldkcmhnaa.H
