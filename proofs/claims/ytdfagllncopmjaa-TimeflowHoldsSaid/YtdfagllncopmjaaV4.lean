/- Texts of this proof, joined; what the statement doesn't need is left out. -/
import Derived.Test.YtdfagllncopmjaaV3
section
namespace Go.Proofs.Ytdfagllncopmjaa.H
open Go Go.RowKit Go.Proofs.Ytdfagllncopmjaa.PrintC Go.Proofs.YtdfagllncopmjaaW.PrintWords Go.Proofs.YtdfagllncopmjaaW.PrintLast Go.Proofs.YtdfagllncopmjaaW.PrintMore Go.Proofs.Ytdfagllncopmjaa.Flow
set_option linter.unusedVariables false
set_option linter.unusedSimpArgs false
theorem sumN_bd (n : Nat) (g : Nat → Int) (c : Int) (h : ∀ i, i < n → -c ≤ g i ∧ g i ≤ c) : -(n * c) ≤ sumN n g ∧ sumN n g ≤ n * c := by
 refine ⟨?_, sumN_mul_le n g c (fun i hi => (h i hi).2)⟩
 have h1 := sumN_mul_le n (fun i => 0 - g i) c (fun i hi => by have := (h i hi).1; omega)
 rw [sumN_sub, sumN_zero n (fun _ _ => rfl)] at h1
 omega
theorem wr_add (S d : Int) (h1 : -200000000000000000 ≤ S) (h2 : S ≤ 200000000000000000) (h3 : 0 ≤ d) (h4 : d ≤ 1099511627776) : wrap64 (S + d) = S + (d - 0) := by unfold wrap64; omega
theorem wr_sub (S d : Int) (h1 : -200000000000000000 ≤ S) (h2 : S ≤ 200000000000000000) (h3 : 0 ≤ d) (h4 : d ≤ 1099511627776) : wrap64 (S - d) = S + (0 - d) := by unfold wrap64; omega
theorem wr_both (S d : Int) (h1 : -200000000000000000 ≤ S) (h2 : S ≤ 200000000000000000) (h3 : 0 ≤ d) (h4 : d ≤ 1099511627776) : wrap64 (wrap64 (S + d) - d) = S + (d - d) := by unfold wrap64; omega
theorem value_f (N : Nat) (b : Bool) {l : List Arc} {f : List Int} (s : Int) (hn : NetOk N l) (hf : FlowOk l f) : ∃ k, maxflow_Value.f k N b l s f = some (leaves l.length (frOf l) (toOf l) (dOf f) s) := by
 have hll := hn.ll
 let g : Nat → Int := fun i => (if frOf l i = s then dOf f i else 0) - (if toOf l i = s then dOf f i else 0)
 have hg : ∀ i, i < l.length → 0 ≤ dOf f i ∧ dOf f i ≤ 1099511627776 := fun i hi => by
  have h1 := hf.wit i (by omega) (by omega)
  have h2 := hn.caps i (by omega) (by omega)
  exact ⟨h1.1, Int.le_trans h1.2 h2⟩
 have hb : ∀ i, i < l.length → -1099511627776 ≤ g i ∧ g i ≤ 1099511627776 := fun i hi => by
  have := hg i hi
  show -1099511627776 ≤ (if frOf l i = s then dOf f i else 0) - (if toOf l i = s then dOf f i else 0) ∧ (if frOf l i = s then dOf f i else 0) - (if toOf l i = s then dOf f i else 0) ≤ 1099511627776
  split <;> split <;> omega
 have go : ∀ (m i : Nat), i + m = l.length → ∃ k, maxflow_Value.l0 k s f (sumN i g) l (l.length : Int) (i : Int) = some (sumN l.length g) := by
  intro m
  induction m with
  |zero =>
   intro i hi
   have e : i = l.length := by omega
   subst e
   exact ⟨1, by rw [maxflow_Value.l0, if_neg (by omega)]⟩
  |succ m ih =>
   intro i hi
   have hil : i < l.length := by omega
   obtain ⟨k, hk⟩ := ih (i + 1) (by omega)
   refine ⟨k + 1, ?_⟩
   have h1 := sumN_bd i g 1099511627776 (fun j hj => hb j (by omega))
   have h2 := hg i hil
   have h3 : (i : Int) < (f.length : Int) := by rw [hf.len]; omega
   have e4 : rd f (i : Int) = dOf f i := rfl
   have e5 : (rd_T48 l (i : Int)).f0 = frOf l i := rfl
   have e6 : (rd_T48 l (i : Int)).f1 = toOf l i := rfl
   have hi6 : i ≤ 4611686018427387904 := by omega
   rw [sumN] at hk
   generalize hS : sumN i g = S at h1 hk
   have hS1 : -200000000000000000 ≤ S := by omega
   have hS2 : S ≤ 200000000000000000 := by omega
   clear h1
   have gi : g i = (if frOf l i = s then dOf f i else 0) - (if toOf l i = s then dOf f i else 0) := rfl
   rw [gi] at hk
   generalize hd : dOf f i = d at h2 hk
   rw [maxflow_Value.l0, if_pos (by omega), if_pos (by omega), if_pos (by omega), e4, e5, e6, w1n i hi6, hd]
   by_cases c1 : frOf l i = s
   ·by_cases c2 : toOf l i = s
    ·rw [if_pos c1, if_pos c2]
     rw [if_pos c1, if_pos c2] at hk
     rw [if_pos h3, wr_both S d hS1 hS2 h2.1 h2.2]
     exact hk
    ·rw [if_pos c1, if_neg c2]
     rw [if_pos c1, if_neg c2] at hk
     rw [if_pos h3, wr_add S d hS1 hS2 h2.1 h2.2]
     exact hk
   ·by_cases c2 : toOf l i = s
    ·rw [if_neg c1, if_pos c2]
     rw [if_neg c1, if_pos c2] at hk
     rw [if_pos h3, wr_sub S d hS1 hS2 h2.1 h2.2]
     exact hk
    ·rw [if_neg c1, if_neg c2]
     rw [if_neg c1, if_neg c2] at hk
     rw [Int.sub_zero, Int.add_zero] at hk
     exact hk
 exact go l.length 0 (by omega)
theorem value_at (k N : Nat) (b : Bool) (A : Option Addr) (c : Nat) (l : List Arc) (s : Int) (Af : Option Addr) (cf : Nat) (f : List Int) (m : Nat) (hm : f.length = m) (r : Int) (w : World) (hr : Kd.C kArc w A l.length l) (hc : l.length ≤ c) (hF : Kd.C (Kd.int .i64) w Af f.length f) (hcf : m ≤ cf) (h : maxflow_Value.f k N b l s f = some r) :
  Calls Try.prog 26 #[.agg #[.int .i64 N, .bool b, .slice A l.length c], .int .i64 s, .slice Af m cf] w fun e w' => e = .returned (.int .i64 r) ∧ Below w.heap.size w w' := by
 subst hm
 exact maxflow_Value.calls k N b A c l s Af cf f r w hr hc hF hcf h
def SolvedAt (w0 : World) (gg N N1 M : Nat) (n : Int) (v : Value) (arcs : List Arc) (B : MB) (D : MD) (w : World) (e : Ending) (w' : World) : Prop :=
 ∃ (bf : Nat) (f : List Int) (S : Int → Bool), e = .returned (.agg #[.pointer (some ⟨gg, 0, none⟩), .slice (some ⟨bf, 0, none⟩) arcs.length arcs.length, .int .i64 (leaves arcs.length (frOf arcs) (toOf arcs) (dOf f) N)]) ∧ GrI w0 gg M n v arcs B D w' ∧ IntBlk w' bf f ∧ w.heap.size ≤ bf ∧ FlowOk arcs f ∧ Top arcs.length (frOf arcs) (toOf arcs) M N N1 (capOf arcs) (dOf f) S ∧ Below w.heap.size w w'
set_option maxHeartbeats 4000000 in
set_option maxRecDepth 100000 in
theorem solve_walk (w0 : World) (gg N N1 M : Nat) (e1 : N1 = N + 1) (e2 : M = N + 2) (n : Int) (v : Value) (arcs : List Arc) (B : MB) (D : MD) (w : World) (h : GrI w0 gg M n v arcs B D w) (hn : NetOk M arcs) (hcap : ∀ i : Int, 0 ≤ i → i < arcs.length → 0 ≤ (rd_T48 arcs i).f2) :
  Calls Try.prog 17 #[.pointer (some ⟨gg, 0, none⟩)] w (SolvedAt w0 gg N N1 M n v arcs B D w) := by
 obtain ⟨A, c, rfl⟩ := Kd.R_slice h.ar
 have HI := zh h
 have HN := zh hn
 have HC := zh hcap
 have hn1 := hn.n1
 have HE1 := zh e1
 have HE2 := zh e2
 clear h hn hcap e1 e2
 have hu := Try.underlying28
 have hu2 := Try.underlying67
 have hu3 := Try.underlying53
 go_enter Try.func17, Try.ntmps17
 go_wp2_with (first
  |(go_at_call 19; (with_reducible refine (ends_walk w0 gg N N1 M HE1.out HE2.out n (.slice A arcs.length c) arcs B D _ ?s1 ?s2).mono ?_); (case s1 => exact HI.out.below (below_alloc (Below.refl _ _) _)); (case s2 => omega); rintro e w1 ⟨rfl, hb⟩; have HI1 := zh ((HI.out.below (below_alloc (Below.refl _ _) _)).below hb); have x0 := HI1.out.cells.1; have x1 := HI1.out.cells.2.1; have x2 := HI1.out.cells.2.2.1; have HB1 := zh (below_step (below_alloc (Below.refl _ _) _) hb); have HR1 := zh (blk_below (heap_alloc_new w (.cells #[.pointer none, .slice none 0 0, .int .i64 0] 53)) hb); clear hb)
  |(go_at_call 25; (with_reducible refine (fill_walk M N N1 false A c arcs _ HN.out HC.out ?s1 ?s2 ?s3 ?s4 ?s5).mono ?_); (case s1 => have := HE2.out; omega); (case s2 => have := HE2.out; have := HE1.out; omega); (case s3 => have := HE1.out; omega); (case s4 => exact (Kd.R_reads' HI1.out.ar).2.1); (case s5 => exact (Kd.R_reads' HI1.out.ar).2.2); rintro e w2 ⟨bf, f, S, rfl, h1, h2, h3, h4, h5⟩; have HI2 := zh (HI1.out.below h5); have H2 := zh h2; have H3 := zh h3; have H4 := zh h4; have HB2 := zh (below_step HB1.out h5); have HR2 := zh (blk_below HR1.out h5); have H1 := zh (Nat.le_trans HB1.out.size h1); have z0 := HI2.out.cells.1; have z1 := HI2.out.cells.2.1; have z2 := HI2.out.cells.2.2.1; have HFL := zh h3.len; clear h1 h2 h3 h4 h5 x0 x1 x2)
  |(go_at_call 26; obtain ⟨k, hk⟩ := value_f M false (N : Int) HN.out H3.out; (with_reducible refine (value_at k M false A c arcs (N : Int) (some ⟨bf, 0, none⟩) arcs.length f arcs.length HFL.out _ _ ?s1 ?s2 ?s3 ?s4 hk).mono ?_); (case s1 => exact (Kd.R_reads' HI2.out.ar).2.2); (case s2 => exact (Kd.R_reads' HI2.out.ar).2.1); (case s3 => exact H2.out.reads (by rw [HFL.out]; have := HN.out.ll; omega)); (case s4 => exact Nat.le_refl _); rintro e w3 ⟨rfl, hb⟩; have HI3 := zh (HI2.out.below hb); have H5 := zh (blk_below H2.out hb); have HB3 := zh (below_step HB2.out hb); have HR3 := zh (blk_below HR2.out hb); have y0 : w3.cell? ⟨w.heap.size, 0, none⟩ = some (.pointer none) := (blk_cell HR3.out 0).trans rfl; have y1 : w3.cell? ⟨w.heap.size, 1, none⟩ = some (.slice none 0 0) := (blk_cell HR3.out 1).trans rfl; have y2 : w3.cell? ⟨w.heap.size, 2, none⟩ = some (.int .i64 0) := (blk_cell HR3.out 2).trans rfl; have f0 := blk_frozen HR3.out 0; have f1 := blk_frozen HR3.out 1; have f2 := blk_frozen HR3.out 2; clear hb hk z0 z1 z2))
 have HSZ := zh HI.out.low.size
 refine bodyPost_ret (results_cell_row rfl _ _ w.heap.size 53 #[.pointer (some ⟨gg, 0, none⟩), .slice (some ⟨bf, 0, none⟩) arcs.length arcs.length, .int .i64 (leaves arcs.length (frOf arcs) (toOf arcs) (dOf f) N)] (0, 0) _ rfl (blk_put (cs := #[.pointer (some ⟨gg, 0, none⟩), .slice (some ⟨bf, 0, none⟩) arcs.length arcs.length, .int .i64 0]) (blk_put (cs := #[.pointer (some ⟨gg, 0, none⟩), .slice none 0 0, .int .i64 0]) (blk_put (cs := #[.pointer none, .slice none 0 0, .int .i64 0]) HR3.out 0 (.pointer (some ⟨gg, 0, none⟩)) rfl) 1 (.slice (some ⟨bf, 0, none⟩) arcs.length arcs.length) rfl) 2 (.int .i64 (leaves arcs.length (frOf arcs) (toOf arcs) (dOf f) N)) rfl) hu3 rfl (by kernel_rfl)) rfl ?_
 have k1 := blk_put (cs := #[.pointer none, .slice none 0 0, .int .i64 0]) HR3.out 0 (.pointer (some ⟨gg, 0, none⟩)) rfl
 have k2 := blk_put (cs := #[.pointer (some ⟨gg, 0, none⟩), .slice none 0 0, .int .i64 0]) k1 1 (.slice (some ⟨bf, 0, none⟩) arcs.length arcs.length) rfl
 have hne : bf ≠ w.heap.size := blk_ne H5.out HR3.out (by decide)
 refine ⟨bf, f, S, rfl, (((HI3.out.set HR3.out (by decide) (by decide) HSZ.out 0 _).set k1 (by decide) (by decide) HSZ.out 1 _).set k2 (by decide) (by decide) HSZ.out 2 _), ?_, H1.out, H3.out, H4.out, below_set (below_set (below_set HB3.out (Nat.le_refl _)) (Nat.le_refl _)) (Nat.le_refl _)⟩
 unfold IntBlk
 rw [Below.heap_setCell _ ⟨w.heap.size, 2, none⟩ _ _ hne, Below.heap_setCell _ ⟨w.heap.size, 1, none⟩ _ _ hne, Below.heap_setCell _ ⟨w.heap.size, 0, none⟩ _ _ hne]
 exact H5.out
def ArcOk (M : Int) (x : Arc) : Prop := (0 ≤ x.f0 ∧ x.f0 < M) ∧ (0 ≤ x.f1 ∧ x.f1 < M) ∧ 0 ≤ x.f2 ∧ x.f2 ≤ 1099511627776
theorem idx_lt {a n h x : Int} (h0 : 0 ≤ a) (h1 : a ≤ h) (x0 : 0 ≤ x) (x1 : x < n) : 0 ≤ a * n + x ∧ a * n + x < (h + 1) * n := by
 have hn : 0 ≤ n := by omega
 have h2 := Int.mul_nonneg h0 hn
 have h3 : (a + 1) * n ≤ (h + 1) * n := Int.mul_le_mul_of_nonneg_right (by omega) hn
 rw [Int.add_mul, Int.one_mul] at h3
 omega
theorem bM_ok {n h : Nat} {l : List Arc} (hn : NetIn n h l) (hc : ∀ i : Nat, i < l.length → 0 ≤ (arcAt l i).f2 ∧ (arcAt l i).f2 ≤ 1048576) (use : Arc → Bool) (a : Nat) {s : BSt} {M : Int} (hM : ((h : Int) + 1) * n ≤ M) (hs : ∀ x, x ∈ s.arcs → ArcOk M x) : ∀ j, j ≤ l.length → ∀ x, x ∈ (bM l use n h a s j).arcs → ArcOk M x
 |0, _ => hs
 |j + 1, hj => by
  intro x hx
  unfold bM at hx
  simp only at hx
  split at hx
  ·rename_i hcond
   rcases List.mem_append.1 hx with hx | hx
   ·exact bM_ok hn hc use a hM hs j (by omega) x hx
   ·rw [List.mem_singleton] at hx
    subst hx
    have he := hn.ends j (by omega)
    have ht := hn.time j (by omega)
    have h1 := idx_lt (a := (a : Int)) (n := n) (h := h) (by omega) (by omega) he.1.1 he.1.2
    have h2 := idx_lt (a := (a : Int) + (arcAt l j).f3) (n := n) (h := h) (by omega) hcond.1 he.2.1 he.2.2
    have h3 := hc j (by omega)
    exact ⟨⟨h1.1, by show (a : Int) * n + (arcAt l j).f0 < M; omega⟩, ⟨h2.1, by show ((a : Int) + (arcAt l j).f3) * n + (arcAt l j).f1 < M; omega⟩, h3.1, by show (arcAt l j).f2 ≤ _; omega⟩
  ·exact bM_ok hn hc use a hM hs j (by omega) x hx
theorem bW_ok {n h : Nat} (keeps : Nat → Bool) (a : Nat) {s : BSt} {M : Int} (hM : ((h : Int) + 1) * n ≤ M) (hs : ∀ x, x ∈ s.arcs → ArcOk M x) : ∀ v, v ≤ n → ∀ x, x ∈ (bW keeps n h a s v).arcs → ArcOk M x
 |0, _ => hs
 |v + 1, hv => by
  intro x hx
  unfold bW at hx
  simp only at hx
  split at hx
  ·rename_i hcond
   rcases List.mem_append.1 hx with hx | hx
   ·exact bW_ok keeps a hM hs v (by omega) x hx
   ·rw [List.mem_singleton] at hx
    subst hx
    have h1 := idx_lt (a := (a : Int)) (n := n) (h := h) (x := (v : Int)) (by omega) (by omega) (by omega) (by omega)
    have h2 := idx_lt (a := (a : Int) + 1) (n := n) (h := h) (x := (v : Int)) (by omega) (by omega) (by omega) (by omega)
    exact ⟨⟨h1.1, by show (a : Int) * n + (v : Int) < M; omega⟩, ⟨h2.1, by show ((a : Int) + 1) * n + (v : Int) < M; omega⟩, by show (0 : Int) ≤ 1099511627776; decide, Int.le_refl _⟩
  ·exact bW_ok keeps a hM hs v (by omega) x hx
theorem bA_ok {n h : Nat} {l : List Arc} (hn : NetIn n h l) (hc : ∀ i : Nat, i < l.length → 0 ≤ (arcAt l i).f2 ∧ (arcAt l i).f2 ≤ 1048576) (use : Arc → Bool) (keeps : Nat → Bool) {M : Int} (hM : ((h : Int) + 1) * n ≤ M) : ∀ a x, x ∈ (bA l use keeps n h a).arcs → ArcOk M x
 |0, x, hx => by cases hx
 |a + 1, x, hx => bW_ok keeps a hM (bM_ok hn hc use a hM (bA_ok hn hc use keeps hM a) l.length (Nat.le_refl _)) n (Nat.le_refl _) x hx
theorem netOk_of {M : Nat} {arcs : List Arc} (h0 : 0 < M) (h1 : M ≤ 10000) (hl : arcs.length ≤ 100000) (h : ∀ x, x ∈ arcs → ArcOk M x) : NetOk M arcs ∧ ∀ i : Int, 0 ≤ i → i < arcs.length → 0 ≤ (rd_T48 arcs i).f2 := by
 have key : ∀ i : Int, 0 ≤ i → i < arcs.length → ArcOk M (rd_T48 arcs i) := fun i h0 h1 => by
  obtain ⟨k, rfl⟩ := Int.eq_ofNat_of_zero_le h0
  exact h _ (mem_arcAt (by omega))
 exact ⟨⟨h0, h1, hl, fun i a b => ⟨(key i a b).1, (key i a b).2.1⟩, fun i a b => (key i a b).2.2.2⟩, fun i a b => (key i a b).2.2.1⟩
open Classical in
noncomputable def mfVal (arcs : List Arc) (M N N1 : Nat) : Int :=
 if h : ∃ f : List Int, ∃ S, FlowOk arcs f ∧ Top arcs.length (frOf arcs) (toOf arcs) M N N1 (capOf arcs) (dOf f) S then leaves arcs.length (frOf arcs) (toOf arcs) (dOf h.choose) N else 0
theorem ends_arcs {M : Nat} {arcs : List Arc} (h : ∀ x, x ∈ arcs → ArcOk M x) : Flow.Ends arcs.length (frOf arcs) (toOf arcs) M := fun i hi => ⟨(h _ (mem_arcAt hi)).1, (h _ (mem_arcAt hi)).2.1⟩
theorem mfVal_eq {arcs : List Arc} {M N N1 : Nat} (ha : ∀ x, x ∈ arcs → ArcOk M x) (hN : N < M) {f : List Int} {S : Int → Bool} (hf : FlowOk arcs f) (ht : Top arcs.length (frOf arcs) (toOf arcs) M N N1 (capOf arcs) (dOf f) S) : mfVal arcs M N N1 = leaves arcs.length (frOf arcs) (toOf arcs) (dOf f) N := by
 unfold mfVal
 have h : ∃ f : List Int, ∃ S, FlowOk arcs f ∧ Top arcs.length (frOf arcs) (toOf arcs) M N N1 (capOf arcs) (dOf f) S := ⟨f, S, hf, ht⟩
 rw [dif_pos h]
 obtain ⟨S2, h2, h3⟩ := h.choose_spec
 exact top_value (ends_arcs ha) ⟨by omega, by omega⟩ ht h3
theorem NetIn.le {n h k : Nat} {l : List Arc} (hn : NetIn n h l) (hk : k ≤ h) : NetIn n k l :=
 ⟨hn.n0, hn.n1, by have := hn.h1; omega, Nat.le_trans (Nat.mul_le_mul (by omega) (Nat.le_refl _)) hn.hn, Nat.le_trans (Nat.mul_le_mul (by omega) (Nat.le_refl _)) hn.hl, hn.ends, hn.time⟩
end Go.Proofs.Ytdfagllncopmjaa.H
end
section
namespace Go.Proofs.Ytdfagllncopmjaa.PrintE
open Go.Proofs.Ytdfagllncopmjaa.PrintC Go.RowKit Go.Proofs.Ytdfagllncopmjaa.H Go.Proofs.YtdfagllncopmjaaW.PrintWords Go.Proofs.YtdfagllncopmjaaW.PrintLast Go.Proofs.YtdfagllncopmjaaW.PrintMore
attribute [local go_sem] max2_int min2_int max_two min_two max_three min_three max_four min_four
set_option linter.unusedVariables false
set_option linter.unusedSimpArgs false
structure S44 where
 f0 : Int
 f1 : Int
def z44 : S44 := ⟨(0 : Int), (0 : Int)⟩
def k44 : Kd S44 := Kd.iso (Kd.pair (Kd.int .i64) (Kd.int .i64)) (fun x : S44 => (x.f0, x.f1))
theorem k44_open {w : World} {x : S44} {cs : List Value} (h : k44.K w x cs) : cs = [.int .i64 x.f0, .int .i64 x.f1] := by
 obtain ⟨_, _, rfl, rfl, rfl⟩ := h
 exact rfl
theorem k44_mk (w : World) (x : S44)  : k44.K w x [.int .i64 x.f0, .int .i64 x.f1] := ⟨[.int .i64 x.f0], [.int .i64 x.f1], rfl, rfl, rfl⟩
theorem k44_mkM (w : World) (base : Nat) (ok : Nat → Prop) (x : S44)  : k44.M w base ok x [.int .i64 x.f0, .int .i64 x.f1] := ⟨[.int .i64 x.f0], [.int .i64 x.f1], rfl, rfl, rfl⟩
def rd_T44 (xs : List S44) (i : Int) : S44 := xs.getD i.toNat z44
theorem at_T44 {w : World} {A : Option Addr} {n : Nat} {xs : List S44} (h : Kd.C k44 w A n xs) (i : Int) (h0 : 0 ≤ i) (h1 : i < n) : ∃ ad , A = some ad ∧ w.cell? (ad.add (i.toNat * 2)) = some (.int .i64 (rd_T44 xs i).f0) ∧ w.cell? ⟨(ad.add (i.toNat * 2)).block, (ad.add (i.toNat * 2)).off + 1, none⟩ = some (.int .i64 (rd_T44 xs i).f1) := by
 obtain ⟨ad, c, e, _, hK, hc0⟩ := Kd.C_get h z44 i h0 h1
 have hc : ∀ j u, c[j]? = some u → w.cell? (ad.add (i.toNat * 2 + j)) = some u := hc0
 obtain rfl := k44_open hK
 exact ⟨ad, e, hc 0 _ rfl, by rw [← add_field _ _ 1 (by omega)]; exact hc 1 _ rfl⟩
structure S46 where
 f0 : Int
 f1 : Int
 f2 : Int
 f3 : Int
def z46 : S46 := ⟨(0 : Int), (0 : Int), (0 : Int), (0 : Int)⟩
def k46 : Kd S46 := Kd.iso (Kd.pair (Kd.int .u8) (Kd.pair (Kd.int .u8) (Kd.pair (Kd.int .u8) (Kd.int .u8)))) (fun x : S46 => (x.f0, x.f1, x.f2, x.f3))
theorem k46_open {w : World} {x : S46} {cs : List Value} (h : k46.K w x cs) : cs = [.int .u8 x.f0, .int .u8 x.f1, .int .u8 x.f2, .int .u8 x.f3] := by
 obtain ⟨_, _, rfl, rfl, ⟨_, _, rfl, rfl, ⟨_, _, rfl, rfl, rfl⟩⟩⟩ := h
 exact rfl
theorem k46_mk (w : World) (x : S46)  : k46.K w x [.int .u8 x.f0, .int .u8 x.f1, .int .u8 x.f2, .int .u8 x.f3] := ⟨[.int .u8 x.f0], [.int .u8 x.f1, .int .u8 x.f2, .int .u8 x.f3], rfl, rfl, ⟨[.int .u8 x.f1], [.int .u8 x.f2, .int .u8 x.f3], rfl, rfl, ⟨[.int .u8 x.f2], [.int .u8 x.f3], rfl, rfl, rfl⟩⟩⟩
def rd_T46 (xs : List S46) (i : Int) : S46 := xs.getD i.toNat z46
theorem at_T46 {w : World} {A : Option Addr} {n : Nat} {xs : List S46} (h : Kd.C k46 w A n xs) (i : Int) (h0 : 0 ≤ i) (h1 : i < n) : ∃ ad , A = some ad ∧ w.cell? (ad.add (i.toNat * 4)) = some (.int .u8 (rd_T46 xs i).f0) ∧ w.cell? ⟨(ad.add (i.toNat * 4)).block, (ad.add (i.toNat * 4)).off + 1, none⟩ = some (.int .u8 (rd_T46 xs i).f1) ∧ w.cell? ⟨(ad.add (i.toNat * 4)).block, (ad.add (i.toNat * 4)).off + 2, none⟩ = some (.int .u8 (rd_T46 xs i).f2) ∧ w.cell? ⟨(ad.add (i.toNat * 4)).block, (ad.add (i.toNat * 4)).off + 3, none⟩ = some (.int .u8 (rd_T46 xs i).f3) := by
 obtain ⟨ad, c, e, _, hK, hc0⟩ := Kd.C_get h z46 i h0 h1
 have hc : ∀ j u, c[j]? = some u → w.cell? (ad.add (i.toNat * 4 + j)) = some u := hc0
 obtain rfl := k46_open hK
 exact ⟨ad, e, hc 0 _ rfl, by rw [← add_field _ _ 1 (by omega)]; exact hc 1 _ rfl, by rw [← add_field _ _ 2 (by omega)]; exact hc 2 _ rfl, by rw [← add_field _ _ 3 (by omega)]; exact hc 3 _ rfl⟩
structure S69 where
 f0 : Int
 f1 : Int
 f2 : Int
def z69 : S69 := ⟨(0 : Int), (0 : Int), (0 : Int)⟩
def k69 : Kd S69 := Kd.iso (Kd.pair (Kd.int .i64) (Kd.pair (Kd.int .i64) (Kd.int .i64))) (fun x : S69 => (x.f0, x.f1, x.f2))
theorem k69_open {w : World} {x : S69} {cs : List Value} (h : k69.K w x cs) : cs = [.int .i64 x.f0, .int .i64 x.f1, .int .i64 x.f2] := by
 obtain ⟨_, _, rfl, rfl, ⟨_, _, rfl, rfl, rfl⟩⟩ := h
 exact rfl
theorem k69_openM {w : World} {base : Nat} {ok : Nat → Prop} {x : S69} {cs : List Value} (h : k69.M w base ok x cs) : cs = [.int .i64 x.f0, .int .i64 x.f1, .int .i64 x.f2] := by
 obtain ⟨_, _, rfl, rfl, ⟨_, _, rfl, rfl, rfl⟩⟩ := h
 exact rfl
theorem k69_mkM (w : World) (base : Nat) (ok : Nat → Prop) (x : S69)  : k69.M w base ok x [.int .i64 x.f0, .int .i64 x.f1, .int .i64 x.f2] := ⟨[.int .i64 x.f0], [.int .i64 x.f1, .int .i64 x.f2], rfl, rfl, ⟨[.int .i64 x.f1], [.int .i64 x.f2], rfl, rfl, rfl⟩⟩
def rd_T69 (xs : List S69) (i : Int) : S69 := xs.getD i.toNat z69
theorem at_T69 {w : World} {A : Option Addr} {n : Nat} {xs : List S69} (h : Kd.C k69 w A n xs) (i : Int) (h0 : 0 ≤ i) (h1 : i < n) : ∃ ad , A = some ad ∧ w.cell? (ad.add (i.toNat * 3)) = some (.int .i64 (rd_T69 xs i).f0) ∧ w.cell? ⟨(ad.add (i.toNat * 3)).block, (ad.add (i.toNat * 3)).off + 1, none⟩ = some (.int .i64 (rd_T69 xs i).f1) ∧ w.cell? ⟨(ad.add (i.toNat * 3)).block, (ad.add (i.toNat * 3)).off + 2, none⟩ = some (.int .i64 (rd_T69 xs i).f2) := by
 obtain ⟨ad, c, e, _, hK, hc0⟩ := Kd.C_get h z69 i h0 h1
 have hc : ∀ j u, c[j]? = some u → w.cell? (ad.add (i.toNat * 3 + j)) = some u := hc0
 obtain rfl := k69_open hK
 exact ⟨ad, e, hc 0 _ rfl, by rw [← add_field _ _ 1 (by omega)]; exact hc 1 _ rfl, by rw [← add_field _ _ 2 (by omega)]; exact hc 2 _ rfl⟩
end Go.Proofs.Ytdfagllncopmjaa.PrintE
end
section
namespace Go.Proofs.Ytdfagllncopmjaa.H
open Go Go.RowKit Go.Proofs.Ytdfagllncopmjaa.PrintC Go.Proofs.Ytdfagllncopmjaa.PrintE Go.Proofs.YtdfagllncopmjaaW.PrintWords Go.Proofs.YtdfagllncopmjaaW.PrintLast Go.Proofs.YtdfagllncopmjaaW.PrintMore Go.Proofs.Ytdfagllncopmjaa.Flow
abbrev Slot := S44
abbrev kSlot := k44
theorem infoSlot : (Try.prog.info? 44).map (fun i => (i.zero, i.size, i.bytes)) = some (some (.agg #[.int .i64 0, .int .i64 0]), 2, 16) := by kernel_rfl
def slotsOf (n : Nat) (d : List Int) : Nat → List Slot
 |0 => []
 |i + 1 => slotsOf n d i ++ (if 0 ≤ rd d (i : Int) then [⟨((i : Int) % (n : Int)), ((i : Int) / (n : Int))⟩] else [])
theorem slotsOf_len (n : Nat) (d : List Int) : ∀ i, (slotsOf n d i).length ≤ i
 |0 => Nat.le_refl _
 |i + 1 => by
  have := slotsOf_len n d i
  unfold slotsOf
  rw [List.length_append]
  split <;> simp <;> omega
theorem slot_empty {W : World} {g base : Nat} (hb : W.heap[g]? = some (.cells #[] 44 (0, 0))) (hg : base ≤ g) : Kd.R kSlot 44 W base (fun _ => True) (.slice (some ⟨g, 0, none⟩) 0 0) [] := by
 exact ⟨fun _ _ => trivial, [], ⟨rfl, .inr ⟨g, 0, #[], rfl, hg, hb, Nat.le_refl _, by decide, rfl, rfl⟩⟩, ⟨rfl, fun j p hj => by simp at hj⟩⟩
theorem bool_cell {W : World} {base g cv : Nat} {ok : Nat → Prop} {bl : List Bool} (h : Kd.R Kd.bool 4 W base ok (.slice (some ⟨g, 0, none⟩) bl.length cv) bl) (i : Nat) (hi : i < bl.length) : W.cell? ⟨g, i, none⟩ = some (.bool (bl.getD i false)) := by
 obtain ⟨ce, hl, hM, hcc, _⟩ := Kd.R_elem h false (i : Int) (by omega) (by omega)
 have hM2 : ce = [.bool (bl.getD i false)] := by rw [Int.toNat_natCast] at hM; exact hM
 subst hM2
 have := hcc 0 _ rfl
 rw [Int.toNat_natCast, show Kd.bool.sz = 1 from rfl, Nat.mul_one, Nat.add_zero] at this
 exact this
theorem behind_at (n s : Nat) (b : Bool) (A : Option Addr) (c : Nat) (l : List Arc) (Af : Option Addr) (cf : Nat) (f : List Int) (m : Nat) (hm : f.length = m) (w : World) (hn : NetOk n l) (hf : FlowOk l f) (hs : s < n)
  (hlc : l.length ≤ c) (hr : Kd.C k48 w A l.length l) (hF : Kd.C (Kd.int .i64) w Af f.length f) (hfc : m ≤ cf) :
  Calls Try.prog 20 #[.agg #[.int .i64 n, .bool b, .slice A l.length c], .slice Af m cf, .int .i64 s] w fun e w' => ∃ (v : Value) (d : List Int) (rows : List (List Stp)), e = .returned v ∧ Kd.R Kd.bool 4 w' w.heap.size (fun _ => True) v (d.map fun x => decide (0 ≤ x)) ∧ d.length = n ∧ RowsOk n l rows ∧ Bf n s (Lk l f rows) (dOf d) ∧ Below w.heap.size w w' := by
 subst hm
 exact behind_walk n s b A c l Af cf f w hn hf hs hlc hr hF hfc
def SlotsAt (N : Nat) (n : Nat) (arcs : List Arc) (f : List Int) (M : Nat) (w : World) (e : Ending) (w' : World) : Prop :=
 ∃ (v : Value) (d : List Int) (rows : List (List Stp)), e = .returned v ∧ Kd.R kSlot 44 w' w.heap.size (fun _ => True) v (slotsOf n d N) ∧ d.length = M ∧ RowsOk M arcs rows ∧ Bf M N (Lk arcs f rows) (dOf d) ∧ Below w.heap.size w w'
set_option maxHeartbeats 4000000 in
set_option maxRecDepth 100000 in
theorem slots_walk (w0 : World) (gg N N1 M : Nat) (e1 : N1 = N + 1) (e2 : M = N + 2) (n : Nat) (v : Value) (arcs : List Arc) (B : MB) (D : MD) (bf : Nat) (f : List Int) (val : Int) (w : World) (h : GrI w0 gg M n v arcs B D w) (hn : NetOk M arcs) (hn0 : 0 < n) (hF : IntBlk w bf f) (hf : FlowOk arcs f) :
  Calls Try.prog 13 #[.agg #[.pointer (some ⟨gg, 0, none⟩), .slice (some ⟨bf, 0, none⟩) arcs.length arcs.length, .int .i64 val], .int .i64 n] w (SlotsAt N n arcs f M w) := by
 obtain ⟨A, c, rfl⟩ := Kd.R_slice h.ar
 have HI := zh h
 have HN := zh hn
 have HFB := zh hF
 have HF := zh hf
 have hn1 := hn.n1
 have HE1 := zh e1
 have HE2 := zh e2
 clear h hn hF hf e1 e2
 have hu := Try.underlying28
 have hu2 := Try.underlying67
 have hu3 := Try.underlying53
 go_enter Try.func13, Try.ntmps13
 go_wp2_with (go_at_call 19; (with_reducible refine (ends_walk w0 gg N N1 M HE1.out HE2.out n (.slice A arcs.length c) arcs B D _ ?s1 ?s2).mono ?_); (case s1 => exact HI.out.below (below_alloc (Below.refl _ _) _)); (case s2 => omega); rintro e w1 ⟨rfl, hb⟩; have HB1 := zh hb; clear hb)
 obtain ⟨w2, hw2⟩ : ∃ w2, w2 = w1.alloc (.cells #[] 44) := ⟨_, rfl⟩
 have HB2 : Hid (Below w.heap.size w w2) := zh (by rw [hw2]; exact below_alloc (below_step (below_alloc (Below.refl _ _) _) HB1.out) _)
 have HX2 : Hid (w2.heap[w.heap.size]? = some (.cells #[.pointer (some ⟨gg, 0, none⟩), .slice (some ⟨bf, 0, none⟩) arcs.length arcs.length, .int .i64 val] 53 (0, 0))) := zh (by rw [hw2]; exact blk_alloc (blk_below (heap_alloc_new _ _) HB1.out) _)
 have HO2 : Hid (Kd.R kSlot 44 w2 w.heap.size (fun _ => True) (.slice (some ⟨w1.heap.size, 0, none⟩) 0 0) []) := zh (slot_empty (by rw [hw2]; exact alloc_at rfl) (by have := HB1.out.size; simp at this; omega))
 rw [← hw2]
 clear hw2
 have HI2 := zh (HI.out.below HB2.out)
 have HF2 : Hid (IntBlk w2 bf f) := zh (blk_below HFB.out HB2.out)
 generalize w1.heap.size = go at *
 have x0 : w2.cell? ⟨w.heap.size, 0, none⟩ = some (.pointer (some ⟨gg, 0, none⟩)) := (blk_cell HX2.out 0).trans rfl
 have x1 : w2.cell? ⟨w.heap.size, 1, none⟩ = some (.slice (some ⟨bf, 0, none⟩) arcs.length arcs.length) := (blk_cell HX2.out 1).trans rfl
 have y0 := HI2.out.cells.1
 have y1 := HI2.out.cells.2.1
 have y2 := HI2.out.cells.2.2.1
 have HFL := zh HF.out.len
 have n0 : (0 : Int) ≤ (N : Int) := by omega
 have n1 : (N : Int) ≤ (M : Int) := by have := HE2.out; omega
 go_region_held3 (fun w' => w'.cell? ⟨w.heap.size, 0, none⟩ = some (.pointer (some ⟨gg, 0, none⟩)) ∧ w'.cell? ⟨w.heap.size, 1, none⟩ = some (.slice (some ⟨bf, 0, none⟩) arcs.length arcs.length) ∧ w'.cell? ⟨gg, 0, none⟩ = some (.int .i64 M) ∧ w'.cell? ⟨gg, 1, none⟩ = some (.bool false) ∧ w'.cell? ⟨gg, 2, none⟩ = some (.slice A arcs.length c)) (first | go_keep | exact HS9.out) ((go_at_call 20; (with_reducible refine (behind_at M N false A c arcs (some ⟨bf, 0, none⟩) arcs.length f arcs.length HFL.out _ HN.out HF.out ?s1 ?s2 ?s3 ?s4 ?s5).mono ?_); (case s1 => have := HE2.out; omega); (case s2 => exact (Kd.R_reads' HI2.out.ar).2.1); (case s3 => exact Kd.C_below (Kd.R_reads' HI2.out.ar).2.2 zD); (case s4 => exact (show IntBlk _ bf f from blk_below HF2.out zD).reads (by rw [HFL.out]; have := HN.out.ll; omega)); (case s5 => exact Nat.le_refl _); rintro e w3 ⟨v3, d, rows, rfl, h1, h2, h3, h4, h5⟩; have hb3 : Below w2.heap.size w2 w3 := below_step zD h5; have HS9 : Hid (w3.cell? ⟨w.heap.size, 0, none⟩ = some (.pointer (some ⟨gg, 0, none⟩)) ∧ w3.cell? ⟨w.heap.size, 1, none⟩ = some (.slice (some ⟨bf, 0, none⟩) arcs.length arcs.length) ∧ w3.cell? ⟨gg, 0, none⟩ = some (.int .i64 M) ∧ w3.cell? ⟨gg, 1, none⟩ = some (.bool false) ∧ w3.cell? ⟨gg, 2, none⟩ = some (.slice A arcs.length c)) := zh ⟨pw_cell_below hb3 x0, pw_cell_below hb3 x1, pw_cell_below hb3 y0, pw_cell_below hb3 y1, pw_cell_below hb3 y2⟩; obtain ⟨Av, cv, rfl⟩ := Kd.R_slice h1; have hlen : (d.map fun x => decide (0 ≤ x)).length = M := (by rw [List.length_map]; exact h2); obtain ⟨gv, cv2, ev, hgv, _, _⟩ := Kd.R_form h1 (by rw [hlen]; have := HE2.out; omega); injection ev with ev1 ev2 ev3; subst ev1; clear ev2 ev3; rw [hlen] at h1; have hcv := (Kd.R_reads' h1).2.1; have n2 : (N : Int) ≤ (cv : Int) := (by omega); have HD1 := zh h1; have HD2 := zh h2; have HD3 := zh h3; have HD4 := zh h4; have HB3 := zh hb3; have HLEN := zh hlen; clear h1 h2 h3 h4 h5 hb3 hlen))
 have HD5 := zh hgv
 have HR3 : Hid (Kd.R kSlot 44 w3 w.heap.size (fun _ => True) (.slice (some ⟨go, 0, none⟩) (slotsOf n d 0).length 0) (slotsOf n d 0)) := zh (Kd.R_below HO2.out HB3.out)
 have HB4 := zh (below_step HB2.out HB3.out)
 have HBASE : Hid (w.heap.size ≤ w2.drew.heap.size) := zh HB2.out.size
 clear hgv hcv x0 x1 y0 y1 y2 HS9
 generalize w2.drew.heap.size = base at *
 go_wp2
 go_loopg [7, 29] (N + 1) (fun k ov iv W => ∃ (i : Nat) (Ao : Option Addr) (co : Nat), i ≤ N ∧ ov = .slice Ao (slotsOf n d i).length co ∧ iv = .int .i64 i ∧ k = N + 1 - i ∧ Hid (Kd.R kSlot 44 W w.heap.size (fun _ => True) (.slice Ao (slotsOf n d i).length co) (slotsOf n d i) ∧ Kd.R Kd.bool 4 W base (fun _ => True) (.slice (some ⟨gv, 0, none⟩) M cv) (d.map fun x => decide (0 ≤ x)) ∧ Below w.heap.size w W))
 case atStart => exact ⟨0, some ⟨go, 0, none⟩, 0, Nat.zero_le _, rfl, rfl, rfl, zh ⟨HR3.out, HD1.out, HB4.out⟩⟩
 case round =>
  obtain ⟨i, Ao, co, hi, rfl, rfl, rfl, HL⟩ := hrel
  clear HR3 HB4 HD1
  by_cases hlt : i < N
  ·have hlt2 : (i : Int) < (N : Int) := by omega
   have i0 : (0 : Int) ≤ (i : Int) := by omega
   have hbc := HL.out.2.1
   have hbl := HLEN.out
   have hMd := HE2.out
   rw [← hbl] at hbc
   have hcell := bool_cell hbc i (by omega)
   have hget : (d.map fun x => decide (0 ≤ x)).getD i false = decide (0 ≤ rd d (i : Int)) := by
    have h9 : i < d.length := by have := HD2.out; omega
    unfold rd
    rw [Int.toNat_natCast, List.getD_eq_getElem?_getD, List.getElem?_map, List.getD_eq_getElem?_getD, List.getElem?_eq_getElem h9]
    rfl
   rw [hget] at hcell
   clear hbc hbl hget hMd
   by_cases hd9 : 0 ≤ rd d (i : Int)
   ·have hdd : decide (0 ≤ rd d (i : Int)) = true := by simpa using hd9
    rw [hdd] at hcell
    have HDD := zh hd9
    clear hdd hd9
    obtain ⟨m, hm⟩ : ∃ m, m = (slotsOf n d i).length := ⟨_, rfl⟩
    have HM := zh hm
    rw [← hm]
    clear hm
    have n9 : (1 : Int) ≤ (n : Int) := by omega
    have hnz : ¬ n = 0 := by omega
    have e7 : IntKind.i64.wrap ((i : Int) / (n : Int)) = (i : Int) / (n : Int) := by
     have h8 : (i : Int) / (n : Int) = ((i / n : Nat) : Int) := rfl
     have h7 : i / n ≤ i := Nat.div_le_self _ _
     rw [h8]
     generalize i / n = q at h7
     exact IntWalk.i64_in _ (by omega)
    have er : (i : Int).tmod (n : Int) = (i : Int) % (n : Int) := rfl
    have HLE := zh (slotsOf_len n d i)
    go_wp2
    rename_i K9 aK9
    go_region_law (((repeat rw [drew_of_alloc]); refine Kd.R_append_step kSlot (w0 := w) w.heap.size (by rfl) (.tmp 35) (.tmp 43) 36 44 (.agg #[.int .i64 0, .int .i64 0]) 16 (by rfl) Try.underlying36 infoSlot rfl (by decide) (by decide) (.slice Ao m co) (slotsOf n d i) ⟨((i : Int) % (n : Int)), ((i : Int) / (n : Int))⟩ [.int .i64 ((i : Int) % (n : Int)), .int .i64 ((i : Int) / (n : Int))] (fun _ => True) (fun _ => False) (by rfl) (by rfl) (k44_mkM _ _ _ (⟨((i : Int) % (n : Int)), ((i : Int) / (n : Int))⟩ : Slot)) (fun _ hk => hk.elim) (fun _ _ => trivial) (by rw [HM.out]; exact Kd.R_below HL.out.1 zD) (below_step HL.out.2.2 zD) (HL.out.2.2.size) (by have := HLE.out; omega) ?_; intro v1 w9 ho hb hg hat))
    obtain ⟨A1, c1, rfl⟩ := Kd.R_slice ho
    have hb9 : Kd.R Kd.bool 4 w9 base (fun _ => True) (.slice (some ⟨gv, 0, none⟩) M cv) (d.map fun x => decide (0 ≤ x)) := Kd.R_over' (Kd.R_below HL.out.2.1 zD) (v := .slice Ao m co) (by rw [HM.out]; exact Kd.R_typed (Kd.R_below HL.out.1 zD)) (by decide) hg
    have hs9 : slotsOf n d (i + 1) = slotsOf n d i ++ [⟨(i : Int) % (n : Int), (i : Int) / (n : Int)⟩] := by
     rw [slotsOf, if_pos HDD.out]
    rw [← hs9] at ho
    have hl9 : (slotsOf n d i ++ [(⟨(i : Int) % (n : Int), (i : Int) / (n : Int)⟩ : Slot)]).length = (slotsOf n d (i + 1)).length := by rw [hs9]
    have HF9 := zh (And.intro ho (And.intro hb9 hb))
    have HL9 := zh hl9
    clear ho hb hg hat hb9 hs9 hl9 er e7
    go_wp2
    go_roundg (N - i)
    case measure => omega
    case rel => exact ⟨i + 1, A1, c1, by omega, by rw [← HL9.out]; first | rfl | simp, by go_num, by omega, HF9⟩
   ·have hdd : decide (0 ≤ rd d (i : Int)) = false := by simpa using hd9
    rw [hdd] at hcell
    have HDD := zh hd9
    clear hdd hd9
    have hs9 : slotsOf n d (i + 1) = slotsOf n d i := by
     rw [slotsOf, if_neg HDD.out, List.append_nil]
    have HS9 := zh hs9
    clear hs9
    go_wp2
    go_roundg (N - i)
    case measure => omega
    case rel => exact ⟨i + 1, Ao, co, by omega, by rw [HS9.out], by go_num, by omega, zh (by rw [HS9.out]; exact HL.out)⟩
  ·have hlt2 : ¬ (i : Int) < (N : Int) := by omega
   have e : i = N := by omega
   subst e
   go_wp2
   go_ret
   exact ⟨_, d, rows, rfl, HL.out.1, HD2.out, HD3.out, HD4.out, HL.out.2.2⟩
section
variable {n : Nat} {l : List Arc} {f : List Int} {rows : List (List Stp)} {d : Nat → Int} {s : Nat}
theorem reach_sub (hf : FlowOk l f) (hr : RowsOk n l rows) (hb : Bf n s (Lk l f rows) d) {T : Int → Bool} (hc : Closed l.length (frOf l) (toOf l) (capOf l) (dOf f) T) (hs : T s = true) : ∀ (k u : Nat), u < n → d u = k → T u = true := by
 intro k
 induction k with
 |zero =>
  intro u hu e
  rcases hb.2.2.1 u hu (by omega) with rfl | ⟨p, _, h0, h1, _⟩
  ·exact hs
  ·omega
 |succ k ih =>
  intro u hu e
  rcases hb.2.2.1 u hu (by omega) with rfl | ⟨p, hp, h0, h1, x, hx, ht, hrm⟩
  ·exact hs
  ·have hT := ih p hp (by omega)
   obtain ⟨a0, a1, a2⟩ := hr.row p hp x hx
   obtain ⟨i, hi⟩ := Int.eq_ofNat_of_zero_le a0
   have hc2 := hc i (by omega)
   have hw := hf.wit x.f0 a0 a1
   unfold rmv at hrm
   unfold src at a2
   unfold tgt at ht
   rw [hi] at hrm a2 ht hw
   cases hb2 : x.f1 with
   |true =>
    rw [hb2, if_pos rfl] at hrm a2 ht
    have e1 : frOf l i = (u : Int) := ht
    have e2 : toOf l i = (p : Int) := a2
    rw [e1, e2] at hc2
    exact hc2.2 hT (by show 0 < rd f (i : Int); omega)
   |false =>
    rw [hb2] at hrm a2 ht
    simp only [Bool.false_eq_true, if_false] at hrm a2 ht
    have e1 : frOf l i = (p : Int) := a2
    have e2 : toOf l i = (u : Int) := ht
    rw [e1, e2] at hc2
    exact hc2.1 hT (by show rd f (i : Int) < (rd_T48 l (i : Int)).f2; omega)
theorem reach_mem (hf : FlowOk l f) (hr : RowsOk n l rows) (hb : Bf n s (Lk l f rows) d) {T : Int → Bool} (hc : Closed l.length (frOf l) (toOf l) (capOf l) (dOf f) T) (hs : T s = true) {u : Nat} (hu : u < n) (h : 0 ≤ d u) : T u = true := by
 obtain ⟨k, hk⟩ := Int.eq_ofNat_of_zero_le h
 exact reach_sub hf hr hb hc hs k u hu hk
def sideOf (d : Nat → Int) : Int → Bool := fun v => decide (0 ≤ d v.toNat)
theorem reach_top {N1 : Nat} (hn : NetOk n l) (hf : FlowOk l f) (hr : RowsOk n l rows) (hb : Bf n s (Lk l f rows) d) {S : Int → Bool} (ht : Top l.length (frOf l) (toOf l) n s N1 (capOf l) (dOf f) S) (h1 : N1 < n) : Top l.length (frOf l) (toOf l) n s N1 (capOf l) (dOf f) (sideOf d) := by
 refine ⟨ht.1, ht.2.1, bf_closed hn hf hr hb, ?_, ?_⟩
 ·unfold sideOf
  simp [hb.1]
 ·unfold sideOf
  simp only [Int.toNat_natCast, decide_eq_false_iff_not]
  intro h2
  have h3 := reach_mem hf hr hb ht.2.2.1 ht.2.2.2.1 h1 h2
  rw [ht.2.2.2.2] at h3
  cases h3
end
theorem slotsOf_same (n : Nat) {d d2 : List Int} : ∀ N : Nat, (∀ u : Nat, u < N → (0 ≤ dOf d u ↔ 0 ≤ dOf d2 u)) → slotsOf n d N = slotsOf n d2 N
 |0, _ => rfl
 |N + 1, h => by
  have h1 := h N (by omega)
  unfold dOf at h1
  rw [slotsOf, slotsOf, slotsOf_same n N (fun u hu => h u (by omega))]
  congr 1
  by_cases e : 0 ≤ rd d (N : Int)
  ·rw [if_pos e, if_pos (h1.1 e)]
  ·rw [if_neg e, if_neg (fun e2 => e (h1.2 e2))]
def Shown (arcs : List Arc) (M N N1 : Nat) (d : List Int) : Prop :=
 ∃ (f : List Int) (S : Int → Bool) (rows : List (List Stp)), FlowOk arcs f ∧ Top arcs.length (frOf arcs) (toOf arcs) M N N1 (capOf arcs) (dOf f) S ∧ RowsOk M arcs rows ∧ Bf M N (Lk arcs f rows) (dOf d)
def InAll (arcs : List Arc) (M N N1 : Nat) (u : Nat) : Prop := ∀ (f : List Int) (S : Int → Bool), FlowOk arcs f → Top arcs.length (frOf arcs) (toOf arcs) M N N1 (capOf arcs) (dOf f) S → S u = true
open Classical in
noncomputable def cutD (arcs : List Arc) (M N N1 : Nat) : List Int := (List.range N).map fun u => if InAll arcs M N N1 u then 0 else -1
theorem cutD_iff {arcs : List Arc} {M N N1 u : Nat} (hu : u < N) : 0 ≤ dOf (cutD arcs M N N1) u ↔ InAll arcs M N N1 u := by
 unfold dOf cutD
 unfold rd
 rw [Int.toNat_natCast, List.getD_eq_getElem?_getD, List.getElem?_map, List.getElem?_range hu, Option.map_some, Option.getD_some]
 split
 ·simpa
 ·simpa
noncomputable def cutOf (n : Nat) (arcs : List Arc) (M N N1 : Nat) : List Slot := slotsOf n (cutD arcs M N N1) N
theorem cutOf_eq {n : Nat} {arcs : List Arc} {M N N1 : Nat} (hn : NetOk M arcs) (hN : N < M) (h1 : N1 < M) {d : List Int} (h : Shown arcs M N N1 d) : cutOf n arcs M N N1 = slotsOf n d N := by
 obtain ⟨f, S, rows, a1, a2, a3, a4⟩ := h
 refine slotsOf_same n N (fun u hu => (cutD_iff hu).trans ⟨fun hA => ?_, fun hd f2 S2 b1 b2 => ?_⟩)
 ·have h2 := hA f (sideOf (dOf d)) a1 (reach_top hn a1 a3 a4 a2 h1)
  unfold sideOf at h2
  simpa using h2
 ·have hc := top_closed (ends_ok hn) ⟨by omega, by omega⟩ a2 b2
  exact reach_mem a1 a3 a4 hc b2.2.2.2.1 (by omega) hd
end Go.Proofs.Ytdfagllncopmjaa.H
end
section
namespace Go.Proofs.Ytdfagllncopmjaa.H
open Go Go.RowKit Go.Proofs.Ytdfagllncopmjaa.PrintC Go.Proofs.YtdfagllncopmjaaW.PrintWords Go.Proofs.YtdfagllncopmjaaW.PrintLast Go.Proofs.YtdfagllncopmjaaW.PrintMore Go.Proofs.Ytdfagllncopmjaa.Flow
set_option linter.unusedVariables false
def fArcs (N n s : Nat) : Nat → List Arc
 |0 => []
 |a + 1 => fArcs N n s a ++ [⟨(N : Int), (a : Int) * n + s, 1099511627776, 0⟩]
def lArcs (N1 n t : Nat) : Nat → List Arc
 |0 => []
 |a + 1 => lArcs N1 n t a ++ [⟨(a : Int) * n + t, (N1 : Int), 1099511627776, 0⟩]
theorem fArcs_len (N n s : Nat) : ∀ a, (fArcs N n s a).length = a
 |0 => rfl
 |a + 1 => by rw [fArcs, List.length_append, fArcs_len N n s a]; rfl
theorem lArcs_len (N1 n t : Nat) : ∀ a, (lArcs N1 n t a).length = a
 |0 => rfl
 |a + 1 => by rw [lArcs, List.length_append, lArcs_len N1 n t a]; rfl
theorem fArcs_mem {N n s : Nat} {x : Arc} : ∀ {k : Nat}, x ∈ fArcs N n s k → ∃ a : Nat, a < k ∧ x = ⟨(N : Int), (a : Int) * n + s, 1099511627776, 0⟩
 |0, h => nomatch h
 |k + 1, h => by
  rcases List.mem_append.1 h with h | h
  ·obtain ⟨a, h1, h2⟩ := fArcs_mem h
   exact ⟨a, by omega, h2⟩
  ·exact ⟨k, by omega, List.mem_singleton.1 h⟩
theorem lArcs_mem {N1 n t : Nat} {x : Arc} : ∀ {k : Nat}, x ∈ lArcs N1 n t k → ∃ a : Nat, a < k ∧ x = ⟨(a : Int) * n + t, (N1 : Int), 1099511627776, 0⟩
 |0, h => nomatch h
 |k + 1, h => by
  rcases List.mem_append.1 h with h | h
  ·obtain ⟨a, h1, h2⟩ := lArcs_mem h
   exact ⟨a, by omega, h2⟩
  ·exact ⟨k, by omega, List.mem_singleton.1 h⟩
def useT (s t : Nat) (x : Arc) : Bool := x.f1 != (s : Int) && x.f0 != (t : Int)
def keepsT (b : Bool) (s t : Nat) (v : Nat) : Bool := b && ((v : Int) != (s : Int) && (v : Int) != (t : Int))
def tfArcs (l : List Arc) (b : Bool) (n h s t N N1 : Nat) : List Arc := (bA l (useT s t) (keepsT b s t) n h (h + 1)).arcs ++ fArcs N n s (h + 1) ++ lArcs N1 n t (h + 1)
structure TfOk (n h s t : Nat) (l : List Arc) : Prop where
 net : NetIn n h l
 caps : ∀ i : Nat, i < l.length → 0 ≤ (arcAt l i).f2 ∧ (arcAt l i).f2 ≤ 1048576
 hs : s < n
 ht : t < n
 st : s ≠ t
 hh : h ≤ 1024
section
variable {n h s t : Nat} {l : List Arc}
theorem TfOk.arcs (o : TfOk n h s t l) (b : Bool) : ∀ x, x ∈ tfArcs l b n h s t ((h + 1) * n) ((h + 1) * n + 1) → ArcOk ((h + 1) * n + 2 : Nat) x := by
 have hN : (((h + 1) * n : Nat) : Int) = ((h : Int) + 1) * n := by rw [Int.natCast_mul]; rfl
 have hs := o.hs
 have ht := o.ht
 intro x hx
 rcases List.mem_append.1 hx with hx | hx
 ·rcases List.mem_append.1 hx with hx | hx
  ·exact bA_ok o.net o.caps (useT s t) (keepsT b s t) (M := ((h + 1) * n + 2 : Nat)) (by omega) _ x hx
  ·obtain ⟨a, h1, rfl⟩ := fArcs_mem hx
   have h2 := idx_lt (a := (a : Int)) (n := n) (h := h) (x := (s : Int)) (by omega) (by omega) (by omega) (by omega)
   exact ⟨⟨by simp only; omega, by simp only; omega⟩, ⟨by simp only; omega, by simp only; omega⟩, by simp only; omega, by simp only; omega⟩
 ·obtain ⟨a, h1, rfl⟩ := lArcs_mem hx
  have h2 := idx_lt (a := (a : Int)) (n := n) (h := h) (x := (t : Int)) (by omega) (by omega) (by omega) (by omega)
  exact ⟨⟨by simp only; omega, by simp only; omega⟩, ⟨by simp only; omega, by simp only; omega⟩, by simp only; omega, by simp only; omega⟩
theorem tfArcs_len (b : Bool) (n h s t N N1 : Nat) (l : List Arc) : (tfArcs l b n h s t N N1).length = (bA l (useT s t) (keepsT b s t) n h (h + 1)).arcs.length + (h + 1) + (h + 1) := by
 unfold tfArcs
 rw [List.length_append, List.length_append, fArcs_len, lArcs_len]
theorem TfOk.len (o : TfOk n h s t l) (b : Bool) (N N1 : Nat) : (tfArcs l b n h s t N N1).length ≤ 14000 + 2 * (h + 1) := by
 rw [tfArcs_len]
 have h1 := (bA_le l (useT s t) (keepsT b s t) n h (h + 1)).1
 have h2 := o.net.hn
 have h3 := o.net.hl
 rw [Nat.mul_add] at h1
 omega
theorem TfOk.netOk (o : TfOk n h s t l) (b : Bool) : NetOk ((h + 1) * n + 2) (tfArcs l b n h s t ((h + 1) * n) ((h + 1) * n + 1)) ∧ ∀ i : Int, 0 ≤ i → i < (tfArcs l b n h s t ((h + 1) * n) ((h + 1) * n + 1)).length → 0 ≤ (rd_T48 (tfArcs l b n h s t ((h + 1) * n) ((h + 1) * n + 1)) i).f2 :=
 netOk_of (by omega) (by have := o.net.hn; omega) (by have := o.len b ((h + 1) * n) ((h + 1) * n + 1); have := o.hh; omega) (o.arcs b)
theorem TfOk.le {k : Nat} (o : TfOk n h s t l) (hk : k ≤ h) : TfOk n k s t l := ⟨o.net.le hk, o.caps, o.hs, o.ht, o.st, by have := o.hh; omega⟩
end
noncomputable def tfV (n h s t : Nat) (b : Bool) (l : List Arc) : Int := mfVal (tfArcs l b n h s t ((h + 1) * n) ((h + 1) * n + 1)) ((h + 1) * n + 2) ((h + 1) * n) ((h + 1) * n + 1)
noncomputable def tfCut (n h s t : Nat) (b : Bool) (l : List Arc) : List Slot := cutOf n (tfArcs l b n h s t ((h + 1) * n) ((h + 1) * n + 1)) ((h + 1) * n + 2) ((h + 1) * n) ((h + 1) * n + 1)
set_option maxHeartbeats 8000000 in
set_option maxRecDepth 100000 in
theorem begin_of (n h : Nat) (b : Bool) (A : Option Addr) (c : Nat) (l : List Arc) (gn gs gt : Nat) (use : Arc → Bool) (keeps : Nat → Bool) (w : World) (hn : NetIn n h l) (hlc : l.length ≤ c) (hr : Kd.C kArc w A l.length l)
  (hU : ∀ x W, x ∈ l → Below w.heap.size w W → Calls Try.prog 28 #[.agg #[.int .i64 x.f0, .int .i64 x.f1, .int .i64 x.f2, .int .i64 x.f3], .pointer (some ⟨gs, 0, none⟩), .pointer (some ⟨gt, 0, none⟩)] W fun e w' => e = .returned (.bool (use x)) ∧ Below W.heap.size W w')
  (hK : ∀ (v : Nat) W, v < n → Below w.heap.size w W → Calls Try.prog 29 #[.int .i64 v, .pointer (some ⟨gn, 0, none⟩), .pointer (some ⟨gs, 0, none⟩), .pointer (some ⟨gt, 0, none⟩)] W fun e w' => e = .returned (.bool (keeps v)) ∧ Below W.heap.size W w') :
  Calls Try.prog 27 #[.agg #[.int .i64 n, .bool b, .slice A l.length c], .int .i64 h, .func (.func 28) #[] #[.pointer (some ⟨gs, 0, none⟩), .pointer (some ⟨gt, 0, none⟩)], .func (.func 29) #[] #[.pointer (some ⟨gn, 0, none⟩), .pointer (some ⟨gs, 0, none⟩), .pointer (some ⟨gt, 0, none⟩)]] w fun e w' => ∃ (gg : Nat), e = .returned (.pointer (some ⟨gg, 0, none⟩)) ∧ ∃ (v : Value) (B : MB), GrI w gg (((h + 1) * n : Nat) + 2 : Nat) n v (bA l use keeps n h (h + 1)).arcs B (bA l use keeps n h (h + 1)).md w' := by
 have HN := zh hn
 have HLC := zh hlc
 have HR := zh hr
 have HU := zh hU
 have HK := zh hK
 have hn1 := hn.n1
 have hh1 := hn.h1
 have hll := hn.ll
 have hM := hn.hn
 clear hn hlc hr hU hK
 obtain ⟨M, hM2⟩ : ∃ M : Nat, M = (h + 1) * n := ⟨_, rfl⟩
 rw [← hM2] at hM ⊢
 have e1 : IntKind.i64.wrap ((h : Int) + 1) = (h : Int) + 1 := IntWalk.i64_in _ (by omega)
 have e2 : IntKind.i64.wrap (((h : Int) + 1) * (n : Int)) = (M : Int) := by
  rw [hM2, Int.natCast_mul]
  exact IntWalk.i64_in _ (by have := Int.ofNat_le.2 hM; rw [hM2, Int.natCast_mul] at this; have h9 := Int.mul_nonneg (a := ((h : Int) + 1)) (b := (n : Int)) (by omega) (by omega); have h8 : ((h + 1 : Nat) : Int) = (h : Int) + 1 := rfl; rw [h8] at this; omega)
 have HM2 := zh hM2
 clear hM2
 have hmm := @run_makeMap Try.prog
 have hu := Try.underlying28
 have hu2 := Try.underlying67
 go_enter Try.func27, Try.ntmps27
 go_wp2
 have HP := zh (begin_start w #[.int .i64 n, .bool b, .slice A l.length c] 28 ((M : Int) + 2) n _ rfl)
 generalize ((((((w.alloc (.cells #[.int .i64 n, .bool b, .slice A l.length c] 28)).alloc (.map #[] 0)).alloc (.map #[] 0)).alloc (.map #[] 0)).alloc (.map #[] 0)).alloc (.cells #[.int .i64 ((M : Int) + 2), .bool false, .slice none 0 0, .map (some (w.heap.size + 1)), .map (some (w.heap.size + 1 + 1)), .map (some (w.heap.size + 1 + 1 + 1)), .map (some (w.heap.size + 1 + 1 + 1 + 1)), .int .i64 n] 67)) = W0 at HP ⊢
 obtain ⟨B, HP⟩ : ∃ B, Hid (W0.heap[w.heap.size]? = some (.cells #[.int .i64 n, .bool b, .slice A l.length c] 28 (0, 0)) ∧ GrI w (w.heap.size + 1 + 1 + 1 + 1 + 1) ((M : Int) + 2) n (.slice none 0 0) [] B (BSt.md ⟨[], [], []⟩) W0) := ⟨_, HP⟩
 generalize w.heap.size + 1 + 1 + 1 + 1 + 1 = gg at HP ⊢
 clear hmm e2
 go_loopg [34] (h + 2) (fun k cv W => ∃ (a : Nat) (v : Value), a ≤ h + 1 ∧ cv = .int .i64 a ∧ k = h + 2 - a ∧ Hid (W.heap[w.heap.size]? = some (.cells #[.int .i64 n, .bool b, .slice A l.length c] 28 (0, 0)) ∧ GrI w gg ((M : Int) + 2) n v (bA l use keeps n h a).arcs B (bA l use keeps n h a).md W))
 case atStart => exact ⟨0, _, Nat.zero_le _, rfl, rfl, HP⟩
 case round =>
  obtain ⟨a, v, ha, rfl, rfl, HI⟩ := hrel
  clear HP
  by_cases hlt : a ≤ h
  ·have hlt2 : (a : Int) < (h : Int) + 1 := by omega
   have x0 : wr.cell? ⟨w.heap.size, 0, none⟩ = some (.int .i64 n) := (blk_cell HI.out.1 0).trans rfl
   have x2 : wr.cell? ⟨w.heap.size, 2, none⟩ = some (.slice A l.length c) := (blk_cell HI.out.1 2).trans rfl
   go_wp2
   go_loopg [40] (l.length + 1) (fun k iv W => ∃ (j : Nat) (v : Value), j ≤ l.length ∧ iv = .int .i64 j ∧ k = l.length + 1 - j ∧ Hid (W.heap[w.heap.size]? = some (.cells #[.int .i64 n, .bool b, .slice A l.length c] 28 (0, 0)) ∧ GrI w gg ((M : Int) + 2) n v (bM l use n h a (bA l use keeps n h a) j).arcs B (bM l use n h a (bA l use keeps n h a) j).md W))
   case atStart => exact ⟨0, v, Nat.zero_le _, rfl, rfl, HI⟩
   case round =>
    obtain ⟨j, v1, hj, rfl, rfl, HJ⟩ := hrel
    clear HI x0 x2
    by_cases hjl : j < l.length
    ·obtain ⟨ad, ea, y0, y1, y2, y3⟩ := at_T48 (Kd.C_below HR.out HJ.out.2.low) (j : Int) (by omega) (by omega)
     subst ea
     rw [Int.toNat_natCast] at y0 y1 y2 y3
     obtain ⟨x, hx⟩ : ∃ x, x = arcAt l j := ⟨_, rfl⟩
     have hx2 : rd_T48 l (j : Int) = x := by rw [hx]; rfl
     rw [hx2] at y0 y1 y2 y3
     have j0 : (0 : Int) ≤ (j : Int) := by omega
     have j1 : (j : Int) < (l.length : Int) := by omega
     have HX := zh hx
     clear hx hx2
     have hti : 0 ≤ x.f3 ∧ x.f3 ≤ 1048576 := by have := HN.out.time j hjl; rw [← HX.out] at this; exact this
     have hti0 := hti.1
     have hti1 := hti.2
     clear hti
     obtain ⟨s1, hs1⟩ : ∃ s1, s1 = bM l use n h a (bA l use keeps n h a) j := ⟨_, rfl⟩
     have HI0 : Hid (GrI w gg ((M : Int) + 2) n v1 s1.arcs B s1.md wr) := zh (by rw [hs1]; exact HJ.out.2)
     have HS1 := zh hs1
     clear hs1
     have HB0 := zh HJ.out.1
     by_cases htm : (a : Int) + x.f3 ≤ (h : Int)
     ·have htd : decide ((a : Int) + x.f3 ≤ (h : Int)) = true := by simpa using htm
      cases hux : use x with
      |true =>
       have HUX := zh hux
       clear hux
       go_wp2_with (go_at_call 28; refine (HU.out x _ ?s1 ?s2).mono ?_; (case s1 => rw [HX.out]; exact mem_arcAt hjl); (case s2 => exact below_alloc HI0.out.low _); rintro e w1 ⟨rfl, hb⟩; rw [HUX.out]; have HB1 := zh hb; clear hb)
       have HI1 := zh ((HI0.out.below (below_alloc (Below.refl _ _) _)).below HB1.out)
       have HV1 := zh (blk_below (heap_alloc_new wr (.cells #[.int .i64 x.f0, .int .i64 x.f1, .int .i64 x.f2, .int .i64 x.f3] 48)) HB1.out)
       have HO1 := zh (Kd.R_lt HI0.out.ar)
       have HB2 := zh (blk_below (blk_alloc HB0.out _) HB1.out)
       generalize wr.heap.size = av at *
       have g3 := HI1.out.cells.2.2.2.1
       have v0 : w1.cell? ⟨av, 0, none⟩ = some (.int .i64 x.f0) := (blk_cell HV1.out 0).trans rfl
       have v1' : w1.cell? ⟨av, 1, none⟩ = some (.int .i64 x.f1) := (blk_cell HV1.out 1).trans rfl
       have v2 : w1.cell? ⟨av, 2, none⟩ = some (.int .i64 x.f2) := (blk_cell HV1.out 2).trans rfl
       have v3 : w1.cell? ⟨av, 3, none⟩ = some (.int .i64 x.f3) := (blk_cell HV1.out 3).trans rfl
       have hen := HN.out.ends j hjl
       rw [← HX.out] at hen
       have hf0 : 0 ≤ x.f0 ∧ x.f0 ≤ 1000 := by omega
       have hf1 : 0 ≤ x.f1 ∧ x.f1 ≤ 1000 := by omega
       have hn8 : (0 : Int) ≤ n ∧ (n : Int) ≤ 1000 := by omega
       have e3 : IntKind.i64.wrap ((a : Int) + x.f3) = (a : Int) + x.f3 := IntWalk.i64_in _ (by omega)
       have hale : 0 ≤ (a : Int) ∧ (a : Int) ≤ 10000 := by omega
       have hale2 : 0 ≤ (a : Int) + x.f3 ∧ (a : Int) + x.f3 ≤ 10000 := by omega
       have HF0 := zh hf0; have HF1 := zh hf1; have HN8 := zh hn8; have HA1 := zh hale; have HA2 := zh hale2
       have HNE : Hid (¬ (av = gg ∨ some av = v1.ownBlock)) := zh (by
        rintro (e9 | e9)
        ·exact blk_ne HV1.out HI1.out.bx (by decide) e9
        ·exact absurd (HO1.out av e9.symm) (by omega))
       have HSL : Hid (s1.le 14000) := zh (by
        have h7 := bM_le l use n h a (bA_le l use keeps n h a) j
        have h8 := HN.out.room hlt
        rw [← HS1.out] at h7
        exact ⟨by have := h7.1; omega, by have := h7.2.1; omega, by have := h7.2.2; omega⟩)
       clear hen hf0 hf1 hn8 hale hale2 y0 y1 y2 y3
       go_region_held3 (fun w' => w'.cell? ⟨gg, 3, none⟩ = some (.map (some B.m)) ∧ w'.cell? ⟨av, 0, none⟩ = some (.int .i64 x.f0) ∧ w'.cell? ⟨av, 1, none⟩ = some (.int .i64 x.f1) ∧ w'.cell? ⟨av, 2, none⟩ = some (.int .i64 x.f2) ∧ w'.cell? ⟨av, 3, none⟩ = some (.int .i64 x.f3)) (first | go_keep | exact HS9.out | exact HS10.out) ((first
        |(go_at_call 31; (with_reducible refine (gat_walk w gg ((M : Int) + 2) n v1 s1.arcs B s1.md _ _ _ ?s1 HN8.out ?s2 ?s3).mono ?_); (case s1 => exact HI1.out.below zD); (case s2 => first | exact HF0.out | exact HF1.out); (case s3 => first | exact HA1.out | exact HA2.out); rintro e w' ⟨rfl, rfl⟩)
        |(go_at_call 30; (with_reducible refine (add_walk w gg ((M : Int) + 2) n v1 s1.arcs B s1.md _ _ _ _ ?s1 ?s2).mono ?_); (case s1 => exact HI1.out.below zD); (case s2 => have := HSL.out.1; omega); rintro e w2 ⟨rfl, v9, hI, hk, hs⟩; have hv9 := blk_kept (show _ from blk_below HV1.out zD) hk HNE.out; have HS9 : Hid (w2.cell? ⟨gg, 3, none⟩ = some (.map (some B.m)) ∧ w2.cell? ⟨av, 0, none⟩ = some (.int .i64 x.f0) ∧ w2.cell? ⟨av, 1, none⟩ = some (.int .i64 x.f1) ∧ w2.cell? ⟨av, 2, none⟩ = some (.int .i64 x.f2) ∧ w2.cell? ⟨av, 3, none⟩ = some (.int .i64 x.f3)) := zh ⟨hI.cells.2.2.2.1, (blk_cell hv9 0).trans rfl, (blk_cell hv9 1).trans rfl, (blk_cell hv9 2).trans rfl, (blk_cell hv9 3).trans rfl⟩; obtain ⟨w3, hrun, hI3, hk3, hs3⟩ := hI.putm (show s1.mv.length ≤ 1000000 by have := HSL.out.2.1; omega) (x := (j : Int)) (y := (a : Int)) (i := (s1.arcs.length : Int)) (by omega) (by omega) (by have := HSL.out.1; omega); have hv10 := blk_kept hv9 hk3 (fun e => mapAs_ne hI.mm hv9 e.symm); have HS10 : Hid (w3.cell? ⟨gg, 3, none⟩ = some (.map (some B.m)) ∧ w3.cell? ⟨av, 0, none⟩ = some (.int .i64 x.f0) ∧ w3.cell? ⟨av, 1, none⟩ = some (.int .i64 x.f1) ∧ w3.cell? ⟨av, 2, none⟩ = some (.int .i64 x.f2) ∧ w3.cell? ⟨av, 3, none⟩ = some (.int .i64 x.f3)) := zh ⟨hI3.cells.2.2.2.1, (blk_cell hv10 0).trans rfl, (blk_cell hv10 1).trans rfl, (blk_cell hv10 2).trans rfl, (blk_cell hv10 3).trans rfl⟩; have HI3 := zh hI3; have HK3 := zh hk3; have HST3 := zh hs3; have HK2 := zh hk; have HST2 := zh hs; have HMM := zh hI.mm; clear hv10 hI3 hk3 hs3 hI hk hs hv9)))
       all_goals
        go_wp2
        go_roundg (l.length - j)
        case measure => omega
        case rel =>
         refine ⟨j + 1, v9, by omega, by go_num, by omega, zh ⟨?_, ?_⟩⟩
         ·have h6 := blk_kept (show _ from blk_below HB2.out zD) HK2.out (fun e9 => e9.elim (fun e8 => blk_ne HB2.out HI1.out.bx (by decide) e8) (fun e8 => Kd.R_ne HI1.out.ar HB2.out (by decide) e8))
          exact blk_kept h6 HK3.out (fun e9 => mapAs_ne HMM.out h6 e9.symm)
         ·have h7 : bM l use n h a (bA l use keeps n h a) (j + 1) = ⟨s1.arcs ++ [⟨(a : Int) * n + x.f0, ((a : Int) + x.f3) * n + x.f1, x.f2, 0⟩], s1.mv ++ [((j : Int), (a : Int), (s1.arcs.length : Int))], s1.wt⟩ := by
           rw [bM, ← HS1.out, ← HX.out, if_pos ⟨htm, HUX.out⟩]
          rw [h7, md_pushm]
          exact HI3.out
      |false =>
       have HUX := zh hux
       clear hux
       go_wp2_with (go_at_call 28; refine (HU.out x _ ?s1 ?s2).mono ?_; (case s1 => rw [HX.out]; exact mem_arcAt hjl); (case s2 => exact below_alloc HI0.out.low _); rintro e w1 ⟨rfl, hb⟩; rw [HUX.out]; have HB1 := zh hb; clear hb)
       go_roundg (l.length - j)
       case measure => omega
       case rel =>
        refine ⟨j + 1, v1, by omega, by go_num, by omega, zh ⟨blk_below (blk_alloc HB0.out _) HB1.out, ?_⟩⟩
        have h7 : bM l use n h a (bA l use keeps n h a) (j + 1) = s1 := by
         rw [bM, ← HS1.out, ← HX.out, if_neg (fun e => by have := HUX.out; rw [e.2] at this; cases this)]
        rw [h7]
        exact (HI0.out.below (below_alloc (Below.refl _ _) _)).below HB1.out
     ·have htd : decide ((a : Int) + x.f3 ≤ (h : Int)) = false := by simpa using htm
      go_wp2
      go_roundg (l.length - j)
      case measure => omega
      case rel =>
       refine ⟨j + 1, v1, by omega, by go_num, by omega, zh ⟨blk_alloc HB0.out _, ?_⟩⟩
       have h7 : bM l use n h a (bA l use keeps n h a) (j + 1) = s1 := by
        rw [bM, ← HS1.out, ← HX.out, if_neg (fun e => by have := e.1; omega)]
       rw [h7]
       exact HI0.out.below (below_alloc (Below.refl _ _) _)
    ·have hj2 : ¬ (j : Int) < (l.length : Int) := by omega
     have e : j = l.length := by omega
     subst e
     have x0 : wr.cell? ⟨w.heap.size, 0, none⟩ = some (.int .i64 n) := (blk_cell HJ.out.1 0).trans rfl
     go_wp2
     go_loopg [83] (n + 1) (fun k iv W => ∃ (u : Nat) (v : Value), u ≤ n ∧ iv = .int .i64 u ∧ k = n + 1 - u ∧ Hid (W.heap[w.heap.size]? = some (.cells #[.int .i64 n, .bool b, .slice A l.length c] 28 (0, 0)) ∧ GrI w gg ((M : Int) + 2) n v (bW keeps n h a (bM l use n h a (bA l use keeps n h a) l.length) u).arcs B (bW keeps n h a (bM l use n h a (bA l use keeps n h a) l.length) u).md W))
     case atStart => exact ⟨0, v1, Nat.zero_le _, rfl, rfl, HJ⟩
     case round =>
      obtain ⟨u, v2, hu9, rfl, rfl, HV⟩ := hrel
      clear HJ x0
      by_cases hul : u < n
      ·have hul2 : (u : Int) < (n : Int) := by omega
       obtain ⟨s2, hs2⟩ : ∃ s2, s2 = bW keeps n h a (bM l use n h a (bA l use keeps n h a) l.length) u := ⟨_, rfl⟩
       have HI0 : Hid (GrI w gg ((M : Int) + 2) n v2 s2.arcs B s2.md wr) := zh (by rw [hs2]; exact HV.out.2)
       have HB0 := zh HV.out.1
       have HS2 := zh hs2
       clear hs2
       by_cases hah : (a : Int) < (h : Int)
       ·have hahd : decide ((a : Int) < (h : Int)) = true := by simpa using hah
        cases hkx : keeps u with
        |true =>
         have HKX := zh hkx
         clear hkx
         go_wp2_with (go_at_call 29; refine (HK.out u _ hul ?s2).mono ?_; (case s2 => exact HI0.out.low); rintro e w1 ⟨rfl, hb⟩; rw [HKX.out]; have HB1 := zh hb; clear hb)
         have HI1 := zh (HI0.out.below HB1.out)
         have HB2 := zh (blk_below HB0.out HB1.out)
         have g4 := HI1.out.cells.2.2.2.2.1
         have hf0 : 0 ≤ (u : Int) ∧ (u : Int) ≤ 1000 := by omega
         have hn8 : (0 : Int) ≤ n ∧ (n : Int) ≤ 1000 := by omega
         have e3 : IntKind.i64.wrap ((a : Int) + 1) = (a : Int) + 1 := IntWalk.i64_in _ (by omega)
         have hale : 0 ≤ (a : Int) ∧ (a : Int) ≤ 10000 := by omega
         have hale2 : 0 ≤ (a : Int) + 1 ∧ (a : Int) + 1 ≤ 10000 := by omega
         have HF0 := zh hf0; have HN8 := zh hn8; have HA1 := zh hale; have HA2 := zh hale2
         have HSL : Hid (s2.le 14000) := zh (by
          have h7 := bW_le keeps n h a (bM_le l use n h a (bA_le l use keeps n h a) l.length) u
          have h8 := HN.out.room hlt
          rw [← HS2.out] at h7
          exact ⟨by have := h7.1; omega, by have := h7.2.1; omega, by have := h7.2.2; omega⟩)
         clear hf0 hn8 hale hale2
         go_region_held3 (fun w' => w'.cell? ⟨gg, 4, none⟩ = some (.map (some B.w))) (first | go_keep | exact HS9.out | exact HS10.out) ((first
          |(go_at_call 31; (with_reducible refine (gat_walk w gg ((M : Int) + 2) n v2 s2.arcs B s2.md _ _ _ ?s1 HN8.out ?s2 ?s3).mono ?_); (case s1 => exact HI1.out.below zD); (case s2 => exact HF0.out); (case s3 => first | exact HA1.out | exact HA2.out); rintro e w' ⟨rfl, rfl⟩)
          |(go_at_call 30; (with_reducible refine (add_walk w gg ((M : Int) + 2) n v2 s2.arcs B s2.md _ _ _ _ ?s1 ?s2).mono ?_); (case s1 => exact HI1.out.below zD); (case s2 => have := HSL.out.1; omega); rintro e w2 ⟨rfl, v9, hI, hk, hs⟩; have HS9 := zh hI.cells.2.2.2.2.1; obtain ⟨w3, hrun, hI3, hk3, hs3⟩ := hI.putw (show s2.wt.length ≤ 1000000 by have := HSL.out.2.2; omega) (x := (u : Int)) (y := (a : Int)) (i := (s2.arcs.length : Int)) (by omega) (by omega) (by have := HSL.out.1; omega); have HS10 := zh hI3.cells.2.2.2.2.1; have HI3 := zh hI3; have HK3 := zh hk3; have HK2 := zh hk; have HMM := zh hI.mw; clear hI3 hk3 hs3 hI hk hs)))
         all_goals
          go_wp2
          go_roundg (n - u)
          case measure => omega
          case rel =>
           refine ⟨u + 1, v9, by omega, by go_num, by omega, zh ⟨?_, ?_⟩⟩
           ·have h6 := blk_kept (show _ from blk_below HB2.out zD) HK2.out (fun e9 => e9.elim (fun e8 => blk_ne HB2.out HI1.out.bx (by decide) e8) (fun e8 => Kd.R_ne HI1.out.ar HB2.out (by decide) e8))
            exact blk_kept h6 HK3.out (fun e9 => mapAs_ne HMM.out h6 e9.symm)
           ·have h7 : bW keeps n h a (bM l use n h a (bA l use keeps n h a) l.length) (u + 1) = ⟨s2.arcs ++ [⟨(a : Int) * n + u, ((a : Int) + 1) * n + u, 1099511627776, 0⟩], s2.mv, s2.wt ++ [((u : Int), (a : Int), (s2.arcs.length : Int))]⟩ := by
             rw [bW, ← HS2.out, if_pos ⟨hah, HKX.out⟩]
            rw [h7, md_pushw]
            exact HI3.out
        |false =>
         have HKX := zh hkx
         clear hkx
         go_wp2_with (go_at_call 29; refine (HK.out u _ hul ?s2).mono ?_; (case s2 => exact HI0.out.low); rintro e w1 ⟨rfl, hb⟩; rw [HKX.out]; have HB1 := zh hb; clear hb)
         go_roundg (n - u)
         case measure => omega
         case rel =>
          refine ⟨u + 1, v2, by omega, by go_num, by omega, zh ⟨blk_below HB0.out HB1.out, ?_⟩⟩
          have h7 : bW keeps n h a (bM l use n h a (bA l use keeps n h a) l.length) (u + 1) = s2 := by
           rw [bW, ← HS2.out, if_neg (fun e => by have := HKX.out; rw [e.2] at this; cases this)]
          rw [h7]
          exact HI0.out.below HB1.out
       ·have hahd : decide ((a : Int) < (h : Int)) = false := by simpa using hah
        go_wp2
        go_roundg (n - u)
        case measure => omega
        case rel =>
         refine ⟨u + 1, v2, by omega, by go_num, by omega, zh ⟨HB0.out, ?_⟩⟩
         have h7 : bW keeps n h a (bM l use n h a (bA l use keeps n h a) l.length) (u + 1) = s2 := by
          rw [bW, ← HS2.out, if_neg (fun e => by have := e.1; omega)]
         rw [h7]
         exact HI0.out
      ·have hul2 : ¬ (u : Int) < (n : Int) := by omega
       have e : u = n := by omega
       subst e
       go_wp2
       go_roundg (h + 1 - a)
       case measure => omega
       case rel => exact ⟨a + 1, v2, by omega, by go_num, by omega, HV⟩
  ·have hlt2 : ¬ (a : Int) < (h : Int) + 1 := by omega
   have e : a = h + 1 := by omega
   subst e
   go_wp2
   go_ret
   exact ⟨gg, rfl, v, B, HI.out.2⟩
section
variable {w0 : World} {gg : Nat} {N n : Int} {v : Value} {arcs : List Arc} {B : MB} {D : MD} {W W1 : World}
theorem GrI.putf (h : GrI w0 gg N n v arcs B D W) (hk : D.kf ≤ 1000000) {x i : Int} (hx : 0 ≤ x ∧ x ≤ 1000000) (hi : 0 ≤ i ∧ i ≤ 1000000) :
  ∃ W2, (Instr.mapUpdate 65 (.map (some B.f)) (.int .i64 x) (.int .i64 i)).run Try.prog W = .ok () W2 ∧ GrI w0 gg N n v arcs B { D with kf := D.kf + 1, f := D.f.put (.int .i64 x) (.lit (.int .i64 i)) } W2 ∧ Kept W W2 (fun k => k = B.f) ∧ Stay W W2 := by
 obtain ⟨W2, h1, h2, h3⟩ := h.mf.update intLaw Try.underlying65 (show D.kf < maxLen by unfold maxLen; omega) (Maps.keyOf_int_mk Try.underlying3 (small_wf hx.1 (by omega))) (plainElem_int Try.underlying3 (small_wf hi.1 (by omega)))
 have hne : ∀ {g : Nat}, g ≠ B.f → g < W.heap.size → W2.heap[g]? = W.heap[g]? := fun {g} hg hlt => h3.block g hlt (fun e => hg (by injection e))
 have ho : ∀ k, (Value.ownBlock v) = some k → k ≠ B.f := fun k hk e => by
  obtain ⟨cs, hcs⟩ := Kd.R_typed h.ar k hk
  exact mapAs_ne h.mf hcs e.symm
 refine ⟨W2, h1, ⟨(hne (mapAs_ne h.mf h.bx).symm (blk_lt h.bx)).trans h.bx, ?_, mapAs_eq h.mm (hne h.n2 h.mm.lt), mapAs_eq h.mw (hne h.n4 h.mw.lt), h2, mapAs_eq h.ml (hne h.n6.symm h.ml.lt), ?_, h.gl, h.b1, h.b2, h.b3, h.b4, h.n1, h.n2, h.n3, h.n4, h.n5, h.n6⟩, ⟨h3.size, fun k hk hn => h3.block k hk (fun e => hn (by injection e))⟩, h3.os, h3.tape, h3.output⟩
 ·exact Kd.R_mono (Kd.R_step (Kd.R_tight rfl h.ar) (fun k hk hlt => hne (ho k hk.symm) hlt)) (fun _ _ => trivial)
 ·have h9 := h.b3
  exact ⟨h3.os.trans h.low.os, h3.tape.trans h.low.tape, h3.output.trans h.low.output, Nat.le_trans h.low.size h3.size, fun k hlt => (hne (by omega) (by have := h.low.size; omega)).trans (h.low.block k hlt)⟩
theorem GrI.putl (h : GrI w0 gg N n v arcs B D W) (hk : D.kl ≤ 1000000) {x i : Int} (hx : 0 ≤ x ∧ x ≤ 1000000) (hi : 0 ≤ i ∧ i ≤ 1000000) :
  ∃ W2, (Instr.mapUpdate 65 (.map (some B.l)) (.int .i64 x) (.int .i64 i)).run Try.prog W = .ok () W2 ∧ GrI w0 gg N n v arcs B { D with kl := D.kl + 1, l := D.l.put (.int .i64 x) (.lit (.int .i64 i)) } W2 ∧ Kept W W2 (fun k => k = B.l) ∧ Stay W W2 := by
 obtain ⟨W2, h1, h2, h3⟩ := h.ml.update intLaw Try.underlying65 (show D.kl < maxLen by unfold maxLen; omega) (Maps.keyOf_int_mk Try.underlying3 (small_wf hx.1 (by omega))) (plainElem_int Try.underlying3 (small_wf hi.1 (by omega)))
 have hne : ∀ {g : Nat}, g ≠ B.l → g < W.heap.size → W2.heap[g]? = W.heap[g]? := fun {g} hg hlt => h3.block g hlt (fun e => hg (by injection e))
 have ho : ∀ k, (Value.ownBlock v) = some k → k ≠ B.l := fun k hk e => by
  obtain ⟨cs, hcs⟩ := Kd.R_typed h.ar k hk
  exact mapAs_ne h.ml hcs e.symm
 refine ⟨W2, h1, ⟨(hne (mapAs_ne h.ml h.bx).symm (blk_lt h.bx)).trans h.bx, ?_, mapAs_eq h.mm (hne h.n3 h.mm.lt), mapAs_eq h.mw (hne h.n5 h.mw.lt), mapAs_eq h.mf (hne h.n6 h.mf.lt), h2, ?_, h.gl, h.b1, h.b2, h.b3, h.b4, h.n1, h.n2, h.n3, h.n4, h.n5, h.n6⟩, ⟨h3.size, fun k hk hn => h3.block k hk (fun e => hn (by injection e))⟩, h3.os, h3.tape, h3.output⟩
 ·exact Kd.R_mono (Kd.R_step (Kd.R_tight rfl h.ar) (fun k hk hlt => hne (ho k hk.symm) hlt)) (fun _ _ => trivial)
 ·have h9 := h.b4
  exact ⟨h3.os.trans h.low.os, h3.tape.trans h.low.tape, h3.output.trans h.low.output, Nat.le_trans h.low.size h3.size, fun k hlt => (hne (by omega) (by have := h.low.size; omega)).trans (h.low.block k hlt)⟩
end
set_option linter.unusedSimpArgs false
set_option maxHeartbeats 4000000 in
theorem of1_walk (gs gt s t : Nat) (x : Arc) (w : World) (hs : w.heap[gs]? = some (.cells #[.int .i64 s] 3 (0, 0))) (ht : w.heap[gt]? = some (.cells #[.int .i64 t] 3 (0, 0))) :
  Calls Try.prog 28 #[.agg #[.int .i64 x.f0, .int .i64 x.f1, .int .i64 x.f2, .int .i64 x.f3], .pointer (some ⟨gs, 0, none⟩), .pointer (some ⟨gt, 0, none⟩)] w fun e w' => e = .returned (.bool (useT s t x)) ∧ Below w.heap.size w w' := by
 have hu2 := Try.underlying48
 have y0 : (w.alloc (.cells #[.int .i64 x.f0, .int .i64 x.f1, .int .i64 x.f2, .int .i64 x.f3] 48)).cell? ⟨gs, 0, none⟩ = some (.int .i64 s) := (blk_cell (blk_alloc hs _) 0).trans rfl
 have y1 : (w.alloc (.cells #[.int .i64 x.f0, .int .i64 x.f1, .int .i64 x.f2, .int .i64 x.f3] 48)).cell? ⟨gt, 0, none⟩ = some (.int .i64 t) := (blk_cell (blk_alloc ht _) 0).trans rfl
 unfold useT
 clear hs ht
 have hcs : ((x.f1 != (s : Int)) = false ∧ (x.f1 == (s : Int)) = true) ∨ ((x.f1 != (s : Int)) = true ∧ (x.f1 == (s : Int)) = false) := by
  unfold bne
  cases (x.f1 == (s : Int)) <;> simp
 have hct : ((x.f0 != (t : Int)) = false ∧ (x.f0 == (t : Int)) = true) ∨ ((x.f0 != (t : Int)) = true ∧ (x.f0 == (t : Int)) = false) := by
  unfold bne
  cases (x.f0 == (t : Int)) <;> simp
 rcases hcs with ⟨e1, e2⟩ | ⟨e1, e2⟩ <;> rcases hct with ⟨e3, e4⟩ | ⟨e3, e4⟩
 all_goals
  rw [e1, e3]
  go_enter Try.func28, Try.ntmps28
  go_wp2
  go_ret
  exact ⟨rfl, below_alloc (Below.refl _ _) _⟩
set_option maxHeartbeats 4000000 in
theorem of2_walk (gn gs gt s t v : Nat) (n : Int) (b : Bool) (sl : Value) (w : World) (hn : w.heap[gn]? = some (.cells #[.int .i64 n, .bool b, sl] 28 (0, 0))) (hs : w.heap[gs]? = some (.cells #[.int .i64 s] 3 (0, 0))) (ht : w.heap[gt]? = some (.cells #[.int .i64 t] 3 (0, 0))) :
  Calls Try.prog 29 #[.int .i64 v, .pointer (some ⟨gn, 0, none⟩), .pointer (some ⟨gs, 0, none⟩), .pointer (some ⟨gt, 0, none⟩)] w fun e w' => e = .returned (.bool (keepsT b s t v)) ∧ Below w.heap.size w w' := by
 have hu2 := Try.underlying28
 have yn : w.cell? ⟨gn, 1, none⟩ = some (.bool b) := (blk_cell hn 1).trans rfl
 have y0 : w.cell? ⟨gs, 0, none⟩ = some (.int .i64 s) := (blk_cell hs 0).trans rfl
 have y1 : w.cell? ⟨gt, 0, none⟩ = some (.int .i64 t) := (blk_cell ht 0).trans rfl
 unfold keepsT
 clear hn hs ht
 have hcs : (((v : Int) != (s : Int)) = false ∧ ((v : Int) == (s : Int)) = true) ∨ (((v : Int) != (s : Int)) = true ∧ ((v : Int) == (s : Int)) = false) := by
  unfold bne
  cases ((v : Int) == (s : Int)) <;> simp
 have hct : (((v : Int) != (t : Int)) = false ∧ ((v : Int) == (t : Int)) = true) ∨ (((v : Int) != (t : Int)) = true ∧ ((v : Int) == (t : Int)) = false) := by
  unfold bne
  cases ((v : Int) == (t : Int)) <;> simp
 cases b <;> rcases hcs with ⟨e1, e2⟩ | ⟨e1, e2⟩ <;> rcases hct with ⟨e3, e4⟩ | ⟨e3, e4⟩
 all_goals
  rw [e1, e3]
  go_enter Try.func29, Try.ntmps29
  go_wp2
  go_ret
  exact ⟨rfl, Below.refl _ _⟩
def GridAt (n h s t N N1 M : Nat) (b : Bool) (l : List Arc) (w : World) (e : Ending) (w' : World) : Prop :=
 ∃ (w0 : World) (gg : Nat) (v : Value) (B : MB) (D : MD), e = .returned (.pointer (some ⟨gg, 0, none⟩)) ∧ GrI w0 gg M n v (tfArcs l b n h s t N N1) B D w' ∧ D.m = putAll (bA l (useT s t) (keepsT b s t) n h (h + 1)).mv ∧ Below w.heap.size w w'
set_option maxHeartbeats 8000000 in
set_option maxRecDepth 100000 in
theorem of_walk (n h s t N N1 M : Nat) (eN : N = (h + 1) * n) (e1 : N1 = N + 1) (e2 : M = N + 2) (b : Bool) (A : Option Addr) (c : Nat) (l : List Arc) (w : World) (o : TfOk n h s t l) (hlc : l.length ≤ c) (hr : Kd.C kArc w A l.length l) :
  Calls Try.prog 18 #[.agg #[.int .i64 n, .bool b, .slice A l.length c], .int .i64 s, .int .i64 t, .int .i64 h] w (GridAt n h s t N N1 M b l w) := by
 have HO := zh o
 have HR := zh hr
 have hn1 := o.net.n1
 have hh1 := o.net.h1
 have hs9 := o.hs
 have ht9 := o.ht
 have hNb := o.net.hn
 rw [← eN] at hNb
 have HEN := zh eN
 have HE1 := zh e1
 have HE2 := zh e2
 have HLEN : Hid (∀ k, k ≤ h + 1 → ((bA l (useT s t) (keepsT b s t) n h (h + 1)).arcs ++ fArcs N n s (h + 1) ++ lArcs N1 n t k).length ≤ 30000 ∧ ((bA l (useT s t) (keepsT b s t) n h (h + 1)).arcs ++ fArcs N n s k).length ≤ 30000) := zh (fun k hk => by
  have h1 := (bA_le l (useT s t) (keepsT b s t) n h (h + 1)).1
  have h2 := o.net.hn
  have h3 := o.net.hl
  rw [Nat.mul_add] at h1
  rw [List.length_append, List.length_append, List.length_append, fArcs_len, lArcs_len, fArcs_len]
  omega)
 obtain ⟨w1, hw1⟩ : ∃ w1, w1 = ((w.alloc (.cells #[.int .i64 n, .bool b, .slice A l.length c] 28)).alloc (.cells #[.int .i64 s] 3)).alloc (.cells #[.int .i64 t] 3) := ⟨_, rfl⟩
 have HX : Hid (w1.heap[w.heap.size]? = some (.cells #[.int .i64 n, .bool b, .slice A l.length c] 28 (0, 0)) ∧ w1.heap[w.heap.size + 1]? = some (.cells #[.int .i64 s] 3 (0, 0)) ∧ w1.heap[w.heap.size + 1 + 1]? = some (.cells #[.int .i64 t] 3 (0, 0)) ∧ Below w.heap.size w w1) := zh (by
  rw [hw1]
  exact ⟨blk_alloc (blk_alloc (heap_alloc_new _ _) _) _, blk_alloc (alloc_at (by rw [alloc_size])) _, alloc_at (by rw [alloc_size, alloc_size]), below_alloc (below_alloc (below_alloc (Below.refl _ _) _) _) _⟩)
 have ew : IntKind.i64.wrap ((h : Int) + 1) = (h : Int) + 1 := IntWalk.i64_in _ (by omega)
 have hu := Try.underlying28
 have hu2 := Try.underlying67
 clear o hr e1 e2 eN
 go_enter Try.func18, Try.ntmps18
 go_wp2_with (first
  |(go_at_call 27; rw [← hw1]; go_loud ((with_reducible refine (begin_of n h b A c l w.heap.size (w.heap.size + 1) (w.heap.size + 1 + 1) (useT s t) (keepsT b s t) w1 HO.out.net hlc ?s1 ?s2 ?s3).mono ?_); (case s1 => exact Kd.C_below HR.out HX.out.2.2.2); (case s2 => exact fun x W _ hW => of1_walk _ _ s t x W (blk_below HX.out.2.1 hW) (blk_below HX.out.2.2.1 hW)); (case s3 => exact fun v W _ hW => of2_walk _ _ _ s t v n b _ W (blk_below HX.out.1 hW) (blk_below HX.out.2.1 hW) (blk_below HX.out.2.2.1 hW)); rintro e w2 ⟨gg, rfl, v, B, hI⟩; rw [← HEN.out] at hI; have HI := zh hI; clear hI))
  |(go_at_call 19; go_loud ((with_reducible refine (ends_walk w1 gg N N1 M HE1.out HE2.out n v (bA l (useT s t) (keepsT b s t) n h (h + 1)).arcs B (bA l (useT s t) (keepsT b s t) n h (h + 1)).md w2 ?s1 ?s2).mono ?_); (case s1 => rw [HE2.out]; exact HI.out); (case s2 => have := HE2.out; omega); rintro e w3 ⟨rfl, hb⟩; have HI3 := zh (HI.out.below hb); clear hb)))
 clear HI
 go_loopg [26] (h + 2) (fun k cv W => ∃ (a : Nat) (v : Value) (D : MD), a ≤ h + 1 ∧ cv = .int .i64 a ∧ k = h + 2 - a ∧ Hid (GrI w1 gg M n v ((bA l (useT s t) (keepsT b s t) n h (h + 1)).arcs ++ fArcs N n s a) B D W ∧ D.m = putAll (bA l (useT s t) (keepsT b s t) n h (h + 1)).mv ∧ D.kf = a ∧ D.kl = 0))
 case atStart => exact ⟨0, v, _, Nat.zero_le _, rfl, rfl, zh ⟨by rw [HE2.out, fArcs, List.append_nil]; exact HI3.out, rfl, rfl, rfl⟩⟩
 case round =>
  obtain ⟨a, v1, D, ha, rfl, rfl, HL⟩ := hrel
  clear HI3
  by_cases hlt : a ≤ h
  ·have hlt2 : (a : Int) < (h : Int) + 1 := by omega
   have g5 := HL.out.1.cells.2.2.2.2.2.1
   have b0 : wr.cell? ⟨w.heap.size + 1, 0, none⟩ = some (.int .i64 s) := (blk_cell (blk_below HX.out.2.1 HL.out.1.low) 0).trans rfl
   have hf0 : 0 ≤ (s : Int) ∧ (s : Int) ≤ 1000 := by omega
   have hn8 : (0 : Int) ≤ n ∧ (n : Int) ≤ 1000 := by omega
   have hale : 0 ≤ (a : Int) ∧ (a : Int) ≤ 10000 := by omega
   have HF0 := zh hf0; have HN8 := zh hn8; have HA1 := zh hale
   clear hf0 hn8 hale
   obtain ⟨L0, hL0⟩ : ∃ L0, L0 = (bA l (useT s t) (keepsT b s t) n h (h + 1)).arcs ++ fArcs N n s a := ⟨_, rfl⟩
   have HL0 := zh hL0
   have HIL : Hid (GrI w1 gg M n v1 L0 B D wr) := zh (by rw [hL0]; exact HL.out.1)
   have HSL : Hid (L0.length ≤ 30000) := zh (by rw [hL0]; exact (HLEN.out a ha).2)
   clear hL0
   go_wp2
   go_region_held3 (fun w' => w'.cell? ⟨gg, 5, none⟩ = some (.map (some B.f)) ∧ w'.cell? ⟨w.heap.size + 1, 0, none⟩ = some (.int .i64 s)) (first | go_keep | exact HS9.out | exact HS10.out) ((first
    |(go_at_call 31; (with_reducible refine (gat_walk w1 gg M n v1 L0 B D _ _ _ ?s1 HN8.out ?s2 ?s3).mono ?_); (case s1 => exact HIL.out.below zD); (case s2 => exact HF0.out); (case s3 => exact HA1.out); rintro e w' ⟨rfl, rfl⟩)
    |(go_at_call 30; (with_reducible refine (add_walk w1 gg M n v1 L0 B D _ _ _ _ ?s1 ?s2).mono ?_); (case s1 => exact HIL.out.below zD); (case s2 => have := HSL.out; omega); rintro e w2 ⟨rfl, v9, hI, hk, hs⟩; have HS9 := zh (And.intro hI.cells.2.2.2.2.2.1 (show w2.cell? ⟨w.heap.size + 1, 0, none⟩ = some (.int .i64 s) from (blk_cell (blk_below HX.out.2.1 hI.low) 0).trans rfl)); obtain ⟨w3, hrun, hI3, hk3, hs3⟩ := hI.putf (show D.kf ≤ 1000000 by rw [HL.out.2.2.1]; omega) (x := (a : Int)) (i := (L0.length : Int)) (by omega) (by have := HSL.out; omega); have HS10 := zh (And.intro hI3.cells.2.2.2.2.2.1 (show w3.cell? ⟨w.heap.size + 1, 0, none⟩ = some (.int .i64 s) from (blk_cell (blk_below HX.out.2.1 hI3.low) 0).trans rfl)); have HI3 := zh hI3; clear hI3 hk3 hs3 hI hk hs)))
   all_goals
    go_wp2
    go_roundg (h + 1 - a)
    case measure => omega
    case rel =>
     refine ⟨a + 1, v9, { D with kf := D.kf + 1, f := D.f.put (.int .i64 (a : Int)) (.lit (.int .i64 (L0.length : Int))) }, by omega, by go_num, by omega, zh ⟨?_, HL.out.2.1, by show D.kf + 1 = a + 1; rw [HL.out.2.2.1], HL.out.2.2.2⟩⟩
     rw [fArcs, ← List.append_assoc, ← HL0.out]
     exact HI3.out
  ·have e : a = h + 1 := by omega
   subst e
   go_wp2
   go_loopg [44] (h + 2) (fun k cv W => ∃ (a : Nat) (v : Value) (D : MD), a ≤ h + 1 ∧ cv = .int .i64 a ∧ k = h + 2 - a ∧ Hid (GrI w1 gg M n v ((bA l (useT s t) (keepsT b s t) n h (h + 1)).arcs ++ fArcs N n s (h + 1) ++ lArcs N1 n t a) B D W ∧ D.m = putAll (bA l (useT s t) (keepsT b s t) n h (h + 1)).mv ∧ D.kl = a))
   case atStart => exact ⟨0, v1, D, Nat.zero_le _, rfl, rfl, zh ⟨by rw [lArcs, List.append_nil]; exact HL.out.1, HL.out.2.1, HL.out.2.2.2⟩⟩
   case round =>
    clear HL
    obtain ⟨a, v2, D2, ha2, rfl, rfl, HL⟩ := hrel
    by_cases hlt : a ≤ h
    ·have hlt2 : (a : Int) < (h : Int) + 1 := by omega
     have g6 := HL.out.1.cells.2.2.2.2.2.2.1
     have b0 : wr.cell? ⟨w.heap.size + 1 + 1, 0, none⟩ = some (.int .i64 t) := (blk_cell (blk_below HX.out.2.2.1 HL.out.1.low) 0).trans rfl
     have hf0 : 0 ≤ (t : Int) ∧ (t : Int) ≤ 1000 := by omega
     have hn8 : (0 : Int) ≤ n ∧ (n : Int) ≤ 1000 := by omega
     have hale : 0 ≤ (a : Int) ∧ (a : Int) ≤ 10000 := by omega
     have HF0 := zh hf0; have HN8 := zh hn8; have HA1 := zh hale
     clear hf0 hn8 hale
     obtain ⟨L0, hL0⟩ : ∃ L0, L0 = (bA l (useT s t) (keepsT b s t) n h (h + 1)).arcs ++ fArcs N n s (h + 1) ++ lArcs N1 n t a := ⟨_, rfl⟩
     have HL0 := zh hL0
     have HIL : Hid (GrI w1 gg M n v2 L0 B D2 wr) := zh (by rw [hL0]; exact HL.out.1)
     have HSL : Hid (L0.length ≤ 30000) := zh (by rw [hL0]; exact (HLEN.out a ha2).1)
     clear hL0
     go_wp2
     go_region_held3 (fun w' => w'.cell? ⟨gg, 6, none⟩ = some (.map (some B.l)) ∧ w'.cell? ⟨w.heap.size + 1 + 1, 0, none⟩ = some (.int .i64 t)) (first | go_keep | exact HS9.out | exact HS10.out) ((first
      |(go_at_call 31; (with_reducible refine (gat_walk w1 gg M n v2 L0 B D2 _ _ _ ?s1 HN8.out ?s2 ?s3).mono ?_); (case s1 => exact HIL.out.below zD); (case s2 => exact HF0.out); (case s3 => exact HA1.out); rintro e w' ⟨rfl, rfl⟩)
      |(go_at_call 30; (with_reducible refine (add_walk w1 gg M n v2 L0 B D2 _ _ _ _ ?s1 ?s2).mono ?_); (case s1 => exact HIL.out.below zD); (case s2 => have := HSL.out; omega); rintro e w2 ⟨rfl, v9, hI, hk, hs⟩; have HS9 := zh (And.intro hI.cells.2.2.2.2.2.2.1 (show w2.cell? ⟨w.heap.size + 1 + 1, 0, none⟩ = some (.int .i64 t) from (blk_cell (blk_below HX.out.2.2.1 hI.low) 0).trans rfl)); obtain ⟨w3, hrun, hI3, hk3, hs3⟩ := hI.putl (show D2.kl ≤ 1000000 by rw [HL.out.2.2]; omega) (x := (a : Int)) (i := (L0.length : Int)) (by omega) (by have := HSL.out; omega); have HS10 := zh (And.intro hI3.cells.2.2.2.2.2.2.1 (show w3.cell? ⟨w.heap.size + 1 + 1, 0, none⟩ = some (.int .i64 t) from (blk_cell (blk_below HX.out.2.2.1 hI3.low) 0).trans rfl)); have HI3 := zh hI3; clear hI3 hk3 hs3 hI hk hs)))
     all_goals
      go_wp2
      go_roundg (h + 1 - a)
      case measure => omega
      case rel =>
       refine ⟨a + 1, v9, { D2 with kl := D2.kl + 1, l := D2.l.put (.int .i64 (a : Int)) (.lit (.int .i64 (L0.length : Int))) }, by omega, by go_num, by omega, zh ⟨?_, HL.out.2.1, by show D2.kl + 1 = a + 1; rw [HL.out.2.2]⟩⟩
       rw [lArcs, ← List.append_assoc, ← HL0.out]
       exact HI3.out
    ·have e : a = h + 1 := by omega
     subst e
     go_wp2
     go_ret
     exact ⟨w1, gg, v2, B, D2, rfl, HL.out.1, HL.out.2.1, below_step HX.out.2.2.2 (HL.out.1.low.mono (Nat.le_refl _))⟩
end Go.Proofs.Ytdfagllncopmjaa.H
end
section
namespace Go.Proofs.Ytdfagllncopmjaa.H
open Go Go.RowKit Go.Proofs.Ytdfagllncopmjaa.PrintC Go.Proofs.Ytdfagllncopmjaa.Flow
theorem arcAt_append {a b : List Arc} {i : Nat} (h : i < a.length) : arcAt (a ++ b) i = arcAt a i := by
 unfold arcAt rd_T48
 rw [Int.toNat_natCast, List.getD_eq_getElem?_getD, List.getElem?_append_left h, List.getD_eq_getElem?_getD]
theorem arcAt_last (a : List Arc) (x : Arc) : arcAt (a ++ [x]) a.length = x := by
 unfold arcAt rd_T48
 rw [Int.toNat_natCast, List.getD_eq_getElem?_getD, List.getElem?_append_right (Nat.le_refl _)]
 simp
end Go.Proofs.Ytdfagllncopmjaa.H
end
section
namespace Go.Proofs.Ytdfagllncopmjaa.H
open Go Go.RowKit Go.Proofs.Ytdfagllncopmjaa.PrintC Go.Proofs.YtdfagllncopmjaaW.PrintWords Go.Proofs.YtdfagllncopmjaaW.PrintLast Go.Proofs.YtdfagllncopmjaaW.PrintMore
set_option linter.unusedVariables false
set_option linter.unusedSimpArgs false
def sumL : List Int → Int
 |[] => 0
 |x :: l => x + sumL l
theorem sumL_append : ∀ a b : List Int, sumL (a ++ b) = sumL a + sumL b
 |[], b => by rw [List.nil_append, sumL]; omega
 |x :: a, b => by rw [List.cons_append, sumL, sumL, sumL_append a b]; omega
theorem sumL_snoc (a : List Int) (x : Int) : sumL (a ++ [x]) = sumL a + x := by rw [sumL_append, sumL, sumL]; omega
def I64s (l : List Int) : Prop := ∀ x, x ∈ l → -9223372036854775808 ≤ x ∧ x ≤ 9223372036854775807
def fits (x : Int) : Bool := decide (-9223372036854775808 ≤ x ∧ x ≤ 9223372036854775807)
theorem take_snoc {l : List Int} {i : Nat} (h : i < l.length) : l.take (i + 1) = l.take i ++ [rd l (i : Int)] := by
 have e : rd l (i : Int) = l[i] := by
  unfold rd
  rw [Int.toNat_natCast, List.getD_eq_getElem?_getD, List.getElem?_eq_getElem h]
  rfl
 rw [List.take_add_one, List.getElem?_eq_getElem h, e]
 rfl
theorem rd_i64 {l : List Int} (h : I64s l) {i : Nat} (hi : i < l.length) : -9223372036854775808 ≤ rd l (i : Int) ∧ rd l (i : Int) ≤ 9223372036854775807 := by
 unfold rd
 rw [Int.toNat_natCast, List.getD_eq_getElem?_getD, List.getElem?_eq_getElem hi]
 exact h _ (List.getElem_mem hi)
def SumAt (l : List Int) (w : World) (e : Ending) (w' : World) : Prop := e = .returned (.tuple #[.int .i64 (if fits (sumL l) = true then sumL l else 0), .bool (fits (sumL l))]) ∧ Below w.heap.size w w'
theorem SumAt.yes {l : List Int} {T : Int} {w w' : World} {e : Ending} (h : SumAt l w e w') (hT : sumL l = T) (hf : fits T = true) : e = .returned (.tuple #[.int .i64 T, .bool true]) ∧ Below w.heap.size w w' := by
 unfold SumAt at h
 rw [hT, hf] at h
 exact h
theorem SumAt.no {l : List Int} {T : Int} {w w' : World} {e : Ending} (h : SumAt l w e w') (hT : sumL l = T) (hf : fits T = false) : e = .returned (.tuple #[.int .i64 0, .bool false]) ∧ Below w.heap.size w w' := by
 unfold SumAt at h
 rw [hT, hf] at h
 exact h
end Go.Proofs.Ytdfagllncopmjaa.H
end
section
namespace Go.Proofs.Ytdfagllncopmjaa.H
open Go Go.RowKit Go.Proofs.Ytdfagllncopmjaa.PrintC Go.Proofs.Ytdfagllncopmjaa.PrintE Go.Proofs.YtdfagllncopmjaaW.PrintWords
theorem infoNum : (Try.prog.info? 3).map (fun i => (i.zero, i.size, i.bytes)) = some (some (.int .i64 0), 1, 8) := by kernel_rfl
theorem infoMv : (Try.prog.info? 69).map (fun i => (i.zero, i.size, i.bytes)) = some (some (.agg #[.int .i64 0, .int .i64 0, .int .i64 0]), 3, 24) := by kernel_rfl
abbrev Mv := S69
abbrev kMv := k69
def sameK (a b : Mv) : Bool := decide (a.f0 = b.f0 ∧ a.f1 = b.f1)
theorem sameK_iff {a b : Mv} : sameK a b = true ↔ a.f0 = b.f0 ∧ a.f1 = b.f1 := decide_eq_true_iff
theorem sameK_sym {a b : Mv} (h : sameK a b = true) : sameK b a = true := by rw [sameK_iff] at h ⊢; exact ⟨h.1.symm, h.2.symm⟩
def amt (l : List Mv) (x : Mv) : Int := sumL ((l.filter (sameK x)).map (·.f2))
theorem amt_same {l : List Mv} {x y : Mv} (h : sameK x y = true) : amt l x = amt l y := by
 have e : sameK x = sameK y := by
  rw [sameK_iff] at h
  funext z
  unfold sameK
  rw [h.1, h.2]
 unfold amt
 rw [e]
def mlt (a b : Mv) : Prop := a.f1 < b.f1 ∨ a.f1 = b.f1 ∧ a.f0 < b.f0
theorem mlt_trans {a b c : Mv} (h : mlt a b) (k : mlt b c) : mlt a c := by
 unfold mlt at *
 omega
theorem mlt_of {a b : Mv} (h : ¬ mlt a b) (k : sameK b a = false) : mlt b a := by
 unfold sameK at k
 rw [decide_eq_false_iff_not] at k
 unfold mlt at *
 omega
def mvAt (l : List Mv) (i : Nat) : Mv := rd_T69 l (i : Int)
theorem mvAt_mem {l : List Mv} {i : Nat} (h : i < l.length) : mvAt l i ∈ l := by
 unfold mvAt rd_T69
 rw [Int.toNat_natCast, List.getD_eq_getElem?_getD, List.getElem?_eq_getElem h]
 exact List.getElem_mem h
theorem mvAt_take {l : List Mv} {i : Nat} (h : i < l.length) : l.take (i + 1) = l.take i ++ [mvAt l i] := by
 have e : mvAt l i = l[i] := by
  unfold mvAt rd_T69
  rw [Int.toNat_natCast, List.getD_eq_getElem?_getD, List.getElem?_eq_getElem h]
  rfl
 rw [List.take_add_one, List.getElem?_eq_getElem h, e]
 rfl
theorem mem_take_at {l : List Mv} {x : Mv} : ∀ {i : Nat}, i ≤ l.length → x ∈ l.take i → ∃ k, k < i ∧ x = mvAt l k
 |0, _, h => by simp at h
 |i + 1, hi, h => by
  rw [mvAt_take (by omega), List.mem_append, List.mem_singleton] at h
  rcases h with h | h
  ·obtain ⟨k, hk, e⟩ := mem_take_at (by omega) h
   exact ⟨k, by omega, e⟩
  ·exact ⟨i, by omega, h⟩
theorem at_mem_take {l : List Mv} : ∀ {i k : Nat}, i ≤ l.length → k < i → mvAt l k ∈ l.take i
 |i + 1, k, hi, hk => by
  rw [mvAt_take (by omega), List.mem_append, List.mem_singleton]
  by_cases e : k = i
  ·rw [e]
   exact .inr rfl
  ·exact .inl (at_mem_take (by omega) (by omega))
structure MgI (l : List Mv) (i : Nat) (m : List Mv) : Prop where
 srt : m.Pairwise mlt
 am : ∀ y, y ∈ m → y.f2 = amt l y ∧ y.f2 ≠ 0 ∧ ∃ x, x ∈ l.take i ∧ sameK x y = true
 all : ∀ x, x ∈ l.take i → fits (amt l x) = true ∧ (amt l x ≠ 0 → ∃ y, y ∈ m ∧ sameK x y = true)
abbrev MgOf (l m : List Mv) : Prop := MgI l l.length m
theorem MgI.zero (l : List Mv) : MgI l 0 [] := ⟨List.Pairwise.nil, fun _ h => (nomatch h), fun _ h => by simp at h⟩
section
variable {l m : List Mv} {i : Nat}
theorem MgI.had (h : MgI l i m) (hi : i < l.length) {k : Nat} (hk : k < i) (e : sameK (mvAt l k) (mvAt l i) = true) : MgI l (i + 1) m where
 srt := h.srt
 am y hy := by
  obtain ⟨a, b, x, hx, c⟩ := h.am y hy
  exact ⟨a, b, x, by rw [mvAt_take hi]; exact List.mem_append_left _ hx, c⟩
 all x hx := by
  rw [mvAt_take hi, List.mem_append, List.mem_singleton] at hx
  rcases hx with hx | rfl
  ·exact h.all x hx
  ·obtain ⟨a, b⟩ := h.all (mvAt l k) (at_mem_take (by omega) hk)
   rw [amt_same e] at a b
   refine ⟨a, fun g => ?_⟩
   obtain ⟨y, hy, c⟩ := b g
   rw [sameK_iff] at e c
   exact ⟨y, hy, by rw [sameK_iff]; exact ⟨e.1.symm.trans c.1, e.2.symm.trans c.2⟩⟩
theorem MgI.none (h : MgI l i m) (hi : i < l.length) (e : amt l (mvAt l i) = 0) : MgI l (i + 1) m where
 srt := h.srt
 am y hy := by
  obtain ⟨a, b, x, hx, c⟩ := h.am y hy
  exact ⟨a, b, x, by rw [mvAt_take hi]; exact List.mem_append_left _ hx, c⟩
 all x hx := by
  rw [mvAt_take hi, List.mem_append, List.mem_singleton] at hx
  rcases hx with hx | rfl
  ·exact h.all x hx
  ·rw [e]
   exact ⟨rfl, fun g => absurd rfl g⟩
end
def MovesAt (l : List Mv) (w : World) (e : Ending) (w' : World) : Prop := Below w.heap.size w w' ∧ ((e = .returned (.tuple #[.slice none 0 0, .int .i64 10]) ∧ ∃ x, x ∈ l ∧ fits (amt l x) = false) ∨
 ∃ (m : List Mv) (A1 : Option Addr) (c1 : Nat), e = .returned (.tuple #[.slice A1 m.length c1, .int .i64 0]) ∧ Kd.R kMv 69 w' w.heap.size (fun _ => True) (.slice A1 m.length c1) m ∧ MgOf l m ∧ m.length ≤ l.length)
end Go.Proofs.Ytdfagllncopmjaa.H
end
section
namespace Go.Proofs.Ytdfagllncopmjaa.H
open Go Go.RowKit Go.Proofs.Ytdfagllncopmjaa.PrintC Go.Proofs.Ytdfagllncopmjaa.PrintE
set_option linter.unusedVariables false
def WfM (x : Mv) : Prop := Wf x.f0 ∧ Wf x.f1
def gIdx (l : List Mv) (i : Nat) (x : Mv) : List Int := ((List.range i).filter fun k => sameK x (mvAt l k)).map fun k : Nat => (k : Int)
theorem gIdx_next (l : List Mv) (i : Nat) (x : Mv) : gIdx l (i + 1) x = gIdx l i x ++ (if sameK x (mvAt l i) = true then [(i : Int)] else []) := by
 unfold gIdx
 rw [List.range_succ, List.filter_append, List.map_append]
 congr 1
 by_cases e : sameK x (mvAt l i) = true <;> simp [e]
theorem gIdx_mem {l : List Mv} {i : Nat} {x : Mv} {k : Int} (h : k ∈ gIdx l i x) : ∃ t : Nat, t < i ∧ k = t ∧ sameK x (mvAt l t) = true := by
 unfold gIdx at h
 obtain ⟨t, ht, rfl⟩ := List.mem_map.1 h
 obtain ⟨h1, h2⟩ := List.mem_filter.1 ht
 exact ⟨t, List.mem_range.1 h1, rfl, h2⟩
theorem gIdx_len (l : List Mv) (i : Nat) (x : Mv) : (gIdx l i x).length ≤ i := by
 unfold gIdx
 rw [List.length_map]
 exact Nat.le_trans (List.length_filter_le _ _) (by rw [List.length_range]; exact Nat.le_refl _)
theorem gIdx_nums {l : List Mv} (x : Mv) : ∀ {i : Nat}, i ≤ l.length → (gIdx l i x).map (fun k => (mvAt l k.toNat).f2) = ((l.take i).filter (sameK x)).map (·.f2)
 |0, _ => by simp [gIdx]
 |i + 1, h => by
  rw [gIdx_next, mvAt_take (by omega), List.map_append, List.filter_append, List.map_append, gIdx_nums x (by omega)]
  congr 1
  by_cases e : sameK x (mvAt l i) = true
  ·rw [if_pos e, List.filter_cons_of_pos e]
   rfl
  ·rw [if_neg e, List.filter_cons_of_neg e]
   rfl
structure GaI (l : List Mv) (i : Nat) (hs : List Mv) (D : DataW Unit) : Prop where
 dst : hs.Pairwise (fun a b => sameK a b = false)
 mem : ∀ x, x ∈ hs → ∃ k, k < i ∧ x = mvAt l k
 all : ∀ k, k < i → ∃ y, y ∈ hs ∧ sameK y (mvAt l k) = true
 isM : Maps.IsMap D
 has : ∀ x : Mv, WfM x → Maps.has D (slotKey x.f0 x.f1) = hs.any (fun y => sameK y x)
 atK : ∀ (j : Nat) (y : Mv), hs[j]? = some y → D.atKey (slotKey y.f0 y.f1) (.lit (.int .i64 0)) = .lit (.int .i64 j)
theorem GaI.zero (l : List Mv) : GaI l 0 [] (.map []) := ⟨List.Pairwise.nil, fun _ h => (nomatch h), fun _ h => absurd h (Nat.not_lt_zero _), ⟨_, rfl⟩, fun x _ => rfl, fun j y h => by simp at h⟩
theorem sameK_refl (x : Mv) : sameK x x = true := sameK_iff.2 ⟨rfl, rfl⟩
theorem sameK_trans {a b c : Mv} (h : sameK a b = true) (k : sameK b c = true) : sameK a c = true := by
 rw [sameK_iff] at *
 exact ⟨h.1.trans k.1, h.2.trans k.2⟩
section
variable {l hs : List Mv} {i : Nat} {D : DataW Unit}
theorem GaI.other (h : GaI l i hs D) {j t : Nat} {y z x : Mv} (hj : hs[j]? = some y) (ht : hs[t]? = some z) (hy : sameK y x = true) (hz : sameK z x = true) : t = j := by
 have h1 := List.pairwise_iff_getElem.1 h.dst
 obtain ⟨p1, p2⟩ := List.getElem?_eq_some_iff.1 hj
 obtain ⟨q1, q2⟩ := List.getElem?_eq_some_iff.1 ht
 rcases Nat.lt_trichotomy t j with c | c | c
 ·have := h1 t j q1 p1 c
  rw [q2, p2, sameK_trans hz (sameK_sym hy)] at this
  cases this
 ·exact c
 ·have := h1 j t p1 q1 c
  rw [q2, p2, sameK_trans hy (sameK_sym hz)] at this
  cases this
theorem GaI.had (h : GaI l i hs D) {j : Nat} {y : Mv} (hj : hs[j]? = some y) (hy : sameK y (mvAt l i) = true) :
  GaI l (i + 1) hs D ∧ (hs.map (gIdx l i)).set j (gIdx l i y ++ [(i : Int)]) = hs.map (gIdx l (i + 1)) := by
 refine ⟨⟨h.dst, fun x hx => ?_, fun k hk => ?_, h.isM, h.has, h.atK⟩, ?_⟩
 ·obtain ⟨k, hk, e⟩ := h.mem x hx
  exact ⟨k, by omega, e⟩
 ·by_cases e : k = i
  ·rw [e]
   exact ⟨y, List.mem_of_getElem? hj, hy⟩
  ·exact h.all k (by omega)
 ·refine List.ext_getElem? fun t => ?_
  by_cases e : j = t
  ·subst e
   have hl : j < (hs.map (gIdx l i)).length := by rw [List.length_map]; exact (List.getElem?_eq_some_iff.1 hj).1
   rw [List.getElem?_set_self hl, List.getElem?_map, hj, Option.map_some, gIdx_next, if_pos hy]
  ·rw [List.getElem?_set_ne e, List.getElem?_map, List.getElem?_map]
   cases ht : hs[t]? with
   |none => rfl
   |some z =>
    rw [Option.map_some, Option.map_some, gIdx_next]
    by_cases hz : sameK z (mvAt l i) = true
    ·exact absurd (h.other hj ht hy hz).symm e
    ·rw [if_neg hz, List.append_nil]
theorem GaI.put (h : GaI l i hs D) (hx : WfM (mvAt l i)) (hw : ∀ y, y ∈ hs → WfM y) (hn : hs.any (fun y => sameK y (mvAt l i)) = false) :
  GaI l (i + 1) (hs ++ [mvAt l i]) (D.put (slotKey (mvAt l i).f0 (mvAt l i).f1) (.lit (.int .i64 (hs.length : Int)))) ∧ (hs.map (gIdx l i) ++ [[]]).set hs.length ([] ++ [(i : Int)]) = (hs ++ [mvAt l i]).map (gIdx l (i + 1)) := by
 have hn' : ∀ y, y ∈ hs → sameK y (mvAt l i) = false := fun y hy => by
  have := List.any_eq_false.1 hn y hy
  simpa using this
 have hk : ∀ y : Mv, WfM y → sameK y (mvAt l i) = false → slotKey y.f0 y.f1 ≠ slotKey (mvAt l i).f0 (mvAt l i).f1 := fun y wy e1 e2 => by
  obtain ⟨a, b⟩ := slotKey_inj wy.1 wy.2 hx.1 hx.2 e2
  rw [sameK_iff.2 ⟨a, b⟩] at e1
  cases e1
 have hkl := slotLaw.key (slotKeyOf (mvAt l i).f0 (mvAt l i).f1 hx.1 hx.2)
 refine ⟨⟨?_, ?_, ?_, ?_, ?_, ?_⟩, ?_⟩
 ·exact List.pairwise_append.2 ⟨h.dst, List.pairwise_singleton _ _, fun a ha b hb => by rw [List.mem_singleton.1 hb]; exact hn' a ha⟩
 ·intro x hx
  rcases List.mem_append.1 hx with hx | hx
  ·obtain ⟨k, hk, e⟩ := h.mem x hx
   exact ⟨k, by omega, e⟩
  ·exact ⟨i, by omega, List.mem_singleton.1 hx⟩
 ·intro k hk
  by_cases e : k = i
  ·rw [e]
   exact ⟨_, List.mem_append_right _ (List.mem_singleton.2 rfl), sameK_refl _⟩
  ·obtain ⟨y, hy, e2⟩ := h.all k (by omega)
   exact ⟨y, List.mem_append_left _ hy, e2⟩
 ·obtain ⟨es, rfl⟩ := h.isM
  exact ⟨_, rfl⟩
 ·intro x wx
  rw [List.any_append]
  by_cases e : sameK (mvAt l i) x = true
  ·obtain ⟨a, b⟩ := sameK_iff.1 e
   rw [← a, ← b, Maps.has_put_same h.isM hkl]
   simp [sameK_iff, a, b]
  ·have e' : sameK (mvAt l i) x = false := by simpa using e
   rw [Maps.has_put_other (hk x wx (by cases c : sameK x (mvAt l i) with
    |false => rfl
    |true => exact absurd (sameK_sym c) e)), h.has x wx]
   simp [e']
 ·intro j y hj
  by_cases e : j < hs.length
  ·rw [List.getElem?_append_left e] at hj
   have hy := List.mem_of_getElem? hj
   rw [Maps.atKey_put_other (hk y (hw y hy) (hn' y hy))]
   exact h.atK j y hj
  ·rw [List.getElem?_append_right (by omega)] at hj
   have e2 : j - hs.length = 0 := by
    rcases Nat.eq_zero_or_pos (j - hs.length) with c | c
    ·exact c
    ·rw [List.getElem?_eq_none (by rw [List.length_singleton]; omega)] at hj
     cases hj
   rw [e2] at hj
   have e3 : mvAt l i = y := by simpa using hj
   rw [← e3, Maps.atKey_put_same h.isM hkl, show j = hs.length by omega]
 ·have hz : gIdx l i (mvAt l i) = [] := by
   rw [List.eq_nil_iff_forall_not_mem]
   intro k hk
   obtain ⟨t, ht, -, e⟩ := gIdx_mem hk
   obtain ⟨y, hy, e2⟩ := h.all t ht
   have := hn' y hy
   rw [sameK_trans e2 (sameK_sym e)] at this
   cases this
  have e1 : (hs.map (gIdx l i) ++ [[]]).set hs.length ([] ++ [(i : Int)]) = hs.map (gIdx l i) ++ [[(i : Int)]] := by
   rw [List.set_append_right _ _ (by rw [List.length_map]; exact Nat.le_refl _), List.length_map, Nat.sub_self]
   rfl
  rw [e1, List.map_append]
  congr 1
  ·refine List.map_congr_left fun y hy => ?_
   rw [gIdx_next, if_neg (by rw [hn' y hy]; decide), List.append_nil]
  ·show [[(i : Int)]] = [gIdx l (i + 1) (mvAt l i)]
   rw [gIdx_next, hz, if_pos (sameK_refl _)]
   rfl
end
def mOf (l : List Mv) (x : Mv) : Mv := ⟨x.f0, x.f1, amt l x⟩
def mAll (l hs : List Mv) : List Mv := (hs.map (mOf l)).filter fun x => decide (x.f2 ≠ 0)
theorem mAll_snoc (l hs : List Mv) (x : Mv) : mAll l (hs ++ [x]) = mAll l hs ++ (if amt l x ≠ 0 then [mOf l x] else []) := by
 unfold mAll
 rw [List.map_append, List.filter_append]
 congr 1
 by_cases e : amt l x ≠ 0
 ·rw [if_pos e]
  exact List.filter_cons_of_pos (decide_eq_true e)
 ·rw [if_neg e]
  exact List.filter_cons_of_neg (by rw [decide_eq_true_eq]; exact e)
theorem mAll_len (l hs : List Mv) : (mAll l hs).length ≤ hs.length := by
 unfold mAll
 exact Nat.le_trans (List.length_filter_le _ _) (by rw [List.length_map]; exact Nat.le_refl _)
theorem merged_of {l hs ys : List Mv} {D : DataW Unit} (h : GaI l l.length hs D) (hf : ∀ x, x ∈ hs → fits (amt l x) = true) (hp : ys.Perm (mAll l hs)) (hs' : ys.Pairwise (fun a b => ¬ mlt b a)) : MgOf l ys := by
 have hd : ys.Pairwise (fun a b => sameK a b = false) := by
  refine (List.Perm.pairwise_iff (fun {a b} e => ?_) hp).2 ?_
  ·cases c : sameK b a with
   |false => rfl
   |true =>
    rw [sameK_sym c] at e
    cases e
  ·unfold mAll
   refine List.Pairwise.filter _ ?_
   rw [List.pairwise_map]
   exact h.dst
 refine ⟨?_, ?_, ?_⟩
 ·refine List.Pairwise.imp ?_ (hs'.and hd)
  intro a b hab
  exact mlt_of hab.1 hab.2
 ·intro y hy
  have h1 := hp.mem_iff.1 hy
  unfold mAll at h1
  obtain ⟨h2, h3⟩ := List.mem_filter.1 h1
  obtain ⟨x, hx, rfl⟩ := List.mem_map.1 h2
  have e : sameK x (mOf l x) = true := sameK_iff.2 ⟨rfl, rfl⟩
  obtain ⟨k, hk, ek⟩ := h.mem x hx
  refine ⟨(amt_same e), of_decide_eq_true h3, x, ?_, e⟩
  rw [ek]
  exact at_mem_take (Nat.le_refl _) hk
 ·intro x hx
  obtain ⟨k, hk, rfl⟩ := mem_take_at (Nat.le_refl _) hx
  obtain ⟨y, hy, e⟩ := h.all k hk
  rw [← amt_same e]
  refine ⟨hf y hy, fun h0 => ⟨mOf l y, ?_, sameK_iff.2 ⟨(sameK_iff.1 e).1.symm, (sameK_iff.1 e).2.symm⟩⟩⟩
  rw [hp.mem_iff]
  exact List.mem_filter.2 ⟨List.mem_map.2 ⟨y, hy, rfl⟩, decide_eq_true h0⟩
end Go.Proofs.Ytdfagllncopmjaa.H
end
section
namespace Go.Proofs.Ytdfagllncopmjaa.H
open Go Go.RowKit Go.Proofs.Ytdfagllncopmjaa.PrintC Go.Proofs.Ytdfagllncopmjaa.PrintE Go.Proofs.YtdfagllncopmjaaW.PrintWords
set_option linter.unusedVariables false
abbrev Ent := Int × Int × Int
def eKey (x : Ent) : Lit := slotKey x.1 x.2.1
def toldOf (f : List Int) (x : Ent) : List Mv := if 0 < rd f x.2.2 then [⟨x.1, x.2.1, rd f x.2.2⟩] else []
def toldL (f : List Int) (mv : List Ent) : List Mv := mv.flatMap (toldOf f)
theorem toldL_snoc (f : List Int) (d : List Ent) (x : Ent) : toldL f (d ++ [x]) = toldL f d ++ toldOf f x := by
 unfold toldL
 rw [List.flatMap_append]
 simp
theorem toldL_len (f : List Int) : ∀ mv : List Ent, (toldL f mv).length ≤ mv.length
 |[] => Nat.le_refl _
 |x :: mv => by
  have h1 := toldL_len f mv
  unfold toldL at h1 ⊢
  rw [List.flatMap_cons, List.length_append, List.length_cons]
  have h2 : (toldOf f x).length ≤ 1 := by
   unfold toldOf
   split <;> simp
  omega
theorem sumL_perm {a b : List Int} (h : a.Perm b) : sumL a = sumL b := by
 induction h with
 |nil => rfl
 |cons x _ ih => rw [sumL, sumL, ih]
 |swap x y l => rw [sumL, sumL, sumL, sumL]; omega
 |trans _ _ h1 h2 => rw [h1, h2]
theorem amt_perm {a b : List Mv} (h : a.Perm b) (x : Mv) : amt a x = amt b x := sumL_perm ((h.filter _).map _)
theorem MgOf.perm {a b m : List Mv} (h : MgOf a m) (p : a.Perm b) : MgOf b m := by
 refine ⟨h.srt, fun y hy => ?_, fun x hx => ?_⟩
 ·obtain ⟨h1, h2, x, hx, h3⟩ := h.am y hy
  rw [List.take_length] at hx ⊢
  exact ⟨by rw [← amt_perm p]; exact h1, h2, x, p.mem_iff.1 hx, h3⟩
 ·rw [List.take_length] at hx
  have := h.all x (by rw [List.take_length]; exact p.mem_iff.2 hx)
  rw [← amt_perm p]
  exact this
structure EntOk (mv : List Ent) : Prop where
 dst : mv.Pairwise (fun x y => ¬ (x.1 = y.1 ∧ x.2.1 = y.2.1))
 small : ∀ x, x ∈ mv → (0 ≤ x.1 ∧ x.1 ≤ 1000000) ∧ (0 ≤ x.2.1 ∧ x.2.1 ≤ 1000000) ∧ 0 ≤ x.2.2 ∧ x.2.2 ≤ 1000000
section
variable {mv : List Ent}
theorem EntOk.wf (h : EntOk mv) {x : Ent} (hx : x ∈ mv) : Wf x.1 ∧ Wf x.2.1 := by
 have := h.small x hx
 exact ⟨small_wf this.1.1 (by omega), small_wf this.2.1.1 (by omega)⟩
theorem EntOk.nodup (h : EntOk mv) : mv.Nodup := h.dst.imp (fun hxy e => hxy (by rw [e]; exact ⟨rfl, rfl⟩))
theorem EntOk.inj (h : EntOk mv) {x y : Ent} (hx : x ∈ mv) (hy : y ∈ mv) (e : eKey x = eKey y) : x = y := by
 obtain ⟨e1, e2⟩ := slotKey_inj (h.wf hx).1 (h.wf hx).2 (h.wf hy).1 (h.wf hy).2 e
 obtain ⟨i, hi, rfl⟩ := List.getElem_of_mem hx
 obtain ⟨j, hj, rfl⟩ := List.getElem_of_mem hy
 have h1 := List.pairwise_iff_getElem.1 h.dst
 rcases Nat.lt_trichotomy i j with c | c | c
 ·exact absurd ⟨e1, e2⟩ (h1 i j hi hj c)
 ·subst c
  rfl
 ·exact absurd ⟨e1.symm, e2.symm⟩ (h1 j i hj hi c)
theorem eKey_lit {x : Ent} (h : Wf x.1 ∧ Wf x.2.1) : WideAt.IsKeyLit (eKey x) := slotLaw.key (slotKeyOf x.1 x.2.1 h.1 h.2)
theorem isMap_putAll (mv : List Ent) : Maps.IsMap (putAll mv) := by
 have h : ∀ (L : List Ent) (D : DataW Unit), Maps.IsMap D → Maps.IsMap (L.foldl (fun D x => D.put (slotKey x.1 x.2.1) (.lit (.int .i64 x.2.2))) D) := fun L => by
  induction L with
  |nil => exact fun D h => h
  |cons x L ih =>
   intro D h
   obtain ⟨es, rfl⟩ := h
   exact ih _ ⟨_, rfl⟩
 exact h mv _ ⟨_, rfl⟩
theorem has_putAll : ∀ {mv : List Ent}, (∀ x, x ∈ mv → Wf x.1 ∧ Wf x.2.1) → ∀ kl, Maps.has (putAll mv) kl = true → ∃ x, x ∈ mv ∧ eKey x = kl := by
 intro mv hw kl h
 have g : ∀ (L : List Ent) (D : DataW Unit), (∀ x, x ∈ L → Wf x.1 ∧ Wf x.2.1) → Maps.has (L.foldl (fun D x => D.put (slotKey x.1 x.2.1) (.lit (.int .i64 x.2.2))) D) kl = true → Maps.has D kl = true ∨ ∃ x, x ∈ L ∧ eKey x = kl := fun L => by
  induction L with
  |nil => exact fun D _ h => .inl h
  |cons x L ih =>
   intro D hw h
   rcases ih _ (fun y hy => hw y (List.mem_cons_of_mem _ hy)) h with h1 | ⟨y, hy, e⟩
   ·by_cases e : eKey x = kl
    ·exact .inr ⟨x, List.mem_cons_self .., e⟩
    ·have h2 := Maps.has_put_other (k := eKey x) (k' := kl) (fun e2 => e e2.symm) (D := D) (.lit (.int .i64 x.2.2))
     exact .inl (h2.symm.trans h1)
   ·exact .inr ⟨y, List.mem_cons_of_mem _ hy, e⟩
 rcases g mv _ hw h with h1 | h1
 ·cases h1
 ·exact h1
theorem putAll_at (h : EntOk mv) {x : Ent} (hx : x ∈ mv) (z : DataW Unit) : (putAll mv).atKey (eKey x) z = .lit (.int .i64 x.2.2) ∧ Maps.has (putAll mv) (eKey x) = true := by
 obtain ⟨a, b, rfl⟩ := List.append_of_mem hx
 have g : ∀ (L : List Ent) (D : DataW Unit), Maps.IsMap D → (∀ y, y ∈ L → eKey y ≠ eKey x) → (L.foldl (fun D x => D.put (slotKey x.1 x.2.1) (.lit (.int .i64 x.2.2))) D).atKey (eKey x) z = D.atKey (eKey x) z ∧ Maps.has (L.foldl (fun D x => D.put (slotKey x.1 x.2.1) (.lit (.int .i64 x.2.2))) D) (eKey x) = Maps.has D (eKey x) := fun L => by
  induction L with
  |nil => exact fun D _ _ => ⟨rfl, rfl⟩
  |cons y L ih =>
   intro D hD hn
   have h1 := hn y (List.mem_cons_self ..)
   obtain ⟨h2, h3⟩ := ih (D.put (slotKey y.1 y.2.1) (.lit (.int .i64 y.2.2))) (by obtain ⟨es, rfl⟩ := hD; exact ⟨_, rfl⟩) (fun v hv => hn v (List.mem_cons_of_mem _ hv))
   rw [List.foldl_cons, h2, h3]
   exact ⟨Maps.atKey_put_other (fun e => h1 e.symm) _ _, Maps.has_put_other (fun e => h1 e.symm) _⟩
 have e : putAll (a ++ x :: b) = b.foldl (fun D x => D.put (slotKey x.1 x.2.1) (.lit (.int .i64 x.2.2))) ((putAll a).put (eKey x) (.lit (.int .i64 x.2.2))) := by
  unfold putAll
  rw [List.foldl_append]
  rfl
 have hk := eKey_lit (h.wf hx)
 have hne : ∀ y, y ∈ b → eKey y ≠ eKey x := fun y hy e2 => by
  have h4 := (List.pairwise_append.1 h.nodup).2.1
  have h5 := List.pairwise_cons.1 h4
  exact h5.1 y hy (h.inj (List.mem_append_right _ (List.mem_cons_of_mem _ hy)) hx e2).symm
 obtain ⟨g1, g2⟩ := g b ((putAll a).put (eKey x) (.lit (.int .i64 x.2.2))) (by obtain ⟨es, hes⟩ := isMap_putAll a; rw [hes]; exact ⟨_, rfl⟩) hne
 rw [e, g1, g2]
 exact ⟨Maps.atKey_put_same (isMap_putAll a) hk _ _, Maps.has_put_same (isMap_putAll a) hk _⟩
def LeftI (mv dn : List Ent) (left : Lit → Bool) : Prop := ∀ kl, left kl = true ↔ ∃ x, x ∈ mv ∧ x ∉ dn ∧ eKey x = kl
theorem LeftI.start (h : EntOk mv) : LeftI mv [] (Maps.has (putAll mv)) := fun kl => by
 constructor
 ·intro h1
  obtain ⟨x, hx, e⟩ := has_putAll (fun x hx => h.wf hx) kl h1
  exact ⟨x, hx, by simp, e⟩
 ·rintro ⟨x, hx, -, rfl⟩
  exact (putAll_at h hx (.map [])).2
theorem LeftI.step (h : EntOk mv) {dn : List Ent} {left : Lit → Bool} (hl : LeftI mv dn left) {x : Ent} (hx : x ∈ mv) : LeftI mv (dn ++ [x]) (fun z => left z && !z.sameKey (eKey x)) := fun kl => by
 rw [Bool.and_eq_true, hl kl]
 constructor
 ·rintro ⟨⟨y, hy, hn, rfl⟩, hs⟩
  refine ⟨y, hy, fun hm => ?_, rfl⟩
  rcases List.mem_append.1 hm with hm | hm
  ·exact hn hm
  ·rw [List.mem_singleton.1 hm, WideAt.sameKey_self (eKey_lit (h.wf hx))] at hs
   cases hs
 ·rintro ⟨y, hy, hn, rfl⟩
  refine ⟨⟨y, hy, fun hm => hn (List.mem_append_left _ hm), rfl⟩, ?_⟩
  cases c : (eKey y).sameKey (eKey x) with
  |false => rfl
  |true => exact absurd (List.mem_append_right dn (List.mem_singleton.2 (h.inj hy hx (WideAt.sameKey_eq c)))) hn
theorem LeftI.done (h : EntOk mv) {dn : List Ent} {left : Lit → Bool} (hl : LeftI mv dn left) (hd : dn.Nodup) (hs : ∀ x, x ∈ dn → x ∈ mv) (h0 : ∀ kl, left kl = false) : dn.Perm mv := by
 refine (List.perm_ext_iff_of_nodup hd h.nodup).2 (fun x => ⟨hs x, fun hx => ?_⟩)
 by_cases e : x ∈ dn
 ·exact e
 ·have := (hl (eKey x)).2 ⟨x, hx, e, rfl⟩
  rw [h0] at this
  cases this
end
theorem toldL_perm (f : List Int) {a b : List Ent} (h : a.Perm b) : (toldL f a).Perm (toldL f b) := h.flatMap_right _
end Go.Proofs.Ytdfagllncopmjaa.H
end
section
namespace Go.Proofs.Ytdfagllncopmjaa.H
open Go Go.RowKit Go.Proofs.YtdfagllncopmjaaW.PrintWords Go.Proofs.YtdfagllncopmjaaW.PrintLast Go.Proofs.YtdfagllncopmjaaW.PrintMore
section
variable {P : Program} {ops : Array Oper} {Q : Exit → Act → World → Prop}
theorem gA {o : Oper} {rest : List Oper} {a : Act} {w0 W : World} {base : Nat} {α : Type} {d : Kd α} {T t : TypeId} {cs : α → List Value} (hk : AppK P d T t cs) {s x : Operand} {Ao : Option Addr} {co : Nat} (xs : List α) (p : α)
  (HO : d.R t W base (fun _ => True) (.slice Ao xs.length co) xs) (HB : Below base w0 W) (hbase : base ≤ W.heap.size) (hl : xs.length ≤ 1000000)
  (h : ∀ A1 c1 w1, d.R t w1 base (fun _ => True) (.slice A1 (xs.length + 1) c1) (xs ++ [p]) → Below base w0 w1 → W.grownBy w1 (Value.slice Ao xs.length co).ownBlock → wpList P ops Q rest (a.put o.dst (.slice A1 (xs.length + 1) c1)) w1)
  (hgd : o.guard = none := by exact rfl) (ho : o.op = .call { callee := .builtin .append, args := #[s, x], argTypes := #[T, T] } := by exact rfl) (hs : a.eval s = .slice Ao xs.length co := by exact rfl) (hx : a.eval x = .slice (some ⟨W.heap.size, 0, none⟩) 1 1 := by first | exact rfl | (simp; done) | (simp; rfl)) :
  wpList P ops Q (o :: rest) a (W.alloc (.cells (cs p).toArray t)) := by
 obtain ⟨z, bytes, h1, h2, h3, h4⟩ := hk.info
 refine Kd.R_append d (w0 := w0) base hgd s x T t z bytes ho hk.und h1 h2 hk.pos h3 _ xs p (cs p) (fun _ => True) (fun _ => False) hs hx (hk.made _ _ _ p) (fun _ hk => hk.elim) (fun _ _ => trivial) HO HB hbase (Nat.le_trans (Nat.mul_le_mul (Nat.succ_le_succ hl) h4) (by decide)) ?_
 intro v1 w1 o1 b1 g1 _
 obtain ⟨A1, c1, e1⟩ := Kd.R_slice o1
 rw [List.length_append] at e1
 subst e1
 exact h A1 c1 w1 o1 b1 g1
end
end Go.Proofs.Ytdfagllncopmjaa.H
end
section
namespace Go.Proofs.Ytdfagllncopmjaa.H
open Go Go.RowKit Go.Proofs.Ytdfagllncopmjaa.PrintC Go.Proofs.Ytdfagllncopmjaa.PrintE Go.Proofs.YtdfagllncopmjaaW.PrintWords Go.Proofs.YtdfagllncopmjaaW.PrintLast Go.Proofs.YtdfagllncopmjaaW.PrintMore
set_option linter.unusedVariables false
set_option linter.unusedSimpArgs false
theorem pairRow : (92 : TypeId) < Try.prog.types.size := of_decide_eq_true (by kernel_rfl)
theorem pairWide : (match Try.prog.underlying 92 with | some (.array _ _) | some (.struct _) => true | _ => false) = true := by rw [Try.underlying92]
theorem pairKeyType : Try.prog.keyTypeAt 2 92 = true := by kernel_rfl
set_option maxRecDepth 100000 in
theorem pairLaw : Maps.Keyed Try.prog 92 := Maps.Keyed.of_law (deep_law_laid slotLaid (m := 2) (by omega) pairRow pairKeyType pairWide)
theorem pairKeyOf (a b : Int) (ha : (Lit.int .i64 a).wf = true) (hb : (Lit.int .i64 b).wf = true) : keyOf Try.prog 92 (.agg #[.int .i64 a, .int .i64 b]) = some (slotKey a b) := by
 have h1 : Try.prog.keyType 92 = true := by kernel_rfl
 have h2 : (Value.agg #[.int .i64 a, .int .i64 b]).formed Try.prog 92 = true := by
  simp [Value.formed, Try.underlying92, show Try.prog.cellsOf 92 = 2 by kernel_rfl]
 unfold keyOf
 rw [Try.underlying92]
 simp only [h1, h2, Bool.and_self, if_true, Value.cells]
 obtain ⟨m, hm⟩ : ∃ m, Try.prog.types.size = m + 1 := Nat.exists_eq_succ_of_ne_zero (Nat.ne_of_gt (Nat.lt_of_le_of_lt (Nat.zero_le _) pairRow))
 rw [hm]
 have e1 : ∀ x : Int, (Lit.int .i64 x).wf = true → Try.prog.keyLits (m + 1) 3 [.int .i64 x] = some [.int .i64 x] := fun x hx => by
  simp [Program.keyLits, Try.underlying3, hx]
 have e2 : Try.prog.keyLits (m + 1 + 1) 92 [.int .i64 a, .int .i64 b] = some [.int .i64 a, .int .i64 b] := by
  unfold Program.keyLits
  simp [Try.underlying92, show Try.prog.cellsOf 92 = 2 by kernel_rfl, show Try.prog.cellsOf 3 = 1 by kernel_rfl]
  refine ⟨[[.int .i64 a], [.int .i64 b]], ?_, rfl⟩
  rw [show List.range 2 = [0, 1] from rfl]
  simp [e1 a ha, e1 b hb]
 have e3 : (#[Value.int .i64 a, Value.int .i64 b].flatMap Value.cells).toList = [.int .i64 a, .int .i64 b] := by simp [Value.cells]
 simp [e2, slotKey]
set_option maxRecDepth 100000 in
theorem key_walk (x : Mv) (w : World) : Calls Try.prog 36 #[.agg #[.int .i64 x.f0, .int .i64 x.f1, .int .i64 x.f2]] w fun e w' => e = .returned (.agg #[.int .i64 x.f0, .int .i64 x.f1]) ∧ Below w.heap.size w w' := by
 have hu := Try.underlying92
 go_enter Try.func36, Try.ntmps36
 go_wp2
 refine bodyPost_ret (results_cell_row rfl _ _ (w.heap.size + 1) 92 #[.int .i64 x.f0, .int .i64 x.f1] (0, 0) _ rfl (alloc_at (by simp)) hu rfl (by kernel_rfl)) rfl ?_
 exact ⟨rfl, below_alloc (below_alloc (Below.refl _ _) _) _⟩
theorem num_walk (x : Mv) (w : World) : Calls Try.prog 38 #[.agg #[.int .i64 x.f0, .int .i64 x.f1, .int .i64 x.f2]] w fun e w' => e = .returned (.int .i64 x.f2) ∧ Below w.heap.size w w' := by
 go_enter Try.func38, Try.ntmps38
 go_wp2
 go_ret
 exact ⟨rfl, below_alloc (Below.refl _ _) _⟩
structure GtI (w0 : World) (mb kn : Nat) (D : DataW Unit) (Ao : Option Addr) (co : Nat) (rows : List (List Int)) (W : World) : Prop where
 tab : Kd.S kInts 51 W w0.heap.size (fun _ => True) (.slice Ao rows.length co) rows
 mp : MapAs W 92 mb kn D
 mbl : w0.heap.size ≤ mb
 low : Below w0.heap.size w0 W
section
variable {w0 : World} {mb kn : Nat} {D : DataW Unit} {Ao : Option Addr} {co : Nat} {rows : List (List Int)} {W W1 : World}
theorem GtI.below (h : GtI w0 mb kn D Ao co rows W) (hb : Below W.heap.size W W1) : GtI w0 mb kn D Ao co rows W1 :=
 ⟨Kd.S_below h.tab hb, mapAs_eq h.mp (hb.block _ h.mp.lt), h.mbl, below_step h.low hb⟩
theorem GtI.put {kl : Lit} {d : DataW Unit} (h : GtI w0 mb kn D Ao co rows W) (ho : MapAs W1 92 mb (kn + 1) (D.put kl d)) (hg : W.grownBy W1 (some mb)) : GtI w0 mb (kn + 1) (D.put kl d) Ao co rows W1 := by
 have hne : ∀ {g : Nat}, g ≠ mb → g < W.heap.size → W1.heap[g]? = W.heap[g]? := fun {g} hn hlt => hg.block g hlt (fun e => hn (by injection e))
 refine ⟨?_, ho, h.mbl, ?_⟩
 ·refine Kd.S_mono (Kd.S_step (Kd.S_bound h.tab) (fun k hk hlt => hne ?_ hlt)) (fun _ _ => trivial)
  obtain ⟨-, -, -, q, -, cs, hcs⟩ := hk
  exact fun e => mapAs_ne h.mp hcs e.symm
 ·have h9 := h.mbl
  exact ⟨hg.os.trans h.low.os, hg.tape.trans h.low.tape, hg.output.trans h.low.output, Nat.le_trans h.low.size hg.size, fun k hlt => (hne (by omega) (by have := h.low.size; omega)).trans (h.low.block k hlt)⟩
theorem GtI.more {v1 : Value} (h : GtI w0 mb kn D Ao co rows W) (h1 : Below W.heap.size W W1) {w1 : World} (hs : Kd.S kInts 51 w1 w0.heap.size (fun _ => True) v1 (rows ++ [[]])) (hb : Below w0.heap.size w0 w1) (hg : W1.grownBy w1 (Value.slice Ao rows.length co).ownBlock) :
  ∃ A1 c1, v1 = .slice A1 (rows.length + 1) c1 ∧ GtI w0 mb kn D A1 c1 (rows ++ [[]]) w1 := by
 obtain ⟨A1, c1, rfl⟩ := Kd.R_slice (Kd.S_R hs)
 have hl : (rows ++ [([] : List Int)]).length = rows.length + 1 := by simp
 have h2 := h.below h1
 have hm : MapAs w1 92 mb kn D := h2.mp.kept hg (fun e => by
  obtain ⟨cs, hcs⟩ := Kd.R_typed (Kd.S_R h2.tab) mb e.symm
  exact mapAs_ne h2.mp hcs rfl)
 exact ⟨A1, c1, by rw [hl], hs, hm, h.mbl, hb⟩
structure GtO (w0 : World) (g i : Nat) (co : Nat) (rows : List (List Int)) (row : List Int) (W : World) (A : Option Addr) (c : Nat) (oki : Nat → Prop) : Prop where
 at_ : W.cell? ⟨g, i, none⟩ = some (.slice A row.length c)
 free : W.frozen? ⟨g, i, none⟩ = false
 cont : Kd.R (Kd.int .i64) 3 W w0.heap.size oki (.slice A row.length c) row
 rest : Kd.H kInts 51 W w0.heap.size (fun _ => True) (.slice (some ⟨g, 0, none⟩) rows.length co) rows i oki [.slice A row.length c]
theorem GtI.form (h : GtI w0 mb kn D Ao co rows W) (hp : 0 < rows.length) : ∃ g, Ao = some ⟨g, 0, none⟩ := by
 obtain ⟨g, cap, e, _⟩ := Kd.S_form h.tab hp
 injection e with e1
 exact ⟨g, e1⟩
theorem GtI.open_ {g : Nat} (h : GtI w0 mb kn D (some ⟨g, 0, none⟩) co rows W) {i : Nat} {row : List Int} (hr : rows[i]? = some row) : ∃ A c oki, GtO w0 g i co rows row W A c oki := by
 have hi : i < rows.length := (List.getElem?_eq_some_iff.1 hr).1
 obtain ⟨oki, ce, hl, hM, hcc, hfr, hok, hH⟩ := Kd.S_elem h.tab [] (i : Int) (by omega) (by omega)
 obtain ⟨v, rfl, hR⟩ := hM
 have hv := hcc 0 _ rfl
 have hf := hfr 0
 simp only [Nat.add_zero, Int.toNat_natCast, show kInts.sz = 1 from rfl, Nat.mul_one] at hv hf hR hH
 rw [List.getD_eq_getElem?_getD, hr] at hR
 obtain ⟨A, c, rfl⟩ := Kd.R_slice hR
 exact ⟨A, c, oki, hv, hf, hR, hH⟩
theorem GtO.moved {g i : Nat} {row : List Int} {A : Option Addr} {c : Nat} {oki : Nat → Prop} (h : GtO w0 g i co rows row W A c oki) (hb : Below W.heap.size W W1) : GtO w0 g i co rows row W1 A c oki :=
 ⟨pw_cell_below hb h.at_, by
  have hl := World.block_lt_of_cell? W _ h.at_
  have := h.free
  simp only [World.frozen?] at this ⊢
  rw [hb.block g hl]
  exact this, Kd.R_below h.cont hb, Kd.H_below h.rest hb⟩
theorem GtO.spot {g i : Nat} {row : List Int} {A : Option Addr} {c : Nat} {oki : Nat → Prop} {w1 : World} (h : GtO w0 g i co rows row W A c oki) (hi : i < rows.length) (hg : W.grownBy w1 (Value.slice A row.length c).ownBlock) :
  w1.cell? ⟨g, i, none⟩ = some (.slice A row.length c) ∧ w1.frozen? ⟨g, i, none⟩ = false := by
 have hH := Kd.H_grown (Kd.H_widen h.rest) hg (fun k e => .inl (h.cont.1 k e))
 obtain ⟨_, _, hraw, _, _, hcc, _⟩ := Kd.H_raw hH (by omega : (0 : Int) ≤ (i : Int)) (by omega)
 obtain ⟨cs, hcs⟩ := Kd.R_typed hraw g (by simp [Value.ownBlock])
 refine ⟨?_, blk_frozen hcs i⟩
 have := hcc 0 _ rfl
 rw [show kInts.sz = 1 from rfl, Nat.mul_one, Nat.add_zero, Int.toNat_natCast] at this
 exact this
theorem GtI.close {g i : Nat} {row x' : List Int} {A : Option Addr} {c : Nat} {oki : Nat → Prop} {v1 : Value} {w1 : World} (h : GtI w0 mb kn D (some ⟨g, 0, none⟩) co rows W) (hi : i < rows.length) (ho : GtO w0 g i co rows row W A c oki) (hg : W.grownBy w1 (Value.slice A row.length c).ownBlock) (hb : Below w0.heap.size w0 w1)
  (hR : Kd.R (Kd.int .i64) 3 w1 w0.heap.size (fun k => oki k ∨ True ∧ W.heap.size ≤ k) v1 x') : GtI w0 mb kn D (some ⟨g, 0, none⟩) co (rows.set i x') (w1.setCell ⟨g, i, none⟩ v1) := by
 have hH := Kd.H_grown (Kd.H_widen ho.rest) hg (fun k e => .inl (ho.cont.1 k e))
 have h0 : (0 : Int) ≤ (i : Int) := by omega
 have h1 : (i : Int) < (rows.length : Int) := by omega
 obtain ⟨_, _, hraw, _, _, hcc, _⟩ := Kd.H_raw hH h0 h1
 have hS := Kd.S_seg0 hH h0 h1 (seg := [v1]) (j := 0) (show 1 ≤ 1 from by decide) (x' := x') (Kd.M_row hR) (fun _ hk => hk)
 have e1 : w1.setCells g ((i : Int).toNat * kInts.sz + 0) [v1] = w1.setCell ⟨g, i, none⟩ v1 := by
  rw [show kInts.sz = 1 from rfl, Nat.mul_one, Nat.add_zero, Int.toNat_natCast]
  rfl
 rw [e1, Int.toNat_natCast] at hS
 have hgl : w0.heap.size ≤ g := Kd.S_base h.tab g (by simp [Value.ownBlock])
 have m1 : MapAs w1 92 mb kn D := h.mp.kept hg (fun e => by
  obtain ⟨cs, hcs⟩ := Kd.R_typed ho.cont mb e.symm
  exact mapAs_ne h.mp hcs rfl)
 have m2 : MapAs (w1.setCell ⟨g, i, none⟩ v1) 92 mb kn D := m1.kept hS.2 (fun e => by
  obtain ⟨cs, hcs⟩ := Kd.R_typed hraw g (by simp [Value.ownBlock])
  injection e with e
  exact mapAs_ne m1 hcs e)
 have hl : (rows.set i x').length = rows.length := List.length_set ..
 exact ⟨by rw [hl]; exact hS.1, m2, h.mbl, below_set hb hgl⟩
end
theorem infoRow : (Try.prog.info? 51).map (fun i => (i.zero, i.size, i.bytes)) = some (some (.slice none 0 0), 1, 24) := by kernel_rfl
theorem gt_start (w : World) : GtI w (w.heap.size + 1) 0 (.map []) (some ⟨w.heap.size, 0, none⟩) 0 [] ((w.alloc (.cells #[] 51)).alloc (.map #[] 0)) := by
 refine ⟨?_, ?_, by omega, below_alloc (below_alloc (Below.refl _ _) _) _⟩
 ·have h1 : (w.alloc (.cells #[] 51)).heap[w.heap.size]? = some (.cells #[] 51 (0, 0)) := heap_alloc_new _ _
  exact Kd.S_below (Kd.S_bare ⟨fun _ _ => trivial, [], ⟨rfl, .inr ⟨w.heap.size, 0, #[], rfl, Nat.le_refl _, h1, Nat.le_refl _, by decide, rfl, rfl⟩⟩, ⟨rfl, fun j p hj => by simp at hj⟩⟩) (below_alloc (Below.refl _ _) _)
 ·have := World.ownsMap_made (H := Unit) (w.alloc (.cells #[] 51)) Try.prog 92 (plainElem Try.prog 3)
  rw [alloc_size] at this
  exact this
def rowsOf (l hs : List Mv) : List (List Int) := hs.map (gIdx l l.length)
def GatherAt (l : List Mv) (w : World) (e : Ending) (w' : World) : Prop := Below w.heap.size w w' ∧ ∃ (hs : List Mv) (D : DataW Unit) (A1 : Option Addr) (c1 : Nat), e = .returned (.slice A1 hs.length c1) ∧ Kd.S kInts 51 w' w.heap.size (fun _ => True) (.slice A1 hs.length c1) (rowsOf l hs) ∧ GaI l l.length hs D ∧ hs.length ≤ l.length
set_option maxHeartbeats 8000000 in
set_option maxRecDepth 100000 in
theorem gather_walk (A : Option Addr) (c : Nat) (l : List Mv) (w : World) (hr : Kd.C kMv w A l.length l) (hw : ∀ x, x ∈ l → WfM x) (hl : l.length ≤ 100000) :
  Calls Try.prog 35 #[.slice A l.length c, .func (.func 36) #[] #[]] w (GatherAt l w) := by
 have HR := zh hr
 have HW := zh hw
 have hu := Try.underlying69
 have hu2 := Try.underlying92
 have hmm := @run_makeMap Try.prog
 clear hr hw
 go_enter Try.func35, Try.ntmps35
 go_wp2
 have HX := zh (gt_start w)
 generalize (w.alloc (.cells #[] 51)).alloc (.map #[] 0) = ws at HX ⊢
 go_loopg [5, 16] (l.length + 1) (fun k ov iv W => ∃ (i : Nat) (hs : List Mv) (D : DataW Unit) (kn : Nat) (Ao : Option Addr) (co : Nat), i ≤ l.length ∧ ov = .slice Ao hs.length co ∧ iv = .int .i64 i ∧ k = l.length + 1 - i ∧ Hid (GtI w (w.heap.size + 1) kn D Ao co (hs.map (gIdx l i)) W ∧ GaI l i hs D ∧ hs.length ≤ i ∧ kn ≤ i))
 case atStart => exact ⟨0, [], .map [], 0, _, _, Nat.zero_le _, rfl, rfl, rfl, zh ⟨HX.out, GaI.zero l, Nat.le_refl _, Nat.le_refl _⟩⟩
 case round =>
  obtain ⟨i, hs, D, kn, Ao, co, hi, rfl, rfl, rfl, HL⟩ := hrel
  clear HX hmm
  by_cases hlt : i < l.length
  ·have i0 : (0 : Int) ≤ (i : Int) := by omega
   have i1 : (i : Int) < (l.length : Int) := by omega
   obtain ⟨ad, ea, y0, y1, y2⟩ := at_T69 (Kd.C_below HR.out HL.out.1.low) (i : Int) i0 i1
   subst ea
   obtain ⟨X, hX⟩ : ∃ X, X = mvAt l i := ⟨_, rfl⟩
   have hX2 : rd_T69 l (i : Int) = X := by rw [hX]; rfl
   rw [Int.toNat_natCast, hX2] at y0 y1 y2
   have HXE := zh hX
   have HXW : Hid (WfM X) := zh (HW.out X (by rw [hX]; exact mvAt_mem hlt))
   have HKO := zh (pairKeyOf X.f0 X.f1 HXW.out.1 HXW.out.2)
   have HLN := zh (And.intro hl (And.intro HL.out.2.2.1 HL.out.2.2.2))
   clear hX hX2
   cases hn : hs.any (fun y => sameK y X) with
   |true =>
    obtain ⟨y, hy, hyx⟩ := List.any_eq_true.1 hn
    obtain ⟨j, hj⟩ := List.getElem?_of_mem hy
    have hjl : j < hs.length := (List.getElem?_eq_some_iff.1 hj).1
    have HY := zh (And.intro hj (And.intro hyx hn))
    have HHS : Hid (Maps.has D (slotKey X.f0 X.f1) = true) := zh (by rw [HL.out.2.1.has X HXW.out, hn])
    have HAT : Hid (D.atKey (slotKey X.f0 X.f1) (.lit (.int .i64 0)) = .lit (.int .i64 j)) := zh (by
     have := HL.out.2.1.atK j y hj
     rw [(sameK_iff.1 hyx).1, (sameK_iff.1 hyx).2] at this
     exact this)
    clear hy hyx hj hn
    have j0 : (0 : Int) ≤ (j : Int) := by omega
    have j1 : (j : Int) < (hs.length : Int) := by omega
    have hjm : j < (hs.map (gIdx l i)).length := by rw [List.length_map]; exact hjl
    obtain ⟨g, rfl⟩ := HL.out.1.form (Nat.lt_of_le_of_lt (Nat.zero_le _) hjm)
    have HJM := zh hjm
    obtain ⟨row, hrow⟩ : ∃ row, row = gIdx l i y := ⟨_, rfl⟩
    have HROW : Hid (row = gIdx l i y ∧ (hs.map (gIdx l i))[j]? = some row ∧ row.length ≤ i) := zh ⟨hrow, by rw [List.getElem?_map, HY.out.1, hrow]; rfl, by rw [hrow]; exact gIdx_len l i y⟩
    obtain ⟨Ar, cr, oki, hop⟩ := HL.out.1.open_ HROW.out.2.1
    have HOP := zh hop
    clear hop hrow hjm
    have HLE : Hid ((row.length + 1) * 8 ≤ 140737488355328) := zh (by have := HROW.out.2.2; have := HLN.out.1; omega)
    go_wp2_with (first
     |(go_at_call 36; (with_reducible refine (key_walk X _).mono ?_); rintro e w1 ⟨rfl, hb⟩; have HI1 := zh ((HL.out.1.below (below_alloc (Below.refl _ _) (.cells #[.int .i64 X.f0, .int .i64 X.f1, .int .i64 X.f2] 69))).below hb); have HOP1 := zh ((HOP.out.moved (below_alloc (Below.refl _ _) (.cells #[.int .i64 X.f0, .int .i64 X.f1, .int .i64 X.f2] 69))).moved hb); clear hb)
     |(at_lookup; refine wpList_lookup_own_ok_int _ rfl _ _ 110 rfl 92 3 .i64 pairLaw Try.underlying110 Try.underlying3 (Try.zeroValue3 _) (w.heap.size + 1) kn D rfl (HI1.out.below (below_alloc (Below.refl _ _) _)).mp (.agg #[.int .i64 X.f0, .int .i64 X.f1]) (slotKey X.f0 X.f1) (by first | rfl | simp) HKO.out ?_; intro cc hcc hwc; rw [HHS.out]; obtain rfl : cc = (j : Int) := (by have h9 := hcc; rw [HAT.out] at h9; injection h9 with h9; injection h9 with _ h9; exact h9.symm); have HI2 := zh (HI1.out.below (below_alloc (Below.refl _ _) (.cells #[.int .i64 X.f0, .int .i64 X.f1] 92))); have HOP2 := zh (HOP1.out.moved (below_alloc (Below.refl _ _) (.cells #[.int .i64 X.f0, .int .i64 X.f1] 92))); generalize w1.alloc (.cells #[.int .i64 X.f0, .int .i64 X.f1] 92) = w2 at HI2 HOP2 ⊢; have hat0 := HOP2.out.at_; clear hcc hwc)
     |((with_reducible refine gate_dst (N := 48) rfl ?_); go_loud (refine Kd.R_append (Kd.int .i64) (w0 := w) w.heap.size rfl (.tmp 45) (.tmp 47) 51 3 (.int .i64 0) 8 rfl Try.underlying51 infoNum rfl (by decide) (by decide) (.slice Ar row.length cr) row (i : Int) [.int .i64 (i : Int)] (fun k => oki k ∨ True ∧ w2.heap.size ≤ k) (fun _ => False) rfl rfl ?aP (fun _ hk => hk.elim) ?aF ?aO ?aB ?aS ?aL ?_; (case aP => exact rfl); (case aF => exact fun _ hk => .inr ⟨trivial, hk⟩); (case aO => exact Kd.R_mono HOP2.out.cont (fun _ hk => .inl hk)); (case aB => exact HI2.out.low); (case aS => exact HI2.out.low.size); (case aL => exact HLE.out); intro v1 w9 ho hb hg hat; obtain ⟨A9, c9, rfl⟩ := Kd.R_slice ho; rw [show (row ++ [(i : Int)]).length = row.length + 1 by simp] at ho ⊢; obtain ⟨zc, zf⟩ := HOP2.out.spot HJM.out hg; have HF := zh (HI2.out.close HJM.out HOP2.out hg hb ho); clear ho hb hg hat)))
    go_roundg (l.length - i)
    case measure => omega
    case rel => exact ⟨i + 1, hs, D, kn, _, _, by omega, rfl, by go_num, by omega, zh (by
     have h9 := HL.out.2.1.had HY.out.1 (by rw [← HXE.out]; exact HY.out.2.1)
     have h8 := HF.out
     have h7 := h9.2
     rw [← HROW.out.1] at h7
     rw [h7] at h8
     exact ⟨h8, h9.1, by have := HLN.out; omega, by have := HLN.out; omega⟩)⟩
   |false =>
    have HN := zh hn
    have HHS : Hid (Maps.has D (slotKey X.f0 X.f1) = false) := zh (by rw [HL.out.2.1.has X HXW.out, hn])
    clear hn
    obtain ⟨h, hh⟩ : ∃ h, hs.length = h := ⟨_, rfl⟩
    have HHL : Hid (hs.length = h ∧ (hs.map (gIdx l i)).length = h) := zh ⟨hh, by rw [List.length_map, hh]⟩
    have h1 : h ≤ 100000 := by have := HLN.out; omega
    have HWF : Hid ((Lit.int .i64 (h : Int)).wf = true) := zh (small_wf (by omega) (by omega))
    rw [hh]
    clear hh
    go_wp2_with (first
     |(go_at_call 36; (with_reducible refine (key_walk X _).mono ?_); rintro e w1 ⟨rfl, hb⟩; have HI1 := zh ((HL.out.1.below (below_alloc (Below.refl _ _) (.cells #[.int .i64 X.f0, .int .i64 X.f1, .int .i64 X.f2] 69))).below hb); clear hb)
     |(at_lookup; refine wpList_lookup_own_ok_int _ rfl _ _ 110 rfl 92 3 .i64 pairLaw Try.underlying110 Try.underlying3 (Try.zeroValue3 _) (w.heap.size + 1) kn D rfl (HI1.out.below (below_alloc (Below.refl _ _) _)).mp (.agg #[.int .i64 X.f0, .int .i64 X.f1]) (slotKey X.f0 X.f1) (by first | rfl | simp) HKO.out ?_; intro cc hcc hwc; rw [HHS.out]; have HIM := zh (HI1.out.below (below_alloc (Below.refl _ _) (.cells #[.int .i64 X.f0, .int .i64 X.f1] 92))); have k0 : (w1.alloc (.cells #[.int .i64 X.f0, .int .i64 X.f1] 92)).cell? ⟨w1.heap.size, 0, none⟩ = some (.int .i64 X.f0) := (by simp); have k1 : (w1.alloc (.cells #[.int .i64 X.f0, .int .i64 X.f1] 92)).cell? ⟨w1.heap.size, 1, none⟩ = some (.int .i64 X.f1) := (by simp); generalize w1.alloc (.cells #[.int .i64 X.f0, .int .i64 X.f1] 92) = wm at HIM k0 k1 ⊢; clear hcc hwc)
     |(at_mapUpdate; refine wpList_mapUpdate_own _ rfl _ _ _ 110 rfl 92 3 pairLaw Try.underlying110 _ (w.heap.size + 1) kn D rfl HIM.out.mp (by have := HLN.out; unfold maxLen; omega) (.agg #[.int .i64 X.f0, .int .i64 X.f1]) (.int .i64 (h : Int)) (slotKey X.f0 X.f1) (by first | rfl | simp) rfl HKO.out _ [] (plainElem_int Try.underlying3 HWF.out) ?_; intro w2 ho hg; have HI2 := zh (HIM.out.put ho hg); clear ho hg)
     |((with_reducible refine gate_dst (N := 39) rfl ?_); go_loud (refine Kd.S_append kInts (w0 := w) w.heap.size rfl (.tmp 37) (.tmp 38) 90 51 (.slice none 0 0) 24 rfl Try.underlying90 infoRow rfl (by decide) (by decide) (.slice Ao h co) (hs.map (gIdx l i)) [] [.slice none 0 0] (fun _ => True) (fun _ => False) rfl rfl ?aP (fun _ hk => hk.elim) ?aF ?aO ?aB ?aS ?aL ?_; (case aP => exact ⟨_, rfl, Kd.R_nil _ _ _ _ _⟩); (case aF => exact fun _ _ => trivial); (case aO => have h9 := HI2.out.tab; rw [HHL.out.2] at h9; exact Kd.S_mono h9 (fun _ _ => ⟨trivial, fun e => e⟩)); (case aB => exact HI2.out.low); (case aS => exact HI2.out.low.size); (case aL => rw [HHL.out.2]; exact Nat.le_trans (Nat.mul_le_mul_right 24 (Nat.succ_le_succ h1)) (by decide)); intro v1 w3 ho hb hg hat; rw [← HHL.out.2] at hg; obtain ⟨A1, c1, rfl, hI3⟩ := HI2.out.more (Below.refl _ _) ho hb hg; rw [HHL.out.2]; have hjm : h < (hs.map (gIdx l i) ++ [([] : List Int)]).length := (by rw [List.length_append, HHL.out.2]; exact Nat.lt_succ_self h); obtain ⟨g, rfl⟩ := hI3.form (Nat.lt_of_le_of_lt (Nat.zero_le _) hjm); have HI3 := zh hI3; have HJM := zh hjm; obtain ⟨Ar, cr, oki, hop⟩ := hI3.open_ (i := h) (row := []) (by rw [List.getElem?_append_right (by rw [HHL.out.2]; exact Nat.le_refl _), HHL.out.2, Nat.sub_self]; rfl); have HOP := zh hop; have hat0 : w3.cell? ⟨g, h, none⟩ = some (.slice Ar 0 cr) := hop.at_; have j0 : (0 : Int) ≤ (h : Int) := (by omega); have j1 : (h : Int) < ((h + 1 : Nat) : Int) := (by omega); clear ho hb hg hat hop hI3 hjm))
     |((with_reducible refine gate_dst (N := 48) rfl ?_); go_loud (refine Kd.R_append (Kd.int .i64) (w0 := w) w.heap.size rfl (.tmp 45) (.tmp 47) 51 3 (.int .i64 0) 8 rfl Try.underlying51 infoNum rfl (by decide) (by decide) (.slice Ar 0 cr) ([] : List Int) (i : Int) [.int .i64 (i : Int)] (fun k => oki k ∨ True ∧ w3.heap.size ≤ k) (fun _ => False) rfl rfl ?aP (fun _ hk => hk.elim) ?aF ?aO ?aB ?aS ?aL ?_; (case aP => exact rfl); (case aF => exact fun _ hk => .inr ⟨trivial, hk⟩); (case aO => exact Kd.R_mono HOP.out.cont (fun _ hk => .inl hk)); (case aB => exact HI3.out.low); (case aS => exact HI3.out.low.size); (case aL => exact (by decide)); intro v1 w9 ho hb hg hat; obtain ⟨A9, c9, rfl⟩ := Kd.R_slice ho; rw [show (([] : List Int) ++ [(i : Int)]).length = 0 + 1 by simp] at ho ⊢; obtain ⟨zc, zf⟩ := HOP.out.spot HJM.out hg; have HF := zh (HI3.out.close HJM.out HOP.out hg hb ho); clear ho hb hg hat)))
    go_roundg (l.length - i)
    case measure => omega
    case rel => exact ⟨i + 1, hs ++ [X], D.put (slotKey X.f0 X.f1) (.lit (.int .i64 (h : Int))), kn + 1, _, _, by omega, by rw [List.length_append, HHL.out.1]; rfl, by go_num, by omega, zh (by
     have h9 := HL.out.2.1.put (by rw [← HXE.out]; exact HXW.out) (fun y hy => by
      obtain ⟨k, hk, e⟩ := HL.out.2.1.mem y hy
      rw [e]
      exact HW.out _ (mvAt_mem (by omega))) (by rw [← HXE.out]; exact HN.out)
     rw [← HXE.out, HHL.out.1] at h9
     have h8 := HF.out
     rw [h9.2] at h8
     exact ⟨h8, h9.1, by rw [List.length_append, HHL.out.1]; have := HLN.out; have := HHL.out.1; simp; omega, by have := HLN.out; omega⟩)⟩
  ·have e : i = l.length := by omega
   subst e
   go_wp2
   go_ret
   exact ⟨HL.out.1.low, hs, D, _, _, rfl, by have h9 := HL.out.1.tab; rw [List.length_map] at h9; exact h9, HL.out.2.1, HL.out.2.2.1⟩
end Go.Proofs.Ytdfagllncopmjaa.H
end
section
namespace Go.Proofs.Ytdfagllncopmjaa.H
open Go Go.RowKit Go.Proofs.Ytdfagllncopmjaa.PrintC Go.Proofs.YtdfagllncopmjaaW.PrintWords Go.Proofs.YtdfagllncopmjaaW.PrintLast Go.Proofs.YtdfagllncopmjaaW.PrintMore
set_option linter.unusedVariables false
set_option linter.unusedSimpArgs false
theorem add64_run (x y c : Int) (hx : 0 ≤ x) (hy : 0 ≤ y) (hc0 : 0 ≤ c) (hc : c ≤ 1) (w : World) : (callFunc 67 #[.int .u64 x, .int .u64 y, .int .u64 c]).run Try.prog w = .ok (.value (.tuple #[.int .u64 ((x + y + c) % 18446744073709551616), .int .u64 ((x + y + c) / 18446744073709551616)])) w := by
 rw [run_callFunc_extern Try.func67 (by kernel_rfl) (by kernel_rfl) (by kernel_rfl) (e := add64Entry) (by kernel_rfl), run_add64 x y c hx hy hc0 hc]
 rfl
theorem half_step {x : Int} (hx : -9223372036854775808 ≤ x ∧ x ≤ 9223372036854775807) {L : Int} (h0 : 0 ≤ L) (h1 : L < 18446744073709551616) :
  ∃ U C s L2 : Int, IntKind.u64.wrap x = U ∧ 0 ≤ U ∧ x / 9223372036854775808 = s ∧ -1 ≤ s ∧ s ≤ 0 ∧ (L + U + 0) % 18446744073709551616 = L2 ∧ (L + U + 0) / 18446744073709551616 = C ∧ 0 ≤ C ∧ C ≤ 1 ∧ 0 ≤ L2 ∧ L2 < 18446744073709551616 ∧ (s + C) * 18446744073709551616 + L2 = L + x := by
 have e2 : IntKind.u64.wrap x = x % 18446744073709551616 := by
  simp [IntKind.wrap, IntKind.bits, IntKind.signed]
 rw [e2]
 refine ⟨_, _, _, _, rfl, ?_, rfl, ?_, ?_, rfl, rfl, ?_, ?_, ?_, ?_, ?_⟩ <;> omega
set_option maxHeartbeats 4000000 in
set_option maxRecDepth 100000 in
theorem csum_walk (A : Option Addr) (c : Nat) (l : List Int) (w : World) (hr : Kd.C (Kd.int .i64) w A l.length l) (hi : I64s l) (hl : l.length ≤ 1000000) :
  Calls Try.prog 51 #[.slice A l.length c] w (SumAt l w) := by
 have HR := zh hr
 have HI := zh hi
 clear hr hi
 go_enter Try.func51, Try.ntmps51
 go_wp2
 go_loopg [4, 5, 11] (l.length + 1) (fun k hv lv iv W => ∃ (i : Nat) (H L : Int), i ≤ l.length ∧ hv = .int .i64 H ∧ lv = .int .u64 L ∧ iv = .int .i64 i ∧ k = l.length + 1 - i ∧ Hid (H * 18446744073709551616 + L = sumL (l.take i) ∧ 0 ≤ L ∧ L < 18446744073709551616 ∧ -(i : Int) ≤ H ∧ H ≤ i ∧ Below w.heap.size w W))
 case atStart => exact ⟨0, 0, 0, Nat.zero_le _, rfl, rfl, rfl, rfl, zh ⟨rfl, by decide, by decide, by decide, by decide, Below.refl _ _⟩⟩
 case round =>
  obtain ⟨i, H, L, hi, rfl, rfl, rfl, rfl, HS⟩ := hrel
  by_cases hlt : i < l.length
  ·have i0 : (0 : Int) ≤ (i : Int) := by omega
   have i1 : (i : Int) < (l.length : Int) := by omega
   obtain ⟨ae, eb, z0⟩ := Kd.at_int (Kd.C_below HR.out HS.out.2.2.2.2.2) (i : Int) i0 i1
   subst eb
   rw [Int.toNat_natCast] at z0
   have hx := rd_i64 HI.out hlt
   have HT := zh (take_snoc hlt)
   obtain ⟨x, hxe⟩ : ∃ x, x = rd l (i : Int) := ⟨_, rfl⟩
   rw [← hxe] at z0 hx
   have HXE := zh hxe
   clear hxe
   obtain ⟨U, C, s, L2, e1, u0, e2, s0, s1, e3, e4, c0, c1, l0, l1, he⟩ := half_step hx HS.out.2.1 HS.out.2.2.1
   have hadd : ∀ W : World, (callFunc 67 #[.int .u64 L, .int .u64 U, .int .u64 0]).run Try.prog W = .ok (.value (.tuple #[.int .u64 L2, .int .u64 C])) W := fun W => by
    rw [add64_run L U 0 HS.out.2.1 u0 (by decide) (by decide), e3, e4]
   have e5 : IntKind.i64.wrap C = C := IntWalk.i64_in _ (by omega)
   have e6 : wrap64 (s + C) = s + C := by unfold wrap64; omega
   have e7 : wrap64 (H + (s + C)) = H + (s + C) := by have := HS.out.2.2.2; unfold wrap64; omega
   have HE := zh (And.intro he (And.intro (And.intro l0 l1) (And.intro (And.intro s0 s1) (And.intro c0 c1))))
   clear e3 e4 u0 s0 s1 c0 c1 l0 l1 he hx
   go_wp2
   go_roundg (l.length - i)
   case measure => omega
   case rel => exact ⟨i + 1, H + (s + C), L2, by omega, (by rw [e7]), rfl, by go_num, by omega, zh ⟨by rw [HT.out, sumL_snoc, ← HXE.out]; have := HE.out.1; have := HS.out.1; omega, HE.out.2.1.1, HE.out.2.1.2, by have := HE.out.2; have := HS.out.2.2.2; omega, by have := HE.out.2; have := HS.out.2.2.2; omega, HS.out.2.2.2.2.2⟩⟩
  ·have e : i = l.length := by omega
   subst e
   have hs := HS.out.1
   rw [List.take_length] at hs
   obtain ⟨T, hT⟩ : ∃ T, T = sumL l := ⟨_, rfl⟩
   rw [← hT] at hs
   have HTE := zh hT
   clear hT
   have l0 := HS.out.2.1
   have l1 := HS.out.2.2.1
   obtain ⟨Z, hZ, z0⟩ : ∃ Z : Int, IntKind.i64.wrap L = Z ∧ ((L < 9223372036854775808 ∧ Z = L) ∨ (9223372036854775808 ≤ L ∧ Z = L - 18446744073709551616)) := by
    refine ⟨_, rfl, ?_⟩
    by_cases c : L < 9223372036854775808
    ·exact .inl ⟨c, IntWalk.i64_in _ (by omega)⟩
    ·refine .inr ⟨by omega, ?_⟩
     rw [IntWalk.i64_left]
     unfold wrap64
     omega
   obtain ⟨g, hg, g0⟩ : ∃ g : Int, Z / 9223372036854775808 = g ∧ ((L < 9223372036854775808 ∧ g = 0) ∨ (9223372036854775808 ≤ L ∧ g = -1)) := by
    refine ⟨_, rfl, ?_⟩
    omega
   by_cases c1 : H = g
   ·have HF : Hid (fits T = true ∧ Z = T) := zh ⟨by unfold fits; rw [decide_eq_true_eq]; omega, by omega⟩
    have d1 : (H == g) = true := beq_iff_eq.2 c1
    have d2 : (H != g) = false := by rw [bne, d1]; rfl
    clear hs l0 l1 z0 g0 c1
    go_wp2
    go_ret2
    unfold SumAt
    rw [← HTE.out, HF.out.1]
    exact ⟨by rw [HF.out.2]; rfl, HS.out.2.2.2.2.2⟩
   ·have HF : Hid (fits T = false) := zh (by unfold fits; rw [decide_eq_false_iff_not]; omega)
    have d1 : (H == g) = false := beq_eq_false_iff_ne.2 c1
    have d2 : (H != g) = true := by rw [bne, d1]; rfl
    clear hs l0 l1 z0 g0 c1
    go_wp2
    go_ret2
    unfold SumAt
    rw [← HTE.out, HF.out]
    exact ⟨rfl, HS.out.2.2.2.2.2⟩
end Go.Proofs.Ytdfagllncopmjaa.H
end
section
namespace Go.Proofs.Ytdfagllncopmjaa.H
open Go Go.RowKit Go.Proofs.Ytdfagllncopmjaa.PrintC Go.Proofs.Ytdfagllncopmjaa.PrintE Go.Proofs.YtdfagllncopmjaaW.PrintWords Go.Proofs.YtdfagllncopmjaaW.PrintLast Go.Proofs.YtdfagllncopmjaaW.PrintMore
set_option linter.unusedVariables false
set_option linter.unusedSimpArgs false
def f2s (l : List Mv) (g : List Int) : List Int := g.map fun k => (mvAt l k.toNat).f2
def part (v : List Int) (i : Nat) : List Int := v.take i ++ List.replicate (v.length - i) 0
theorem part_next {v : List Int} {i : Nat} {x : Int} (h : v[i]? = some x) : (part v i).set i x = part v (i + 1) := by
 have hi : i < v.length := (List.getElem?_eq_some_iff.1 h).1
 unfold part
 have hl : (v.take i).length = i := by rw [List.length_take]; omega
 rw [List.set_append_right _ _ (by omega), hl, Nat.sub_self, List.take_add_one, h, show v.length - i = (v.length - (i + 1)) + 1 by omega, List.replicate_succ, List.set_cons_zero, List.append_assoc]
 rfl
theorem part_end (v : List Int) : part v v.length = v := by
 unfold part
 rw [Nat.sub_self, List.take_length]
 exact List.append_nil _
set_option maxHeartbeats 8000000 in
set_option maxRecDepth 100000 in
theorem tot_walk (A : Option Addr) (c : Nat) (l : List Mv) (Ag : Option Addr) (cg : Nat) (g : List Int) (w : World) (hr : Kd.C kMv w A l.length l) (hg : Kd.C (Kd.int .i64) w Ag g.length g) (hk : ∀ k, k ∈ g → ∃ t : Nat, t < l.length ∧ k = t) (hi : ∀ x, x ∈ l → -9223372036854775808 ≤ x.f2 ∧ x.f2 ≤ 9223372036854775807) (h0 : 0 < g.length) (hl : g.length ≤ 100000) :
  Calls Try.prog 37 #[.slice A l.length c, .slice Ag g.length cg, .func (.func 38) #[] #[]] w (SumAt (f2s l g) w) := by
 have HR := zh hr
 have HG := zh hg
 have HK := zh hk
 have HI := zh hi
 obtain ⟨vs, hvs⟩ : ∃ vs, vs = f2s l g := ⟨_, rfl⟩
 have HVL : Hid (vs.length = g.length) := zh (by rw [hvs]; exact List.length_map ..)
 have HV := zh hvs
 rw [← hvs]
 clear hr hg hk hi hvs
 go_enter Try.func37, Try.ntmps37
 go_wp2_with ((with_reducible refine gate_dst (N := 13) rfl ?_); go_loud (refine Kd.R_make (Kd.int .i64) (w0 := w) w.heap.size 3 rfl rfl 51 (.tmp 12) (.tmp 12) rfl (g.length : Int) rfl rfl Try.underlying51 (.int .i64 0) 8 infoNum rfl (by decide) (by decide) (0 : Int) (ok := fun _ => True) (okp := fun _ => False) rfl (fun _ h => h.elim) trivial (by omega) (by rw [Int.toNat_natCast]; exact Nat.le_trans (Nat.mul_le_mul_right 8 hl) (by decide)) (Below.refl _ _) (Nat.le_refl _) ?_; intro v1 w1 ho hb hgr hat; rw [Int.toNat_natCast] at ho; obtain ⟨ga, ca, rfl, -⟩ := Kd.R_form ho (by rw [List.length_replicate]; exact h0); rw [List.length_replicate] at ho ⊢; have HX : Hid (Kd.R (Kd.int .i64) 3 w1 w.heap.size (fun _ => True) (.slice (some ⟨ga, 0, none⟩) g.length ca) (part vs 0) ∧ Below w.heap.size w w1) := zh ⟨(by unfold part; rw [Nat.sub_zero, HVL.out]; exact ho), hb⟩; clear ho hb hgr hat))
 go_loopg [16] (g.length + 1) (fun k iv W => ∃ i : Nat, i ≤ g.length ∧ iv = .int .i64 i ∧ k = g.length + 1 - i ∧ Hid (Kd.R (Kd.int .i64) 3 W w.heap.size (fun _ => True) (.slice (some ⟨ga, 0, none⟩) g.length ca) (part vs i) ∧ Below w.heap.size w W))
 case atStart => exact ⟨0, Nat.zero_le _, rfl, rfl, HX⟩
 case round =>
  obtain ⟨i, hi, rfl, rfl, HL⟩ := hrel
  clear HX
  by_cases hlt : i < g.length
  ·have i0 : (0 : Int) ≤ (i : Int) := by omega
   have i1 : (i : Int) < (g.length : Int) := by omega
   obtain ⟨ae, eb, z0⟩ := Kd.at_int (Kd.C_below HG.out HL.out.2) (i : Int) i0 i1
   subst eb
   rw [Int.toNat_natCast] at z0
   have hmem : rd g (i : Int) ∈ g := by
    unfold rd
    rw [Int.toNat_natCast, List.getD_eq_getElem?_getD, List.getElem?_eq_getElem hlt]
    exact List.getElem_mem hlt
   obtain ⟨t, ht, et⟩ := HK.out _ hmem
   have HRD : Hid (g[i]? = some (t : Int)) := zh (by
    rw [← et]
    unfold rd
    rw [Int.toNat_natCast, List.getD_eq_getElem?_getD, List.getElem?_eq_getElem hlt]
    rfl)
   rw [et] at z0
   clear hmem et
   have t0 : (0 : Int) ≤ (t : Int) := by omega
   have t1 : (t : Int) < (l.length : Int) := by omega
   obtain ⟨ad, ea, y0, y1, y2⟩ := at_T69 (Kd.C_below HR.out HL.out.2) (t : Int) t0 t1
   subst ea
   obtain ⟨X, hX⟩ : ∃ X, X = mvAt l t := ⟨_, rfl⟩
   have hX2 : rd_T69 l (t : Int) = X := by rw [hX]; rfl
   rw [Int.toNat_natCast, hX2] at y0 y1 y2
   have HXE := zh hX
   clear hX hX2
   go_wp2_with (go_at_call 38; (with_reducible refine (num_walk X _).mono ?_); rintro e w1 ⟨rfl, hb⟩; have HI1 := zh (And.intro (Kd.R_below HL.out.1 hb) (below_step HL.out.2 hb)); obtain ⟨za, zf⟩ := Kd.R_celln (0 : Int) HI1.out.1 (i : Int) i0 i1; rw [Int.toNat_natCast] at za zf; clear hb)
   have HF := zh (And.intro (Kd.R_putn HI1.out.1 (i : Int) X.f2) (HI1.out.2.setCell (p := ⟨ga, i, none⟩) (Kd.R_base HI1.out.1 ga rfl) (.int .i64 X.f2)))
   go_roundg (g.length - i)
   case measure => omega
   case rel => exact ⟨i + 1, by omega, by go_num, by omega, zh (by
    have h9 := HF.out
    rw [Int.toNat_natCast, part_next (x := X.f2) (by
     rw [HV.out]
     unfold f2s
     rw [List.getElem?_map, HRD.out, Option.map_some, Int.toNat_natCast, ← HXE.out])] at h9
    exact h9)⟩
  ·have e : i = g.length := by omega
   subst e
   have hs := HL.out.1
   rw [← HVL.out, part_end, HVL.out] at hs
   have HS := zh hs
   clear hs
   have HI64 : Hid (I64s vs) := zh (fun x hx => by
    rw [HV.out] at hx
    unfold f2s at hx
    obtain ⟨k, hk, rfl⟩ := List.mem_map.1 hx
    obtain ⟨t, ht, rfl⟩ := HK.out k hk
    exact HI.out _ (mvAt_mem (by rw [Int.toNat_natCast]; exact ht)))
   have HLV : Hid (vs.length ≤ 1000000) := zh (by rw [HVL.out]; omega)
   obtain ⟨T, hT⟩ : ∃ T, T = if fits (sumL vs) = true then sumL vs else 0 := ⟨_, rfl⟩
   obtain ⟨F, hF⟩ : ∃ F, F = fits (sumL vs) := ⟨_, rfl⟩
   have HTF := zh (And.intro hT hF)
   have HSUM : Hid (∀ W, Kd.C (Kd.int .i64) W (some ⟨ga, 0, none⟩) g.length vs → Calls Try.prog 51 #[.slice (some ⟨ga, 0, none⟩) g.length ca] W fun e w' => e = .returned (.tuple #[.int .i64 T, .bool F]) ∧ Below W.heap.size W w') := zh (fun W h => by
    rw [← HVL.out] at h ⊢
    rw [hT, hF]
    exact csum_walk (some ⟨ga, 0, none⟩) ca vs W h HI64.out HLV.out)
   clear hT hF
   go_wp2_with (go_at_call 51; (with_reducible refine (HSUM.out _ ?s1).mono ?_); (case s1 => have h9 := (Kd.R_reads' HS.out).2.2; rw [HVL.out] at h9; exact h9); rintro e w3 ⟨rfl, hb⟩; have HB3 := zh (below_step HL.out.2 hb); clear hb)
   go_ret2
   unfold SumAt
   rw [← HTF.out.1, ← HTF.out.2]
   exact ⟨rfl, HB3.out⟩
end Go.Proofs.Ytdfagllncopmjaa.H
end
section
namespace Go.Proofs
open Go.Shelf
def Try.sortMv_ren : Go.Shelf.Ren := ⟨fun | 6 => 39 | 15 => 53 | 14 => 52 | 28 => 76 | 29 => 77 | 20 => 68 | 21 => 69 | 22 => 70 | 23 => 71 | 24 => 72 | 25 => 73 | 26 => 74 | 27 => 75 | 46 => 87 | 47 => 88 | 48 => 89 | 49 => 90 | 50 => 91 | 57 => 96 | n => n, fun | 22 => 39 | 24 => 69 | 25 => 99 | 3 => 3 | 39 => 114 | 0 => 0 | 53 => 140 | 55 => 129 | 4 => 4 | 46 => 134 | 45 => 133 | 50 => 94 | 5 => 5 | 9 => 9 | 66 => 152 | 70 => 156 | 76 => 162 | 77 => 60 | n => n, fun | n => n⟩
theorem Try.sortMv : Go.Proofs.SlLaysF0.n6 Try.prog Try.sortMv_ren := {
 mixed := by kernel_rfl
 f6 := ⟨Try.f39.name, by decide, Try.func39.trans (congrArg some (by kernel_rfl))⟩
 f14 := ⟨Try.f52.name, by decide, Try.func52.trans (congrArg some (by kernel_rfl))⟩
 f15 := Try.func53.trans (congrArg some (by kernel_rfl))
 f20 := ⟨Try.f68.name, by decide, Try.func68.trans (congrArg some (by kernel_rfl))⟩
 f21 := ⟨Try.f69.name, by decide, Try.func69.trans (congrArg some (by kernel_rfl))⟩
 f22 := ⟨Try.f70.name, by decide, Try.func70.trans (congrArg some (by kernel_rfl))⟩
 f23 := ⟨Try.f71.name, by decide, Try.func71.trans (congrArg some (by kernel_rfl))⟩
 f24 := ⟨Try.f72.name, by decide, Try.func72.trans (congrArg some (by kernel_rfl))⟩
 f25 := ⟨Try.f73.name, by decide, Try.func73.trans (congrArg some (by kernel_rfl))⟩
 f26 := ⟨Try.f74.name, by decide, Try.func74.trans (congrArg some (by kernel_rfl))⟩
 f27 := ⟨Try.f75.name, by decide, Try.func75.trans (congrArg some (by kernel_rfl))⟩
 f28 := Try.func76.trans (congrArg some (by kernel_rfl))
 f29 := Try.func77.trans (congrArg some (by kernel_rfl))
 f46 := ⟨Try.f87.name, by decide, Try.func87.trans (congrArg some (by kernel_rfl))⟩
 f47 := Try.func88.trans (congrArg some (by kernel_rfl))
 f48 := Try.func89.trans (congrArg some (by kernel_rfl))
 f49 := ⟨Try.f90.name, by decide, Try.func90.trans (congrArg some (by kernel_rfl))⟩
 f50 := ⟨Try.f91.name, by decide, Try.func91.trans (congrArg some (by kernel_rfl))⟩
 f57 := ⟨Try.f96.name, by decide, Try.func96.trans (congrArg some (by kernel_rfl))⟩
 t0 := Try.underlying0
 a0 := Try.isAgg0
 z0 := Try.sizeOf0
 v0 := Try.zeroValue0
 t3 := Try.underlying3
 a3 := Try.isAgg3
 z3 := Try.sizeOf3
 v3 := Try.zeroValue3
 t4 := Try.underlying4
 a4 := Try.isAgg4
 z4 := Try.sizeOf4
 v4 := Try.zeroValue4
 t5 := Try.underlying5
 a5 := Try.isAgg5
 z5 := Try.sizeOf5
 v5 := Try.zeroValue5
 t9 := Try.underlying9
 a9 := Try.isAgg9
 z9 := Try.sizeOf9
 v9 := Try.zeroValue9
 t22 := Try.underlying39
 a22 := Try.isAgg39
 z22 := Try.sizeOf39
 v22 := Try.zeroValue39
 t25 := Try.underlying99
 a25 := Try.isAgg99
 z25 := Try.sizeOf99
 v25 := Try.zeroValue99
 t39 := Try.underlying114
 a39 := Try.isAgg114
 z39 := Try.sizeOf114
 v39 := Try.zeroValue114
 t45 := Try.underlying133
 a45 := Try.isAgg133
 z45 := Try.sizeOf133
 v45 := Try.zeroValue133
 t46 := Try.underlying134
 a46 := Try.isAgg134
 z46 := Try.sizeOf134
 v46 := Try.zeroValue134
 t50 := Try.underlying94
 a50 := Try.isAgg94
 z50 := Try.sizeOf94
 v50 := Try.zeroValue94
 t53 := Try.underlying140
 a53 := Try.isAgg140
 z53 := Try.sizeOf140
 v53 := Try.zeroValue140
 t55 := Try.underlying129
 a55 := Try.isAgg129
 z55 := Try.sizeOf129
 v55 := Try.zeroValue129
 t66 := Try.underlying152
 a66 := Try.isAgg152
 z66 := Try.sizeOf152
 v66 := Try.zeroValue152
 t70 := Try.underlying156
 a70 := Try.isAgg156
 z70 := Try.sizeOf156
 v70 := Try.zeroValue156
 t76 := Try.underlying162
 a76 := Try.isAgg162
 z76 := Try.sizeOf162
 v76 := Try.zeroValue162
 t77 := Try.underlying60
 a77 := Try.isAgg60
 z77 := Try.sizeOf60
 v77 := Try.zeroValue60 }
end Go.Proofs
end
section
namespace Go.Proofs.Ytdfagllncopmjaa.H
open Go Go.RowKit Go.Proofs.Ytdfagllncopmjaa.PrintC Go.Proofs.Ytdfagllncopmjaa.PrintE Go.Proofs.YtdfagllncopmjaaW.PrintWords Go.Proofs.YtdfagllncopmjaaW.PrintLast Go.Proofs.YtdfagllncopmjaaW.PrintMore
set_option linter.unusedVariables false
set_option linter.unusedSimpArgs false
instance : Inhabited Mv := ⟨z69⟩
def encMv (x : Mv) : List Value := [.int .i64 x.f0, .int .i64 x.f1, .int .i64 x.f2]
def cmpI (x y : Int) : Int := if x < y then -1 else if y < x then 1 else 0
def cmpMv (a b : Mv) : Int := if cmpI a.f1 b.f1 = 0 then cmpI a.f0 b.f0 else cmpI a.f1 b.f1
theorem cmpMv_iff (a b : Mv) : cmpMv a b < 0 ↔ mlt a b := by
 unfold cmpMv cmpI mlt
 repeat' split
 all_goals omega
section
variable (w : World)
theorem nan_walk (x : Int) : Calls Try.prog 54 #[.int .i64 x] w fun e w' => e = .returned (.bool false) ∧ w' = w := by
 have hx : (x != x) = false := bne_self_eq_false x
 go_enter Try.func54, Try.ntmps54
 go_wp2
 go_ret
 exact ⟨rfl, rfl⟩
set_option maxHeartbeats 1000000 in
theorem compare_walk (x y R : Int) (hR : cmpI x y = R) : Calls Try.prog 42 #[.int .i64 x, .int .i64 y] w fun e w' => e = .returned (.int .i64 R) ∧ w' = w := by
 unfold cmpI at hR
 by_cases c1 : x < y
 ·rw [if_pos c1] at hR
  subst hR
  go_enter Try.func42, Try.ntmps42
  go_wp2_with (go_at_call 54; refine (nan_walk _ _).mono ?_; rintro e w1 ⟨rfl, rfl⟩)
  go_ret
  exact ⟨rfl, rfl⟩
 ·rw [if_neg c1] at hR
  by_cases c2 : y < x
  ·rw [if_pos c2] at hR
   subst hR
   go_enter Try.func42, Try.ntmps42
   go_wp2_with (go_at_call 54; refine (nan_walk _ _).mono ?_; rintro e w1 ⟨rfl, rfl⟩)
   go_ret
   exact ⟨rfl, rfl⟩
  ·rw [if_neg c2] at hR
   subst hR
   go_enter Try.func42, Try.ntmps42
   go_wp2_with (go_at_call 54; refine (nan_walk _ _).mono ?_; rintro e w1 ⟨rfl, rfl⟩)
   go_ret
   exact ⟨rfl, rfl⟩
set_option maxHeartbeats 1000000 in
theorem or_walk (g : Nat) (x y R : Int) (hR : (if x = 0 then y else x) = R) (z0 : w.cell? ⟨g, 0, none⟩ = some (.int .i64 x)) (z1 : w.cell? ⟨g, 1, none⟩ = some (.int .i64 y)) :
  Calls Try.prog 41 #[.slice (some ⟨g, 0, none⟩) 2 2] w fun e w' => e = .returned (.int .i64 R) ∧ w' = w := by
 have HR := zh hR
 clear hR
 go_enter Try.func41, Try.ntmps41
 go_wp2
 go_loopg [8] 3 (fun k iv W => W = w ∧ ((iv = .int .i64 0 ∧ k = 3) ∨ (iv = .int .i64 1 ∧ k = 2 ∧ Hid (x = 0)) ∨ (iv = .int .i64 2 ∧ k = 1 ∧ Hid (x = 0 ∧ y = 0))))
 case atStart => exact ⟨rfl, .inl ⟨rfl, rfl⟩⟩
 case round =>
  obtain ⟨rfl, (⟨rfl, rfl⟩ | ⟨rfl, rfl, HX⟩ | ⟨rfl, rfl, HX⟩)⟩ := hrel
  ·by_cases c : x = 0
   ·have d1 : (x == 0) = true := beq_iff_eq.2 c
    have d2 : (x != 0) = false := by rw [bne, d1]; rfl
    have HC := zh c
    clear c
    go_wp2
    go_roundg 2
    case measure => omega
    case rel => exact ⟨rfl, .inr (.inl ⟨rfl, rfl, HC⟩)⟩
   ·have d1 : (x == 0) = false := beq_eq_false_iff_ne.2 c
    have d2 : (x != 0) = true := by rw [bne, d1]; rfl
    have HC := zh c
    clear c
    go_wp2
    go_ret
    exact ⟨by rw [← HR.out, if_neg HC.out]; rfl, rfl⟩
  ·by_cases c : y = 0
   ·have d1 : (y == 0) = true := beq_iff_eq.2 c
    have d2 : (y != 0) = false := by rw [bne, d1]; rfl
    have HC := zh c
    clear c
    go_wp2
    go_roundg 1
    case measure => omega
    case rel => exact ⟨rfl, .inr (.inr ⟨rfl, rfl, zh ⟨HX.out, HC.out⟩⟩)⟩
   ·have d1 : (y == 0) = false := beq_eq_false_iff_ne.2 c
    have d2 : (y != 0) = true := by rw [bne, d1]; rfl
    have HC := zh c
    clear c
    go_wp2
    go_ret
    exact ⟨by rw [← HR.out, if_pos HX.out]; rfl, rfl⟩
  ·go_wp2
   go_ret
   exact ⟨by rw [← HR.out, if_pos HX.out.1, HX.out.2]; rfl, rfl⟩
end
def Grew (W w' : World) : Prop := ∃ q os', w' = Go.Sort.grow (W.drewN q) os'
theorem Grew.refl (W : World) : Grew W W := ⟨0, #[], by rw [Go.Sort.grow_empty]; rfl⟩
theorem Grew.alloc {W w' : World} (h : Grew W w') (o : Obj) : Grew W (w'.alloc o) := by
 obtain ⟨q, os, rfl⟩ := h
 exact ⟨q, _, by rw [Go.Sort.alloc_eq_grow, Go.Sort.grow_grow]⟩
theorem Grew.drew {W w' : World} (h : Grew W w') : Grew W w'.drew := by
 obtain ⟨q, os, rfl⟩ := h
 exact ⟨q + 1, os, rfl⟩
set_option maxHeartbeats 4000000 in
set_option maxRecDepth 100000 in
theorem cmp3_walk (x y : Mv) (W : World) : Calls Try.prog 40 #[.agg #[.int .i64 x.f0, .int .i64 x.f1, .int .i64 x.f2], .agg #[.int .i64 y.f0, .int .i64 y.f1, .int .i64 y.f2]] W fun e w' => e = .returned (.int .i64 (cmpMv x y)) ∧ Grew W w' := by
 obtain ⟨R, hR⟩ : ∃ R, R = cmpMv x y := ⟨_, rfl⟩
 obtain ⟨R1, hR1⟩ : ∃ R1, cmpI x.f1 y.f1 = R1 := ⟨_, rfl⟩
 obtain ⟨R2, hR2⟩ : ∃ R2, cmpI x.f0 y.f0 = R2 := ⟨_, rfl⟩
 have HR : Hid ((if R1 = 0 then R2 else R1) = R ∧ cmpI x.f1 y.f1 = R1 ∧ cmpI x.f0 y.f0 = R2) := zh ⟨by rw [hR, ← hR1, ← hR2]; rfl, hR1, hR2⟩
 rw [← hR]
 clear hR hR1 hR2
 go_enter Try.func40, Try.ntmps40
 go_wp2
 obtain ⟨wr, hwr⟩ : ∃ wr, wr = (W.alloc (.cells #[.int .i64 x.f0, .int .i64 x.f1, .int .i64 x.f2] 69)).alloc (.cells #[.int .i64 y.f0, .int .i64 y.f1, .int .i64 y.f2] 69) := ⟨_, rfl⟩
 have HG : Hid (Grew W wr) := zh (by rw [hwr]; exact ((Grew.refl W).alloc _).alloc _)
 have hc : wr.drew.cell? ⟨W.heap.size, 1, none⟩ = some (.int .i64 x.f1) ∧ wr.drew.cell? ⟨W.heap.size + 1, 1, none⟩ = some (.int .i64 y.f1) ∧ wr.drew.cell? ⟨W.heap.size, 0, none⟩ = some (.int .i64 x.f0) ∧ wr.drew.cell? ⟨W.heap.size + 1, 0, none⟩ = some (.int .i64 y.f0) := by
  rw [hwr]
  refine ⟨?_, ?_, ?_, ?_⟩ <;> simp
 rw [← hwr]
 clear hwr
 refine stepS (S := fun w' => w'.cell? ⟨W.heap.size, 1, none⟩ = some (.int .i64 x.f1) ∧ w'.cell? ⟨W.heap.size + 1, 1, none⟩ = some (.int .i64 y.f1) ∧ w'.cell? ⟨W.heap.size, 0, none⟩ = some (.int .i64 x.f0) ∧ w'.cell? ⟨W.heap.size + 1, 0, none⟩ = some (.int .i64 y.f0)) (ds := [11]) 13 (by kernel_rfl) rfl hc (fun hHeld => ?_)
 have HG1 := zh HG.out.drew
 generalize wr.drew = wd at HG1 hHeld ⊢
 clear hc HG
 refine sP 0 ?_
 refine sT 1 hHeld ?_
 refine sP 2 ?_
 refine sT 3 hHeld ?_
 refine sP 5 ?_
 refine sT 6 hHeld ?_
 refine sP 7 ?_
 refine sT 8 hHeld ?_
 refine sC 4 Try.func42 #[.int .i64 x.f1, .int .i64 y.f1] (compare_walk wd x.f1 y.f1 R1 HR.out.2.1) ?_
 rintro e w5 ⟨rfl, rfl⟩
 refine ⟨_, rfl, hHeld, fun hHeld => ?_⟩
 refine sN ?_
 refine sC 9 Try.func42 #[.int .i64 x.f0, .int .i64 y.f0] (compare_walk w5 x.f0 y.f0 R2 HR.out.2.2) ?_
 rintro e w6 ⟨rfl, rfl⟩
 refine ⟨_, rfl, hHeld, fun hHeld => ?_⟩
 refine sN ?_
 refine sB 10 hHeld (fun hHeld => ?_)
 have HG2 := zh (HG1.out.alloc (.cells #[.int .i64 R1, .int .i64 R2] 3))
 refine sCL 11 Try.func41 #[.slice (some ⟨w6.heap.size, 0, none⟩) 2 2] (or_walk _ w6.heap.size R1 R2 R HR.out.1 (by simp) (by simp)) ?_
 rintro e w7 ⟨rfl, rfl⟩
 refine ⟨_, rfl, ?_⟩
 refine sN ?_
 refine sP 12 ?_
 refine done_ (by kernel_rfl) ?_
 clear hHeld
 go_wp2
 go_ret
 exact ⟨rfl, HG2.out⟩
theorem mv_swo : Go.Sort.SWO (Go.Proofs.ltOf cmpMv) where
 irrefl x := by
  unfold Go.Proofs.ltOf
  rw [decide_eq_false_iff_not, cmpMv_iff]
  unfold mlt
  omega
 trans x y z h1 h2 := by
  unfold Go.Proofs.ltOf at *
  rw [decide_eq_true_eq, cmpMv_iff] at *
  exact mlt_trans h1 h2
 ntrans x y z h1 h2 := by
  unfold Go.Proofs.ltOf at *
  rw [decide_eq_false_iff_not, cmpMv_iff] at *
  unfold mlt at *
  omega
theorem flat_put (d : Array Mv) (j : Nat) (x : Mv) (hj : j < d.size) : Go.Sort.setMany (Go.Sort.flatK encMv 3 d) (j * 3) (encMv x) = Go.Sort.flatK encMv 3 (d.setIfInBounds j x) := by
 refine Go.Sort.ext_get! (by simp) fun t ht => ?_
 have ht' : t < d.size * 3 := by simpa using ht
 rw [Go.Sort.get_setMany _ _ _ t (by simpa using ht'), Go.Sort.get_flatK _ _ _ t ht', Go.Sort.get_flatK _ _ _ t (by simpa using ht'), show (encMv x).length = 3 from rfl]
 have e : (d.setIfInBounds j x)[t / 3]! = if t / 3 = j then x else d[t / 3]! := by
  by_cases a : t / 3 = j
  ·rw [a, if_pos rfl, Go.Sort.getElem!_set_same _ _ _ hj]
  ·rw [if_neg a]
   rw [getElem!_pos _ (t / 3) (by rw [Array.size_setIfInBounds]; omega), getElem!_pos _ (t / 3) (by omega), Array.getElem_setIfInBounds, if_neg (Ne.symm a)]
 rw [e]
 by_cases a : t / 3 = j
 ·rw [if_pos (by omega), if_pos a, show t - j * 3 = t % 3 by omega]
 ·rw [if_neg (by omega), if_neg a]
section
variable {W : World} {base g n c : Nat}
theorem mv_holds {xs : List Mv} (h : Kd.R kMv 69 W base (fun _ => True) (.slice (some ⟨g, 0, none⟩) n c) xs) : Go.Sort.HoldsK encMv 3 W g 0 xs.toArray := by
 intro j hj
 have hj' : j < xs.length * 3 := by simpa using hj
 have hn : n = xs.length := (Kd.R_reads' h).1
 obtain ⟨ce, hcl, hM, hcc, hfr⟩ := Kd.R_elem h z69 ((j / 3 : Nat) : Int) (by omega) (by omega)
 obtain rfl := k69_openM hM
 rw [Go.Sort.get_flatK _ _ _ j (by simpa using hj')]
 have e : xs.toArray[j / 3]! = xs.getD (j / 3) z69 := by
  rw [List.getD_eq_getElem?_getD, List.getElem?_eq_getElem (by omega), getElem!_pos _ _ (by simp; omega)]
  simp
 rw [e]
 simp only [Int.toNat_natCast, show k69.sz = 3 from rfl] at hcc hfr
 have hk : j = j / 3 * 3 + j % 3 := by omega
 have hr := hfr (j % 3)
 rw [← hk] at hr
 refine ⟨?_, by rw [Nat.zero_add]; exact hr⟩
 have hm : j % 3 = 0 ∨ j % 3 = 1 ∨ j % 3 = 2 := by omega
 rw [Nat.zero_add]
 rcases hm with h0 | h0 | h0
 ·have := hcc 0 _ rfl
  rw [← h0, ← hk] at this
  rw [this, h0]
  rfl
 ·have := hcc 1 _ rfl
  rw [← h0, ← hk] at this
  rw [this, h0]
  rfl
 ·have := hcc 2 _ rfl
  rw [← h0, ← hk] at this
  rw [this, h0]
  rfl
def mixA (d e : Array Mv) : Nat → Array Mv
 |0 => d
 |j + 1 => (mixA d e j).setIfInBounds j e[j]!
theorem mixA_size (d e : Array Mv) : ∀ j, (mixA d e j).size = d.size
 |0 => rfl
 |j + 1 => by rw [mixA, Array.size_setIfInBounds, mixA_size d e j]
theorem mixA_get (d e : Array Mv) (t : Nat) (ht : t < d.size) : ∀ j, (mixA d e j)[t]! = if t < j then e[t]! else d[t]!
 |0 => by rw [if_neg (by omega)]; rfl
 |j + 1 => by
  rw [mixA]
  by_cases a : j = t
  ·subst a
   rw [if_pos (by omega), Go.Sort.getElem!_set_same _ _ _ (by rw [mixA_size]; exact ht)]
  ·have h1 : ((mixA d e j).setIfInBounds j e[j]!)[t]! = (mixA d e j)[t]! := by
    rw [getElem!_pos _ t (by rw [Array.size_setIfInBounds, mixA_size]; exact ht), getElem!_pos _ t (by rw [mixA_size]; exact ht), Array.getElem_setIfInBounds, if_neg a]
   rw [h1, mixA_get d e t ht j]
   by_cases b : t < j
   ·rw [if_pos b, if_pos (by omega)]
   ·rw [if_neg b, if_neg (by omega)]
theorem mixA_end (d e : Array Mv) (h : e.size = d.size) : mixA d e d.size = e := by
 refine Array.ext (by rw [mixA_size, h]) fun t h1 h2 => ?_
 have := mixA_get d e t (by rw [mixA_size] at h1; exact h1) d.size
 rw [if_pos (by rw [mixA_size] at h1; exact h1), getElem!_pos _ t h1, getElem!_pos _ t h2] at this
 exact this
theorem mv_mix {w0 : World} {xs : List Mv} (h : Kd.R kMv 69 W base (fun _ => True) (.slice (some ⟨g, 0, none⟩) n c) xs) (hb : Below base w0 W) (e : Array Mv) :
  ∀ j, j ≤ xs.length → Kd.R kMv 69 (Go.Sort.putRowK encMv 3 W g 0 (mixA xs.toArray e j)) base (fun _ => True) (.slice (some ⟨g, 0, none⟩) n c) (mixA xs.toArray e j).toList ∧ Below base w0 (Go.Sort.putRowK encMv 3 W g 0 (mixA xs.toArray e j))
 |0, _ => by
  show Kd.R _ _ (Go.Sort.putRowK encMv 3 W g 0 xs.toArray) base _ _ xs ∧ Below base w0 (Go.Sort.putRowK encMv 3 W g 0 xs.toArray)
  rw [Go.Sort.putRowK_self encMv 3 W g 0 _ (mv_holds h)]
  exact ⟨h, hb⟩
 |j + 1, hj => by
  obtain ⟨h1, h2⟩ := mv_mix h hb e j (by omega)
  have hn : n = xs.length := (Kd.R_reads' h).1
  have hs : (mixA xs.toArray e j).size = xs.length := by rw [mixA_size]; simp
  obtain ⟨ce, hcl, hM, hcc, hfr⟩ := Kd.R_elem h1 z69 (j : Int) (by omega) (by omega)
  obtain rfl := k69_openM hM
  have hg := Kd.R_base h g rfl
  have s1 := (Kd.R_seg h1 (j : Int) (by omega) (by omega) (seg := encMv e[j]!) (j := 0) hcl hcc (show 3 ≤ 3 from by decide) (x' := e[j]!) (k69_mkM _ _ _ _) (fun _ hk => hk)).1
  have ew : (Go.Sort.putRowK encMv 3 W g 0 (mixA xs.toArray e j)).setCells g (0 + j * 3) (encMv e[j]!) = Go.Sort.putRowK encMv 3 W g 0 (mixA xs.toArray e (j + 1)) := by
   unfold Go.Sort.putRowK
   rw [Go.Sort.setCells_putRow _ _ _ _ _ _ (by rw [Go.Sort.size_flatK, hs, show (encMv e[j]!).length = 3 from rfl]; omega), flat_put _ _ _ (by omega)]
   rfl
  rw [Int.toNat_natCast, show k69.sz = 3 from rfl, Nat.add_zero, ← Nat.zero_add (j * 3), ew] at s1
  refine ⟨?_, ?_⟩
  ·rw [show (mixA xs.toArray e (j + 1)).toList = (mixA xs.toArray e j).toList.set j e[j]! from Array.toList_setIfInBounds ..]
   exact s1
  ·rw [← ew]
   exact ((h2.setCell hg _).setCell hg _).setCell hg _
end
theorem below_grow (W : World) (os : Array Obj) : Below W.heap.size W (Go.Sort.grow W os) := ⟨rfl, rfl, rfl, by rw [Go.Sort.size_grow]; omega, fun k hk => Go.Sort.heap_grow_old W os hk⟩
theorem sortmv_walk {base : Nat} {w0 W : World} {Ao : Option Addr} {co : Nat} {xs : List Mv} (h : Kd.R kMv 69 W base (fun _ => True) (.slice Ao xs.length co) xs) (hb : Below base w0 W) (hbs : base ≤ W.heap.size) (hl : xs.length ≤ 1000000) :
  Calls Try.prog 39 #[.slice Ao xs.length co, .func (.func 40) #[] #[]] W fun e w' => e = .returned (.tuple #[]) ∧ ∃ ys : List Mv, ys.Perm xs ∧ ys.Pairwise (fun a b => ¬ mlt b a) ∧ Kd.R kMv 69 w' base (fun _ => True) (.slice Ao xs.length co) ys ∧ Below base w0 w' := by
 by_cases h0 : 0 < xs.length
 case neg =>
  have e0 : xs = [] := List.length_eq_zero_iff.1 (by omega)
  subst e0
  have hcon := Go.Proofs.AnyF.slices_SortFunc_none Try.sortMv Ao co (.func (.func 40) #[] #[]) W
  change Calls Try.prog 39 _ _ _ at hcon
  refine hcon.mono ?_
  rintro e w' ⟨rfl, rfl⟩
  exact ⟨rfl, [], List.Perm.refl _, List.Pairwise.nil, h, hb⟩
 obtain ⟨g, cap, e1, hbg, hgl, -⟩ := Kd.R_form h h0
 injection e1 with e1 _ e2
 subst e1
 subst e2
 have eg : ∀ args w, (callFunc 40 args).run Try.prog w = .ok (.enter 40 args) w := enters_of Try.func40 (by kernel_rfl) rfl
 have hcmp : Go.Proofs.CmpLays Try.prog 40 #[] encMv 3 cmpMv g 0 xs.toArray.size W := fun _ _ _ _ x y => cmp3_walk x y _
 have hcon := Go.Proofs.AnyQ.slices_SortFunc Try.sortMv 3 Try.isAgg69 Try.sizeOf69 encMv (fun _ => rfl) (fun x v hv => by simp [encMv] at hv; rcases hv with rfl | rfl | rfl <;> rfl) cmpMv mv_swo 40 #[] g 0 co xs.toArray W eg hcmp (mv_holds h) hgl (by simp; omega)
 change Calls Try.prog 39 _ _ _ at hcon
 rw [List.size_toArray] at hcon
 refine hcon.mono ?_
 rintro e w' ⟨rfl, d', m, os, hp, hs, rfl⟩
 obtain ⟨hsz, -, hpm⟩ := hp
 have hsz : d'.size = xs.length := by simpa using hsz
 have hx : ∀ a : Array Mv, a.size = xs.length → (a.extract 0 xs.length).toList = a.toList := fun a ha => by rw [← ha, Array.extract_size]
 rw [hx d' hsz, hx xs.toArray (List.size_toArray ..)] at hpm
 have h1 := Kd.R_below h (show Below W.heap.size W (Go.Sort.ahead W m) from ⟨rfl, rfl, rfl, Nat.le_refl _, fun _ _ => rfl⟩)
 have hb1 : Below base w0 (Go.Sort.ahead W m) := hb.trans (show Below base W (Go.Sort.ahead W m) from ⟨rfl, rfl, rfl, Nat.le_refl _, fun _ _ => rfl⟩)
 have hm := mv_mix h1 hb1 d' xs.length (Nat.le_refl _)
 have he : mixA xs.toArray d' xs.length = d' := by
  have := mixA_end xs.toArray d' (by rw [hsz]; simp)
  rwa [List.size_toArray] at this
 rw [he] at hm
 have hgw := below_grow (Go.Sort.putRowK encMv 3 (Go.Sort.ahead W m) g 0 d') os
 refine ⟨rfl, d'.toList, hpm, ?_, Kd.R_below hm.1 hgw, hm.2.trans (hgw.mono (Nat.le_of_lt (Nat.lt_of_le_of_lt hbg (Kd.R_lt hm.1 g rfl))))⟩
 rw [List.pairwise_iff_getElem]
 intro i j hi hj hij
 have h3 := hs i j (Nat.zero_le _) hij (by rw [← hsz]; simpa using hj)
 unfold Go.Proofs.ltOf at h3
 rw [decide_eq_false_iff_not, cmpMv_iff, getElem!_pos _ _ (by simpa using hj), getElem!_pos _ _ (by simpa using hi)] at h3
 simpa using h3
theorem mvApp : AppK Try.prog kMv 39 69 (fun x => [.int .i64 x.f0, .int .i64 x.f1, .int .i64 x.f2]) := ⟨Try.underlying39, ⟨_, 24, infoMv, rfl, by decide, by decide⟩, by decide, k69_mkM⟩
theorem mv_empty {W : World} {g base : Nat} (hb : W.heap[g]? = some (.cells #[] 69 (0, 0))) (hg : base ≤ g) : Kd.R kMv 69 W base (fun _ => True) (.slice (some ⟨g, 0, none⟩) 0 0) [] := by
 exact ⟨fun _ _ => trivial, [], ⟨rfl, .inr ⟨g, 0, #[], rfl, hg, hb, Nat.le_refl _, by decide, rfl, rfl⟩⟩, ⟨rfl, fun j p hj => by simp at hj⟩⟩
theorem group_of {l hs : List Mv} {D : DataW Unit} (h : GaI l l.length hs D) {y : Mv} (hy : y ∈ hs) :
  ∃ (t : Nat) (r : List Int), gIdx l l.length y = (t : Int) :: r ∧ t < l.length ∧ (mvAt l t).f0 = y.f0 ∧ (mvAt l t).f1 = y.f1 := by
 obtain ⟨k, hk, e⟩ := h.mem y hy
 have hm : (k : Int) ∈ gIdx l l.length y := by
  unfold gIdx
  exact List.mem_map.2 ⟨k, List.mem_filter.2 ⟨List.mem_range.2 hk, by rw [e]; exact sameK_refl _⟩, rfl⟩
 cases hg : gIdx l l.length y with
 |nil =>
  rw [hg] at hm
  cases hm
 |cons a r =>
  obtain ⟨t, ht, rfl, hs⟩ := gIdx_mem (show a ∈ gIdx l l.length y by rw [hg]; exact List.mem_cons_self ..)
  exact ⟨t, r, rfl, ht, (sameK_iff.1 hs).1.symm, (sameK_iff.1 hs).2.symm⟩
theorem group_sum (l : List Mv) (y : Mv) : sumL (f2s l (gIdx l l.length y)) = amt l y := by
 unfold f2s
 rw [gIdx_nums y (Nat.le_refl _), List.take_length]
 rfl
theorem group_lt {l : List Mv} {y : Mv} {k : Int} (h : k ∈ gIdx l l.length y) : ∃ t : Nat, t < l.length ∧ k = t := by
 obtain ⟨t, ht, e, -⟩ := gIdx_mem h
 exact ⟨t, ht, e⟩
set_option maxHeartbeats 8000000 in
set_option maxRecDepth 100000 in
theorem moves_walk (A : Option Addr) (c : Nat) (l : List Mv) (w : World) (hr : Kd.C kMv w A l.length l) (hw : ∀ x, x ∈ l → WfM x) (hi : ∀ x, x ∈ l → -9223372036854775808 ≤ x.f2 ∧ x.f2 ≤ 9223372036854775807) (hl : l.length ≤ 100000) :
  Calls Try.prog 21 #[.slice A l.length c] w (MovesAt l w) := by
 have HR := zh hr
 have HW := zh hw
 have HI := zh hi
 have hu := Try.underlying69
 clear hr hw hi
 go_enter Try.func21, Try.ntmps21
 go_wp2_with (go_at_call 35; go_loud ((with_reducible refine (gather_walk A c l _ ?s1 HW.out hl).mono ?_); (case s1 => exact Kd.C_below HR.out (below_alloc (Below.refl _ _) _)); rintro e w1 ⟨hb, hs, D, Ag, cg, rfl, hS, hGa, hle⟩; have HX : Hid (Kd.S kInts 51 w1 w.heap.size (fun _ => True) (.slice Ag hs.length cg) (rowsOf l hs) ∧ Kd.R kMv 69 w1 w.heap.size (fun _ => True) (.slice (some ⟨w.heap.size, 0, none⟩) (mAll l (hs.take 0)).length 0) (mAll l (hs.take 0)) ∧ Below w.heap.size w w1) := zh ⟨Kd.S_lower hS (by rw [alloc_size]; omega), Kd.R_below (mv_empty (heap_alloc_new w _) (Nat.le_refl _)) hb, below_step (below_alloc (Below.refl _ _) _) hb⟩; have HGA := zh (And.intro hGa hle); clear hb hS hGa hle))
 go_loopg [4, 13] (hs.length + 1) (fun k ov iv W => ∃ (i : Nat) (Ao : Option Addr) (co : Nat), i ≤ hs.length ∧ ov = .slice Ao (mAll l (hs.take i)).length co ∧ iv = .int .i64 i ∧ k = hs.length + 1 - i ∧ Hid (Kd.S kInts 51 W w.heap.size (fun _ => True) (.slice Ag hs.length cg) (rowsOf l hs) ∧ Kd.R kMv 69 W w.heap.size (fun _ => True) (.slice Ao (mAll l (hs.take i)).length co) (mAll l (hs.take i)) ∧ Below w.heap.size w W ∧ ∀ y, y ∈ hs.take i → fits (amt l y) = true))
 case atStart => exact ⟨0, _, 0, Nat.zero_le _, rfl, rfl, rfl, zh ⟨HX.out.1, HX.out.2.1, HX.out.2.2, fun y hy => by simp at hy⟩⟩
 case round =>
  obtain ⟨i, Ao, co, hi, rfl, rfl, rfl, HL⟩ := hrel
  clear HX
  by_cases hlt : i < hs.length
  ·have hhl := HGA.out.2
   have i0 : (0 : Int) ≤ (i : Int) := by omega
   have i1 : (i : Int) < (hs.length : Int) := by omega
   obtain ⟨y, hy⟩ : ∃ y, hs[i]? = some y := ⟨_, List.getElem?_eq_getElem hlt⟩
   have hym : y ∈ hs := List.mem_of_getElem? hy
   have hrow : (rowsOf l hs).getD i [] = gIdx l l.length y := by
    unfold rowsOf
    rw [List.getD_eq_getElem?_getD, List.getElem?_map, hy]
    rfl
   obtain ⟨go, Ar, cr, eg, z0, hrr⟩ := list_at HL.out.1 i (by unfold rowsOf; rw [List.length_map]; exact hlt)
   subst eg
   rw [hrow] at z0 hrr
   obtain ⟨t, r, hgr, ht, hf0, hf1⟩ := group_of HGA.out.1 hym
   obtain ⟨m, hm⟩ : ∃ m, (gIdx l l.length y).length = m := ⟨_, rfl⟩
   have HMM : Hid ((gIdx l l.length y).length = m ∧ 0 < m ∧ m ≤ 100000) := zh ⟨hm, by rw [← hm, hgr]; simp, by rw [← hm]; exact Nat.le_trans (gIdx_len l l.length y) hl⟩
   rw [hm] at z0 hrr
   have m0 : (0 : Int) < (m : Int) := by have := HMM.out.2.1; omega
   have HRR := zh hrr
   obtain ⟨ae, eb, q0⟩ := Kd.at_int (show Kd.C (Kd.int .i64) wr Ar m (gIdx l l.length y) by have h9 := (Kd.R_reads' hrr).2.2; rw [hm] at h9; exact h9) (0 : Int) (by decide) m0
   subst eb
   have q9 : rd (gIdx l l.length y) (0 : Int) = (t : Int) := by rw [hgr]; rfl
   rw [q9, show (0 : Int).toNat = 0 from rfl, show ae.add 0 = ae from by cases ae; simp [Addr.add]] at q0
   have t0 : (0 : Int) ≤ (t : Int) := by omega
   have t1 : (t : Int) < (l.length : Int) := by omega
   obtain ⟨ad, ea, y0, y1, y2⟩ := at_T69 (Kd.C_below HR.out HL.out.2.2.1) (t : Int) t0 t1
   subst ea
   obtain ⟨X, hX⟩ : ∃ X, X = mvAt l t := ⟨_, rfl⟩
   have hX2 : rd_T69 l (t : Int) = X := by rw [hX]; rfl
   rw [Int.toNat_natCast, hX2] at y0 y1 y2
   obtain ⟨T, hT⟩ : ∃ T, T = amt l y := ⟨_, rfl⟩
   have HY : Hid (hs[i]? = some y ∧ y ∈ hs ∧ X.f0 = y.f0 ∧ X.f1 = y.f1 ∧ T = amt l y ∧ hs.take (i + 1) = hs.take i ++ [y]) := zh ⟨hy, hym, by rw [hX]; exact hf0, by rw [hX]; exact hf1, hT, by rw [List.take_add_one, hy]; rfl⟩
   have HTOT : Hid (∀ W, Below w.heap.size w W → Kd.C (Kd.int .i64) W (some ae) m (gIdx l l.length y) → Calls Try.prog 37 #[.slice (some ad) l.length c, .slice (some ae) m cr, .func (.func 38) #[] #[]] W (SumAt (f2s l (gIdx l l.length y)) W)) := zh (fun W hW hC => by
    rw [← hm] at hC ⊢
    exact tot_walk (some ad) c l (some ae) cr _ W (Kd.C_below HR.out hW) hC (fun k hk => group_lt hk) HI.out (by rw [hm]; exact HMM.out.2.1) (by rw [hm]; exact HMM.out.2.2))
   have HRC : Hid (∀ W, Below wr.heap.size wr W → Kd.C (Kd.int .i64) W (some ae) m (gIdx l l.length y)) := zh (fun W hW => by
    have h9 := (Kd.R_reads' HRR.out).2.2
    rw [hm] at h9
    exact Kd.C_below h9 hW)
   have HSM : Hid (sumL (f2s l (gIdx l l.length y)) = T) := zh (by rw [group_sum, hT])
   clear hy hym hrow hrr hgr hf0 hf1 hm hX hX2 q9 hT ht
   obtain ⟨F, hF⟩ : ∃ F, fits T = F := ⟨_, rfl⟩
   cases F with
   |false =>
    have HF := zh hF
    clear hF
    go_wp2_with (go_at_call 37; go_loud ((with_reducible refine (HTOT.out _ ?s1 ?s2).mono ?_); (case s1 => exact below_alloc HL.out.2.2.1 _); (case s2 => exact HRC.out _ (below_alloc (Below.refl _ _) _)); intro e w2 hsum; obtain ⟨rfl, hb⟩ := SumAt.no hsum HSM.out HF.out; have HBW := zh (below_step (below_alloc (Below.refl wr.heap.size wr) (.cells #[.int .i64 X.f0, .int .i64 X.f1, .int .i64 X.f2] 69)) hb); have HBX := zh (blk_below (heap_alloc_new wr (.cells #[.int .i64 X.f0, .int .i64 X.f1, .int .i64 X.f2] 69)) hb); have b0 := (blk_cell HBX.out 0).trans rfl; have b1 := (blk_cell HBX.out 1).trans rfl; have b2 := (blk_cell HBX.out 2).trans rfl; have f2 := blk_frozen HBX.out 2; clear hsum hb))
    go_ret2
    refine ⟨below_step HL.out.2.2.1 (below_set HBW.out (Nat.le_refl _)), .inl ⟨rfl, y, ?_, by rw [← HY.out.2.2.2.2.1]; exact HF.out⟩⟩
    obtain ⟨k, hk, e⟩ := HGA.out.1.mem y HY.out.2.1
    rw [e]
    exact mvAt_mem hk
   |true =>
    have HF := zh hF
    clear hF
    by_cases c0 : T = 0
    ·have d1 : (T == 0) = true := beq_iff_eq.2 c0
     have d2 : (T != 0) = false := by rw [bne, d1]; rfl
     have HC := zh c0
     clear c0
     go_wp2_with (go_at_call 37; go_loud ((with_reducible refine (HTOT.out _ ?s1 ?s2).mono ?_); (case s1 => exact below_alloc HL.out.2.2.1 _); (case s2 => exact HRC.out _ (below_alloc (Below.refl _ _) _)); intro e w2 hsum; obtain ⟨rfl, hb⟩ := SumAt.yes hsum HSM.out HF.out; have HBW := zh (below_step (below_alloc (Below.refl wr.heap.size wr) (.cells #[.int .i64 X.f0, .int .i64 X.f1, .int .i64 X.f2] 69)) hb); have HBX := zh (blk_below (heap_alloc_new wr (.cells #[.int .i64 X.f0, .int .i64 X.f1, .int .i64 X.f2] 69)) hb); have b0 := (blk_cell HBX.out 0).trans rfl; have b1 := (blk_cell HBX.out 1).trans rfl; have b2 := (blk_cell HBX.out 2).trans rfl; have f2 := blk_frozen HBX.out 2; clear hsum hb))
     have HB3 : Hid (Below wr.heap.size wr (w2.setCell ⟨wr.heap.size, 2, none⟩ (.int .i64 T))) := zh (below_set HBW.out (Nat.le_refl _))
     go_roundg (hs.length - i)
     case measure => omega
     case rel => exact ⟨i + 1, Ao, co, by omega, by rw [HY.out.2.2.2.2.2, mAll_snoc, if_neg (by rw [← HY.out.2.2.2.2.1]; exact not_not_intro HC.out), List.append_nil], by go_num, by omega, zh (by
      rw [HY.out.2.2.2.2.2, mAll_snoc, if_neg (by rw [← HY.out.2.2.2.2.1]; exact not_not_intro HC.out), List.append_nil]
      refine ⟨Kd.S_below HL.out.1 HB3.out, Kd.R_below HL.out.2.1 HB3.out, below_step HL.out.2.2.1 HB3.out, fun z hz => ?_⟩
      rcases List.mem_append.1 hz with hz | hz
      ·exact HL.out.2.2.2 z hz
      ·rw [List.mem_singleton.1 hz, ← HY.out.2.2.2.2.1]
       exact HF.out)⟩
    ·have d1 : (T == 0) = false := beq_eq_false_iff_ne.2 c0
     have d2 : (T != 0) = true := by rw [bne, d1]; rfl
     have HC := zh c0
     have HLN : Hid ((mAll l (hs.take i)).length ≤ 1000000) := zh (by have h1 := mAll_len l (hs.take i); have h2 := HGA.out.2; have h3 : (hs.take i).length ≤ hs.length := by { rw [List.length_take]; omega }; omega)
     clear c0
     go_wp2_with (first
      |(go_at_call 37; go_loud ((with_reducible refine (HTOT.out _ ?s1 ?s2).mono ?_); (case s1 => exact below_alloc HL.out.2.2.1 _); (case s2 => exact HRC.out _ (below_alloc (Below.refl _ _) _)); intro e w2 hsum; obtain ⟨rfl, hb⟩ := SumAt.yes hsum HSM.out HF.out; have HBW := zh (below_step (below_alloc (Below.refl wr.heap.size wr) (.cells #[.int .i64 X.f0, .int .i64 X.f1, .int .i64 X.f2] 69)) hb); have HBX := zh (blk_below (heap_alloc_new wr (.cells #[.int .i64 X.f0, .int .i64 X.f1, .int .i64 X.f2] 69)) hb); have b0 := (blk_cell HBX.out 0).trans rfl; have b1 := (blk_cell HBX.out 1).trans rfl; have b2 := (blk_cell HBX.out 2).trans rfl; have f2 := blk_frozen HBX.out 2; clear hsum hb))
      |((with_reducible refine gate_dst (N := 38) rfl ?_); go_loud ((refine gA (w0 := w) (base := w.heap.size) mvApp (mAll l (hs.take i)) (⟨X.f0, X.f1, T⟩ : Mv) ?aO ?aB ?aS ?aL ?_); (case aO => exact Kd.R_below HL.out.2.1 (below_set HBW.out (Nat.le_refl _))); (case aB => exact below_step HL.out.2.2.1 (below_set HBW.out (Nat.le_refl _))); (case aS => exact (below_step HL.out.2.2.1 (below_set HBW.out (Nat.le_refl _))).size); (case aL => exact HLN.out); intro A1 c1 w9 ho hb hg; have HFF := zh (And.intro ho (And.intro hb (Kd.S_over' (Kd.S_below HL.out.1 (below_set HBW.out (Nat.le_refl _))) (Kd.R_typed (Kd.R_below HL.out.2.1 (below_set HBW.out (Nat.le_refl _)))) (by decide) hg))); clear ho hb hg)))
     go_roundg (hs.length - i)
     case measure => omega
     case rel => exact ⟨i + 1, A1, c1, by omega, by rw [HY.out.2.2.2.2.2, mAll_snoc, if_pos (by rw [← HY.out.2.2.2.2.1]; exact HC.out), List.length_append]; rfl, by go_num, by omega, zh (by
      have e9 : (⟨X.f0, X.f1, T⟩ : Mv) = mOf l y := by
       unfold mOf
       rw [HY.out.2.2.1, HY.out.2.2.2.1, HY.out.2.2.2.2.1]
      have h9 := HFF.out.1
      rw [e9] at h9
      rw [HY.out.2.2.2.2.2, mAll_snoc, if_pos (by rw [← HY.out.2.2.2.2.1]; exact HC.out), List.length_append]
      refine ⟨HFF.out.2.2, h9, HFF.out.2.1, fun z hz => ?_⟩
      rcases List.mem_append.1 hz with hz | hz
      ·exact HL.out.2.2.2 z hz
      ·rw [List.mem_singleton.1 hz, ← HY.out.2.2.2.2.1]
       exact HF.out)⟩
  ·have e : i = hs.length := by omega
   subst e
   have hl2 := HL.out
   rw [List.take_length] at hl2 ⊢
   have HE := zh hl2
   have HLN : Hid ((mAll l hs).length ≤ 1000000) := zh (by have := mAll_len l hs; have := HGA.out.2; omega)
   clear hl2
   obtain ⟨m, hm⟩ : ∃ m, (mAll l hs).length = m := ⟨_, rfl⟩
   have HMM := zh hm
   have HSRT : Hid (Calls Try.prog 39 #[.slice Ao m co, .func (.func 40) #[] #[]] wr fun e w' => e = .returned (.tuple #[]) ∧ ∃ ys : List Mv, ys.Perm (mAll l hs) ∧ ys.Pairwise (fun a b => ¬ mlt b a) ∧ Kd.R kMv 69 w' w.heap.size (fun _ => True) (.slice Ao (mAll l hs).length co) ys ∧ Below w.heap.size w w') := zh (by
    rw [← hm]
    exact sortmv_walk HE.out.2.1 HE.out.2.2.1 HE.out.2.2.1.size HLN.out)
   rw [hm]
   clear hm
   go_wp2_with (go_at_call 39; go_loud ((with_reducible refine (HSRT.out).mono ?_); rintro e w3 ⟨rfl, ys, hp, hs1, ho, hb⟩; have HF := zh (And.intro hp (And.intro hs1 (And.intro ho hb))); clear hp hs1 ho hb))
   go_ret2
   have hlen : ys.length = m := by rw [HF.out.1.length_eq, HMM.out]
   refine ⟨HF.out.2.2.2, .inr ⟨ys, Ao, co, by rw [hlen]; rfl, ?_, merged_of HGA.out.1 HE.out.2.2.2 HF.out.1 HF.out.2.1, ?_⟩⟩
   ·have h9 := HF.out.2.2.1
    rw [HMM.out, ← hlen] at h9
    exact h9
   ·rw [hlen, ← HMM.out]
    exact Nat.le_trans (mAll_len l hs) HGA.out.2
end Go.Proofs.Ytdfagllncopmjaa.H
end
section
namespace Go.Proofs.Ytdfagllncopmjaa.H
open Go Go.RowKit Go.Proofs.Ytdfagllncopmjaa.PrintC Go.Proofs.Ytdfagllncopmjaa.PrintE Go.Proofs.YtdfagllncopmjaaW.PrintWords Go.Proofs.YtdfagllncopmjaaW.PrintLast Go.Proofs.YtdfagllncopmjaaW.PrintMore Go.Proofs.Ytdfagllncopmjaa.Flow
set_option linter.unusedVariables false
set_option linter.unusedSimpArgs false
def ToldAt (f : List Int) (mv : List Ent) (w : World) (e : Ending) (w' : World) : Prop := Below w.heap.size w w' ∧ ∃ (m : List Mv) (A1 : Option Addr) (c1 : Nat), e = .returned (.slice A1 m.length c1) ∧ Kd.R kMv 69 w' w.heap.size (fun _ => True) (.slice A1 m.length c1) m ∧ MgOf (toldL f mv) m ∧ m.length ≤ mv.length
theorem ranges_ne {W : World} {r b n cnt : Nat} {D : DataW Unit} {left : Lit → Bool} (h : W.ranges Try.prog 44 (plainElem Try.prog 3) b r n D left cnt) {g t : Nat} {cs : Array Value} (hg : W.heap[g]? = some (.cells cs t (0, 0))) : b ≠ g ∧ r ≠ g := by
 obtain ⟨es, clock, since, seen, c0, hb, _, _, _, hr, _⟩ := h
 constructor
 ·rintro rfl
  rw [hb] at hg
  cases hg
 ·rintro rfl
  rw [hr] at hg
  cases hg
theorem out_next {W W1 : World} {r base : Nat} {v : Value} {xs : List Mv} (h : Kd.R kMv 69 W base (fun _ => True) v xs) (hg : W.grownBy W1 (some r)) (hr : ∀ k cs t, W.heap[k]? = some (.cells cs t (0, 0)) → r ≠ k) : Kd.R kMv 69 W1 base (fun _ => True) v xs := by
 refine Kd.R_mono (Kd.R_step (Kd.R_tight rfl h) (fun k hk hlt => hg.block k hlt (fun e => ?_))) (fun _ _ => trivial)
 obtain ⟨cs, hcs⟩ := Kd.R_typed h k hk.symm
 injection e with e
 exact hr k _ _ hcs e.symm
theorem told_f2 {f : List Int} {mv : List Ent} (hb : ∀ x, x ∈ f → x ≤ 9223372036854775807) {m : Mv} (h : m ∈ toldL f mv) : 0 < m.f2 ∧ m.f2 ≤ 9223372036854775807 ∧ ∃ x, x ∈ mv ∧ m = ⟨x.1, x.2.1, rd f x.2.2⟩ := by
 unfold toldL at h
 obtain ⟨x, hx, h1⟩ := List.mem_flatMap.1 h
 unfold toldOf at h1
 split at h1
 ·rename_i h2
  have e := List.mem_singleton.1 h1
  subst e
  refine ⟨h2, ?_, x, hx, rfl⟩
  show rd f x.2.2 ≤ _
  unfold rd at h2 ⊢
  rw [List.getD_eq_getElem?_getD] at h2 ⊢
  cases c : f[x.2.2.toNat]? with
  |none => simp
  |some y => exact hb y (List.mem_of_getElem? c)
 ·cases h1
theorem len_le_of : ∀ {a b : List Ent}, a.Nodup → (∀ x, x ∈ a → x ∈ b) → a.length ≤ b.length
 |[], _, _, _ => Nat.zero_le _
 |x :: a, b, hn, hs => by
  obtain ⟨h1, h2⟩ := List.nodup_cons.1 hn
  have h3 := len_le_of (b := b.erase x) h2 (fun y hy => (List.mem_erase_of_ne (fun e => h1 (by rw [← e]; exact hy))).2 (hs y (List.mem_cons_of_mem _ hy)))
  have h4 := List.length_erase_of_mem (hs x (List.mem_cons_self ..))
  have h5 := List.length_pos_of_mem (hs x (List.mem_cons_self ..))
  rw [List.length_cons]
  omega
theorem amt_single : ∀ {l : List Mv}, l.Pairwise (fun a b => sameK a b = false) → ∀ {x : Mv}, x ∈ l → amt l x = x.f2
 |[], _, x, hx => nomatch hx
 |y :: l, hp, x, hx => by
  obtain ⟨h1, h2⟩ := List.pairwise_cons.1 hp
  have ns : ∀ {a b : Mv}, sameK a b = false → sameK b a = false := fun {a b} h => by
   cases c : sameK b a with
   |false => rfl
   |true =>
    rw [sameK_sym c] at h
    cases h
  by_cases e : sameK x y = true
  ·rcases List.mem_cons.1 hx with rfl | hx
   ·have h0 : l.filter (sameK x) = [] := List.filter_eq_nil_iff.2 (fun z hz => by rw [h1 z hz]; decide)
    unfold amt
    rw [List.filter_cons_of_pos e, h0]
    show x.f2 + 0 = x.f2
    omega
   ·rw [ns (h1 x hx)] at e
    cases e
  ·rcases List.mem_cons.1 hx with rfl | hx
   ·exact absurd (sameK_refl x) e
   ·have := amt_single h2 hx
    unfold amt at this ⊢
    rw [List.filter_cons_of_neg e]
    exact this
theorem told_apart {f : List Int} {mv : List Ent} (h : EntOk mv) : (toldL f mv).Pairwise (fun a b => sameK a b = false) := by
 unfold toldL
 rw [List.pairwise_flatMap]
 refine ⟨fun x _ => ?_, h.dst.imp (fun {x y} hxy a ha b hb => ?_)⟩
 ·unfold toldOf
  split
  ·exact List.pairwise_singleton _ _
  ·exact List.Pairwise.nil
 ·unfold toldOf at ha hb
  split at ha
  ·split at hb
   ·rw [List.mem_singleton.1 ha, List.mem_singleton.1 hb]
    cases c : sameK (⟨x.1, x.2.1, rd f x.2.2⟩ : Mv) ⟨y.1, y.2.1, rd f y.2.2⟩ with
    |false => rfl
    |true => exact absurd (sameK_iff.1 c) hxy
   ·cases hb
  ·cases ha
theorem told_moves {f : List Int} {mv dn : List Ent} (hm : EntOk mv) (hd : dn.Perm mv) (hb : ∀ x, x ∈ f → x ≤ 9223372036854775807) (hl : mv.length ≤ 100000) (A : Option Addr) (c : Nat) (w : World) (hr : Kd.C kMv w A (toldL f dn).length (toldL f dn)) :
  Calls Try.prog 21 #[.slice A (toldL f dn).length c] w fun e w' => ∃ (m : List Mv) (A1 : Option Addr) (c1 : Nat), e = .returned (.tuple #[.slice A1 m.length c1, .int .i64 0]) ∧ Below w.heap.size w w' ∧ Kd.R kMv 69 w' w.heap.size (fun _ => True) (.slice A1 m.length c1) m ∧ MgOf (toldL f mv) m ∧ m.length ≤ mv.length := by
 have hp := toldL_perm f hd
 have hlen : (toldL f dn).length ≤ mv.length := by rw [← hd.length_eq]; exact toldL_len f dn
 refine (moves_walk A c (toldL f dn) w hr (fun x hx => ?_) (fun x hx => ?_) (by omega)).mono ?_
 ·obtain ⟨-, -, y, hy, rfl⟩ := told_f2 hb (hp.mem_iff.1 hx)
  exact hm.wf hy
 ·obtain ⟨h1, h2, -⟩ := told_f2 hb (hp.mem_iff.1 hx)
  omega
 ·rintro e w' ⟨hbw, (⟨rfl, x, hx, hbad⟩ | ⟨m, A1, c1, rfl, hR, hmg, hml⟩)⟩
  ·have hx2 := hp.mem_iff.1 hx
   rw [amt_perm hp, amt_single (told_apart hm) hx2] at hbad
   obtain ⟨h1, h2, -⟩ := told_f2 hb hx2
   unfold fits at hbad
   rw [decide_eq_false_iff_not] at hbad
   omega
  ·exact ⟨m, A1, c1, rfl, hbw, hR, hmg.perm hp, by omega⟩
set_option maxHeartbeats 8000000 in
set_option maxRecDepth 100000 in
theorem told_walk (w0 : World) (gg : Nat) (N n : Int) (v : Value) (arcs : List Arc) (B : MB) (D : MD) (mv : List Ent) (Af : Option Addr) (cf : Nat) (f : List Int) (w : World) (h : GrI w0 gg N n v arcs B D w) (hD : D.m = putAll mv) (hm : EntOk mv) (hlm : mv.length ≤ 100000) (hf : Kd.C (Kd.int .i64) w Af f.length f) (hi : ∀ x, x ∈ mv → x.2.2 < f.length) (hb : ∀ x, x ∈ f → x ≤ 9223372036854775807) :
  Calls Try.prog 14 #[.pointer (some ⟨gg, 0, none⟩), .slice Af f.length cf] w (ToldAt f mv w) := by
 have HF := zh hf
 have HM := zh hm
 have HIX := zh (And.intro hi (And.intro hb hlm))
 have hmp := h.mm
 rw [hD] at hmp
 have HMP := zh hmp
 have y3 := pw_cell_below (below_alloc (Below.refl _ _) (.cells #[] 69)) h.cells.2.2.2.1
 have hu := Try.underlying44
 clear hf hm hi hb hlm hmp h hD
 go_enter Try.func14, Try.ntmps14
 go_wp2_with (at_range; refine wpList_range_own _ rfl _ 64 rfl 44 3 slotLaw Try.underlying64 _ B.m D.km (putAll mv) rfl (mapAs_eq HMP.out ((below_alloc (Below.refl w.heap.size w) (.cells #[] 69)).block _ HMP.out.lt)) ?_; intro w1 hrg hg hs; have hb1 : Below w.heap.size w w1 := pw_below_grown (below_alloc (Below.refl _ _) _) _ (by rw [alloc_size]; exact Nat.le_succ _) hg (fun k e => nomatch e); have HX : Hid (w1.ranges Try.prog 44 (plainElem Try.prog 3) B.m (w.heap.size + 1) D.km (putAll mv) (Maps.has (putAll mv)) (Maps.size (putAll mv)) ∧ Kd.R kMv 69 w1 w.heap.size (fun _ => True) (.slice (some ⟨w.heap.size, 0, none⟩) (toldL f []).length 0) (toldL f []) ∧ Below w.heap.size w w1) := zh ⟨(by have h9 := hrg; rw [alloc_size] at h9; exact h9), Kd.R_below (mv_empty (heap_alloc_new w _) (Nat.le_refl _)) ⟨hg.os, hg.tape, hg.output, hg.size, fun k hk => hg.block k hk (by simp)⟩, hb1⟩; clear hrg hg hs hb1; rw [alloc_size])
 go_frame
 clear y3
 go_loopg [5] (Maps.size (putAll mv)) (fun k ov W => ∃ (dn : List Ent) (left : Lit → Bool) (Ao : Option Addr) (co : Nat), ov = .slice Ao (toldL f dn).length co ∧ Hid (W.ranges Try.prog 44 (plainElem Try.prog 3) B.m (w.heap.size + 1) D.km (putAll mv) left k ∧ LeftI mv dn left ∧ dn.Nodup ∧ (∀ x, x ∈ dn → x ∈ mv) ∧ Kd.R kMv 69 W w.heap.size (fun _ => True) (.slice Ao (toldL f dn).length co) (toldL f dn) ∧ Below w.heap.size w W))
 case atStart => exact ⟨[], _, _, _, rfl, zh ⟨HX.out.1, LeftI.start HM.out, List.nodup_nil, fun x hx => by simp at hx, HX.out.2.1, HX.out.2.2⟩⟩
 case round =>
  obtain ⟨dn, left, Ao, co, rfl, HL⟩ := hrel
  clear HX
  go_wp2_with (first
   |(at_next; refine wpList_next_ranges wr rfl _ rfl 44 slotLaw (plainElem Try.prog 3) id id (fun key _ _ => ⟨key, rfl⟩) (fun v _ _ => ⟨v, rfl⟩) B.m (w.heap.size + 1) D.km (putAll mv) left gk rfl HL.out.1 ?gD ?gM; (case' gD => (intro hc0 hl0; have HDN := zh (HL.out.2.1.done HM.out HL.out.2.2.1 HL.out.2.2.2.1 hl0); clear hc0 hl0)); (case' gM => (intro key v kl y w9 cnt hkey hlk hv hat hrg hlt hg hsz hen; simp only [id_eq] at hkey hv hen ⊢; obtain ⟨x, hx, hxn, hxe⟩ := (HL.out.2.1 kl).1 hlk; subst hxe; have hk9 := slotLaw.inj hkey (slotKeyOf x.1 x.2.1 (HM.out.wf hx).1 (HM.out.wf hx).2); subst hk9; obtain ⟨c9, rfl, hy9, -⟩ := plainElem_int_inv Try.underlying3 hv; obtain rfl : c9 = x.2.2 := (by have h8 := hat (.map []); rw [(putAll_at HM.out hx (.map [])).1, hy9] at h8; injection h8 with h8; injection h8 with _ h8; exact h8.symm); have HX := zh (And.intro hx hxn); have HRG := zh (And.intro hrg (And.intro hlt (And.intro (LeftI.step HM.out HL.out.2.1 hx) (And.intro (out_next HL.out.2.2.2.2.1 hg (fun k cs t hk => (ranges_ne HL.out.1 hk).2)) (pw_below_grown HL.out.2.2.2.2.2 _ HL.out.2.2.2.2.2.size hg (fun k e => by injection e with e; omega)))))); obtain ⟨xa, xz, xi⟩ := x; simp only at hen ⊢; have hsm := HM.out.small _ hx; have hxl := HIX.out.1 _ hx; simp only at hsm hxl; have i0 : (0 : Int) ≤ xi := hsm.2.2.1; have i1 : xi < (f.length : Int) := hxl; obtain ⟨ae, ea, z0⟩ := Kd.at_int (Kd.C_below HF.out HRG.out.2.2.2.2) xi i0 i1; subst ea; have z1 := pw_cell_below (below_alloc (Below.refl _ _) (.cells #[.int .i64 xa, .int .i64 xz] 44)) z0; clear hx hxn hkey hlk hv hat hrg hlt hg hsz hy9 hsm hxl z0; obtain ⟨gv, hgv⟩ : ∃ gv, gv = rd f xi := ⟨_, rfl⟩; rw [← hgv] at z1; have HGV := zh hgv; clear hgv; by_cases c0 : 0 < gv)))
   |(go_at_call 21; go_loud ((with_reducible refine (told_moves HM.out HDN.out HIX.out.2.1 HIX.out.2.2 Ao co _ ?s1).mono ?_); (case s1 => exact (Kd.R_reads' HL.out.2.2.2.2.1).2.2); rintro e w3 ⟨m, A1, c1, rfl, hb, hR, hmg, hml⟩; have HF2 := zh (And.intro (below_step HL.out.2.2.2.2.2 hb) (And.intro (Kd.R_lower hR HL.out.2.2.2.2.2.size) (And.intro hmg hml))); clear hb hR hmg hml)))
  ·have hcc : (w9.alloc (.cells #[.int .i64 xa, .int .i64 xz] 44)).drew.cell? ⟨w9.heap.size, 0, none⟩ = some (.int .i64 xa) ∧ (w9.alloc (.cells #[.int .i64 xa, .int .i64 xz] 44)).drew.cell? ⟨w9.heap.size, 1, none⟩ = some (.int .i64 xz) ∧ (w9.alloc (.cells #[.int .i64 xa, .int .i64 xz] 44)).drew.cell? (ae.add xi.toNat) = some (.int .i64 gv) := ⟨by simp, by simp, z1⟩
   have hbb : Below w9.heap.size w9 (w9.alloc (.cells #[.int .i64 xa, .int .i64 xz] 44)).drew := below_drew (below_alloc (Below.refl _ _) _)
   have HB := zh (And.intro (Kd.R_below HRG.out.2.2.2.1 hbb) (And.intro (below_step HRG.out.2.2.2.2 hbb) (HRG.out.1.kept (row := none) ⟨hbb.os, hbb.tape, hbb.output, hbb.size, fun k hk _ => hbb.block k hk⟩ (by simp) (by simp))))
   have HLEN : Hid ((toldL f dn).length ≤ 1000000) := zh (by have h1 := toldL_len f dn; have h2 := HIX.out.2.2; have h3 : dn.length ≤ mv.length := len_le_of HL.out.2.2.1 HL.out.2.2.2.1; omega)
   clear hbb z1
   refine stepS (S := fun w' => w'.cell? ⟨w9.heap.size, 0, none⟩ = some (.int .i64 xa) ∧ w'.cell? ⟨w9.heap.size, 1, none⟩ = some (.int .i64 xz) ∧ w'.cell? (ae.add xi.toNat) = some (.int .i64 gv)) (ds := [11]) 13 (by kernel_rfl) rfl hcc (fun hHeld => ?_)
   generalize (w9.alloc (.cells #[.int .i64 xa, .int .i64 xz] 44)).drew = wd at HB hHeld ⊢
   clear hcc
   repeat (first | refine rP 13 ?_ | refine rT 13 hHeld ?_)
   refine sB 10 hHeld (fun hHeld => ?_)
   refine sA 11 mvApp (toldL f dn) ⟨xa, xz, gv⟩ HB.out.1 HB.out.2.1 HB.out.2.1.size HLEN.out (fun A1 c1 w8 ho hb hg => ?_)
   refine sN ?_
   refine rP 13 ?_
   refine done_ (by kernel_rfl) ?_
   have HF2 := zh (And.intro ho (And.intro hb (HB.out.2.2.kept hg (fun e => by
    obtain ⟨cs, hcs⟩ := Kd.R_typed HB.out.1 _ e.symm
    exact (ranges_ne HB.out.2.2 hcs).1 rfl) (fun e => by
    obtain ⟨cs, hcs⟩ := Kd.R_typed HB.out.1 _ e.symm
    exact (ranges_ne HB.out.2.2 hcs).2 rfl))))
   have HC0 := zh c0
   clear ho hb hg hHeld c0
   go_wp2
   go_roundg cnt
   case measure => exact HRG.out.2.1
   case rel =>
    have e9 : toldL f (dn ++ [(xa, xz, xi)]) = toldL f dn ++ [⟨xa, xz, gv⟩] := by
     rw [toldL_snoc]
     unfold toldOf
     simp only
     rw [← HGV.out, if_pos HC0.out]
    refine ⟨dn ++ [(xa, xz, xi)], _, A1, c1, by rw [e9, List.length_append]; rfl, zh ⟨HF2.out.2.2, HRG.out.2.2.1, ?_, ?_, by rw [e9, List.length_append]; exact HF2.out.1, HF2.out.2.1⟩⟩
    ·exact List.nodup_append.2 ⟨HL.out.2.2.1, List.pairwise_singleton _ _, fun a ha b hb => by rw [List.mem_singleton.1 hb]; exact fun e => HX.out.2 (by rw [← e]; exact ha)⟩
    ·intro y hy
     rcases List.mem_append.1 hy with hy | hy
     ·exact HL.out.2.2.2.1 y hy
     ·rw [List.mem_singleton.1 hy]
      exact HX.out.1
  ·have HC0 := zh c0
   clear c0
   go_roundg cnt
   case measure => exact HRG.out.2.1
   case rel =>
    have e9 : toldL f (dn ++ [(xa, xz, xi)]) = toldL f dn := by
     rw [toldL_snoc]
     unfold toldOf
     simp only
     rw [← HGV.out, if_neg (by have := HC0.out; omega), List.append_nil]
    have hbb : Below w9.heap.size w9 (w9.alloc (.cells #[.int .i64 xa, .int .i64 xz] 44)) := below_alloc (Below.refl _ _) _
    refine ⟨dn ++ [(xa, xz, xi)], _, Ao, co, by rw [e9], zh ⟨HRG.out.1.alloc _, HRG.out.2.2.1, ?_, ?_, by rw [e9]; exact Kd.R_below HRG.out.2.2.2.1 hbb, below_step HRG.out.2.2.2.2 hbb⟩⟩
    ·exact List.nodup_append.2 ⟨HL.out.2.2.1, List.pairwise_singleton _ _, fun a ha b hb => by rw [List.mem_singleton.1 hb]; exact fun e => HX.out.2 (by rw [← e]; exact ha)⟩
    ·intro y hy
     rcases List.mem_append.1 hy with hy | hy
     ·exact HL.out.2.2.2.1 y hy
     ·rw [List.mem_singleton.1 hy]
      exact HX.out.1
  ·go_ret
   exact ⟨HF2.out.1, m, A1, c1, rfl, HF2.out.2.1, HF2.out.2.2⟩
end Go.Proofs.Ytdfagllncopmjaa.H
end
section
namespace Go.Proofs.Ytdfagllncopmjaa.H
open Go Go.RowKit Go.Proofs.Ytdfagllncopmjaa.PrintC Go.Proofs.Ytdfagllncopmjaa.PrintE Go.Proofs.YtdfagllncopmjaaW.PrintWords Go.Proofs.YtdfagllncopmjaaW.PrintLast Go.Proofs.YtdfagllncopmjaaW.PrintMore
set_option linter.unusedVariables false
set_option linter.unusedSimpArgs false
def arcOf (l : List Arc) (x : Mv) : Arc := rd_T48 l x.f0
def stock1 (l : List Arc) (v z : Int) (x : Mv) : Int := (if (arcOf l x).f1 = v ∧ x.f1 + (arcOf l x).f3 ≤ z then x.f2 else 0) - (if (arcOf l x).f0 = v ∧ x.f1 ≤ z then x.f2 else 0)
def stockV (l : List Arc) (m : List Mv) (v z : Int) : Int := sumL (m.map (stock1 l v z))
end Go.Proofs.Ytdfagllncopmjaa.H
end
section
namespace Go.Proofs.Ytdfagllncopmjaa.H
open Go Go.RowKit Go.Proofs.Ytdfagllncopmjaa.PrintC Go.Proofs.Ytdfagllncopmjaa.PrintE Go.Proofs.YtdfagllncopmjaaW.PrintWords Go.Proofs.Ytdfagllncopmjaa.Flow
set_option linter.unusedVariables false
structure BOk (l : List Arc) (use : Arc → Bool) (keeps : Nat → Bool) (n h : Nat) (s : BSt) : Prop where
 sum : ∀ g : Nat → Int, sumN s.arcs.length g = sumL (s.mv.map fun x => g x.2.2.toNat) + sumL (s.wt.map fun x => g x.2.2.toNat)
 mv : ∀ x, x ∈ s.mv → ∃ j a k : Nat, x = ((j : Int), (a : Int), (k : Int)) ∧ j < l.length ∧ (a : Int) + (arcAt l j).f3 ≤ h ∧ use (arcAt l j) = true ∧ k < s.arcs.length ∧ arcAt s.arcs k = ⟨(a : Int) * n + (arcAt l j).f0, ((a : Int) + (arcAt l j).f3) * n + (arcAt l j).f1, (arcAt l j).f2, 0⟩
 wt : ∀ x, x ∈ s.wt → ∃ v a k : Nat, x = ((v : Int), (a : Int), (k : Int)) ∧ v < n ∧ a < h ∧ keeps v = true ∧ k < s.arcs.length ∧ arcAt s.arcs k = ⟨(a : Int) * n + v, ((a : Int) + 1) * n + v, 1099511627776, 0⟩
 apart : s.mv.Pairwise (fun x y => ¬ (x.1 = y.1 ∧ x.2.1 = y.2.1))
def BLt (a j : Nat) (s : BSt) : Prop := ∀ x, x ∈ s.mv → x.2.1 < a ∨ (x.2.1 = a ∧ x.1 < j)
section
variable {l : List Arc} {use : Arc → Bool} {keeps : Nat → Bool} {n h : Nat}
theorem bM_is {s : BSt} {a : Nat} (hs : BOk l use keeps n h s) (hl : BLt a 0 s) : ∀ j, j ≤ l.length → BOk l use keeps n h (bM l use n h a s j) ∧ BLt a j (bM l use n h a s j)
 |0, _ => ⟨hs, hl⟩
 |j + 1, hj => by
  obtain ⟨h1, h2⟩ := bM_is hs hl j (by omega)
  unfold bM
  simp only
  generalize bM l use n h a s j = t at h1 h2 ⊢
  split
  ·rename_i hc
   refine ⟨⟨fun g => ?_, fun x hx => ?_, fun x hx => ?_, ?_⟩, fun x hx => ?_⟩
   ·rw [List.length_append, List.map_append, List.length_singleton, sumN, h1.sum g]
    show _ = sumL ((t.mv.map fun x => g x.2.2.toNat) ++ [g t.arcs.length]) + sumL (t.wt.map fun x => g x.2.2.toNat)
    rw [sumL_snoc]
    omega
   ·rcases List.mem_append.1 hx with hx | hx
    ·obtain ⟨j', a', k, e, q1, q2, q3, q4, q5⟩ := h1.mv x hx
     exact ⟨j', a', k, e, q1, q2, q3, by rw [List.length_append]; omega, by rw [arcAt_append q4]; exact q5⟩
    ·exact ⟨j, a, t.arcs.length, List.mem_singleton.1 hx, hj, hc.1, hc.2, by simp, arcAt_last _ _⟩
   ·obtain ⟨v', a', k, e, q1, q2, q3, q4, q5⟩ := h1.wt x hx
    exact ⟨v', a', k, e, q1, q2, q3, by rw [List.length_append]; omega, by rw [arcAt_append q4]; exact q5⟩
   ·refine List.pairwise_append.2 ⟨h1.apart, List.pairwise_singleton _ _, fun x hx y hy => ?_⟩
    rw [List.mem_singleton.1 hy]
    rintro ⟨e1, e2⟩
    simp only at e1 e2
    rcases h2 x hx with q | q <;> omega
   ·rcases List.mem_append.1 hx with hx | hx
    ·rcases h2 x hx with q | q
     ·exact .inl q
     ·exact .inr ⟨q.1, by omega⟩
    ·rw [List.mem_singleton.1 hx]
     exact .inr ⟨rfl, by show (j : Int) < ((j + 1 : Nat) : Int); omega⟩
  ·refine ⟨h1, fun x hx => ?_⟩
   rcases h2 x hx with q | q
   ·exact .inl q
   ·exact .inr ⟨q.1, by omega⟩
theorem bW_is {s : BSt} {a : Nat} (hs : BOk l use keeps n h s) : ∀ v, v ≤ n → BOk l use keeps n h (bW keeps n h a s v) ∧ (bW keeps n h a s v).mv = s.mv
 |0, _ => ⟨hs, rfl⟩
 |v + 1, hv => by
  obtain ⟨h1, h2⟩ := bW_is (a := a) hs v (by omega)
  unfold bW
  simp only
  generalize bW keeps n h a s v = t at h1 h2 ⊢
  split
  ·rename_i hc
   refine ⟨⟨fun g => ?_, fun x hx => ?_, fun x hx => ?_, h1.apart⟩, h2⟩
   ·rw [List.length_append, List.map_append, List.length_singleton, sumN, h1.sum g]
    show _ = sumL (t.mv.map fun x => g x.2.2.toNat) + sumL ((t.wt.map fun x => g x.2.2.toNat) ++ [g t.arcs.length])
    rw [sumL_snoc]
    omega
   ·obtain ⟨v', a', k, e, q1, q2, q3, q4, q5⟩ := h1.mv x hx
    exact ⟨v', a', k, e, q1, q2, q3, by rw [List.length_append]; omega, by rw [arcAt_append q4]; exact q5⟩
   ·rcases List.mem_append.1 hx with hx | hx
    ·obtain ⟨v', a', k, e, q1, q2, q3, q4, q5⟩ := h1.wt x hx
     exact ⟨v', a', k, e, q1, q2, q3, by rw [List.length_append]; omega, by rw [arcAt_append q4]; exact q5⟩
    ·exact ⟨v, a, t.arcs.length, List.mem_singleton.1 hx, hv, by have := hc.1; omega, hc.2, by simp, arcAt_last _ _⟩
  ·exact ⟨h1, h2⟩
theorem bA_is : ∀ a, BOk l use keeps n h (bA l use keeps n h a) ∧ BLt a 0 (bA l use keeps n h a)
 |0 => ⟨⟨fun g => rfl, fun x hx => (nomatch hx), fun x hx => (nomatch hx), List.Pairwise.nil⟩, fun x hx => (nomatch hx)⟩
 |a + 1 => by
  obtain ⟨h1, h2⟩ := bA_is a
  obtain ⟨h3, h4⟩ := bM_is h1 h2 l.length (Nat.le_refl _)
  obtain ⟨h5, h6⟩ := bW_is (a := a) h3 n (Nat.le_refl _)
  unfold bA
  refine ⟨h5, fun x hx => ?_⟩
  rw [h6] at hx
  rcases h4 x hx with q | q
  ·exact .inl (by omega)
  ·exact .inl (by rw [q.1]; omega)
end
theorem sumN_split (g : Nat → Int) (a : Nat) : ∀ b : Nat, sumN (a + b) g = sumN a g + sumN b (fun i => g (a + i))
 |0 => by show sumN a g = sumN a g + 0; omega
 |b + 1 => by
  show sumN (a + b) g + g (a + b) = sumN a g + (sumN b (fun i => g (a + i)) + g (a + b))
  rw [sumN_split g a b]
  omega
def dsA (S : Int → Bool) (x : Arc) (y : Int) : Int := (if S x.f0 = true then y else 0) - (if S x.f1 = true then y else 0)
theorem cross_ds (arcs : List Arc) (f : Nat → Int) (S : Int → Bool) : cross arcs.length (frOf arcs) (toOf arcs) f S = sumN arcs.length (fun i => dsA S (arcAt arcs i) (f i)) := by
 unfold cross
 refine sumN_congr _ (fun i _ => ?_)
 unfold dsA frOf toOf
 cases S (arcAt arcs i).f0 <;> cases S (arcAt arcs i).f1 <;> simp
theorem cross_zero {M : Nat} {arcs : List Arc} (he : Flow.Ends arcs.length (frOf arcs) (toOf arcs) M) {s t : Int} {f : Nat → Int} (hb : Bal arcs.length (frOf arcs) (toOf arcs) M s t f) {S : Int → Bool} (h1 : S s = false) (h2 : S t = false) : sumN arcs.length (fun i => dsA S (arcAt arcs i) (f i)) = 0 := by
 rw [← cross_ds, ← cross_eq he]
 refine sumN_zero M (fun v hv => ?_)
 split
 ·rename_i hS
  exact hb v hv (fun e => by rw [e, h1] at hS; cases hS) (fun e => by rw [e, h2] at hS; cases hS)
 ·rfl
def upS (n : Nat) (v z : Int) : Int → Bool := fun u => decide (u % n = v ∧ u / n ≤ z)
theorem upS_at {n : Nat} {v z a c : Int} (h0 : 0 ≤ c) (h1 : c < n) : upS n v z (a * n + c) = decide (c = v ∧ a ≤ z) := by
 unfold upS
 have hn : (n : Int) ≠ 0 := by omega
 rw [Int.add_comm, Int.add_mul_emod_self_right, Int.add_mul_ediv_right _ _ hn, Int.emod_eq_of_lt h0 h1, Int.ediv_eq_zero_of_lt h0 h1, Int.zero_add]
theorem upS_end {n h : Nat} (hn : 0 < n) {v z : Int} (hz : z ≤ h) (d : Int) (hd : 0 ≤ d) : upS n v z (((h + 1) * n : Nat) + d) = false := by
 unfold upS
 rw [decide_eq_false_iff_not]
 rintro ⟨-, h2⟩
 have h3 : ((h + 1 : Nat) : Int) ≤ ((((h + 1) * n : Nat) : Int) + d) / n := by
  rw [Int.le_ediv_iff_mul_le (by omega), Int.natCast_mul]
  omega
 omega
def waitF (wt : List Ent) (f : Nat → Int) (v z : Int) : Int := sumL (wt.map fun x => if x.1 = v ∧ x.2.1 = z then f x.2.2.toNat else 0)
def stockF (l : List Arc) (mv : List Ent) (f : Nat → Int) (v z : Int) : Int := sumL (mv.map fun x => stock1 l v z ⟨x.1, x.2.1, f x.2.2.toNat⟩)
theorem sumE_congr : ∀ {m : List Ent} {f g : Ent → Int}, (∀ x, x ∈ m → f x = g x) → sumL (m.map f) = sumL (m.map g) := fun {m f g} h => by rw [List.map_congr_left h]
theorem sumE_nonneg : ∀ {m : List Ent} {f : Ent → Int}, (∀ x, x ∈ m → 0 ≤ f x) → 0 ≤ sumL (m.map f)
 |[], _, _ => Int.le_refl 0
 |x :: m, f, h => by
  have h1 := h x (List.mem_cons_self ..)
  have h2 := sumE_nonneg (m := m) (f := f) (fun y hy => h y (List.mem_cons_of_mem _ hy))
  rw [List.map_cons, sumL]
  omega
theorem sumE_zero {m : List Ent} {f : Ent → Int} (h : ∀ x, x ∈ m → f x = 0) : sumL (m.map f) = 0 := by
 rw [sumE_congr h]
 induction m with
 |nil => rfl
 |cons x m ih => rw [List.map_cons, sumL, ih (fun y hy => h y (List.mem_cons_of_mem _ hy))]; rfl
theorem sumE_neg : ∀ (m : List Ent) (f : Ent → Int), sumL (m.map (fun x => - f x)) = - sumL (m.map f)
 |[], _ => rfl
 |x :: m, f => by
  rw [List.map_cons, List.map_cons, sumL, sumL, sumE_neg m f]
  omega
theorem stock_is {l : List Arc} {use : Arc → Bool} {keeps : Nat → Bool} {n h M : Nat} {s : BSt} {R : List Arc} {f : Nat → Int} (hs : BOk l use keeps n h s) (hl : ∀ j : Nat, j < l.length → (0 ≤ (arcAt l j).f0 ∧ (arcAt l j).f0 < n) ∧ (0 ≤ (arcAt l j).f1 ∧ (arcAt l j).f1 < n)) (hn : 0 < n)
  (he : Flow.Ends (s.arcs ++ R).length (frOf (s.arcs ++ R)) (toOf (s.arcs ++ R)) M) (hb : Bal (s.arcs ++ R).length (frOf (s.arcs ++ R)) (toOf (s.arcs ++ R)) M ((h + 1) * n : Nat) (((h + 1) * n : Nat) + 1) f) {v z : Int} (hv : 0 ≤ v ∧ v < n) (hz : z ≤ h) :
  stockF l s.mv f v z = waitF s.wt f v z + sumN R.length (fun i => dsA (upS n v z) (arcAt R i) (f (s.arcs.length + i))) := by
 have h1 := cross_zero he hb (S := upS n v z) (by have := upS_end (v := v) hn hz 0 (Int.le_refl 0); rwa [Int.add_zero] at this) (upS_end hn hz 1 (by decide))
 rw [List.length_append, sumN_split, hs.sum] at h1
 have e1 : sumL (s.mv.map fun x => dsA (upS n v z) (arcAt (s.arcs ++ R) x.2.2.toNat) (f x.2.2.toNat)) = - stockF l s.mv f v z := by
  unfold stockF
  rw [← sumE_neg]
  refine sumE_congr (fun x hx => ?_)
  obtain ⟨j, a, k, rfl, q1, q2, q3, q4, q5⟩ := hs.mv x hx
  simp only [Int.toNat_natCast]
  rw [arcAt_append q4, q5]
  unfold dsA stock1
  obtain ⟨g1, g2⟩ := hl j q1
  simp only
  rw [upS_at g1.1 g1.2, upS_at g2.1 g2.2]
  show _ = -((if (arcAt l j).f1 = v ∧ (a : Int) + (arcAt l j).f3 ≤ z then f k else 0) - (if (arcAt l j).f0 = v ∧ (a : Int) ≤ z then f k else 0))
  simp only [decide_eq_true_eq]
  omega
 have e2 : sumL (s.wt.map fun x => dsA (upS n v z) (arcAt (s.arcs ++ R) x.2.2.toNat) (f x.2.2.toNat)) = waitF s.wt f v z := by
  unfold waitF
  refine sumE_congr (fun x hx => ?_)
  obtain ⟨u, a, k, rfl, q1, q2, q3, q4, q5⟩ := hs.wt x hx
  simp only [Int.toNat_natCast]
  rw [arcAt_append q4, q5]
  unfold dsA
  simp only
  rw [upS_at (by omega) (by omega), upS_at (by omega) (by omega)]
  simp only [decide_eq_true_eq]
  by_cases c1 : (u : Int) = v
  ·by_cases c2 : (a : Int) ≤ z
   ·by_cases c3 : (a : Int) + 1 ≤ z
    ·rw [if_pos ⟨c1, c2⟩, if_pos ⟨c1, c3⟩, if_neg (by omega)]
     omega
    ·rw [if_pos ⟨c1, c2⟩, if_neg (by omega), if_pos (by omega)]
     omega
   ·rw [if_neg (by omega), if_neg (by omega), if_neg (by omega)]
    omega
  ·rw [if_neg (by omega), if_neg (by omega), if_neg (by omega)]
   omega
 have e3 : sumN R.length (fun i => dsA (upS n v z) (arcAt (s.arcs ++ R) (s.arcs.length + i)) (f (s.arcs.length + i))) = sumN R.length (fun i => dsA (upS n v z) (arcAt R i) (f (s.arcs.length + i))) := by
  refine sumN_congr _ (fun i hi => ?_)
  have : arcAt (s.arcs ++ R) (s.arcs.length + i) = arcAt R i := by
   unfold arcAt rd_T48
   rw [Int.toNat_natCast, Int.toNat_natCast, List.getD_eq_getElem?_getD, List.getD_eq_getElem?_getD, List.getElem?_append_right (by omega), Nat.add_sub_cancel_left]
  rw [this]
 rw [e1, e2, e3] at h1
 omega
theorem told_perm {f : List Int} {mv : List Ent} {m : List Mv} (hm : EntOk mv) (hb : ∀ x, x ∈ f → x ≤ 9223372036854775807) (h : MgOf (toldL f mv) m) : m.Perm (toldL f mv) := by
 have ha := told_apart (f := f) hm
 have hself : ∀ {a : List Mv}, a.Pairwise (fun x y => sameK x y = false) → a.Nodup := fun {a} hp => hp.imp (fun {x y} hxy e => by rw [e, sameK_refl] at hxy; cases hxy)
 have hmd : m.Nodup := h.srt.imp (fun {x y} hxy e => by rw [e] at hxy; unfold mlt at hxy; omega)
 have heq : ∀ {x y : Mv}, sameK x y = true → x.f2 = y.f2 → x = y := fun {x y} e e2 => by
  obtain ⟨a, b⟩ := sameK_iff.1 e
  cases x
  cases y
  simp only at a b e2
  rw [a, b, e2]
 refine (List.perm_ext_iff_of_nodup hmd (hself ha)).2 (fun y => ⟨fun hy => ?_, fun hy => ?_⟩)
 ·obtain ⟨h1, -, x, hx, h3⟩ := h.am y hy
  rw [List.take_length] at hx
  rw [← amt_same h3, amt_single ha hx] at h1
  rw [← heq h3 h1.symm]
  exact hx
 ·obtain ⟨h1, h2⟩ := h.all y (by rw [List.take_length]; exact hy)
  rw [amt_single ha hy] at h2
  obtain ⟨w, hw, h3⟩ := h2 (by have := (told_f2 hb hy).1; omega)
  obtain ⟨h4, -, -⟩ := h.am w hw
  rw [← amt_same h3, amt_single ha hy] at h4
  rw [heq h3 h4.symm]
  exact hw
theorem stockV_perm {l : List Arc} {a b : List Mv} (h : a.Perm b) (v z : Int) : stockV l a v z = stockV l b v z := sumL_perm (h.map _)
theorem stockV_told {l : List Arc} {f : List Int} (v z : Int) : ∀ {mv : List Ent}, (∀ x, x ∈ mv → 0 ≤ x.2.2 ∧ 0 ≤ rd f x.2.2) → stockV l (toldL f mv) v z = stockF l mv (dOf f) v z
 |[], _ => rfl
 |x :: mv, h => by
  have h1 := stockV_told (l := l) (f := f) v z (mv := mv) (fun y hy => h y (List.mem_cons_of_mem _ hy))
  obtain ⟨h2, h3⟩ := h x (List.mem_cons_self ..)
  have e : dOf f x.2.2.toNat = rd f x.2.2 := by
   unfold dOf
   rw [Int.toNat_of_nonneg h2]
  unfold stockV stockF toldL at h1 ⊢
  rw [List.flatMap_cons, List.map_append, List.map_cons, sumL_append, sumL, h1, e]
  unfold toldOf
  by_cases c : 0 < rd f x.2.2
  ·rw [if_pos c]
   show (stock1 l v z _ + 0) + _ = _
   omega
  ·rw [if_neg c, show rd f x.2.2 = 0 by omega]
   show (0 : Int) + _ = stock1 l v z ⟨x.1, x.2.1, 0⟩ + _
   unfold stock1
   simp
end Go.Proofs.Ytdfagllncopmjaa.H
end
section
namespace Go.Proofs.Ytdfagllncopmjaa.H
open Go Go.RowKit Go.Proofs.Ytdfagllncopmjaa.PrintC Go.Proofs.Ytdfagllncopmjaa.PrintE Go.Proofs.YtdfagllncopmjaaW.PrintWords Go.Proofs.YtdfagllncopmjaaW.PrintLast Go.Proofs.YtdfagllncopmjaaW.PrintMore Go.Proofs.Ytdfagllncopmjaa.Flow
set_option linter.unusedVariables false
set_option linter.unusedSimpArgs false
theorem arcAt_right (a b : List Arc) (i : Nat) : arcAt (a ++ b) (a.length + i) = arcAt b i := by
 unfold arcAt rd_T48
 rw [Int.toNat_natCast, Int.toNat_natCast, List.getD_eq_getElem?_getD, List.getD_eq_getElem?_getD, List.getElem?_append_right (by omega), Nat.add_sub_cancel_left]
theorem waitF_zero {wt : List Ent} {f : Nat → Int} {v z : Int} (h : ∀ x, x ∈ wt → ¬ (x.1 = v ∧ x.2.1 = z)) : waitF wt f v z = 0 := sumE_zero (fun x hx => if_neg (h x hx))
theorem waitF_pos {wt : List Ent} {f : Nat → Int} {v z : Int} (h : ∀ x, x ∈ wt → 0 ≤ f x.2.2.toNat) : 0 ≤ waitF wt f v z := sumE_nonneg (fun x hx => by
 split
 ·exact h x hx
 ·exact Int.le_refl 0)
theorem MgOf.eq {L a b : List Mv} (ha : MgOf L a) (hb : MgOf L b) : a = b := by
 have key : ∀ {a b : List Mv}, MgOf L a → MgOf L b → ∀ y, y ∈ a → y ∈ b := fun {a b} ha hb y hy => by
  obtain ⟨h1, h2, x, hx, h3⟩ := ha.am y hy
  obtain ⟨-, h4⟩ := hb.all x hx
  rw [← amt_same (sameK_sym h3)] at h4
  obtain ⟨w, hw, h5⟩ := h4 (by rw [← h1]; exact h2)
  obtain ⟨h6, -, -⟩ := hb.am w hw
  have h7 := sameK_trans (sameK_sym h3) h5
  rw [← amt_same h7, ← h1] at h6
  obtain ⟨e0, e1⟩ := sameK_iff.1 h7
  have : y = w := by
   cases y
   cases w
   simp only at e0 e1 h6
   rw [e0, e1, h6]
  rw [this]
  exact hw
 have nd : ∀ {a : List Mv}, MgOf L a → a.Nodup := fun {a} h => h.srt.imp (fun {x y} hxy e => by rw [e] at hxy; unfold mlt at hxy; omega)
 have hp : a.Perm b := (List.perm_ext_iff_of_nodup (nd ha) (nd hb)).2 (fun y => ⟨key ha hb y, key hb ha y⟩)
 exact hp.eq_of_pairwise (fun x y _ _ h1 h2 => by unfold mlt at h1 h2; omega) ha.srt hb.srt
theorem MgOf.self {L m : List Mv} (h : MgOf L m) : MgOf m m := by
 have hd : m.Pairwise (fun a b => sameK a b = false) := h.srt.imp (fun {x y} hxy => by
  cases c : sameK x y with
  |false => rfl
  |true =>
   obtain ⟨e0, e1⟩ := sameK_iff.1 c
   unfold mlt at hxy
   omega)
 refine ⟨h.srt, fun y hy => ?_, fun x hx => ?_⟩
 ·obtain ⟨-, h2, -⟩ := h.am y hy
  exact ⟨(amt_single hd hy).symm, h2, y, by rw [List.take_length]; exact hy, sameK_refl y⟩
 ·rw [List.take_length] at hx
  obtain ⟨h1, h2, z, hz, h3⟩ := h.am x hx
  rw [amt_single hd hx]
  refine ⟨?_, fun _ => ⟨x, hx, sameK_refl x⟩⟩
  have := (h.all z hz).1
  rw [amt_same h3, ← h1] at this
  exact this
end Go.Proofs.Ytdfagllncopmjaa.H
end
section
namespace Go.Proofs.Ytdfagllncopmjaa.H
open Go Go.RowKit Go.Proofs.Ytdfagllncopmjaa.PrintC Go.Proofs.YtdfagllncopmjaaW.PrintWords Go.Proofs.YtdfagllncopmjaaW.PrintLast Go.Proofs.YtdfagllncopmjaaW.PrintMore Go.Proofs.Ytdfagllncopmjaa.Flow
set_option linter.unusedVariables false
set_option linter.unusedSimpArgs false
def cutA (S : Int → Bool) (x : Arc) : Int := if S x.f0 = true ∧ S x.f1 = false then x.f2 else 0
def cutL (S : Int → Bool) : List Arc → Int
 |[] => 0
 |x :: l => cutA S x + cutL S l
theorem cutL_append (S : Int → Bool) : ∀ a b : List Arc, cutL S (a ++ b) = cutL S a + cutL S b
 |[], b => by show cutL S b = 0 + cutL S b; omega
 |x :: a, b => by
  show cutA S x + cutL S (a ++ b) = cutA S x + cutL S a + cutL S b
  rw [cutL_append S a b]
  omega
theorem cutL_snoc (S : Int → Bool) (a : List Arc) (x : Arc) : cutL S (a ++ [x]) = cutL S a + cutA S x := by
 rw [cutL_append]
 show cutL S a + (cutA S x + 0) = _
 omega
theorem takes_cutL (S : Int → Bool) : ∀ (m : Nat) (arcs : List Arc), m = arcs.length → takes arcs.length (frOf arcs) (toOf arcs) (capOf arcs) S = cutL S arcs := by
 have key : ∀ (arcs : List Arc) (m : Nat), m ≤ arcs.length → sumN m (fun i => if S (frOf arcs i) = true ∧ S (toOf arcs i) = false then capOf arcs i else 0) = cutL S (arcs.take m) := by
  intro arcs m
  induction m with
  |zero => intro _; rw [List.take_zero]; rfl
  |succ m ih =>
   intro h
   have h1 : arcs.take (m + 1) = arcs.take m ++ [arcAt arcs m] := by
    rw [List.take_add_one, List.getElem?_eq_getElem (by omega)]
    unfold arcAt rd_T48
    rw [Int.toNat_natCast, List.getD_eq_getElem?_getD, List.getElem?_eq_getElem (by omega)]
    rfl
   rw [h1, cutL_snoc, sumN, ih (by omega)]
   rfl
 intro m arcs _
 have := key arcs arcs.length (Nat.le_refl _)
 rw [List.take_length] at this
 exact this
def mS (l : List Arc) (use : Arc → Bool) (n h : Int) (S : Int → Bool) (a : Nat) (j : Nat) : Int :=
 let x := arcAt l j
 if (a : Int) + x.f3 ≤ h ∧ use x = true then (if S ((a : Int) * n + x.f0) = true ∧ S (((a : Int) + x.f3) * n + x.f1) = false then x.f2 else 0) else 0
def wS (keeps : Nat → Bool) (n h : Int) (S : Int → Bool) (a : Nat) (v : Nat) : Int :=
 if (a : Int) < h ∧ keeps v = true then (if S ((a : Int) * n + v) = true ∧ S (((a : Int) + 1) * n + v) = false then 1099511627776 else 0) else 0
theorem cut_bM (l : List Arc) (use : Arc → Bool) (n h : Int) (S : Int → Bool) (a : Nat) (s : BSt) : ∀ j, cutL S (bM l use n h a s j).arcs = cutL S s.arcs + sumN j (mS l use n h S a)
 |0 => by show cutL S s.arcs = cutL S s.arcs + 0; omega
 |j + 1 => by
  have ih := cut_bM l use n h S a s j
  rw [sumN]
  unfold bM mS
  simp only
  by_cases hc : (a : Int) + (arcAt l j).f3 ≤ h ∧ use (arcAt l j) = true
  ·rw [if_pos hc, if_pos hc, cutL_snoc, ih]
   unfold cutA
   simp only
   unfold mS
   simp only
   omega
  ·rw [if_neg hc, if_neg hc, ih]
   unfold mS
   simp only
   omega
theorem cut_bW (keeps : Nat → Bool) (n h : Int) (S : Int → Bool) (a : Nat) (s : BSt) : ∀ v, cutL S (bW keeps n h a s v).arcs = cutL S s.arcs + sumN v (wS keeps n h S a)
 |0 => by show cutL S s.arcs = cutL S s.arcs + 0; omega
 |v + 1 => by
  have ih := cut_bW keeps n h S a s v
  rw [sumN]
  unfold bW wS
  simp only
  by_cases hc : (a : Int) < h ∧ keeps v = true
  ·rw [if_pos hc, if_pos hc, cutL_snoc, ih]
   unfold cutA
   simp only
   unfold wS
   omega
  ·rw [if_neg hc, if_neg hc, ih]
   unfold wS
   omega
theorem cut_bA (l : List Arc) (use : Arc → Bool) (keeps : Nat → Bool) (n h : Nat) (S : Int → Bool) : ∀ A, cutL S (bA l use keeps n h A).arcs = sumN A (fun a => sumN l.length (mS l use n h S a) + sumN n (wS keeps n h S a))
 |0 => rfl
 |A + 1 => by
  rw [bA, cut_bW, cut_bM, cut_bA l use keeps n h S A, sumN]
  omega
end Go.Proofs.Ytdfagllncopmjaa.H
end
section
namespace Go.Proofs.Ytdfagllncopmjaa.H
open Go Go.RowKit Go.Proofs.Ytdfagllncopmjaa.PrintC Go.Proofs.Ytdfagllncopmjaa.PrintE Go.Proofs.YtdfagllncopmjaaW.PrintWords Go.Proofs.YtdfagllncopmjaaW.PrintLast Go.Proofs.YtdfagllncopmjaaW.PrintMore
set_option linter.unusedVariables false
set_option linter.unusedSimpArgs false
def moveOk (l : List Arc) (h s t : Int) (x : Mv) : Bool := decide (0 ≤ x.f0 ∧ x.f0 < l.length ∧ 0 ≤ x.f1 ∧ x.f1 ≤ h ∧ x.f1 + (arcOf l x).f3 ≤ h ∧ 0 ≤ x.f2 ∧ x.f2 ≤ (arcOf l x).f2 ∧ (arcOf l x).f1 ≠ s ∧ (arcOf l x).f0 ≠ t)
end Go.Proofs.Ytdfagllncopmjaa.H
end
section
namespace Go.Proofs.Ytdfagllncopmjaa.H
open Go Go.RowKit Go.Proofs.Ytdfagllncopmjaa.PrintC Go.Proofs.Ytdfagllncopmjaa.PrintE Go.Proofs.YtdfagllncopmjaaW.PrintWords Go.Proofs.Ytdfagllncopmjaa.Flow
set_option linter.unusedVariables false
def BadT (h : Nat) (b : Bool) (s t : Nat) (l : List Arc) (m : List Mv) (v z : Nat) : Prop := v ≠ s ∧ v ≠ t ∧ (stockV l m v z < 0 ∨ (0 < stockV l m v z ∧ (b = false ∨ z = h)))
theorem arcAt_fArcs {N n s : Nat} : ∀ {k i : Nat}, i < k → arcAt (fArcs N n s k) i = ⟨(N : Int), (i : Int) * n + s, 1099511627776, 0⟩
 |0, i, h => absurd h (Nat.not_lt_zero _)
 |k + 1, i, h => by
  rw [fArcs]
  by_cases e : i = k
  ·subst e
   have := arcAt_last (fArcs N n s i) ⟨(N : Int), (i : Int) * n + s, 1099511627776, 0⟩
   rw [fArcs_len] at this
   exact this
  ·rw [arcAt_append (by rw [fArcs_len]; omega)]
   exact arcAt_fArcs (by omega)
theorem arcAt_lArcs {N1 n t : Nat} : ∀ {k i : Nat}, i < k → arcAt (lArcs N1 n t k) i = ⟨(i : Int) * n + t, (N1 : Int), 1099511627776, 0⟩
 |0, i, h => absurd h (Nat.not_lt_zero _)
 |k + 1, i, h => by
  rw [lArcs]
  by_cases e : i = k
  ·subst e
   have := arcAt_last (lArcs N1 n t i) ⟨(i : Int) * n + t, (N1 : Int), 1099511627776, 0⟩
   rw [lArcs_len] at this
   exact this
  ·rw [arcAt_append (by rw [lArcs_len]; omega)]
   exact arcAt_lArcs (by omega)
section
variable {n h s t : Nat} {b : Bool} {l : List Arc} {F : List Int} {S : Int → Bool} {L m : List Mv}
abbrev tfB (n h s t : Nat) (b : Bool) (l : List Arc) : BSt := bA l (useT s t) (keepsT b s t) n h (h + 1)
abbrev tfA (n h s t : Nat) (b : Bool) (l : List Arc) : List Arc := tfArcs l b n h s t ((h + 1) * n) ((h + 1) * n + 1)
theorem tfB_ok (n h s t : Nat) (b : Bool) (l : List Arc) : BOk l (useT s t) (keepsT b s t) n h (tfB n h s t b l) := (bA_is (h + 1)).1
theorem tfA_len (n h s t : Nat) (b : Bool) (l : List Arc) : (tfA n h s t b l).length = (tfB n h s t b l).arcs.length + (h + 1) + (h + 1) := tfArcs_len b n h s t ((h + 1) * n) ((h + 1) * n + 1) l
theorem tf_net (o : TfOk n h s t l) (b : Bool) : NetOk ((h + 1) * n + 2) (tfA n h s t b l) := (o.netOk b).1
theorem tf_ends (o : TfOk n h s t l) (b : Bool) : Flow.Ends (tfA n h s t b l).length (frOf (tfA n h s t b l)) (toOf (tfA n h s t b l)) ((h + 1) * n + 2) := fun i hi => (tf_net o b).ends (i : Int) (by omega) (by omega)
theorem tfEnt (o : TfOk n h s t l) (b : Bool) : EntOk (tfB n h s t b l).mv ∧ (tfB n h s t b l).mv.length ≤ 100000 := by
 have hb := tfB_ok n h s t b l
 have hle : (tfB n h s t b l).le ((h + 1) * (l.length + n)) := bA_le l (useT s t) (keepsT b s t) n h (h + 1)
 have h1 := o.net.hn
 have h2 := o.net.hl
 rw [Nat.mul_add] at hle
 refine ⟨⟨hb.apart, fun x hx => ?_⟩, by have := hle.2.1; omega⟩
 obtain ⟨j, t', k, rfl, q1, q2, -, q4, -⟩ := hb.mv x hx
 have h3 := (o.net.time j q1).1
 have h4 := o.hh
 have h5 := hle.1
 have h6 : l.length ≤ (h + 1) * l.length := Nat.le_mul_of_pos_left _ (Nat.succ_pos h)
 simp only
 omega
theorem tfF_in (o : TfOk n h s t l) (hF : FlowOk (tfA n h s t b l) F) : ∀ x, x ∈ (tfB n h s t b l).mv → x.2.2 < F.length := fun x hx => by
 obtain ⟨j, t', k, rfl, -, -, -, q4, -⟩ := (tfB_ok n h s t b l).mv x hx
 have h1 := hF.len
 rw [tfA_len] at h1
 show (k : Int) < F.length
 omega
theorem tfF_bd (o : TfOk n h s t l) (hF : FlowOk (tfA n h s t b l) F) : ∀ x, x ∈ F → x ≤ 9223372036854775807 := fun x hx => by
 obtain ⟨i, hi, rfl⟩ := List.getElem_of_mem hx
 have h0 := hF.len
 have h1 := hF.wit (i : Int) (by omega) (by omega)
 have h2 := (tf_net o b).caps (i : Int) (by omega) (by omega)
 have e : rd F (i : Int) = F[i] := by
  unfold rd
  rw [Int.toNat_natCast, List.getD_eq_getElem?_getD, List.getElem?_eq_getElem hi]
  rfl
 rw [e] at h1
 exact Int.le_trans h1.2 (Int.le_trans h2 (by decide))
theorem tfA_is (n h s t : Nat) (b : Bool) (l : List Arc) : tfA n h s t b l = (tfB n h s t b l).arcs ++ (fArcs ((h + 1) * n) n s (h + 1) ++ lArcs ((h + 1) * n + 1) n t (h + 1)) := by
 show tfArcs l b n h s t ((h + 1) * n) ((h + 1) * n + 1) = _
 unfold tfArcs
 rw [List.append_assoc]
theorem tfR (N N1 n h s t : Nat) (S : Int → Bool) (y : Nat → Int) : sumN (fArcs N n s (h + 1) ++ lArcs N1 n t (h + 1)).length (fun i => dsA S (arcAt (fArcs N n s (h + 1) ++ lArcs N1 n t (h + 1)) i) (y i)) =
  sumN (h + 1) (fun i => dsA S ⟨(N : Int), (i : Int) * n + s, 1099511627776, 0⟩ (y i)) + sumN (h + 1) (fun i => dsA S ⟨(i : Int) * n + t, (N1 : Int), 1099511627776, 0⟩ (y (h + 1 + i))) := by
 rw [List.length_append, fArcs_len, lArcs_len, sumN_split]
 congr 1
 ·refine sumN_congr _ (fun i hi => ?_)
  rw [arcAt_append (by rw [fArcs_len]; exact hi), arcAt_fArcs hi]
 ·refine sumN_congr _ (fun i hi => ?_)
  have e8 := arcAt_right (fArcs N n s (h + 1)) (lArcs N1 n t (h + 1)) i
  rw [fArcs_len] at e8
  rw [e8, arcAt_lArcs hi]
theorem tfStock (o : TfOk n h s t l) (hF : FlowOk (tfA n h s t b l) F) (hB : Bal (tfA n h s t b l).length (frOf (tfA n h s t b l)) (toOf (tfA n h s t b l)) ((h + 1) * n + 2) ((h + 1) * n : Nat) (((h + 1) * n : Nat) + 1) (dOf F)) (hm : MgOf (toldL F (tfB n h s t b l).mv) m) {v z : Nat} (hv : v < n) (hz : z ≤ h) (hs : v ≠ s) :
  stockV l m v z = waitF (tfB n h s t b l).wt (dOf F) v z + (if v = t then sumN (h + 1) (fun i => if (i : Int) ≤ z then dOf F ((tfB n h s t b l).arcs.length + (h + 1 + i)) else 0) else 0) := by
 have hb := tfB_ok n h s t b l
 obtain ⟨he, hlm⟩ := tfEnt o b
 have hp := told_perm he (tfF_bd o hF) hm
 have hlA := tfA_len n h s t b l
 have e1 : stockV l m v z = stockF l (tfB n h s t b l).mv (dOf F) v z := by
  rw [stockV_perm hp, stockV_told]
  intro x hx
  obtain ⟨j, t', k, rfl, q1, q2, q3, q4, q5⟩ := hb.mv x hx
  exact ⟨Int.natCast_nonneg k, (hF.wit (k : Int) (by omega) (by omega)).1⟩
 have he2 := tf_ends o b
 rw [tfA_is] at he2 hB
 have e2 := stock_is hb o.net.ends o.net.n0 he2 hB (v := (v : Int)) (z := (z : Int)) ⟨by omega, by omega⟩ (by omega)
 have hz9 : (z : Int) ≤ (h : Int) := by omega
 have u0 := upS_end (v := (v : Int)) o.net.n0 hz9 0 (Int.le_refl 0)
 have u1 := upS_end (v := (v : Int)) o.net.n0 hz9 1 (by decide)
 rw [Int.add_zero] at u0
 have u1' : upS n v z (((h + 1) * n + 1 : Nat) : Int) = false := by rw [Int.natCast_add]; exact u1
 rw [tfR] at e2
 have z1 : sumN (h + 1) (fun i => dsA (upS n v z) ⟨(((h + 1) * n : Nat) : Int), (i : Int) * n + s, 1099511627776, 0⟩ (dOf F ((tfB n h s t b l).arcs.length + i))) = 0 := sumN_zero _ (fun i hi => by
  unfold dsA
  simp only
  have hs9 := o.hs
  rw [u0, upS_at (c := (s : Int)) (by omega) (by omega), if_neg (by decide), if_neg (by rw [decide_eq_true_eq]; omega)]
  rfl)
 rw [z1] at e2
 rw [e1, e2, Int.zero_add]
 congr 1
 by_cases c : v = t
 ·rw [if_pos c]
  refine sumN_congr _ (fun i hi => ?_)
  unfold dsA
  simp only
  have ht9 := o.ht
  rw [u1', upS_at (c := (t : Int)) (by omega) (by omega), if_neg (show ¬ (false = true) by decide)]
  by_cases c2 : (i : Int) ≤ z
  ·rw [if_pos (by rw [decide_eq_true_eq]; omega), if_pos c2]
   omega
  ·rw [if_neg (by rw [decide_eq_true_eq]; omega), if_neg c2]
   omega
 ·rw [if_neg c]
  refine sumN_zero _ (fun i hi => ?_)
  unfold dsA
  simp only
  have ht9 := o.ht
  rw [u1', upS_at (c := (t : Int)) (by omega) (by omega), if_neg (show ¬ (false = true) by decide), if_neg (by rw [decide_eq_true_eq]; omega)]
  rfl
theorem tfMok (o : TfOk n h s t l) (hF : FlowOk (tfA n h s t b l) F) (hm : MgOf (toldL F (tfB n h s t b l).mv) m) : ∀ x, x ∈ m → moveOk l h s t x = true := fun x hx => by
 have hb := tfB_ok n h s t b l
 obtain ⟨he, hlm⟩ := tfEnt o b
 have hx2 := (told_perm he (tfF_bd o hF) hm).mem_iff.1 hx
 obtain ⟨h1, -, y, hy, rfl⟩ := told_f2 (tfF_bd o hF) hx2
 obtain ⟨j, t', k, rfl, q1, q2, q3, q4, q5⟩ := hb.mv y hy
 have hlA := tfA_len n h s t b l
 have h2 := (hF.wit (k : Int) (by omega) (by omega)).2
 have h3 : rd_T48 (tfA n h s t b l) (k : Int) = arcAt (tfA n h s t b l) k := rfl
 have h4 : arcAt (tfA n h s t b l) k = arcAt (tfB n h s t b l).arcs k := by
  rw [tfA_is, arcAt_append q4]
 rw [h3, h4, q5] at h2
 have g1 := o.net.time j q1
 have ea : arcOf l (⟨(j : Int), (t' : Int), rd F (k : Int)⟩ : Mv) = arcAt l j := rfl
 unfold useT at q3
 rw [Bool.and_eq_true, bne_iff_ne, bne_iff_ne] at q3
 unfold moveOk
 rw [ea]
 simp only at h1 h2 ⊢
 rw [decide_eq_true_eq]
 exact ⟨by omega, by omega, by omega, by omega, q2, by omega, h2, q3.1, q3.2⟩
theorem tfPlan (o : TfOk n h s t l) (hF : FlowOk (tfA n h s t b l) F) (hB : Bal (tfA n h s t b l).length (frOf (tfA n h s t b l)) (toOf (tfA n h s t b l)) ((h + 1) * n + 2) ((h + 1) * n : Nat) (((h + 1) * n : Nat) + 1) (dOf F)) (hm : MgOf (toldL F (tfB n h s t b l).mv) m) : ∀ v z : Nat, v < n → z ≤ h → ¬ BadT h b s t l m v z := fun v z hv hz => by
 rintro ⟨c1, c2, c3⟩
 have hb := tfB_ok n h s t b l
 have hlA := tfA_len n h s t b l
 have e := tfStock o hF hB hm hv hz c1
 rw [if_neg c2] at e
 have w0 : 0 ≤ waitF (tfB n h s t b l).wt (dOf F) v z := waitF_pos (fun x hx => by
  obtain ⟨u, t', k, rfl, q1, q2, q3, q4, q5⟩ := hb.wt x hx
  simp only [Int.toNat_natCast]
  exact (hF.wit (k : Int) (by omega) (by omega)).1)
 rcases c3 with c3 | ⟨c3, c4⟩
 ·omega
 ·have : waitF (tfB n h s t b l).wt (dOf F) v z = 0 := waitF_zero (fun x hx => by
   obtain ⟨u, t', k, rfl, q1, q2, q3, q4, q5⟩ := hb.wt x hx
   simp only
   rintro ⟨e3, e4⟩
   rcases c4 with c4 | c4
   ·unfold keepsT at q3
    rw [c4] at q3
    cases q3
   ·omega)
  omega
theorem tfValue (o : TfOk n h s t l) (hF : FlowOk (tfA n h s t b l) F) (hB : Bal (tfA n h s t b l).length (frOf (tfA n h s t b l)) (toOf (tfA n h s t b l)) ((h + 1) * n + 2) ((h + 1) * n : Nat) (((h + 1) * n : Nat) + 1) (dOf F)) :
  leaves (tfA n h s t b l).length (frOf (tfA n h s t b l)) (toOf (tfA n h s t b l)) (dOf F) ((h + 1) * n : Nat) = sumN (h + 1) (fun i => dOf F ((tfB n h s t b l).arcs.length + (h + 1 + i))) := by
 have hb := tfB_ok n h s t b l
 have he := tf_ends o b
 obtain ⟨T, hT⟩ : ∃ T : Int → Bool, T = fun u => !decide (u = (((h + 1) * n : Nat) : Int) + 1) := ⟨_, rfl⟩
 have hTs : ∀ u : Int, u < (((h + 1) * n : Nat) : Int) + 1 → T u = true := fun u hu => by
  rw [hT]
  simp only [Bool.not_eq_true', decide_eq_false_iff_not]
  omega
 have hTt : T ((((h + 1) * n : Nat) : Int) + 1) = false := by
  rw [hT]
  simp
 have e9 : (((h + 1) * n : Nat) : Int) = ((h : Int) + 1) * n := by rw [Int.natCast_mul, Int.natCast_add]; rfl
 have hs9 := o.hs
 have ht9 := o.ht
 rw [value_cross he hB ⟨by omega, by omega⟩ (hTs _ (by omega)) hTt, cross_ds, tfA_is, List.length_append, sumN_split, hb.sum]
 have z1 : sumL ((tfB n h s t b l).mv.map fun x => dsA T (arcAt ((tfB n h s t b l).arcs ++ (fArcs ((h + 1) * n) n s (h + 1) ++ lArcs ((h + 1) * n + 1) n t (h + 1))) x.2.2.toNat) (dOf F x.2.2.toNat)) = 0 := sumE_zero (fun x hx => by
  obtain ⟨j, t', k, rfl, q1, q2, q3, q4, q5⟩ := hb.mv x hx
  simp only [Int.toNat_natCast]
  rw [arcAt_append q4, q5]
  obtain ⟨g1, g2⟩ := o.net.ends j q1
  have g3 := (o.net.time j q1).1
  have i1 := idx_lt (a := (t' : Int)) (n := (n : Int)) (h := (h : Int)) (by omega) (by omega) g1.1 g1.2
  have i2 := idx_lt (a := (t' : Int) + (arcAt l j).f3) (n := (n : Int)) (h := (h : Int)) (by omega) q2 g2.1 g2.2
  unfold dsA
  simp only
  rw [hTs _ (by omega), hTs _ (by omega), if_pos rfl]
  omega)
 have z2 : sumL ((tfB n h s t b l).wt.map fun x => dsA T (arcAt ((tfB n h s t b l).arcs ++ (fArcs ((h + 1) * n) n s (h + 1) ++ lArcs ((h + 1) * n + 1) n t (h + 1))) x.2.2.toNat) (dOf F x.2.2.toNat)) = 0 := sumE_zero (fun x hx => by
  obtain ⟨u, t', k, rfl, q1, q2, q3, q4, q5⟩ := hb.wt x hx
  simp only [Int.toNat_natCast]
  rw [arcAt_append q4, q5]
  have i1 := idx_lt (a := (t' : Int)) (n := (n : Int)) (h := (h : Int)) (x := (u : Int)) (by omega) (by omega) (by omega) (by omega)
  have i2 := idx_lt (a := (t' : Int) + 1) (n := (n : Int)) (h := (h : Int)) (x := (u : Int)) (by omega) (by omega) (by omega) (by omega)
  unfold dsA
  simp only
  rw [hTs _ (by omega), hTs _ (by omega), if_pos rfl]
  omega)
 have z3 : sumN (fArcs ((h + 1) * n) n s (h + 1) ++ lArcs ((h + 1) * n + 1) n t (h + 1)).length (fun i => dsA T (arcAt ((tfB n h s t b l).arcs ++ (fArcs ((h + 1) * n) n s (h + 1) ++ lArcs ((h + 1) * n + 1) n t (h + 1))) ((tfB n h s t b l).arcs.length + i)) (dOf F ((tfB n h s t b l).arcs.length + i))) = sumN (h + 1) (fun i => dOf F ((tfB n h s t b l).arcs.length + (h + 1 + i))) := by
  rw [sumN_congr _ (fun i _ => by rw [arcAt_right]), tfR]
  rw [sumN_zero (h + 1) (fun i hi => by
   have i1 := idx_lt (a := (i : Int)) (n := (n : Int)) (h := (h : Int)) (x := (s : Int)) (by omega) (by omega) (by omega) (by omega)
   show dsA T ⟨(((h + 1) * n : Nat) : Int), (i : Int) * n + s, 1099511627776, 0⟩ _ = 0
   unfold dsA
   simp only
   rw [hTs _ (by omega), hTs _ (by omega), if_pos rfl]
   omega), Int.zero_add]
  refine sumN_congr _ (fun i hi => ?_)
  have i1 := idx_lt (a := (i : Int)) (n := (n : Int)) (h := (h : Int)) (x := (t : Int)) (by omega) (by omega) (by omega) (by omega)
  unfold dsA
  simp only
  rw [hTs _ (by omega), show ((((h + 1) * n + 1 : Nat) : Int)) = (((h + 1) * n : Nat) : Int) + 1 by omega, hTt, if_pos rfl, if_neg (by decide)]
  omega
 rw [z1, z2, z3]
 omega
theorem tfAmount (o : TfOk n h s t l) (hF : FlowOk (tfA n h s t b l) F) (hB : Bal (tfA n h s t b l).length (frOf (tfA n h s t b l)) (toOf (tfA n h s t b l)) ((h + 1) * n + 2) ((h + 1) * n : Nat) (((h + 1) * n : Nat) + 1) (dOf F)) (hm : MgOf (toldL F (tfB n h s t b l).mv) m) :
  stockV l m t h = leaves (tfA n h s t b l).length (frOf (tfA n h s t b l)) (toOf (tfA n h s t b l)) (dOf F) ((h + 1) * n : Nat) := by
 have hb := tfB_ok n h s t b l
 have e := tfStock o hF hB hm o.ht (Nat.le_refl h) (fun e => o.st e.symm)
 rw [if_pos rfl, waitF_zero (fun x hx => by
  obtain ⟨u, t', k, rfl, q1, q2, q3, q4, q5⟩ := hb.wt x hx
  simp only
  omega), Int.zero_add] at e
 rw [e, tfValue o hF hB]
 exact sumN_congr _ (fun i hi => if_pos (by omega))
end
theorem cutL_mem {S : Int → Bool} : ∀ {L : List Arc}, (∀ x, x ∈ L → 0 ≤ x.f2) → 0 ≤ cutL S L ∧ ∀ x, x ∈ L → S x.f0 = true → S x.f1 = false → x.f2 ≤ cutL S L
 |[], _ => ⟨Int.le_refl _, fun x hx => nomatch hx⟩
 |y :: L, h => by
  obtain ⟨h1, h2⟩ := cutL_mem (S := S) (L := L) (fun x hx => h x (List.mem_cons_of_mem _ hx))
  have h3 := h y (List.mem_cons_self ..)
  have h4 : 0 ≤ cutA S y := by
   unfold cutA
   split <;> omega
  refine ⟨by show 0 ≤ cutA S y + cutL S L; omega, fun x hx c1 c2 => ?_⟩
  show x.f2 ≤ cutA S y + cutL S L
  rcases List.mem_cons.1 hx with rfl | hx
  ·have : cutA S x = x.f2 := by
    unfold cutA
    rw [if_pos ⟨c1, c2⟩]
   omega
  ·have := h2 x hx c1 c2
   omega
end Go.Proofs.Ytdfagllncopmjaa.H
end
section
namespace Go.Proofs.Ytdfagllncopmjaa.H
open Go Go.RowKit Go.Proofs.Ytdfagllncopmjaa.PrintC Go.Proofs.YtdfagllncopmjaaW.PrintWords Go.Proofs.YtdfagllncopmjaaW.PrintLast Go.Proofs.YtdfagllncopmjaaW.PrintMore Go.Proofs.Ytdfagllncopmjaa.Flow
set_option linter.unusedVariables false
set_option linter.unusedSimpArgs false
def arcV (n a b c d : Int) : Int := if a < 0 ∨ a ≥ n ∨ b < 0 ∨ b ≥ n ∨ c < 0 ∨ d < 0 then 51 else if c > 1048576 then 2 else if d > 1048576 then 2 else 0
theorem arc_p (k : Nat) (n a b c d : Int) : netfmt_arc.f (k + 1) n a b c d = some (arcV n a b c d) := by
 have jt : netfmt_arc.j0 (k + 1) true a b c d = some 51 := rfl
 have jf : netfmt_arc.j0 (k + 1) false a b c d = some (if c > 1048576 then 2 else if d > 1048576 then 2 else 0) := by
  simp only [netfmt_arc.j0]
  repeat' split
  all_goals first | rfl | contradiction
 unfold netfmt_arc.f arcV
 by_cases h1 : mn (mn (mn a b) c) d < 0
 ·rw [if_pos h1, jt, if_pos (by unfold mn at h1; omega)]
 ·rw [if_neg h1]
  by_cases h2 : mx a b ≥ n
  ·rw [decide_eq_true h2, jt, if_pos (by unfold mx at h2; omega)]
  ·rw [decide_eq_false h2, jf, if_neg (show ¬ (a < 0 ∨ a ≥ n ∨ b < 0 ∨ b ≥ n ∨ c < 0 ∨ d < 0) by unfold mn at h1; unfold mx at h2; omega)]
def arcsV (n : Int) : List Arc → Int
 |[] => 0
 |x :: l => if arcV n x.f0 x.f1 x.f2 x.f3 = 0 then arcsV n l else arcV n x.f0 x.f1 x.f2 x.f3
theorem arcsV_cons (n : Int) (x : Arc) (l : List Arc) : arcsV n (x :: l) = if arcV n x.f0 x.f1 x.f2 x.f3 = 0 then arcsV n l else arcV n x.f0 x.f1 x.f2 x.f3 := rfl
theorem drop_rd {l : List Arc} {i : Nat} (h : i < l.length) : l.drop i = rd_T48 l (i : Int) :: l.drop (i + 1) := by
 rw [List.drop_eq_getElem_cons h]
 unfold rd_T48
 rw [Int.toNat_natCast, List.getD_eq_getElem?_getD, List.getElem?_eq_getElem h]
 rfl
theorem w_nat (i : Nat) (h : i ≤ 1000000) : wrap64 ((i : Int) + 1) = ((i + 1 : Nat) : Int) := by
 unfold wrap64
 omega
theorem arcs_p {n : Int} {b : Bool} {l l2 : List Arc} (hl : l.length ≤ 200) : ∀ (d k i : Nat), i + d = l.length → d + 1 < k → netfmt_Check.l0 k l (l.length : Int) (i : Int) n b l2 = some (arcsV n (l.drop i))
 |0, k, i, hi, hk => by
  obtain ⟨k, rfl⟩ : ∃ m, k = m + 1 := ⟨k - 1, by omega⟩
  rw [netfmt_Check.l0, if_neg (by omega), List.drop_of_length_le (by omega)]
  rfl
 |d + 1, k, i, hi, hk => by
  obtain ⟨k, rfl⟩ : ∃ m, k = m + 1 + 1 := ⟨k - 2, by omega⟩
  rw [netfmt_Check.l0, if_pos (by omega), if_pos (by omega), if_pos (by omega), arc_p, Option.bind_some, w_nat i (by omega), arcs_p hl d (k + 1) (i + 1) (by omega) (by omega), drop_rd (i := i) (by omega), arcsV_cons]
  split <;> rfl
def netV (n : Int) (l : List Arc) : Int := if n < 1 then 51 else if n > 50 then 2 else if (l.length : Int) > 200 then 2 else arcsV n l
theorem net_p {n : Int} {b : Bool} {l : List Arc} {k : Nat} (hk : 300 ≤ k) : netfmt_Check.f k n b l = some (netV n l) := by
 unfold netfmt_Check.f netfmt_nodes.f netV
 by_cases h1 : n < 1
 ·rw [if_pos h1, if_pos h1]; rfl
 rw [if_neg h1, if_neg h1]
 by_cases h2 : n > 50
 ·rw [if_pos h2, if_pos h2]; rfl
 rw [if_neg h2, if_neg h2, Option.bind_some, if_pos rfl]
 by_cases h3 : (l.length : Int) > 200
 ·rw [if_pos h3, if_pos h3]
 rw [if_neg h3, if_neg h3]
 exact arcs_p (by omega) l.length k 0 (by omega) (by omega)
end Go.Proofs.Ytdfagllncopmjaa.H
end
section
namespace Go.Proofs.Ytdfagllncopmjaa.H
open Go Go.RowKit Go.Proofs.Ytdfagllncopmjaa.PrintC Go.Proofs.Ytdfagllncopmjaa.PrintE Go.Proofs.YtdfagllncopmjaaW.PrintWords Go.Proofs.YtdfagllncopmjaaW.PrintLast Go.Proofs.YtdfagllncopmjaaW.PrintMore Go.Proofs.Ytdfagllncopmjaa.Flow
set_option linter.unusedVariables false
set_option linter.unusedSimpArgs false
def VAt (r : Int) (w : World) (e : Ending) (w' : World) : Prop := e = .returned (.int .i64 r) ∧ Below w.heap.size w w'
def spanV (h : Int) : Int := if h < 0 then 1 else if h > 1024 then 2 else 0
theorem netV_ok {n : Int} {l : List Arc} (h : netV n l = 0) : 1 ≤ n ∧ n ≤ 50 ∧ l.length ≤ 200 := by
 unfold netV at h
 by_cases c1 : n < 1
 ·rw [if_pos c1] at h; cases h
 rw [if_neg c1] at h
 by_cases c2 : n > 50
 ·rw [if_pos c2] at h; cases h
 rw [if_neg c2] at h
 by_cases c3 : (l.length : Int) > 200
 ·rw [if_pos c3] at h; cases h
 omega
theorem spanV_ok {h : Int} (e : spanV h = 0) : 0 ≤ h ∧ h ≤ 1024 := by
 unfold spanV at e
 by_cases c1 : h < 0
 ·rw [if_pos c1] at e; cases e
 rw [if_neg c1] at e
 by_cases c2 : h > 1024
 ·rw [if_pos c2] at e; cases e
 omega
theorem mul_wrap {h a : Int} (h0 : 0 ≤ h ∧ h ≤ 1024) (a0 : 0 ≤ a ∧ a ≤ 1000) : 0 ≤ (h + 1) * a ∧ (h + 1) * a ≤ 1025000 := by
 have h1 : (h + 1) * a ≤ 1025 * a := Int.mul_le_mul_of_nonneg_right (by omega) a0.1
 have h2 : 0 ≤ (h + 1) * a := Int.mul_nonneg (by omega) a0.1
 omega
def endsV (n : Int) (l : List Arc) (s t : Int) : Int := if netV n l = 0 then (if 0 ≤ s ∧ s < n ∧ 0 ≤ t ∧ t < n ∧ s ≠ t then 0 else 70) else netV n l
def askS (n : Int) (l : List Arc) (s t h : Int) : Int := if endsV n l s t = 0 then spanV h else endsV n l s t
def fitsV (n : Int) (l : List Arc) (h : Int) : Bool := decide ((h + 1) * n ≤ 4000) && decide ((h + 1) * (l.length : Int) ≤ 10000)
def askT (n : Int) (l : List Arc) (s t h : Int) : Int := if askS n l s t h = 0 then (if fitsV n l h = true then 0 else 2) else askS n l s t h
theorem max2_max' (k k' : IntKind) (x y : Int) : Builtin.max2 (.int k x) (.int k' y) = pure (.int k (max x y)) := by
 rw [max2_int]
 have e : (if x < y then y else x) = max x y := by split <;> omega
 rw [e]
theorem min2_min' (k k' : IntKind) (x y : Int) : Builtin.min2 (.int k x) (.int k' y) = pure (.int k (min x y)) := by
 rw [min2_int]
 have e : (if y < x then y else x) = min x y := by split <;> omega
 rw [e]
attribute [local go_sem] max2_max' max_two min2_min' min_two
theorem code_cases (V : Int) : V = 0 ∨ (¬ V = 0 ∧ (V == 0) = false ∧ (V != 0) = true) := by
 by_cases c : V = 0
 ·exact .inl c
 ·exact .inr ⟨c, beq_eq_false_iff_ne.2 c, bne_iff_ne.2 c⟩
theorem endsV_net {n : Int} {l : List Arc} {s t : Int} (h : endsV n l s t = 0) : netV n l = 0 := by
 unfold endsV at h
 by_cases c : netV n l = 0
 ·exact c
 ·rw [if_neg c] at h; exact h
theorem askS_ends {n : Int} {l : List Arc} {s t h : Int} (e : askS n l s t h = 0) : endsV n l s t = 0 ∧ spanV h = 0 := by
 unfold askS at e
 by_cases c : endsV n l s t = 0
 ·rw [if_pos c] at e; exact ⟨c, e⟩
 ·rw [if_neg c] at e; exact absurd e c
section
variable {n : Int} {b : Bool} {A : Option Addr} {c : Nat} {l : List Arc} {s t h : Int} {w : World}
set_option maxHeartbeats 4000000 in
set_option maxRecDepth 100000 in
theorem ends_pwalk (hr : Kd.C kArc w A l.length l) (hc : l.length ≤ c) : Calls Try.prog 22 #[.agg #[.int .i64 n, .bool b, .slice A l.length c], .int .i64 s, .int .i64 t] w (VAt (endsV n l s t) w) := by
 have hu := Try.underlying28
 have HR := zh hr
 obtain ⟨w1, hw1⟩ : ∃ w1, w1 = w.alloc (.cells #[.int .i64 n, .bool b, .slice A l.length c] 28) := ⟨_, rfl⟩
 have HX : Hid (w1.heap[w.heap.size]? = some (.cells #[.int .i64 n, .bool b, .slice A l.length c] 28 (0, 0)) ∧ Below w.heap.size w w1) := zh (by rw [hw1]; exact ⟨heap_alloc_new _ _, below_alloc (Below.refl _ _) _⟩)
 clear hr
 have HC := zh hc
 clear hc
 unfold endsV
 have hnet := net_p (n := n) (b := b) (l := l) (k := 300) (Nat.le_refl _)
 rcases code_cases (netV n l) with d | ⟨d, e1, e2⟩
 ·rw [if_pos d]
  rw [d] at hnet
  have HN := zh hnet
  clear d hnet
  obtain ⟨u, hu9⟩ : ∃ u, u = min s t := ⟨_, rfl⟩
  obtain ⟨v, hv9⟩ : ∃ v, v = max s t := ⟨_, rfl⟩
  have hcs : (u < 0 ∧ Hid (¬ (0 ≤ s ∧ s < n ∧ 0 ≤ t ∧ t < n ∧ s ≠ t))) ∨ (¬ u < 0 ∧ n ≤ v ∧ Hid (¬ (0 ≤ s ∧ s < n ∧ 0 ≤ t ∧ t < n ∧ s ≠ t))) ∨ (¬ u < 0 ∧ ¬ n ≤ v ∧ (s == t) = true ∧ Hid (¬ (0 ≤ s ∧ s < n ∧ 0 ≤ t ∧ t < n ∧ s ≠ t))) ∨ (¬ u < 0 ∧ ¬ n ≤ v ∧ (s == t) = false ∧ Hid (0 ≤ s ∧ s < n ∧ 0 ≤ t ∧ t < n ∧ s ≠ t)) := by
   by_cases c1 : u < 0
   ·exact .inl ⟨c1, zh (by omega)⟩
   ·by_cases c2 : n ≤ v
    ·exact .inr (.inl ⟨c1, c2, zh (by omega)⟩)
    ·by_cases c3 : s = t
     ·exact .inr (.inr (.inl ⟨c1, c2, beq_iff_eq.2 c3, zh (fun h9 => h9.2.2.2.2 c3)⟩))
     ·exact .inr (.inr (.inr ⟨c1, c2, beq_eq_false_iff_ne.2 c3, zh (by omega)⟩))
  have hu8 := hu9.symm
  have hv8 := hv9.symm
  clear hu9 hv9
  rcases hcs with ⟨c1, HF⟩ | ⟨c1, c2, HF⟩ | ⟨c1, c2, c3, HF⟩ | ⟨c1, c2, c3, HF⟩
  all_goals
   first
    |rw [if_neg HF.out]
    |rw [if_pos HF.out]
   go_enter Try.func22, Try.ntmps22
   go_wp2_with (go_at_call 24; rw [← hw1]; go_loud ((with_reducible refine (netfmt_Check.calls 300 n b A c l _ _ ?s1 HC.out HN.out).mono ?_); (case s1 => exact Kd.C_below HR.out HX.out.2); rintro e w9 ⟨rfl, hb⟩; have HN9 := zh (And.intro (blk_below HX.out.1 hb) (below_step HX.out.2 hb)); clear HX hb; have HX := HN9; clear HN9; have x0 : w9.cell? ⟨w.heap.size, 0, none⟩ = some (.int .i64 n) := (blk_cell HX.out.1 0).trans rfl; have x1 : w9.cell? ⟨w.heap.size, 1, none⟩ = some (.bool b) := (blk_cell HX.out.1 1).trans rfl; have x2 : w9.cell? ⟨w.heap.size, 2, none⟩ = some (.slice A l.length c) := (blk_cell HX.out.1 2).trans rfl))
   go_ret
   exact ⟨rfl, HX.out.2⟩
 ·rw [if_neg d]
  obtain ⟨V, hV⟩ : ∃ V, V = netV n l := ⟨_, rfl⟩
  rw [← hV] at d e1 e2 hnet ⊢
  have HN := zh hnet
  clear hV d hnet
  go_enter Try.func22, Try.ntmps22
  go_wp2_with (go_at_call 24; rw [← hw1]; go_loud ((with_reducible refine (netfmt_Check.calls 300 n b A c l _ _ ?s1 HC.out HN.out).mono ?_); (case s1 => exact Kd.C_below HR.out HX.out.2); rintro e w9 ⟨rfl, hb⟩; have HN9 := zh (And.intro (blk_below HX.out.1 hb) (below_step HX.out.2 hb)); clear HX hb; have HX := HN9; clear HN9; have x0 : w9.cell? ⟨w.heap.size, 0, none⟩ = some (.int .i64 n) := (blk_cell HX.out.1 0).trans rfl; have x1 : w9.cell? ⟨w.heap.size, 1, none⟩ = some (.bool b) := (blk_cell HX.out.1 1).trans rfl; have x2 : w9.cell? ⟨w.heap.size, 2, none⟩ = some (.slice A l.length c) := (blk_cell HX.out.1 2).trans rfl))
  go_ret
  exact ⟨rfl, HX.out.2⟩
theorem hor_p (h : Int) : span_Horizon.f h = some (spanV h) := by
 unfold span_Horizon.f spanV
 by_cases c1 : h < 0
 ·rw [if_pos c1, if_pos c1]
 ·rw [if_neg c1, if_neg c1]
  by_cases c2 : h > 1024
  ·rw [if_pos c2, if_pos c2]
  ·rw [if_neg c2, if_neg c2]
theorem fits_p {k : Nat} (hn : netV n l = 0) (hs : spanV h = 0) (hk : 300 ≤ k) : expand_Fits.f k n b l h = some (fitsV n l h) := by
 obtain ⟨n0, n1, ll⟩ := netV_ok hn
 have hh := spanV_ok hs
 have b1 := mul_wrap hh (a := n) (by omega)
 have b2 := mul_wrap hh (a := (l.length : Int)) (by omega)
 have e0 : wrap64 (h + 1) = h + 1 := by unfold wrap64; omega
 have e1 : wrap64 ((h + 1) * n) = (h + 1) * n := by unfold wrap64; omega
 have e2 : wrap64 ((h + 1) * (l.length : Int)) = (h + 1) * (l.length : Int) := by unfold wrap64; omega
 unfold expand_Fits.f fitsV
 rw [net_p hk, Option.bind_some, if_pos hn, hor_p, Option.bind_some, if_pos hs, e0, e1, e2]
 by_cases c : (h + 1) * n ≤ 4000
 ·rw [if_pos c, decide_eq_true c, Bool.true_and]
 ·rw [if_neg c, decide_eq_false c, Bool.false_and]
theorem drawn_below {w w2 : World} (h : Drawn0 w w2) : Below w.heap.size w w2 := by
 obtain ⟨m, rfl⟩ := h
 exact pw_below_drewN (Below.refl _ _) m
set_option maxHeartbeats 4000000 in
set_option maxRecDepth 100000 in
theorem ask_span (hr : Kd.C kArc w A l.length l) (hc : l.length ≤ c) : Calls Try.prog 15 #[.agg #[.int .i64 n, .bool b, .slice A l.length c], .int .i64 s, .int .i64 t, .int .i64 h] w (VAt (askS n l s t h) w) := by
 have hu := Try.underlying28
 have HR := zh hr
 obtain ⟨w1, hw1⟩ : ∃ w1, w1 = w.alloc (.cells #[.int .i64 n, .bool b, .slice A l.length c] 28) := ⟨_, rfl⟩
 have HX : Hid (w1.heap[w.heap.size]? = some (.cells #[.int .i64 n, .bool b, .slice A l.length c] 28 (0, 0)) ∧ Below w.heap.size w w1) := zh (by rw [hw1]; exact ⟨heap_alloc_new _ _, below_alloc (Below.refl _ _) _⟩)
 clear hr
 have HC := zh hc
 clear hc
 unfold askS
 rcases code_cases (endsV n l s t) with d | ⟨d, e1, e2⟩
 ·rw [if_pos d]
  have HN := zh d
  have HH := zh (hor_p h)
  clear d
  go_enter Try.func15, Try.ntmps15
  go_wp2_with (first
   |(go_at_call 22; rw [← hw1]; go_loud ((with_reducible refine (ends_pwalk (b := b) (c := c) (s := s) (t := t) ?s1 HC.out).mono ?_); (case s1 => exact Kd.C_below HR.out HX.out.2); rintro e w9 ⟨rfl, hb⟩; rw [HN.out]; have HN9 := zh (And.intro (blk_below HX.out.1 hb) (below_step HX.out.2 hb)); clear HX hb; have HX := HN9; clear HN9; have x0 : w9.cell? ⟨w.heap.size, 0, none⟩ = some (.int .i64 n) := (blk_cell HX.out.1 0).trans rfl; have x1 : w9.cell? ⟨w.heap.size, 1, none⟩ = some (.bool b) := (blk_cell HX.out.1 1).trans rfl; have x2 : w9.cell? ⟨w.heap.size, 2, none⟩ = some (.slice A l.length c) := (blk_cell HX.out.1 2).trans rfl))
   |(go_at_call 23; go_loud ((with_reducible refine (span_Horizon.calls h _ _ HH.out).mono ?_); rintro e w9 ⟨rfl, hd⟩; have hb := drawn_below hd; clear hd; clear x0 x1 x2; have HN9 := zh (And.intro (blk_below HX.out.1 hb) (below_step HX.out.2 hb)); clear HX hb; have HX := HN9; clear HN9; have x0 : w9.cell? ⟨w.heap.size, 0, none⟩ = some (.int .i64 n) := (blk_cell HX.out.1 0).trans rfl; have x1 : w9.cell? ⟨w.heap.size, 1, none⟩ = some (.bool b) := (blk_cell HX.out.1 1).trans rfl; have x2 : w9.cell? ⟨w.heap.size, 2, none⟩ = some (.slice A l.length c) := (blk_cell HX.out.1 2).trans rfl)))
  go_ret
  exact ⟨rfl, HX.out.2⟩
 ·rw [if_neg d]
  obtain ⟨V, hV⟩ : ∃ V, V = endsV n l s t := ⟨_, rfl⟩
  rw [← hV] at d e1 e2 ⊢
  have HN := zh hV.symm
  clear hV d
  go_enter Try.func15, Try.ntmps15
  go_wp2_with (go_at_call 22; rw [← hw1]; go_loud ((with_reducible refine (ends_pwalk (b := b) (c := c) (s := s) (t := t) ?s1 HC.out).mono ?_); (case s1 => exact Kd.C_below HR.out HX.out.2); rintro e w9 ⟨rfl, hb⟩; rw [HN.out]; have HN9 := zh (And.intro (blk_below HX.out.1 hb) (below_step HX.out.2 hb)); clear HX hb; have HX := HN9; clear HN9; have x0 : w9.cell? ⟨w.heap.size, 0, none⟩ = some (.int .i64 n) := (blk_cell HX.out.1 0).trans rfl; have x1 : w9.cell? ⟨w.heap.size, 1, none⟩ = some (.bool b) := (blk_cell HX.out.1 1).trans rfl; have x2 : w9.cell? ⟨w.heap.size, 2, none⟩ = some (.slice A l.length c) := (blk_cell HX.out.1 2).trans rfl))
  go_ret
  exact ⟨rfl, HX.out.2⟩
set_option maxHeartbeats 4000000 in
set_option maxRecDepth 100000 in
theorem ask_walk (hr : Kd.C kArc w A l.length l) (hc : l.length ≤ c) : Calls Try.prog 11 #[.agg #[.int .i64 n, .bool b, .slice A l.length c], .int .i64 s, .int .i64 t, .int .i64 h] w (VAt (askT n l s t h) w) := by
 have hu := Try.underlying28
 have HR := zh hr
 obtain ⟨w1, hw1⟩ : ∃ w1, w1 = w.alloc (.cells #[.int .i64 n, .bool b, .slice A l.length c] 28) := ⟨_, rfl⟩
 have HX : Hid (w1.heap[w.heap.size]? = some (.cells #[.int .i64 n, .bool b, .slice A l.length c] 28 (0, 0)) ∧ Below w.heap.size w w1) := zh (by rw [hw1]; exact ⟨heap_alloc_new _ _, below_alloc (Below.refl _ _) _⟩)
 clear hr
 have HC := zh hc
 clear hc
 unfold askT
 rcases code_cases (askS n l s t h) with d | ⟨d, e1, e2⟩
 ·rw [if_pos d]
  have HN := zh d
  obtain ⟨R, hR⟩ : ∃ R, R = fitsV n l h := ⟨_, rfl⟩
  have HT : Hid (expand_Fits.f 300 n b l h = some R) := zh (by rw [hR]; exact fits_p (endsV_net (askS_ends d).1) (askS_ends d).2 (by decide))
  rw [← hR]
  clear d hR
  cases R
  all_goals
   go_enter Try.func11, Try.ntmps11
   go_wp2_with (first
    |(go_at_call 15; rw [← hw1]; go_loud ((with_reducible refine (ask_span (b := b) (c := c) (s := s) (t := t) (h := h) ?s1 HC.out).mono ?_); (case s1 => exact Kd.C_below HR.out HX.out.2); rintro e w9 ⟨rfl, hb⟩; rw [HN.out]; have HN9 := zh (And.intro (blk_below HX.out.1 hb) (below_step HX.out.2 hb)); clear HX hb; have HX := HN9; clear HN9; have x0 : w9.cell? ⟨w.heap.size, 0, none⟩ = some (.int .i64 n) := (blk_cell HX.out.1 0).trans rfl; have x1 : w9.cell? ⟨w.heap.size, 1, none⟩ = some (.bool b) := (blk_cell HX.out.1 1).trans rfl; have x2 : w9.cell? ⟨w.heap.size, 2, none⟩ = some (.slice A l.length c) := (blk_cell HX.out.1 2).trans rfl))
    |(go_at_call 16; go_loud ((with_reducible refine (expand_Fits.calls 300 n b A c l h _ _ ?s1 HC.out HT.out).mono ?_); (case s1 => exact Kd.C_below HR.out HX.out.2); rintro e w9 ⟨rfl, hb⟩; clear x0 x1 x2; have HN9 := zh (And.intro (blk_below HX.out.1 hb) (below_step HX.out.2 hb)); clear HX hb; have HX := HN9; clear HN9; have x0 : w9.cell? ⟨w.heap.size, 0, none⟩ = some (.int .i64 n) := (blk_cell HX.out.1 0).trans rfl; have x1 : w9.cell? ⟨w.heap.size, 1, none⟩ = some (.bool b) := (blk_cell HX.out.1 1).trans rfl; have x2 : w9.cell? ⟨w.heap.size, 2, none⟩ = some (.slice A l.length c) := (blk_cell HX.out.1 2).trans rfl)))
   go_ret
   exact ⟨rfl, HX.out.2⟩
 ·rw [if_neg d]
  obtain ⟨V, hV⟩ : ∃ V, V = askS n l s t h := ⟨_, rfl⟩
  rw [← hV] at d e1 e2 ⊢
  have HN := zh hV.symm
  clear hV d
  go_enter Try.func11, Try.ntmps11
  go_wp2_with (go_at_call 15; rw [← hw1]; go_loud ((with_reducible refine (ask_span (b := b) (c := c) (s := s) (t := t) (h := h) ?s1 HC.out).mono ?_); (case s1 => exact Kd.C_below HR.out HX.out.2); rintro e w9 ⟨rfl, hb⟩; rw [HN.out]; have HN9 := zh (And.intro (blk_below HX.out.1 hb) (below_step HX.out.2 hb)); clear HX hb; have HX := HN9; clear HN9; have x0 : w9.cell? ⟨w.heap.size, 0, none⟩ = some (.int .i64 n) := (blk_cell HX.out.1 0).trans rfl; have x1 : w9.cell? ⟨w.heap.size, 1, none⟩ = some (.bool b) := (blk_cell HX.out.1 1).trans rfl; have x2 : w9.cell? ⟨w.heap.size, 2, none⟩ = some (.slice A l.length c) := (blk_cell HX.out.1 2).trans rfl))
  go_ret
  exact ⟨rfl, HX.out.2⟩
end
end Go.Proofs.Ytdfagllncopmjaa.H
end
section
namespace Go.Proofs.Ytdfagllncopmjaa.H
open Go Go.RowKit Go.Proofs.Ytdfagllncopmjaa.PrintC Go.Proofs.Ytdfagllncopmjaa.PrintE Go.Proofs.YtdfagllncopmjaaW.PrintWords Go.Proofs.YtdfagllncopmjaaW.PrintLast Go.Proofs.YtdfagllncopmjaaW.PrintMore Go.Proofs.Ytdfagllncopmjaa.Flow
set_option linter.unusedVariables false
set_option linter.unusedSimpArgs false
theorem GrI.free {w0 : World} {gg : Nat} {N n : Int} {v : Value} {arcs : List Arc} {B : MB} {D : MD} {W : World} (h : GrI w0 gg N n v arcs B D W) : GrI (bare W) gg N n v arcs B D W :=
 ⟨h.bx, Kd.R_lower h.ar (Nat.zero_le _), h.mm, h.mw, h.mf, h.ml, below_bare W W ⟨rfl, rfl, rfl⟩, Nat.zero_le _, Nat.zero_le _, Nat.zero_le _, Nat.zero_le _, Nat.zero_le _, h.n1, h.n2, h.n3, h.n4, h.n5, h.n6⟩
def TfSolved (n h s t N N1 M : Nat) (b : Bool) (l E : List Arc) (w : World) (e : Ending) (w' : World) : Prop :=
 ∃ (w0 : World) (gg : Nat) (v : Value) (B : MB) (D : MD) (bf : Nat) (f : List Int) (S : Int → Bool), e = .returned (.agg #[.pointer (some ⟨gg, 0, none⟩), .slice (some ⟨bf, 0, none⟩) E.length E.length, .int .i64 (leaves E.length (frOf E) (toOf E) (dOf f) N)]) ∧ GrI w0 gg M n v E B D w' ∧ D.m = putAll (tfB n h s t b l).mv ∧ IntBlk w' bf f ∧ FlowOk E f ∧ Top E.length (frOf E) (toOf E) M N N1 (capOf E) (dOf f) S ∧ Below w.heap.size w w'
section
variable {n h s t N N1 M : Nat} {b : Bool} {A : Option Addr} {c : Nat} {l : List Arc} {w : World}
set_option maxHeartbeats 4000000 in
set_option maxRecDepth 100000 in
theorem tof_walk (E : List Arc) (hE : E = tfArcs l b n h s t N N1) (eN : N = (h + 1) * n) (e1 : N1 = N + 1) (e2 : M = N + 2) (o : TfOk n h s t l) (hlc : l.length ≤ c) (hr : Kd.C kArc w A l.length l) :
  Calls Try.prog 12 #[.agg #[.int .i64 n, .bool b, .slice A l.length c], .int .i64 s, .int .i64 t, .int .i64 h] w (TfSolved n h s t N N1 M b l E w) := by
 have HO := zh o
 have HR := zh hr
 have HE := zh hE
 have HNO : Hid (NetOk M E ∧ ∀ i : Int, 0 ≤ i → i < E.length → 0 ≤ (rd_T48 E i).f2) := zh (by
  subst e2 e1 eN hE
  exact o.netOk b)
 have HEE := zh (And.intro eN (And.intro e1 e2))
 have hu := Try.underlying28
 have hu3 := Try.underlying53
 clear o hr hE eN e1 e2
 obtain ⟨w1, hw1⟩ : ∃ w1, w1 = (w.alloc (.cells #[.int .i64 n, .bool b, .slice A l.length c] 28)).alloc (.cells #[.pointer none, .slice none 0 0, .int .i64 0] 53) := ⟨_, rfl⟩
 have HX : Hid (w1.heap[w.heap.size]? = some (.cells #[.int .i64 n, .bool b, .slice A l.length c] 28 (0, 0)) ∧ w1.heap[w.heap.size + 1]? = some (.cells #[.pointer none, .slice none 0 0, .int .i64 0] 53 (0, 0)) ∧ Below w.heap.size w w1) := zh (by
  rw [hw1]
  exact ⟨blk_alloc (heap_alloc_new _ _) _, alloc_at (by rw [alloc_size]), below_alloc (below_alloc (Below.refl _ _) _) _⟩)
 go_enter Try.func12, Try.ntmps12
 go_wp2_with (first
  |(go_at_call 18; rw [← hw1]; go_loud ((with_reducible refine (of_walk n h s t N N1 M HEE.out.1 HEE.out.2.1 HEE.out.2.2 b A c l _ HO.out hlc ?s1).mono ?_); (case s1 => exact Kd.C_below HR.out HX.out.2.2); rintro e w2 ⟨w0, gg, v, B, D, rfl, hI, hD, hb⟩; rw [← HE.out] at hI; have HI := zh hI; have HD := zh hD; have HX2 := zh (And.intro (blk_below HX.out.2.1 hb) (below_step HX.out.2.2 hb)); clear hI hD hb))
  |(go_at_call 17; go_loud ((with_reducible refine (solve_walk w0 gg N N1 M HEE.out.2.1 HEE.out.2.2 n v E B D _ HI.out HNO.out.1 HNO.out.2).mono ?_); rintro e w3 ⟨bf, f, S, rfl, k1, k2, k3, k4, k5, k6⟩; have HX3 := zh (And.intro (blk_below HX2.out.1 k6) (below_step HX2.out.2 k6)); have K1 := zh k1.free; have K2 := zh k2; have K4 := zh (And.intro k4 k5); have y0 : w3.cell? ⟨w.heap.size + 1, 0, none⟩ = some (.pointer none) := (blk_cell HX3.out.1 0).trans rfl; have y1 : w3.cell? ⟨w.heap.size + 1, 1, none⟩ = some (.slice none 0 0) := (blk_cell HX3.out.1 1).trans rfl; have y2 : w3.cell? ⟨w.heap.size + 1, 2, none⟩ = some (.int .i64 0) := (blk_cell HX3.out.1 2).trans rfl; have f0 := blk_frozen HX3.out.1 0; have f1 := blk_frozen HX3.out.1 1; have f2 := blk_frozen HX3.out.1 2; clear k1 k2 k3 k4 k5 k6)))
 obtain ⟨V, hV⟩ : ∃ V, V = leaves E.length (frOf E) (toOf E) (dOf f) N := ⟨_, rfl⟩
 rw [← hV]
 have k0 := blk_put (cs := #[.pointer none, .slice none 0 0, .int .i64 0]) HX3.out.1 0 (.pointer (some ⟨gg, 0, none⟩)) rfl
 have k1 := blk_put (cs := #[.pointer (some ⟨gg, 0, none⟩), .slice none 0 0, .int .i64 0]) k0 1 (.slice (some ⟨bf, 0, none⟩) E.length E.length) rfl
 have k2 := blk_put (cs := #[.pointer (some ⟨gg, 0, none⟩), .slice (some ⟨bf, 0, none⟩) E.length E.length, .int .i64 0]) k1 2 (.int .i64 V) rfl
 refine bodyPost_ret (results_cell_row rfl _ _ (w.heap.size + 1) 53 #[.pointer (some ⟨gg, 0, none⟩), .slice (some ⟨bf, 0, none⟩) E.length E.length, .int .i64 V] (0, 0) _ rfl k2 hu3 rfl (by kernel_rfl)) rfl ?_
 have hne : bf ≠ w.heap.size + 1 := blk_ne K2.out HX3.out.1 (by decide)
 refine ⟨bare w3, gg, v, B, D, bf, f, S, by rw [hV], ((K1.out.set HX3.out.1 (by decide) (by decide) (Nat.zero_le _) 0 _).set k0 (by decide) (by decide) (Nat.zero_le _) 1 _).set k1 (by decide) (by decide) (Nat.zero_le _) 2 _, HD.out, ?_, K4.out.1, K4.out.2, below_set (below_set (below_set HX3.out.2 (Nat.le_succ _)) (Nat.le_succ _)) (Nat.le_succ _)⟩
 unfold IntBlk
 rw [Below.heap_setCell _ ⟨w.heap.size + 1, 2, none⟩ _ _ hne, Below.heap_setCell _ ⟨w.heap.size + 1, 1, none⟩ _ _ hne, Below.heap_setCell _ ⟨w.heap.size + 1, 0, none⟩ _ _ hne]
 exact K2.out
end
theorem arcsV_of {n : Int} : ∀ {l : List Arc}, (∀ x, x ∈ l → (0 ≤ x.f0 ∧ x.f0 < n) ∧ (0 ≤ x.f1 ∧ x.f1 < n) ∧ (0 ≤ x.f2 ∧ x.f2 ≤ 1048576) ∧ (0 ≤ x.f3 ∧ x.f3 ≤ 1048576)) → arcsV n l = 0
 |[], _ => rfl
 |y :: l, h => by
  have h1 := h y (List.mem_cons_self ..)
  have c : arcV n y.f0 y.f1 y.f2 y.f3 = 0 := by
   unfold arcV
   rw [if_neg (by omega), if_neg (by omega), if_neg (by omega)]
  rw [arcsV_cons, if_pos c]
  exact arcsV_of (fun x hx => h x (List.mem_cons_of_mem _ hx))
theorem ask_of {n h s t : Nat} {l : List Arc} (o : TfOk n h s t l) (h50 : n ≤ 50) (h200 : l.length ≤ 200) : askT n l s t h = 0 := by
 have h1 : netV n l = 0 := by
  have := o.net.n0
  unfold netV
  rw [if_neg (by omega), if_neg (by omega), if_neg (by omega)]
  refine arcsV_of (fun x hx => ?_)
  obtain ⟨i, hi, rfl⟩ := List.getElem_of_mem hx
  have e : arcAt l i = l[i] := by
   unfold arcAt rd_T48
   rw [Int.toNat_natCast, List.getD_eq_getElem?_getD, List.getElem?_eq_getElem hi]
   rfl
  have g1 := o.net.ends i hi
  have g2 := o.net.time i hi
  have g3 := o.caps i hi
  rw [e] at g1 g2 g3
  exact ⟨g1.1, g1.2, g3, g2⟩
 have h2 : endsV n l s t = 0 := by
  have := o.hs
  have := o.ht
  have := o.st
  unfold endsV
  rw [if_pos h1, if_pos (by omega)]
 have h3 : spanV h = 0 := by
  have := o.hh
  unfold spanV
  rw [if_neg (by omega), if_neg (by omega)]
 have h4 : askS n l s t h = 0 := by
  unfold askS
  rw [if_pos h2, h3]
 have h5 : fitsV n l h = true := by
  have a1 : (((h + 1) * n : Nat) : Int) ≤ 4000 := by have := o.net.hn; omega
  have a2 : (((h + 1) * l.length : Nat) : Int) ≤ 10000 := by have := o.net.hl; omega
  unfold fitsV
  rw [Bool.and_eq_true, decide_eq_true_eq, decide_eq_true_eq]
  rw [Int.natCast_mul] at a1 a2
  exact ⟨a1, a2⟩
 unfold askT
 rw [if_pos h4, if_pos h5]
structure PlanM (n h s t : Nat) (b : Bool) (l : List Arc) (m : List Mv) : Prop where
 mg : MgOf m m
 ok : ∀ x, x ∈ m → moveOk l h s t x = true
 st : ∀ v z : Nat, v < n → z ≤ h → ¬ BadT h b s t l m v z
 val : stockV l m t h = tfV n h s t b l
 f2 : ∀ x, x ∈ m → -9223372036854775808 ≤ x.f2 ∧ x.f2 ≤ 9223372036854775807
 len : m.length ≤ 100000
def TopEx (n h s t : Nat) (b : Bool) (l : List Arc) : Prop := ∃ (F : List Int) (S : Int → Bool), FlowOk (tfA n h s t b l) F ∧ Top (tfA n h s t b l).length (frOf (tfA n h s t b l)) (toOf (tfA n h s t b l)) ((h + 1) * n + 2) ((h + 1) * n : Nat) ((h + 1) * n + 1 : Nat) (capOf (tfA n h s t b l)) (dOf F) S
theorem planM_of {n h s t : Nat} {b : Bool} {l : List Arc} (o : TfOk n h s t l) {F : List Int} {S : Int → Bool} {m : List Mv} (hF : FlowOk (tfA n h s t b l) F) (hT : Top (tfA n h s t b l).length (frOf (tfA n h s t b l)) (toOf (tfA n h s t b l)) ((h + 1) * n + 2) ((h + 1) * n : Nat) ((h + 1) * n + 1 : Nat) (capOf (tfA n h s t b l)) (dOf F) S) (hm : MgOf (toldL F (tfB n h s t b l).mv) m) (hl : m.length ≤ 100000) : PlanM n h s t b l m := by
 have hB : Bal (tfA n h s t b l).length (frOf (tfA n h s t b l)) (toOf (tfA n h s t b l)) ((h + 1) * n + 2) ((h + 1) * n : Nat) (((h + 1) * n : Nat) + 1) (dOf F) := hT.2.1
 refine ⟨hm.self, tfMok o hF hm, tfPlan o hF hB hm, ?_, fun x hx => ?_, hl⟩
 ·rw [tfAmount o hF hB hm]
  unfold tfV
  exact (mfVal_eq (o.arcs b) (by omega) hF hT).symm
 ·obtain ⟨h1, h2, -⟩ := told_f2 (tfF_bd o hF) ((told_perm (tfEnt o b).1 (tfF_bd o hF) hm).mem_iff.1 hx)
  omega
theorem told_blk (w0 : World) (gg : Nat) (N n : Int) (v : Value) (arcs : List Arc) (B : MB) (D : MD) (mv : List Ent) (bf k cf : Nat) (f : List Int) (w : World) (h : GrI w0 gg N n v arcs B D w) (hD : D.m = putAll mv) (hm : EntOk mv) (hlm : mv.length ≤ 100000) (hf : IntBlk w bf f) (hk : f.length = k) (hkl : k ≤ 1000000) (hi : ∀ x, x ∈ mv → x.2.2 < f.length) (hb : ∀ x, x ∈ f → x ≤ 9223372036854775807) :
  Calls Try.prog 14 #[.pointer (some ⟨gg, 0, none⟩), .slice (some ⟨bf, 0, none⟩) k cf] w (ToldAt f mv w) := by
 subst hk
 exact told_walk w0 gg N n v arcs B D mv (some ⟨bf, 0, none⟩) cf f w h hD hm hlm (hf.reads (by omega)) hi hb
section
variable {n h s t : Nat} {b : Bool} {A : Option Addr} {c : Nat} {l : List Arc} {w : World}
def MaxAt (n h s t : Nat) (b : Bool) (l : List Arc) (w : World) (e : Ending) (w' : World) : Prop :=
 Below w.heap.size w w' ∧ ∃ (m : List Mv) (A1 : Option Addr) (c1 : Nat), e = .returned (.tuple #[.slice A1 m.length c1, .int .i64 (tfV n h s t b l), .int .i64 0]) ∧ Kd.R kMv 69 w' w.heap.size (fun _ => True) (.slice A1 m.length c1) m ∧ PlanM n h s t b l m ∧ TopEx n h s t b l
set_option maxHeartbeats 8000000 in
set_option maxRecDepth 100000 in
theorem max_walk (o : TfOk n h s t l) (ha : askT n l s t h = 0) (hlc : l.length ≤ c) (hr : Kd.C kArc w A l.length l) :
  Calls Try.prog 9 #[.agg #[.int .i64 n, .bool b, .slice A l.length c], .int .i64 s, .int .i64 t, .int .i64 h] w (MaxAt n h s t b l w) := by
 have HO := zh o
 have HR := zh hr
 have HA := zh ha
 have HLC := zh hlc
 obtain ⟨E, hE⟩ : ∃ E, E = tfA n h s t b l := ⟨_, rfl⟩
 have HE := zh hE
 have HEL : Hid (E.length ≤ 1000000) := zh (by
  have h1 := o.len b ((h + 1) * n) ((h + 1) * n + 1)
  have h2 := o.hh
  rw [hE]
  show (tfArcs l b n h s t ((h + 1) * n) ((h + 1) * n + 1)).length ≤ _
  omega)
 have hu := Try.underlying28
 have hu3 := Try.underlying53
 clear o hr ha hlc hE
 obtain ⟨V, hV⟩ : ∃ V, V = tfV n h s t b l := ⟨_, rfl⟩
 have HVE := zh hV
 clear hV
 obtain ⟨w1, hw1⟩ : ∃ w1, w1 = w.alloc (.cells #[.int .i64 n, .bool b, .slice A l.length c] 28) := ⟨_, rfl⟩
 have HX : Hid (w1.heap[w.heap.size]? = some (.cells #[.int .i64 n, .bool b, .slice A l.length c] 28 (0, 0)) ∧ Below w.heap.size w w1) := zh (by rw [hw1]; exact ⟨heap_alloc_new _ _, below_alloc (Below.refl _ _) _⟩)
 go_enter Try.func9, Try.ntmps9
 go_wp2_with (first
  |(go_at_call 11; rw [← hw1]; go_loud ((with_reducible refine (ask_walk (b := b) (c := c) ?s1 HLC.out).mono ?_); (case s1 => exact Kd.C_below HR.out HX.out.2); rintro e w9 ⟨rfl, hb⟩; rw [HA.out]; have HN9 := zh (And.intro (blk_below HX.out.1 hb) (below_step HX.out.2 hb)); clear HX hb; have HX := HN9; clear HN9; have x0 : w9.cell? ⟨w.heap.size, 0, none⟩ = some (.int .i64 n) := (blk_cell HX.out.1 0).trans rfl; have x1 : w9.cell? ⟨w.heap.size, 1, none⟩ = some (.bool b) := (blk_cell HX.out.1 1).trans rfl; have x2 : w9.cell? ⟨w.heap.size, 2, none⟩ = some (.slice A l.length c) := (blk_cell HX.out.1 2).trans rfl))
  |(go_at_call 12; go_loud ((with_reducible refine (tof_walk E HE.out rfl rfl rfl HO.out HLC.out ?s1).mono ?_); (case s1 => exact Kd.C_below HR.out HX.out.2); rintro e w3 ⟨w0, gg, v, B, D, bf, f, S, rfl, k1, k2, k3, k4, k5, k6⟩; have hv9 : leaves E.length (frOf E) (toOf E) (dOf f) (((h + 1) * n : Nat) : Int) = V := (by rw [HVE.out]; have q4 := k4; have q5 := k5; rw [HE.out] at q4 q5 ⊢; exact (mfVal_eq (HO.out.arcs b) (by omega) q4 q5).symm); rw [hv9]; clear hv9; have HB3 := zh (below_step HX.out.2 k6); have K1 := zh (And.intro k1 k2); have K3 := zh k3; have K4 := zh (And.intro k4 k5); clear k1 k2 k3 k4 k5 k6 x0 x1 x2)))
 have HT : Hid (TopEx n h s t b l) := zh (by
  have := K4.out
  rw [HE.out] at this
  exact ⟨f, S, this.1, this.2⟩)
 obtain ⟨w4, hw4⟩ : ∃ w4, w4 = w3.alloc (.cells #[.pointer (some ⟨gg, 0, none⟩), .slice (some ⟨bf, 0, none⟩) E.length E.length, .int .i64 V] 53) := ⟨_, rfl⟩
 have HX4 : Hid (w4.heap[w3.heap.size]? = some (.cells #[.pointer (some ⟨gg, 0, none⟩), .slice (some ⟨bf, 0, none⟩) E.length E.length, .int .i64 V] 53 (0, 0)) ∧ Below w3.heap.size w3 w4) := zh (by rw [hw4]; exact ⟨heap_alloc_new _ _, below_alloc (Below.refl _ _) _⟩)
 rw [← hw4]
 have HB4 := zh (below_step HB3.out HX4.out.2)
 have HG4 := zh (K1.out.1.below HX4.out.2)
 have HF4 : Hid (IntBlk w4 bf f) := zh (blk_below K3.out HX4.out.2)
 have y0 : w4.cell? ⟨w3.heap.size, 0, none⟩ = some (.pointer (some ⟨gg, 0, none⟩)) := (blk_cell HX4.out.1 0).trans rfl
 have y1 : w4.cell? ⟨w3.heap.size, 1, none⟩ = some (.slice (some ⟨bf, 0, none⟩) E.length E.length) := (blk_cell HX4.out.1 1).trans rfl
 have y2 : w4.cell? ⟨w3.heap.size, 2, none⟩ = some (.int .i64 V) := (blk_cell HX4.out.1 2).trans rfl
 clear hw4
 go_region_held3 (fun w' => w'.cell? ⟨w3.heap.size, 0, none⟩ = some (.pointer (some ⟨gg, 0, none⟩)) ∧ w'.cell? ⟨w3.heap.size, 1, none⟩ = some (.slice (some ⟨bf, 0, none⟩) E.length E.length) ∧ w'.cell? ⟨w3.heap.size, 2, none⟩ = some (.int .i64 V)) (first | exact HS9.out | go_keep) ((go_at_call 14; go_loud ((with_reducible refine (told_blk w0 gg (((h + 1) * n + 2 : Nat) : Int) (n : Int) v E B D (tfB n h s t b l).mv bf E.length _ f _ ?t1 K1.out.2 (tfEnt HO.out b).1 (tfEnt HO.out b).2 ?t2 K4.out.1.len HEL.out ?t4 ?t5).mono ?_); (case t1 => exact HG4.out.below zD); (case t2 => exact blk_below HF4.out zD); (case t4 => have h9 := K4.out.1; rw [HE.out] at h9; exact tfF_in HO.out h9); (case t5 => have h9 := K4.out.1; rw [HE.out] at h9; exact tfF_bd HO.out h9); rintro e w9 ⟨hb, m, A1, c1, rfl, hR2, hmg, hml⟩; have hb9 : Below w4.heap.size w4 w9 := below_step zD hb; have HS9 : Hid (w9.cell? ⟨w3.heap.size, 0, none⟩ = some (.pointer (some ⟨gg, 0, none⟩)) ∧ w9.cell? ⟨w3.heap.size, 1, none⟩ = some (.slice (some ⟨bf, 0, none⟩) E.length E.length) ∧ w9.cell? ⟨w3.heap.size, 2, none⟩ = some (.int .i64 V)) := zh ⟨pw_cell_below hb9 y0, pw_cell_below hb9 y1, pw_cell_below hb9 y2⟩; have HB9 := zh (below_step HB4.out hb9); have HR9 := zh (Kd.R_lower (base' := w.heap.size) hR2 (Nat.le_trans HB4.out.size (show w4.heap.size ≤ _ from Nat.le_refl _))); have HMG := zh (And.intro hmg hml); clear hb hb9 hR2 hmg hml)))
 all_goals
  go_wp2
  go_ret3
  refine ⟨?_, m, A1, c1, by rw [HVE.out]; rfl, ?_, ?_, HT.out⟩
  ·first
    |exact HB9.out
    |exact pw_below_drewN HB9.out _
  ·first
    |exact HR9.out
    |exact Kd.R_drew HR9.out
  ·have h9 := K4.out
   rw [HE.out] at h9
   exact planM_of HO.out h9.1 h9.2 HMG.out.1 (Nat.le_trans HMG.out.2 (tfEnt HO.out b).2)
theorem most_walk (o : TfOk n h s t l) (ha : askT n l s t h = 0) (hlc : l.length ≤ c) (hr : Kd.C kArc w A l.length l) :
  Calls Try.prog 6 #[.agg #[.int .i64 n, .bool b, .slice A l.length c], .int .i64 s, .int .i64 t, .int .i64 h] w fun e w' => e = .returned (.tuple #[.int .i64 (tfV n h s t b l), .int .i64 0]) ∧ Below w.heap.size w w' ∧ TopEx n h s t b l := by
 have HO := zh o
 have HR := zh hr
 have HA := zh ha
 have HLC := zh hlc
 have hu := Try.underlying28
 clear o hr ha hlc
 obtain ⟨V, hV⟩ : ∃ V, V = tfV n h s t b l := ⟨_, rfl⟩
 rw [← hV]
 have HVE := zh hV
 clear hV
 obtain ⟨w1, hw1⟩ : ∃ w1, w1 = w.alloc (.cells #[.int .i64 n, .bool b, .slice A l.length c] 28) := ⟨_, rfl⟩
 have HX : Hid (w1.heap[w.heap.size]? = some (.cells #[.int .i64 n, .bool b, .slice A l.length c] 28 (0, 0)) ∧ Below w.heap.size w w1) := zh (by rw [hw1]; exact ⟨heap_alloc_new _ _, below_alloc (Below.refl _ _) _⟩)
 go_enter Try.func6, Try.ntmps6
 go_wp2_with (go_at_call 9; rw [← hw1]; go_loud ((with_reducible refine (max_walk HO.out HA.out HLC.out ?s1).mono ?_); (case s1 => exact Kd.C_below HR.out HX.out.2); rintro e w3 ⟨hb, m, A1, c1, rfl, hR, hP, hT⟩; rw [← HVE.out]; have HB3 := zh (And.intro (below_step HX.out.2 hb) hT); clear hb hR hP hT))
 go_ret2
 exact ⟨rfl, HB3.out.1, HB3.out.2⟩
def TCutAt (X : List Slot) (r : Int) (w : World) (e : Ending) (w' : World) : Prop := ∃ v : Value, e = .returned (.tuple #[v, .int .i64 r]) ∧ Kd.R kSlot 44 w' w.heap.size (fun _ => True) v X ∧ Below w.heap.size w w'
set_option maxHeartbeats 8000000 in
set_option maxRecDepth 100000 in
theorem cut_walk (o : TfOk n h s t l) (ha : askT n l s t h = 0) (hlc : l.length ≤ c) (hr : Kd.C kArc w A l.length l) :
  Calls Try.prog 8 #[.agg #[.int .i64 n, .bool b, .slice A l.length c], .int .i64 s, .int .i64 t, .int .i64 h] w (TCutAt (tfCut n h s t b l) 0 w) := by
 have HO := zh o
 have HR := zh hr
 have HA := zh ha
 have HLC := zh hlc
 obtain ⟨E, hE⟩ : ∃ E, E = tfA n h s t b l := ⟨_, rfl⟩
 have HNO : Hid (NetOk ((h + 1) * n + 2) E) := zh (by rw [hE]; exact tf_net o b)
 have HE := zh hE
 have hu := Try.underlying28
 have hu3 := Try.underlying53
 clear o hr ha hlc hE
 obtain ⟨w1, hw1⟩ : ∃ w1, w1 = w.alloc (.cells #[.int .i64 n, .bool b, .slice A l.length c] 28) := ⟨_, rfl⟩
 have HX : Hid (w1.heap[w.heap.size]? = some (.cells #[.int .i64 n, .bool b, .slice A l.length c] 28 (0, 0)) ∧ Below w.heap.size w w1) := zh (by rw [hw1]; exact ⟨heap_alloc_new _ _, below_alloc (Below.refl _ _) _⟩)
 go_enter Try.func8, Try.ntmps8
 go_wp2_with (go_at_call 11; rw [← hw1]; go_loud ((with_reducible refine (ask_walk (b := b) (c := c) ?s1 HLC.out).mono ?_); (case s1 => exact Kd.C_below HR.out HX.out.2); rintro e w9 ⟨rfl, hb⟩; rw [HA.out]; have HN9 := zh (And.intro (blk_below HX.out.1 hb) (below_step HX.out.2 hb)); clear HX hb; have HX := HN9; clear HN9; have x0 : w9.cell? ⟨w.heap.size, 0, none⟩ = some (.int .i64 n) := (blk_cell HX.out.1 0).trans rfl; have x1 : w9.cell? ⟨w.heap.size, 1, none⟩ = some (.bool b) := (blk_cell HX.out.1 1).trans rfl; have x2 : w9.cell? ⟨w.heap.size, 2, none⟩ = some (.slice A l.length c) := (blk_cell HX.out.1 2).trans rfl))
 generalize hw5 : w9 = w5 at *
 clear hw5
 go_region_held3 (fun w' => w'.cell? ⟨w.heap.size, 0, none⟩ = some (.int .i64 n) ∧ w'.cell? ⟨w.heap.size, 1, none⟩ = some (.bool b) ∧ w'.cell? ⟨w.heap.size, 2, none⟩ = some (.slice A l.length c)) (first | exact HS10.out | exact HS9.out | go_keep) ((first
  |(go_at_call 12; (with_reducible refine (tof_walk E HE.out rfl rfl rfl HO.out HLC.out ?s1).mono ?_); (case s1 => exact Kd.C_below HR.out (below_step HX.out.2 zD)); rintro e w3 ⟨w0, gg, v, B, D, bf, f, S, rfl, k1, k2, k3, k4, k5, k6⟩; have hb9 : Below w5.heap.size w5 w3 := below_step zD k6; have HS9 : Hid (w3.cell? ⟨w.heap.size, 0, none⟩ = some (.int .i64 n) ∧ w3.cell? ⟨w.heap.size, 1, none⟩ = some (.bool b) ∧ w3.cell? ⟨w.heap.size, 2, none⟩ = some (.slice A l.length c)) := zh ⟨pw_cell_below hb9 x0, pw_cell_below hb9 x1, pw_cell_below hb9 x2⟩; have HB3 := zh (below_step HX.out.2 hb9); have K1 := zh k1; have K3 := zh k3; have K4 := zh (And.intro k4 k5); clear k1 k2 k3 k4 k5 k6 hb9)
  |(go_at_call 13; (with_reducible refine (slots_walk w0 gg ((h + 1) * n) ((h + 1) * n + 1) ((h + 1) * n + 2) rfl rfl n v E B D bf f _ _ ?s1 HNO.out HO.out.net.n0 ?s2 K4.out.1).mono ?_); (case s1 => exact K1.out.below zD); (case s2 => exact blk_below K3.out zD); rintro e w10 ⟨v10, d, rows, rfl, m1, m2, m3, m4, m5⟩; have hb10 : Below w3.heap.size w3 w10 := below_step zD m5; have HB10 := zh (below_step HB3.out hb10); have HS10 : Hid (w10.cell? ⟨w.heap.size, 0, none⟩ = some (.int .i64 n) ∧ w10.cell? ⟨w.heap.size, 1, none⟩ = some (.bool b) ∧ w10.cell? ⟨w.heap.size, 2, none⟩ = some (.slice A l.length c)) := zh ⟨pw_cell_below hb10 HS9.out.1, pw_cell_below hb10 HS9.out.2.1, pw_cell_below hb10 HS9.out.2.2⟩; have HM1 := zh (Kd.R_lower (base' := w.heap.size) m1 (Nat.le_trans HB3.out.size (show w3.heap.size ≤ _ from Nat.le_refl _))); have HCV : Hid (slotsOf n d ((h + 1) * n) = tfCut n h s t b l) := zh (by have h9 := (cutOf_eq (n := n) HNO.out (by omega) (by omega) ⟨f, S, rows, K4.out.1, K4.out.2, m3, m4⟩).symm; rw [h9, HE.out]; rfl); clear m1 m2 m3 m4 m5 hb10)))
 all_goals
  go_wp2
  go_ret2
  refine ⟨_, rfl, ?_, ?_⟩
  ·have h9 := HM1.out
   rw [HCV.out] at h9
   first
    |exact h9
    |exact Kd.R_drew h9
  ·first
    |exact HB10.out
    |exact pw_below_drewN HB10.out _
end
section
variable {n s t h : Int} {b : Bool} {A : Option Addr} {c : Nat} {l : List Arc} {w : World} {r : Int}
def Bad3 (r : Int) (w : World) (e : Ending) (w' : World) : Prop := e = .returned (.tuple #[.slice none 0 0, .int .i64 0, .int .i64 r]) ∧ Below w.heap.size w w'
set_option maxHeartbeats 4000000 in
theorem max_bad (ha : askT n l s t h = r) (h0 : r ≠ 0) (hlc : l.length ≤ c) (hr : Kd.C kArc w A l.length l) :
  Calls Try.prog 9 #[.agg #[.int .i64 n, .bool b, .slice A l.length c], .int .i64 s, .int .i64 t, .int .i64 h] w (Bad3 r w) := by
 have HR := zh hr
 have HA := zh ha
 have HLC := zh hlc
 have hu := Try.underlying28
 have e1 : (r != 0) = true := bne_iff_ne.2 h0
 have e2 : (r == 0) = false := beq_eq_false_iff_ne.2 h0
 have H0 := zh h0
 clear hr ha hlc h0
 obtain ⟨w1, hw1⟩ : ∃ w1, w1 = w.alloc (.cells #[.int .i64 n, .bool b, .slice A l.length c] 28) := ⟨_, rfl⟩
 have HX : Hid (w1.heap[w.heap.size]? = some (.cells #[.int .i64 n, .bool b, .slice A l.length c] 28 (0, 0)) ∧ Below w.heap.size w w1) := zh (by rw [hw1]; exact ⟨heap_alloc_new _ _, below_alloc (Below.refl _ _) _⟩)
 go_enter Try.func9, Try.ntmps9
 go_wp2_with (go_at_call 11; rw [← hw1]; go_loud ((with_reducible refine (ask_walk (b := b) (c := c) ?s1 HLC.out).mono ?_); (case s1 => exact Kd.C_below HR.out HX.out.2); rintro e w9 ⟨rfl, hb⟩; rw [HA.out]; have HN9 := zh (And.intro (blk_below HX.out.1 hb) (below_step HX.out.2 hb)); clear HX hb; have HX := HN9; clear HN9; have x0 : w9.cell? ⟨w.heap.size, 0, none⟩ = some (.int .i64 n) := (blk_cell HX.out.1 0).trans rfl; have x1 : w9.cell? ⟨w.heap.size, 1, none⟩ = some (.bool b) := (blk_cell HX.out.1 1).trans rfl; have x2 : w9.cell? ⟨w.heap.size, 2, none⟩ = some (.slice A l.length c) := (blk_cell HX.out.1 2).trans rfl))
 go_ret3
 exact ⟨rfl, HX.out.2⟩
end
def U8 (x : Int) : Prop := 0 ≤ x ∧ x ≤ 255
structure NetSm (m : Nat) (n : Int) (l : List Arc) : Prop where
 n2 : 2 ≤ n
 n5 : n ≤ 5
 ll : l.length ≤ m
 arc : ∀ x, x ∈ l → (0 ≤ x.f0 ∧ x.f0 < n) ∧ (0 ≤ x.f1 ∧ x.f1 < n) ∧ (0 ≤ x.f2 ∧ x.f2 ≤ 5) ∧ 0 ≤ x.f3 ∧ x.f3 ≤ 3
def arcCells (l : List Arc) : List Value := l.flatMap fun x => [.int .i64 x.f0, .int .i64 x.f1, .int .i64 x.f2, .int .i64 x.f3]
theorem arcCells_get : ∀ (l : List Arc) (j : Nat) (x : Arc), l[j]? = some x → ∀ (i : Nat) (u : Value), ([.int .i64 x.f0, .int .i64 x.f1, .int .i64 x.f2, .int .i64 x.f3] : List Value)[i]? = some u → (arcCells l)[j * 4 + i]? = some u
 |[], j, x, h, _, _, _ => by simp at h
 |y :: l, 0, x, h, i, u, hu => by
  have e : y = x := by simpa using h
  subst e
  have hi : i < 4 := (List.getElem?_eq_some_iff.1 hu).1
  show ([Value.int .i64 y.f0, .int .i64 y.f1, .int .i64 y.f2, .int .i64 y.f3] ++ arcCells l)[0 * 4 + i]? = some u
  rw [Nat.zero_mul, Nat.zero_add, List.getElem?_append_left hi]
  exact hu
 |y :: l, j + 1, x, h, i, u, hu => by
  have h2 : l[j]? = some x := by simpa using h
  show ([Value.int .i64 y.f0, .int .i64 y.f1, .int .i64 y.f2, .int .i64 y.f3] ++ arcCells l)[(j + 1) * 4 + i]? = some u
  rw [show (j + 1) * 4 + i = 4 + (j * 4 + i) by omega, List.getElem?_append_right (by simp)]
  simp only [List.length_cons, List.length_nil, Nat.zero_add, Nat.reduceAdd, Nat.add_sub_cancel_left]
  exact arcCells_get l j x h2 i u hu
abbrev lineL : List Arc := [⟨0, 1, 2, 1⟩, ⟨1, 2, 2, 1⟩]
theorem arcs_blk {W : World} {g : Nat} {l : List Arc} (hl : l.length ≤ 100000) (h : W.heap[g]? = some (.cells (arcCells l).toArray 48 (0, 0))) : Kd.C kArc W (some ⟨g, 0, none⟩) l.length l := by
 refine ⟨rfl, by omega, fun _ => ⟨_, rfl, fun j p hj => ⟨[.int .i64 p.f0, .int .i64 p.f1, .int .i64 p.f2, .int .i64 p.f3], rfl, k48_mk _ p, fun i u hu => ?_⟩⟩⟩
 have h1 := arcCells_get l j p hj i u hu
 have h2 : W.cell? ⟨g, j * 4 + i, none⟩ = some u := by
  refine (blk_cell h (j * 4 + i)).trans ?_
  rw [List.getElem?_toArray]
  exact h1
 have h3 : (Addr.add ⟨g, 0, none⟩ (j * kArc.sz + i)) = ⟨g, j * 4 + i, none⟩ := by
  have : kArc.sz = 4 := rfl
  rw [this]
  unfold Addr.add
  split
  ·rename_i h4
   rw [h4]
  ·simp
 rw [h3]
 exact h2
set_option maxHeartbeats 4000000 in
set_option maxRecDepth 100000 in
theorem line_walk (b : Bool) (w : World) : Calls Try.prog 7 #[.bool b] w fun e w' => ∃ g, e = .returned (.agg #[.int .i64 3, .bool b, .slice (some ⟨g, 0, none⟩) 2 2]) ∧ Kd.C kArc w' (some ⟨g, 0, none⟩) 2 lineL ∧ Below w.heap.size w w' := by
 have hu := Try.underlying28
 go_enter Try.func7, Try.ntmps7
 go_wp2
 refine bodyPost_ret (results_cell_row rfl _ _ w.heap.size 28 #[.int .i64 3, .bool b, .slice (some ⟨w.heap.size + 1, 0, none⟩) 2 2] (0, 0) _ rfl (blk_alloc (heap_alloc_new w _) _) hu rfl (by kernel_rfl)) rfl ?_
 exact ⟨_, rfl, arcs_blk (l := lineL) (by decide) (alloc_at (by simp)), below_alloc (below_alloc (Below.refl _ _) _) _⟩
def topB (E : List Arc) (M : Nat) (N N1 : Int) (f : List Int) (S : Int → Bool) : Bool :=
 decide (f.length = E.length) && (decide (∀ i, i < E.length → 0 ≤ dOf f i ∧ dOf f i ≤ capOf E i) && (decide (∀ v, v < M → ((v : Int) = N ∨ (v : Int) = N1 ∨ leaves E.length (frOf E) (toOf E) (dOf f) v = 0)) && (decide (∀ i, i < E.length → (S (frOf E i) = false ∨ capOf E i ≤ dOf f i ∨ S (toOf E i) = true) ∧ (S (toOf E i) = false ∨ dOf f i ≤ 0 ∨ S (frOf E i) = true)) && (S N && !S N1))))
theorem top_dec {E : List Arc} {M : Nat} {N N1 : Int} {f : List Int} {S : Int → Bool} (h : topB E M N N1 f S = true) : FlowOk E f ∧ Top E.length (frOf E) (toOf E) M N N1 (capOf E) (dOf f) S := by
 unfold topB at h
 simp only [Bool.and_eq_true, decide_eq_true_eq, Bool.not_eq_true'] at h
 obtain ⟨h1, h2, h3, h4, h5, h6⟩ := h
 refine ⟨⟨h1, fun i i0 i1 => ?_⟩, fun i hi => h2 i hi, fun v hv c1 c2 => ?_, fun i hi => ?_, h5, h6⟩
 ·obtain ⟨k, rfl⟩ := Int.eq_ofNat_of_zero_le i0
  exact h2 k (by omega)
 ·rcases h3 v hv with e | e | e
  ·exact absurd e c1
  ·exact absurd e c2
  ·exact e
 ·obtain ⟨a, c⟩ := h4 i hi
  refine ⟨fun g1 g2 => ?_, fun g1 g2 => ?_⟩
  ·rcases a with e | e | e
   ·rw [e] at g1; cases g1
   ·omega
   ·exact e
  ·rcases c with e | e | e
   ·rw [e] at g1; cases g1
   ·omega
   ·exact e
theorem line_sm : NetSm 6 (3 : Nat) lineL where
 n2 := by decide
 n5 := by decide
 ll := by decide
 arc x hx := by
  simp only [lineL, List.mem_cons, List.not_mem_nil, or_false] at hx
  rcases hx with rfl | rfl <;> decide
theorem tf_sm {m n h s t : Nat} {l : List Arc} (hm : m ≤ 40) (hN : NetSm m n l) (hs : s < n) (ht : t < n) (hst : s ≠ t) (hh : h ≤ 16) : TfOk n h s t l ∧ askT n l s t h = 0 := by
 have n2 := hN.n2
 have n5 := hN.n5
 have ll := hN.ll
 have ha : ∀ i : Nat, i < l.length → _ := fun i hi => hN.arc _ (mem_arcAt hi)
 have o : TfOk n h s t l := ⟨⟨by omega, by omega, by omega, Nat.le_trans (Nat.mul_le_mul (show h + 1 ≤ 17 by omega) (show n ≤ 5 by omega)) (by decide), Nat.le_trans (Nat.mul_le_mul (show h + 1 ≤ 17 by omega) (show l.length ≤ 40 by omega)) (by decide), fun i hi => ⟨(ha i hi).1, (ha i hi).2.1⟩, fun i hi => by have := ha i hi; omega⟩, fun i hi => by have := ha i hi; omega, hs, ht, hst, by omega⟩
 exact ⟨o, ask_of o (by omega) (by omega)⟩
theorem line_five : tfV 3 5 0 2 false lineL = 8 := by
 have o := (tf_sm (h := 5) (s := 0) (t := 2) (by decide) line_sm (by decide) (by decide) (by decide) (by decide)).1
 have h := top_dec (E := tfArcs lineL false 3 5 0 2 ((5 + 1) * 3) ((5 + 1) * 3 + 1)) (M := (5 + 1) * 3 + 2) (N := ((5 + 1) * 3 : Nat)) (N1 := ((5 + 1) * 3 + 1 : Nat)) (f := [2, 0, 2, 2, 2, 2, 2, 2, 0, 2, 2, 2, 2, 2, 0, 0, 0, 0, 2, 2, 2, 2]) (S := fun v => decide (v ∈ ([18, 0, 3, 6, 9, 12, 15, 16] : List Int))) (by decide +kernel)
 unfold tfV
 rw [mfVal_eq (o.arcs false) (by decide) h.1 h.2]
 decide +kernel
theorem line_one : tfCut 3 1 0 2 true lineL = [⟨0, 0⟩, ⟨0, 1⟩, ⟨1, 1⟩] := by
 have o := (tf_sm (h := 1) (s := 0) (t := 2) (by decide) line_sm (by decide) (by decide) (by decide) (by decide)).1
 have h := top_dec (E := tfArcs lineL true 3 1 0 2 ((1 + 1) * 3) ((1 + 1) * 3 + 1)) (M := (1 + 1) * 3 + 2) (N := ((1 + 1) * 3 : Nat)) (N1 := ((1 + 1) * 3 + 1 : Nat)) (f := [0, 0, 0, 0, 0, 0, 0]) (S := fun v => decide (v ∈ ([6, 0, 3, 4] : List Int))) (by decide +kernel)
 have key : ∀ u : Nat, u < (1 + 1) * 3 → (InAll (tfArcs lineL true 3 1 0 2 ((1 + 1) * 3) ((1 + 1) * 3 + 1)) ((1 + 1) * 3 + 2) ((1 + 1) * 3) ((1 + 1) * 3 + 1) u ↔ u = 0 ∨ u = 3 ∨ u = 4) := fun u hu => by
  refine ⟨fun hA => ?_, fun hu2 f2 S2 b1 b2 => ?_⟩
  ·have hx := hA _ _ h.1 h.2
   have e : u = 0 ∨ u = 1 ∨ u = 2 ∨ u = 3 ∨ u = 4 ∨ u = 5 := by omega
   rcases e with rfl | rfl | rfl | rfl | rfl | rfl
   ·exact .inl rfl
   ·exact absurd hx (by decide)
   ·exact absurd hx (by decide)
   ·exact .inr (.inl rfl)
   ·exact .inr (.inr rfl)
   ·exact absurd hx (by decide)
  ·have hc := top_closed (ends_arcs (o.arcs true)) ⟨by decide, by decide⟩ h.2 b2
   have h6 : S2 6 = true := b2.2.2.2.1
   have h0 : S2 0 = true := (hc 3 (by decide +kernel)).1 h6 (by decide +kernel)
   have h3 : S2 3 = true := (hc 4 (by decide +kernel)).1 h6 (by decide +kernel)
   have h4 : S2 4 = true := (hc 0 (by decide +kernel)).1 h0 (by decide +kernel)
   rcases hu2 with rfl | rfl | rfl
   ·exact h0
   ·exact h3
   ·exact h4
 unfold tfCut cutOf
 rw [slotsOf_same 3 (d2 := [0, -1, -1, 0, 0, -1]) ((1 + 1) * 3) (fun u hu => by
  rw [cutD_iff hu, key u hu]
  have e : u = 0 ∨ u = 1 ∨ u = 2 ∨ u = 3 ∨ u = 4 ∨ u = 5 := by omega
  rcases e with rfl | rfl | rfl | rfl | rfl | rfl <;> decide)]
 rfl
theorem line_ask (h : Int) (h0 : h < 0) : askT 3 lineL 0 2 h = 1 := by
 have h1 : endsV 3 lineL 0 2 = 0 := by decide +kernel
 have h2 : spanV h = 1 := by
  unfold spanV
  rw [if_pos h0]
 unfold askT askS
 rw [if_pos h1, h2]
 rfl
end Go.Proofs.Ytdfagllncopmjaa.H
end
section
namespace Go.Proofs.Ytdfagllncopmjaa.H
open Go Go.RowKit Go.Proofs.Ytdfagllncopmjaa.PrintC Go.Proofs.YtdfagllncopmjaaW.PrintWords Go.Proofs.YtdfagllncopmjaaW.PrintLast Go.Proofs.YtdfagllncopmjaaW.PrintMore Go.Proofs.Ytdfagllncopmjaa.Flow
set_option linter.unusedVariables false
def stAt (B : List Stp) (j : Nat) : Stp := B.getD j ⟨0, false⟩
structure Sg (l : List Arc) (L : List Stp) (M : Nat) (s : Int) (N : List Int) (B : List Stp) : Prop where
 len : B.length = N.length
 pos : 0 < N.length
 hd : rd N 0 = s
 nd : N.Nodup
 rng : ∀ v, v ∈ N → 0 ≤ v ∧ v < M
 tree : ∃ d : Int → Int, d s = 0 ∧ ∀ j : Nat, 0 < j → j < N.length → stAt B j ∈ L ∧ tgt l (stAt B j) = rd N (j : Int) ∧ ∃ i : Nat, i < j ∧ src l (stAt B j) = rd N (i : Int) ∧ d (rd N (j : Int)) = d (rd N (i : Int)) + 1
theorem rd_get {N : List Int} {j : Nat} (h : j < N.length) : rd N (j : Int) = N[j] := by
 unfold rd
 rw [Int.toNat_natCast, List.getD_eq_getElem?_getD, List.getElem?_eq_getElem h]
 rfl
theorem mem_rd {N : List Int} {v : Int} (h : v ∈ N) : ∃ j : Nat, j < N.length ∧ rd N (j : Int) = v := by
 obtain ⟨j, hj, e⟩ := List.mem_iff_getElem.1 h
 exact ⟨j, hj, by rw [rd_get hj, e]⟩
theorem rd_app {N M : List Int} {j : Nat} (h : j < N.length) : rd (N ++ M) (j : Int) = rd N (j : Int) := by
 rw [rd_get h, rd_get (by rw [List.length_append]; omega), List.getElem_append_left h]
theorem rd_last (N : List Int) (v : Int) : rd (N ++ [v]) (N.length : Int) = v := by
 rw [rd_get (by rw [List.length_append]; exact Nat.lt_succ_self _), List.getElem_append_right (Nat.le_refl _)]
 simp
theorem stAt_app {B C : List Stp} {j : Nat} (h : j < B.length) : stAt (B ++ C) j = stAt B j := by
 unfold stAt
 rw [List.getD_eq_getElem?_getD, List.getD_eq_getElem?_getD, List.getElem?_append_left h]
theorem stAt_last (B : List Stp) (x : Stp) : stAt (B ++ [x]) B.length = x := by
 unfold stAt
 simp
theorem nodup_int {M : Nat} {N : List Int} (h : N.Nodup) (hr : ∀ v, v ∈ N → 0 ≤ v ∧ v < M) : N.length ≤ M := by
 have h1 : (N.map Int.toNat).Nodup := by
  refine List.pairwise_map.2 (List.Pairwise.imp_of_mem (R := fun a b => a ≠ b) (fun {a b} ha hb hab e => hab ?_) h)
  have := hr a ha
  have := hr b hb
  omega
 have h2 := Flow.nodup_le h1 (n := M) (fun a ha => by
  obtain ⟨v, hv, rfl⟩ := List.mem_map.1 ha
  have := hr v hv
  omega)
 rwa [List.length_map] at h2
section
variable {l : List Arc} {L : List Stp} {M : Nat} {s : Int} {N : List Int} {B : List Stp}
theorem Sg.le (h : Sg l L M s N B) : N.length ≤ M := nodup_int h.nd h.rng
theorem Sg.start (h0 : 0 ≤ s) (h1 : s < M) (x : Stp) : Sg l L M s [s] [x] where
 len := rfl
 pos := Nat.one_pos
 hd := rfl
 nd := by simp
 rng := fun v hv => by
  obtain rfl := List.mem_singleton.1 hv
  exact ⟨h0, h1⟩
 tree := ⟨fun _ => 0, rfl, fun j h2 h3 => by
  have : j < 1 := h3
  omega⟩
theorem Sg.snoc (h : Sg l L M s N B) {x : Stp} (hx : x ∈ L) {i : Nat} (hi : i < N.length) (hs : src l x = rd N (i : Int)) (ht : ∀ j : Nat, j < N.length → rd N (j : Int) ≠ tgt l x) (hr : 0 ≤ tgt l x ∧ tgt l x < M) : Sg l L M s (N ++ [tgt l x]) (B ++ [x]) where
 len := by rw [List.length_append, List.length_append, h.len]; rfl
 pos := by rw [List.length_append]; exact Nat.lt_of_lt_of_le h.pos (Nat.le_add_right _ _)
 hd := (rd_app (j := 0) h.pos).trans h.hd
 nd := by
  refine List.nodup_append.2 ⟨h.nd, by simp, fun a ha b hb e => ?_⟩
  obtain ⟨j, hj, e2⟩ := mem_rd ha
  obtain rfl := List.mem_singleton.1 hb
  exact ht j hj (e2.trans e)
 rng := fun v hv => by
  rcases List.mem_append.1 hv with hv | hv
  ·exact h.rng v hv
  ·obtain rfl := List.mem_singleton.1 hv
   exact hr
 tree := by
  obtain ⟨d, d0, hd⟩ := h.tree
  have hst : s ≠ tgt l x := fun e => ht 0 h.pos (h.hd.trans e)
  obtain ⟨D, hD⟩ : ∃ D : Int → Int, ∀ v, D v = if v = tgt l x then d (rd N (i : Int)) + 1 else d v := ⟨_, fun _ => rfl⟩
  refine ⟨D, by rw [hD, if_neg hst]; exact d0, fun j h0 h1 => ?_⟩
  rw [List.length_append] at h1
  by_cases hj : j < N.length
  ·obtain ⟨h2, h3, i', h4, h5, h6⟩ := hd j h0 hj
   rw [stAt_app (by rw [h.len]; exact hj), rd_app hj]
   refine ⟨h2, h3, i', h4, by rw [rd_app (by omega)]; exact h5, ?_⟩
   rw [rd_app (by omega), hD, hD, if_neg (ht j hj), if_neg (ht i' (by omega))]
   exact h6
  ·have e : j = N.length := by
    have : j < N.length + 1 := h1
    omega
   subst e
   rw [← h.len, stAt_last, h.len, rd_last]
   exact ⟨hx, rfl, i, hi, by rw [rd_app hi]; exact hs, by rw [rd_app hi, hD, hD, if_pos rfl, if_neg (ht i hi)]⟩
end
def Cl (l : List Arc) (L : List Stp) (N : List Int) (i k : Nat) : Prop := (∀ a : Nat, a < i → ∀ x, x ∈ L → src l x = rd N (a : Int) → tgt l x ∈ N) ∧ ∀ b : Nat, b < k → src l (stAt L b) = rd N (i : Int) → tgt l (stAt L b) ∈ N
section
variable {l : List Arc} {L : List Stp} {N : List Int} {i k : Nat}
theorem Cl.zero : Cl l L N 0 0 := ⟨fun a h => absurd h (Nat.not_lt_zero _), fun b h => absurd h (Nat.not_lt_zero _)⟩
theorem Cl.next (h : Cl l L N i L.length) : Cl l L N (i + 1) 0 := ⟨fun a ha x hx e => by
 rcases Nat.lt_or_eq_of_le (Nat.le_of_lt_succ ha) with h1 | rfl
 ·exact h.1 a h1 x hx e
 ·obtain ⟨b, hb, e2⟩ := List.mem_iff_getElem.1 hx
  have e3 : stAt L b = x := by
   unfold stAt
   rw [List.getD_eq_getElem?_getD, List.getElem?_eq_getElem hb, e2]
   rfl
  have := h.2 b hb
  rw [e3] at this
  exact this e, fun b h => absurd h (Nat.not_lt_zero _)⟩
theorem Cl.skip (h : Cl l L N i k) (hc : src l (stAt L k) = rd N (i : Int) → tgt l (stAt L k) ∈ N) : Cl l L N i (k + 1) := ⟨h.1, fun b hb e => by
 rcases Nat.lt_or_eq_of_le (Nat.le_of_lt_succ hb) with h1 | rfl
 ·exact h.2 b h1 e
 ·exact hc e⟩
theorem Cl.grow (h : Cl l L N i k) (hi : i < N.length) (t : Int) : Cl l L (N ++ [t]) i k := ⟨fun a ha x hx e => by
 rw [rd_app (by omega)] at e
 exact List.mem_append_left _ (h.1 a ha x hx e), fun b hb e => by
 rw [rd_app hi] at e
 exact List.mem_append_left _ (h.2 b hb e)⟩
end
end Go.Proofs.Ytdfagllncopmjaa.H
end
