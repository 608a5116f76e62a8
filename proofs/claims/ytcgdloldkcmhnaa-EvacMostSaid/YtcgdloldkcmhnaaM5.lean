/- Texts of this proof, joined; what the statement doesn't need is left out. -/
import Derived.Test.YtcgdloldkcmhnaaM4
section
namespace Go.Proofs.Ytcgdloldkcmhnaa.H
open Go Go.RowKit Go.Proofs.Ytcgdloldkcmhnaa.PrintC Go.Proofs.Ytcgdloldkcmhnaa.PrintE Go.Proofs.YtcgdloldkcmhnaaW.PrintWords Go.Proofs.YtcgdloldkcmhnaaW.PrintLast Go.Proofs.YtcgdloldkcmhnaaW.PrintMore Go.Proofs.Ytcgdloldkcmhnaa.Flow
set_option linter.unusedVariables false
set_option linter.unusedSimpArgs false
def Read12At (m : Nat) (b : Bool) (w : World) (e : Ending) (w' : World) : Prop :=
  ∃ (n : Int) (l : List Arc) (s t h : Int) (A : Option Addr) (c : Nat), e = .returned (.tuple #[.agg #[.int .i64 n, .bool b, .slice A l.length c], .int .i64 s, .int .i64 t, .int .i64 h]) ∧ Kd.R kArc 79 w' w.heap.size (fun _ => True) (.slice A l.length c) l ∧ NetSm m n l ∧ (0 ≤ s ∧ s < n) ∧ (0 ≤ t ∧ t < n) ∧ s ≠ t ∧ (0 ≤ h ∧ h ≤ 7) ∧ Below w.heap.size w w'
theorem tmi_bd {x n : Int} (h0 : 0 ≤ x) (h1 : x < 4611686018427387904) (hn : 0 < n) : 0 ≤ (IntKind.i64.wrap x).tmod n ∧ (IntKind.i64.wrap x).tmod n < n := by
  rw [IntWalk.i64_in x (by omega), Int.tmod_eq_emod_of_nonneg h0]
  exact ⟨Int.emod_nonneg _ (by omega), Int.emod_lt_of_pos _ hn⟩
theorem st_ok {n a3 a4 : Int} (n2 : 2 ≤ n) (n5 : n ≤ 5) (h3 : 0 ≤ a3) (h4 : 0 ≤ a4) (g4 : a4 ≤ 255) : (0 ≤ a3 % n ∧ a3 % n < n) ∧ (0 ≤ (IntKind.i64.wrap (IntKind.i64.wrap (a3 % n + 1) + (IntKind.i64.wrap a4).tmod (IntKind.i64.wrap (n - 1)))).tmod n ∧ (IntKind.i64.wrap (IntKind.i64.wrap (a3 % n + 1) + (IntKind.i64.wrap a4).tmod (IntKind.i64.wrap (n - 1)))).tmod n < n) ∧
    a3 % n ≠ (IntKind.i64.wrap (IntKind.i64.wrap (a3 % n + 1) + (IntKind.i64.wrap a4).tmod (IntKind.i64.wrap (n - 1)))).tmod n := by
  have s0 := Int.emod_nonneg a3 (show n ≠ 0 by omega)
  have s1 := Int.emod_lt_of_pos a3 (show 0 < n by omega)
  generalize a3 % n = s at s0 s1
  rw [IntWalk.i64_in (n - 1) (by omega)]
  have r1 := tmi_bd (x := a4) (n := n - 1) h4 (by omega) (by omega)
  generalize (IntKind.i64.wrap a4).tmod (n - 1) = r at r1
  rw [IntWalk.i64_in (s + 1) (by omega), IntWalk.i64_in (s + 1 + r) (by omega), Int.tmod_eq_emod_of_nonneg (by omega)]
  refine ⟨⟨s0, s1⟩, ⟨Int.emod_nonneg _ (by omega), Int.emod_lt_of_pos _ (by omega)⟩, ?_⟩
  have : n = 2 ∨ n = 3 ∨ n = 4 ∨ n = 5 := by omega
  rcases this with rfl | rfl | rfl | rfl <;> omega
def ArcsSm (n : Int) (l : List Arc) : Prop := ∀ x, x ∈ l → (0 ≤ x.f0 ∧ x.f0 < n) ∧ (0 ≤ x.f1 ∧ x.f1 < n) ∧ (0 ≤ x.f2 ∧ x.f2 ≤ 5) ∧ 0 ≤ x.f3 ∧ x.f3 ≤ 3
set_option maxHeartbeats 4000000 in
set_option maxRecDepth 100000 in
theorem read12_walk (m : Nat) (hm : m ≤ 1000) (i : Int) (hi : i = m) (a0 : Int) (a1 : Bool) (A2 : Option Addr) (c2 : Nat) (l2 : List CBit) (a3 a4 a5 : Int) (w : World) (hr : Kd.C k77 w A2 l2.length l2) (h0 : U8 a0) (hb : U8s l2) (h3 : U8 a3) (h4 : U8 a4) (h5 : U8 a5) :
    Calls Try.prog 16 #[.agg #[.int .u8 a0, .bool a1, .slice A2 l2.length c2, .int .u8 a3, .int .u8 a4, .int .u8 a5], .int .i64 i] w (Read12At m a1 w) := by
  have HR := Lib.hid hr
  have HU := Lib.hid hb
  have hu := Try.underlying32
  have hu2 := Try.underlying24
  have b0 : 0 ≤ a0 := h0.1
  have b1 : a0 ≤ 255 := h0.2
  have b3 : 0 ≤ a3 := h3.1
  have b4 : a3 ≤ 255 := h3.2
  have b5 : 0 ≤ a4 := h4.1
  have b6 : a4 ≤ 255 := h4.2
  have b7 : 0 ≤ a5 := h5.1
  have b8 : a5 ≤ 255 := h5.2
  clear hr hb h0 h3 h4 h5
  go_enter Try.func16, Try.ntmps16
  go_wp2
  obtain ⟨n, hn⟩ : ∃ n, n = 2 + a0 % 4 := ⟨_, rfl⟩
  have n2 : 2 ≤ n := by omega
  have n5 : n ≤ 5 := by omega
  rw [← hn]
  clear hn b0 b1
  obtain ⟨w3, hw3⟩ : ∃ w3, w3 = ((w.alloc (.cells #[.int .u8 a0, .bool a1, .slice A2 l2.length c2, .int .u8 a3, .int .u8 a4, .int .u8 a5] 24)).alloc (.cells #[.int .i64 0, .bool false, .slice none 0 0] 32)).alloc (.cells #[.int .i64 n, .bool a1, .slice none 0 0] 32) := ⟨_, rfl⟩
  have HX2 : Hid (w3.heap[w.heap.size]? = some (.cells #[.int .u8 a0, .bool a1, .slice A2 l2.length c2, .int .u8 a3, .int .u8 a4, .int .u8 a5] 24 (0, 0))) := Lib.hid (by rw [hw3]; exact blk_alloc (blk_alloc (heap_alloc_new _ _) _) _)
  have HX4 : Hid (w3.heap[w.heap.size + 1]? = some (.cells #[.int .i64 0, .bool false, .slice none 0 0] 32 (0, 0))) := Lib.hid (by rw [hw3]; exact blk_alloc (alloc_at (by simp)) _)
  have HX8 : Hid (w3.heap[w.heap.size + 1 + 1]? = some (.cells #[.int .i64 n, .bool a1, .slice none 0 0] 32 (0, 0))) := Lib.hid (by rw [hw3]; exact alloc_at (by simp))
  have HB3 : Hid (Below w.heap.size w w3) := Lib.hid (by rw [hw3]; exact below_alloc (below_alloc (below_alloc (Below.refl _ _) _) _) _)
  rw [← hw3]
  clear hw3
  obtain ⟨base, hbase⟩ : ∃ base, base = w.heap.size := ⟨_, rfl⟩
  obtain ⟨g4, hg4⟩ : ∃ g4, g4 = w.heap.size + 1 := ⟨_, rfl⟩
  obtain ⟨g8, hg8⟩ : ∃ g8, g8 = w.heap.size + 1 + 1 := ⟨_, rfl⟩
  rw [← hg4] at HX4
  rw [← hg8] at HX8
  rw [← hg8, ← hg4]
  have GE4 : Hid (w.heap.size ≤ g4) := Lib.hid (by omega)
  have GE8 : Hid (w.heap.size ≤ g8) := Lib.hid (by omega)
  have N84 : Hid (g8 ≠ g4) := Lib.hid (by omega)
  have N28 : Hid (w.heap.size ≠ g8) := Lib.hid (by omega)
  have N48 : Hid (g4 ≠ g8) := Lib.hid (by omega)
  have N24 : Hid (w.heap.size ≠ g4) := Lib.hid (by omega)
  clear hg4 hg8 hbase base
  have HI := Lib.hid hi
  clear hi
  go_loopg [9] (m + 1) (fun k iv W => ∃ (j : Nat) (acc : List Arc) (Av : Option Addr) (cv : Nat), j ≤ m ∧ iv = .int .i64 j ∧ acc.length = j ∧ k = m + 1 - j ∧ Hid (ArcsSm n acc ∧ Kd.R kArc 79 W w.heap.size (fun _ => True) (.slice Av acc.length cv) acc ∧ W.heap[w.heap.size]? = some (.cells #[.int .u8 a0, .bool a1, .slice A2 l2.length c2, .int .u8 a3, .int .u8 a4, .int .u8 a5] 24 (0, 0)) ∧ W.heap[g4]? = some (.cells #[.int .i64 0, .bool false, .slice none 0 0] 32 (0, 0)) ∧ W.heap[g8]? = some (.cells #[.int .i64 n, .bool a1, .slice Av acc.length cv] 32 (0, 0)) ∧ Below w.heap.size w W))
  case atStart => exact ⟨0, [], none, 0, Nat.zero_le _, rfl, rfl, rfl, Lib.hid ⟨fun x hx => (nomatch hx), Kd.R_nil _ _ _ _ _, HX2.out, HX4.out, HX8.out, HB3.out⟩⟩
  case round =>
    obtain ⟨j, acc, Av, cv, hj, rfl, hacc, rfl, HL⟩ := hrel
    clear HX2 HX4 HX8 HB3
    have x2 : wr.cell? ⟨w.heap.size, 2, none⟩ = some (.slice A2 l2.length c2) := (blk_cell HL.out.2.2.1 2).trans rfl
    have i0 : (0 : Int) ≤ (j : Int) := by omega
    by_cases c1 : j < l2.length
    · have c1' : (j : Int) < (l2.length : Int) := by omega
      by_cases c2' : j < m
      · have c3 : (j : Int) < i := by rw [HI.out]; omega
        obtain ⟨ad, ea, y0, y1, y2, y3⟩ := at_T77 (Kd.C_below HR.out HL.out.2.2.2.2.2) (j : Int) i0 c1'
        subst ea
        rw [Int.toNat_natCast] at y0 y1 y2 y3
        have hx := HU.out _ (rd_mem77 c1)
        obtain ⟨e0, he0⟩ : ∃ e0, e0 = (rd_T77 l2 (j : Int)).f0 := ⟨_, rfl⟩
        obtain ⟨e1, he1⟩ : ∃ e1, e1 = (rd_T77 l2 (j : Int)).f1 := ⟨_, rfl⟩
        obtain ⟨e2, he2⟩ : ∃ e2, e2 = (rd_T77 l2 (j : Int)).f2 := ⟨_, rfl⟩
        obtain ⟨e3, he3⟩ : ∃ e3, e3 = (rd_T77 l2 (j : Int)).f3 := ⟨_, rfl⟩
        rw [← he0] at y0 hx
        rw [← he1] at y1 hx
        rw [← he2] at y2 hx
        rw [← he3] at y3 hx
        obtain ⟨⟨u0, v0⟩, ⟨u1, v1⟩, ⟨u2, v2⟩, ⟨u3, v3⟩⟩ := hx
        clear he0 he1 he2 he3
        go_wp2
        obtain ⟨wq, hwq⟩ : ∃ wq, wq = wr.alloc (.cells #[.int .u8 e0, .int .u8 e1, .int .u8 e2, .int .u8 e3] 77) := ⟨_, rfl⟩
        have HQ : Hid (Kd.R kArc 79 wq w.heap.size (fun _ => True) (.slice Av acc.length cv) acc ∧ wq.heap[w.heap.size]? = some (.cells #[.int .u8 a0, .bool a1, .slice (some ad) l2.length c2, .int .u8 a3, .int .u8 a4, .int .u8 a5] 24 (0, 0)) ∧ wq.heap[g4]? = some (.cells #[.int .i64 0, .bool false, .slice none 0 0] 32 (0, 0)) ∧ wq.heap[g8]? = some (.cells #[.int .i64 n, .bool a1, .slice Av acc.length cv] 32 (0, 0)) ∧ Below w.heap.size w wq) := Lib.hid (by rw [hwq]; exact ⟨Kd.R_below HL.out.2.1 (below_alloc (Below.refl _ _) _), blk_alloc HL.out.2.2.1 _, blk_alloc HL.out.2.2.2.1 _, blk_alloc HL.out.2.2.2.2.1 _, below_alloc HL.out.2.2.2.2.2 _⟩)
        have HX10 : Hid (wq.heap[wr.heap.size]? = some (.cells #[.int .u8 e0, .int .u8 e1, .int .u8 e2, .int .u8 e3] 77 (0, 0))) := Lib.hid (by rw [hwq]; exact heap_alloc_new _ _)
        rw [← hwq]
        clear hwq x2 y0 y1 y2 y3
        have HA := Lib.hid HL.out.1
        clear HL
        generalize wr.heap.size = go at *
        have x0 : wq.cell? ⟨g8, 0, none⟩ = some (.int .i64 n) := (blk_cell HQ.out.2.2.2.1 0).trans rfl
        have x2 : wq.cell? ⟨g8, 2, none⟩ = some (.slice Av acc.length cv) := (blk_cell HQ.out.2.2.2.1 2).trans rfl
        have y0 : wq.cell? ⟨go, 0, none⟩ = some (.int .u8 e0) := (blk_cell HX10.out 0).trans rfl
        have y1 : wq.cell? ⟨go, 1, none⟩ = some (.int .u8 e1) := (blk_cell HX10.out 1).trans rfl
        have y2 : wq.cell? ⟨go, 2, none⟩ = some (.int .u8 e2) := (blk_cell HX10.out 2).trans rfl
        have y3 : wq.cell? ⟨go, 3, none⟩ = some (.int .u8 e3) := (blk_cell HX10.out 3).trans rfl
        have hn0 : ¬ n = 0 := by omega
        have hal : acc.length ≤ 1000 := by omega
        have HAC := Lib.hid hacc
        clear hacc
        refine stepS (S := fun w' => w'.cell? ⟨g8, 0, none⟩ = some (.int .i64 n) ∧ w'.cell? ⟨g8, 2, none⟩ = some (.slice Av acc.length cv) ∧ w'.cell? ⟨go, 0, none⟩ = some (.int .u8 e0) ∧ w'.cell? ⟨go, 1, none⟩ = some (.int .u8 e1) ∧ w'.cell? ⟨go, 2, none⟩ = some (.int .u8 e2) ∧ w'.cell? ⟨go, 3, none⟩ = some (.int .u8 e3)) (ds := [26]) 27 (by kernel_rfl) rfl ⟨x0, x2, y0, y1, y2, y3⟩ (fun hHeld => ?_)
        repeat (first
          | (refine stepP 27 (N := some _) (v := ?_) (a' := ?_) rfl rfl (by kernel_rfl) (fun _ _ _ h => h) (Or.inl ⟨by rfl, ?_⟩) ?_ ?_
             rotate_left
             · (intro w'; go_simp; with_reducible rfl)
             rotate_left
             · (simp only [Act.put, List.setIfInBounds_toArray, List.set_cons_zero, List.set_cons_succ]; rfl))
          | (refine stepT 27 (N := some _) (v := ?_) (a' := ?_) rfl rfl (by kernel_rfl) (fun _ _ _ h => h) (Or.inl ⟨by rfl, ?_⟩) hHeld ?_ ?_
             rotate_left
             · (rintro w' ⟨s0, s1, s2, s3, s4, s5⟩; go_simp; with_reducible rfl)
             rotate_left
             · (simp only [Act.put, List.setIfInBounds_toArray, List.set_cons_zero, List.set_cons_succ]; rfl)))
        refine stepE 27 (N := some 61) rfl rfl (by kernel_rfl) (by decide) (fun K hK => ?_)
        refine value_ (w1 := ?_) (v := ?_) (by rfl) rfl ?_ ?_
        rotate_left 2
        · go_simp
          constructor
          · rfl
          · rfl
        refine hK.out _ _ ⟨(blk_cell (blk_alloc (blk_drew HQ.out.2.2.2.1) _) 0).trans rfl, (blk_cell (blk_alloc (blk_drew HQ.out.2.2.2.1) _) 2).trans rfl, (blk_cell (blk_alloc (blk_drew HX10.out) _) 0).trans rfl, (blk_cell (blk_alloc (blk_drew HX10.out) _) 1).trans rfl, (blk_cell (blk_alloc (blk_drew HX10.out) _) 2).trans rfl, (blk_cell (blk_alloc (blk_drew HX10.out) _) 3).trans rfl⟩ (fun hHeld => ?_)
        clear hK K
        refine norm_ (a' := ?_) ?_ ?_
        rotate_left
        · (show Act.put _ (some 61) _ = _; simp only [Act.put, List.setIfInBounds_toArray, List.set_cons_zero, List.set_cons_succ]; rfl)
        refine stepE 27 (N := some 62) rfl rfl (by kernel_rfl) (by decide) (fun K hK => ?_)
        (repeat rw [drew_of_alloc])
        refine Kd.R_append_step kArc (w0 := w) w.heap.size (by rfl) (.tmp 39) (.tmp 61) 30 79 (.agg #[.int .i64 0, .int .i64 0, .int .i64 0, .int .i64 0]) 32 (by rfl) Try.underlying30 infoArc rfl (by decide) (by decide) (.slice Av acc.length cv) acc ⟨(IntKind.i64.wrap e0).tmod n, (IntKind.i64.wrap e1).tmod n, (IntKind.i64.wrap e2).tmod 6, (IntKind.i64.wrap e3).tmod 4⟩ [.int .i64 ((IntKind.i64.wrap e0).tmod n), .int .i64 ((IntKind.i64.wrap e1).tmod n), .int .i64 ((IntKind.i64.wrap e2).tmod 6), .int .i64 ((IntKind.i64.wrap e3).tmod 4)] (fun _ => True) (fun _ => False) (by rfl) (by rfl) (k79_mkM _ _ _ (⟨(IntKind.i64.wrap e0).tmod n, (IntKind.i64.wrap e1).tmod n, (IntKind.i64.wrap e2).tmod 6, (IntKind.i64.wrap e3).tmod 4⟩ : Arc)) (fun _ hk => hk.elim) (fun _ _ => trivial) ?aO ?aB ?aS (by omega) ?_; (case aO => exact Kd.R_drew HQ.out.1); (case aB => exact below_drew1 HQ.out.2.2.2.2); (case aS => exact HQ.out.2.2.2.2.size); intro v1 w9 ho hb hg hat; obtain ⟨A1, c1, rfl⟩ := Kd.R_slice ho; have HS9 := Lib.hid (And.intro ho (And.intro (blk_grown (blk_drew HQ.out.2.1) hg (Kd.R_ne HQ.out.1 HQ.out.2.1 (by decide))) (And.intro (blk_grown (blk_drew HQ.out.2.2.1) hg (Kd.R_ne HQ.out.1 HQ.out.2.2.1 (by decide))) (And.intro (blk_grown (blk_drew HQ.out.2.2.2.1) hg (Kd.R_ne HQ.out.1 HQ.out.2.2.2.1 (by decide))) (And.intro (blk_grown (blk_drew HX10.out) hg (Kd.R_ne HQ.out.1 HX10.out (by decide))) hb))))); clear ho hb hg hat
        refine hK.out _ _ ⟨(blk_cell HS9.out.2.2.2.1 0).trans rfl, (blk_cell HS9.out.2.2.2.1 2).trans rfl, (blk_cell HS9.out.2.2.2.2.1 0).trans rfl, (blk_cell HS9.out.2.2.2.2.1 1).trans rfl, (blk_cell HS9.out.2.2.2.2.1 2).trans rfl, (blk_cell HS9.out.2.2.2.2.1 3).trans rfl⟩ (fun hHeld => ?_)
        clear hK K
        refine norm_ (a' := ?_) ?_ ?_
        rotate_left
        · (show Act.put _ (some 62) _ = _; simp only [Act.put, List.setIfInBounds_toArray, List.set_cons_zero, List.set_cons_succ]; rfl)
        refine stepP 27 (N := some _) (v := ?_) (a' := ?_) rfl rfl (by kernel_rfl) (fun _ _ _ h => h) (Or.inl ⟨by rfl, ?_⟩) ?_ ?_
        rotate_left
        · (intro w'; go_simp; with_reducible rfl)
        rotate_left
        · (simp only [Act.put, List.setIfInBounds_toArray, List.set_cons_zero, List.set_cons_succ]; rfl)
        refine stepL 27 (N := none) rfl rfl (by kernel_rfl) (by decide) (fun K hK => ?_)
        have z2 : w9.cell? ⟨g8, 2, none⟩ = some (.slice Av acc.length cv) := (blk_cell HS9.out.2.2.2.1 2).trans rfl
        have f2 : w9.frozen? ⟨g8, 2, none⟩ = false := blk_frozen HS9.out.2.2.2.1 2
        refine skip_ (w1 := ?_) (by rfl) rfl ?_ ?_
        rotate_left
        · go_simp
          rfl
        refine hK.out _ _ ?_
        clear hK K
        refine done_ (by kernel_rfl) ?_
        go_wp2
        have el : (acc ++ [(⟨(IntKind.i64.wrap e0).tmod n, (IntKind.i64.wrap e1).tmod n, (IntKind.i64.wrap e2).tmod 6, (IntKind.i64.wrap e3).tmod 4⟩ : Arc)]).length = acc.length + 1 := by rw [List.length_append]; rfl
        have hs := HS9.out
        rw [el] at hs
        have q0 := tmi_bd (x := e0) (n := n) u0 (by omega) (by omega)
        have q1 := tmi_bd (x := e1) (n := n) u1 (by omega) (by omega)
        have q2 := tmi_bd (x := e2) (n := 6) u2 (by omega) (by omega)
        have q3 := tmi_bd (x := e3) (n := 4) u3 (by omega) (by omega)
        have har : ArcsSm n (acc ++ [(⟨(IntKind.i64.wrap e0).tmod n, (IntKind.i64.wrap e1).tmod n, (IntKind.i64.wrap e2).tmod 6, (IntKind.i64.wrap e3).tmod 4⟩ : Arc)]) := fun x hx => by
          rcases List.mem_append.1 hx with hx | hx
          · exact HA.out x hx
          · obtain rfl := List.mem_singleton.1 hx
            exact ⟨q0, q1, ⟨q2.1, Int.le_of_lt_add_one q2.2⟩, q3.1, Int.le_of_lt_add_one q3.2⟩
        have hac := HAC.out
        go_roundg (m - j)
        case measure => omega
        case rel => exact ⟨j + 1, _, A1, c1, by omega, by go_num, by rw [el, hac], by omega, Lib.hid ⟨har, by rw [el]; exact Kd.R_mono (Kd.R_far (p := ⟨g8, 2, none⟩) (Kd.R_types hs.1 hs.2.2.2.1 (by decide)) (fun _ hk => hk.2) (.slice A1 (acc.length + 1) c1)) (fun _ hk => trivial), blk_far hs.2.1 N28.out _, blk_far hs.2.2.1 N48.out _, by rw [el]; exact blk_put (cs := #[.int .i64 n, .bool a1, .slice Av acc.length cv]) hs.2.2.2.1 2 _ rfl, below_set hs.2.2.2.2.2 GE8.out⟩⟩
      · have c3 : ¬ (j : Int) < i := by rw [HI.out]; omega
        have x3 : wr.cell? ⟨w.heap.size, 3, none⟩ = some (.int .u8 a3) := (blk_cell HL.out.2.2.1 3).trans rfl
        have x4 : wr.cell? ⟨w.heap.size, 4, none⟩ = some (.int .u8 a4) := (blk_cell HL.out.2.2.1 4).trans rfl
        have x5 : wr.cell? ⟨w.heap.size, 5, none⟩ = some (.int .u8 a5) := (blk_cell HL.out.2.2.1 5).trans rfl
        have y0 : wr.cell? ⟨g8, 0, none⟩ = some (.int .i64 n) := (blk_cell HL.out.2.2.2.2.1 0).trans rfl
        have y1 : wr.cell? ⟨g8, 1, none⟩ = some (.bool a1) := (blk_cell HL.out.2.2.2.2.1 1).trans rfl
        have y2 : wr.cell? ⟨g8, 2, none⟩ = some (.slice Av acc.length cv) := (blk_cell HL.out.2.2.2.2.1 2).trans rfl
        have hn0 : ¬ n = 0 := by omega
        have hn1 : ¬ IntKind.i64.wrap (n - 1) = 0 := by rw [IntWalk.i64_in _ (by omega)]; omega
        have HAC := Lib.hid hacc
        clear hacc
        go_wp2
        refine stepS (S := fun w' => w'.cell? ⟨w.heap.size, 4, none⟩ = some (.int .u8 a4) ∧ w'.cell? ⟨w.heap.size, 5, none⟩ = some (.int .u8 a5) ∧ w'.cell? ⟨g8, 0, none⟩ = some (.int .i64 n) ∧ w'.cell? ⟨g8, 1, none⟩ = some (.bool a1) ∧ w'.cell? ⟨g8, 2, none⟩ = some (.slice Av acc.length cv)) (ds := []) 14 (by kernel_rfl) rfl ⟨x4, x5, y0, y1, y2⟩ (fun hHeld => ?_)
        repeat (first
          | (refine stepP 14 (N := some _) (v := ?_) (a' := ?_) rfl rfl (by kernel_rfl) (fun _ _ _ h => h) (Or.inl ⟨by rfl, ?_⟩) ?_ ?_
             rotate_left
             · (intro w'; go_simp; with_reducible rfl)
             rotate_left
             · (simp only [Act.put, List.setIfInBounds_toArray, List.set_cons_zero, List.set_cons_succ]; rfl))
          | (refine stepT 14 (N := some _) (v := ?_) (a' := ?_) rfl rfl (by kernel_rfl) (fun _ _ _ h => h) (Or.inl ⟨by rfl, ?_⟩) hHeld ?_ ?_
             rotate_left
             · (rintro w' ⟨s0, s1, s2, s3, s4⟩; go_simp; with_reducible rfl)
             rotate_left
             · (simp only [Act.put, List.setIfInBounds_toArray, List.set_cons_zero, List.set_cons_succ]; rfl)))
        refine done_ (by kernel_rfl) ?_
        go_wp2
        have r4 := blk_drew (blk_drew HL.out.2.2.2.1)
        refine stepS (S := fun w' => w'.cell? ⟨w.heap.size, 4, none⟩ = some (.int .u8 a4) ∧ w'.cell? ⟨w.heap.size, 5, none⟩ = some (.int .u8 a5) ∧ w'.cell? ⟨g8, 0, none⟩ = some (.int .i64 n) ∧ w'.cell? ⟨g8, 1, none⟩ = some (.bool a1) ∧ w'.cell? ⟨g8, 2, none⟩ = some (.slice Av acc.length cv)) (ds := []) 11 (by kernel_rfl) rfl ⟨x4, x5, y0, y1, y2⟩ (fun hHeld => ?_)
        repeat (first
          | (refine stepP 11 (N := some _) (v := ?_) (a' := ?_) rfl rfl (by kernel_rfl) (fun _ _ _ h => h) (Or.inl ⟨by rfl, ?_⟩) ?_ ?_
             rotate_left
             · (intro w'; go_simp; with_reducible rfl)
             rotate_left
             · (simp only [Act.put, List.setIfInBounds_toArray, List.set_cons_zero, List.set_cons_succ]; rfl))
          | (refine stepT 11 (N := some _) (v := ?_) (a' := ?_) rfl rfl (by kernel_rfl) (fun _ _ _ h => h) (Or.inl ⟨by rfl, ?_⟩) hHeld ?_ ?_
             rotate_left
             · (rintro w' ⟨s0, s1, s2, s3, s4⟩; go_simp; with_reducible rfl)
             rotate_left
             · (simp only [Act.put, List.setIfInBounds_toArray, List.set_cons_zero, List.set_cons_succ]; rfl)))
        refine stepE 11 (N := none) rfl rfl (by kernel_rfl) (by decide) (fun K hK => ?_)
        have HZ := Lib.hid (And.intro (Kd.R_drew (Kd.R_drew HL.out.2.1)) (And.intro r4 (And.intro (blk_drew (blk_drew HL.out.2.2.2.2.1)) (below_drew1 (below_drew1 HL.out.2.2.2.2.2)))))
        generalize wr.drew.drew = wz at hHeld r4 HZ ⊢
        have z0 : wz.cell? ⟨g4, 0, none⟩ = some (.int .i64 0) := (blk_cell r4 0).trans rfl
        have z1 : wz.cell? ⟨g4, 1, none⟩ = some (.bool false) := (blk_cell r4 1).trans rfl
        have z2 : wz.cell? ⟨g4, 2, none⟩ = some (.slice none 0 0) := (blk_cell r4 2).trans rfl
        have f0 := blk_frozen r4 0
        have f1 := blk_frozen r4 1
        have f2 := blk_frozen r4 2
        refine skip_ (w1 := ?_) (by rfl) rfl ?_ ?_
        rotate_left
        · go_simp
          rfl
        refine hK.out _ _ ⟨((cell_far (p := ⟨g4, _, none⟩) N24.out _).trans (((cell_far (p := ⟨g4, _, none⟩) N24.out _).trans (((cell_far (p := ⟨g4, _, none⟩) N24.out _).trans hHeld.1))))), ((cell_far (p := ⟨g4, _, none⟩) N24.out _).trans (((cell_far (p := ⟨g4, _, none⟩) N24.out _).trans (((cell_far (p := ⟨g4, _, none⟩) N24.out _).trans hHeld.2.1))))), ((cell_far (p := ⟨g4, _, none⟩) N84.out _).trans (((cell_far (p := ⟨g4, _, none⟩) N84.out _).trans (((cell_far (p := ⟨g4, _, none⟩) N84.out _).trans hHeld.2.2.1))))), ((cell_far (p := ⟨g4, _, none⟩) N84.out _).trans (((cell_far (p := ⟨g4, _, none⟩) N84.out _).trans (((cell_far (p := ⟨g4, _, none⟩) N84.out _).trans hHeld.2.2.2.1))))), ((cell_far (p := ⟨g4, _, none⟩) N84.out _).trans (((cell_far (p := ⟨g4, _, none⟩) N84.out _).trans (((cell_far (p := ⟨g4, _, none⟩) N84.out _).trans hHeld.2.2.2.2)))))⟩ (fun hHeld => ?_)
        clear hK K
        repeat (first
          | (refine stepP 11 (N := some _) (v := ?_) (a' := ?_) rfl rfl (by kernel_rfl) (fun _ _ _ h => h) (Or.inl ⟨by rfl, ?_⟩) ?_ ?_
             rotate_left
             · (intro w'; go_simp; with_reducible rfl)
             rotate_left
             · (simp only [Act.put, List.setIfInBounds_toArray, List.set_cons_zero, List.set_cons_succ]; rfl))
          | (refine stepT 11 (N := some _) (v := ?_) (a' := ?_) rfl rfl (by kernel_rfl) (fun _ _ _ h => h) (Or.inl ⟨by rfl, ?_⟩) hHeld ?_ ?_
             rotate_left
             · (rintro w' ⟨s0, s1, s2, s3, s4⟩; go_simp; with_reducible rfl)
             rotate_left
             · (simp only [Act.put, List.setIfInBounds_toArray, List.set_cons_zero, List.set_cons_succ]; rfl)))
        refine done_ (by kernel_rfl) ?_
        go_wp2
        refine bodyPost_ret (results_list (rs := [.cell 4 32, .tmp 5, .tmp 6, .tmp 7]) rfl (by simp) (.cell g4 32 #[.int .i64 n, .bool a1, .slice Av acc.length cv] (0, 0) _ rfl (blk_put (cs := #[.int .i64 n, .bool a1, .slice none 0 0]) (blk_put (cs := #[.int .i64 n, .bool false, .slice none 0 0]) (blk_put (cs := #[.int .i64 0, .bool false, .slice none 0 0]) r4 0 _ rfl) 1 _ rfl) 2 _ rfl) hu rfl (by kernel_rfl) (.tmp (.tmp (.tmp .nil))))) rfl ?_
        have st := st_ok (n := n) (a3 := a3) (a4 := a4) n2 n5 b3 b5 b6
        have q8 := tmi_bd (x := a5) (n := 8) b7 (by omega) (by decide)
        have hac := HAC.out
        exact ⟨n, acc, _, _, _, Av, cv, rfl, Kd.R_mono (Kd.R_far (p := ⟨g4, 2, none⟩) (Kd.R_far (p := ⟨g4, 1, none⟩) (Kd.R_far (p := ⟨g4, 0, none⟩) (Kd.R_types HZ.out.1 HZ.out.2.1 (by decide)) (fun _ hk => hk.2) (.int .i64 n)) (fun _ hk => hk.2) (.bool a1)) (fun _ hk => hk.2) (.slice Av acc.length cv)) (fun _ hk => trivial), ⟨n2, n5, by omega, HL.out.1⟩, st.1, st.2.1, st.2.2, ⟨q8.1, Int.le_of_lt_add_one q8.2⟩, below_set (below_set (below_set HZ.out.2.2.2 GE4.out) GE4.out) GE4.out⟩
    · have c3 : ¬ (j : Int) < (l2.length : Int) := by omega
      have x3 : wr.cell? ⟨w.heap.size, 3, none⟩ = some (.int .u8 a3) := (blk_cell HL.out.2.2.1 3).trans rfl
      have x4 : wr.cell? ⟨w.heap.size, 4, none⟩ = some (.int .u8 a4) := (blk_cell HL.out.2.2.1 4).trans rfl
      have x5 : wr.cell? ⟨w.heap.size, 5, none⟩ = some (.int .u8 a5) := (blk_cell HL.out.2.2.1 5).trans rfl
      have y0 : wr.cell? ⟨g8, 0, none⟩ = some (.int .i64 n) := (blk_cell HL.out.2.2.2.2.1 0).trans rfl
      have y1 : wr.cell? ⟨g8, 1, none⟩ = some (.bool a1) := (blk_cell HL.out.2.2.2.2.1 1).trans rfl
      have y2 : wr.cell? ⟨g8, 2, none⟩ = some (.slice Av acc.length cv) := (blk_cell HL.out.2.2.2.2.1 2).trans rfl
      have hn0 : ¬ n = 0 := by omega
      have hn1 : ¬ IntKind.i64.wrap (n - 1) = 0 := by rw [IntWalk.i64_in _ (by omega)]; omega
      have HAC := Lib.hid hacc
      clear hacc
      go_wp2
      refine stepS (S := fun w' => w'.cell? ⟨w.heap.size, 4, none⟩ = some (.int .u8 a4) ∧ w'.cell? ⟨w.heap.size, 5, none⟩ = some (.int .u8 a5) ∧ w'.cell? ⟨g8, 0, none⟩ = some (.int .i64 n) ∧ w'.cell? ⟨g8, 1, none⟩ = some (.bool a1) ∧ w'.cell? ⟨g8, 2, none⟩ = some (.slice Av acc.length cv)) (ds := []) 14 (by kernel_rfl) rfl ⟨x4, x5, y0, y1, y2⟩ (fun hHeld => ?_)
      repeat (first
        | (refine stepP 14 (N := some _) (v := ?_) (a' := ?_) rfl rfl (by kernel_rfl) (fun _ _ _ h => h) (Or.inl ⟨by rfl, ?_⟩) ?_ ?_
           rotate_left
           · (intro w'; go_simp; with_reducible rfl)
           rotate_left
           · (simp only [Act.put, List.setIfInBounds_toArray, List.set_cons_zero, List.set_cons_succ]; rfl))
        | (refine stepT 14 (N := some _) (v := ?_) (a' := ?_) rfl rfl (by kernel_rfl) (fun _ _ _ h => h) (Or.inl ⟨by rfl, ?_⟩) hHeld ?_ ?_
           rotate_left
           · (rintro w' ⟨s0, s1, s2, s3, s4⟩; go_simp; with_reducible rfl)
           rotate_left
           · (simp only [Act.put, List.setIfInBounds_toArray, List.set_cons_zero, List.set_cons_succ]; rfl)))
      refine done_ (by kernel_rfl) ?_
      go_wp2
      have r4 := blk_drew (blk_drew HL.out.2.2.2.1)
      refine stepS (S := fun w' => w'.cell? ⟨w.heap.size, 4, none⟩ = some (.int .u8 a4) ∧ w'.cell? ⟨w.heap.size, 5, none⟩ = some (.int .u8 a5) ∧ w'.cell? ⟨g8, 0, none⟩ = some (.int .i64 n) ∧ w'.cell? ⟨g8, 1, none⟩ = some (.bool a1) ∧ w'.cell? ⟨g8, 2, none⟩ = some (.slice Av acc.length cv)) (ds := []) 11 (by kernel_rfl) rfl ⟨x4, x5, y0, y1, y2⟩ (fun hHeld => ?_)
      repeat (first
        | (refine stepP 11 (N := some _) (v := ?_) (a' := ?_) rfl rfl (by kernel_rfl) (fun _ _ _ h => h) (Or.inl ⟨by rfl, ?_⟩) ?_ ?_
           rotate_left
           · (intro w'; go_simp; with_reducible rfl)
           rotate_left
           · (simp only [Act.put, List.setIfInBounds_toArray, List.set_cons_zero, List.set_cons_succ]; rfl))
        | (refine stepT 11 (N := some _) (v := ?_) (a' := ?_) rfl rfl (by kernel_rfl) (fun _ _ _ h => h) (Or.inl ⟨by rfl, ?_⟩) hHeld ?_ ?_
           rotate_left
           · (rintro w' ⟨s0, s1, s2, s3, s4⟩; go_simp; with_reducible rfl)
           rotate_left
           · (simp only [Act.put, List.setIfInBounds_toArray, List.set_cons_zero, List.set_cons_succ]; rfl)))
      refine stepE 11 (N := none) rfl rfl (by kernel_rfl) (by decide) (fun K hK => ?_)
      have HZ := Lib.hid (And.intro (Kd.R_drew (Kd.R_drew HL.out.2.1)) (And.intro r4 (And.intro (blk_drew (blk_drew HL.out.2.2.2.2.1)) (below_drew1 (below_drew1 HL.out.2.2.2.2.2)))))
      generalize wr.drew.drew = wz at hHeld r4 HZ ⊢
      have z0 : wz.cell? ⟨g4, 0, none⟩ = some (.int .i64 0) := (blk_cell r4 0).trans rfl
      have z1 : wz.cell? ⟨g4, 1, none⟩ = some (.bool false) := (blk_cell r4 1).trans rfl
      have z2 : wz.cell? ⟨g4, 2, none⟩ = some (.slice none 0 0) := (blk_cell r4 2).trans rfl
      have f0 := blk_frozen r4 0
      have f1 := blk_frozen r4 1
      have f2 := blk_frozen r4 2
      refine skip_ (w1 := ?_) (by rfl) rfl ?_ ?_
      rotate_left
      · go_simp
        rfl
      refine hK.out _ _ ⟨((cell_far (p := ⟨g4, _, none⟩) N24.out _).trans (((cell_far (p := ⟨g4, _, none⟩) N24.out _).trans (((cell_far (p := ⟨g4, _, none⟩) N24.out _).trans hHeld.1))))), ((cell_far (p := ⟨g4, _, none⟩) N24.out _).trans (((cell_far (p := ⟨g4, _, none⟩) N24.out _).trans (((cell_far (p := ⟨g4, _, none⟩) N24.out _).trans hHeld.2.1))))), ((cell_far (p := ⟨g4, _, none⟩) N84.out _).trans (((cell_far (p := ⟨g4, _, none⟩) N84.out _).trans (((cell_far (p := ⟨g4, _, none⟩) N84.out _).trans hHeld.2.2.1))))), ((cell_far (p := ⟨g4, _, none⟩) N84.out _).trans (((cell_far (p := ⟨g4, _, none⟩) N84.out _).trans (((cell_far (p := ⟨g4, _, none⟩) N84.out _).trans hHeld.2.2.2.1))))), ((cell_far (p := ⟨g4, _, none⟩) N84.out _).trans (((cell_far (p := ⟨g4, _, none⟩) N84.out _).trans (((cell_far (p := ⟨g4, _, none⟩) N84.out _).trans hHeld.2.2.2.2)))))⟩ (fun hHeld => ?_)
      clear hK K
      repeat (first
        | (refine stepP 11 (N := some _) (v := ?_) (a' := ?_) rfl rfl (by kernel_rfl) (fun _ _ _ h => h) (Or.inl ⟨by rfl, ?_⟩) ?_ ?_
           rotate_left
           · (intro w'; go_simp; with_reducible rfl)
           rotate_left
           · (simp only [Act.put, List.setIfInBounds_toArray, List.set_cons_zero, List.set_cons_succ]; rfl))
        | (refine stepT 11 (N := some _) (v := ?_) (a' := ?_) rfl rfl (by kernel_rfl) (fun _ _ _ h => h) (Or.inl ⟨by rfl, ?_⟩) hHeld ?_ ?_
           rotate_left
           · (rintro w' ⟨s0, s1, s2, s3, s4⟩; go_simp; with_reducible rfl)
           rotate_left
           · (simp only [Act.put, List.setIfInBounds_toArray, List.set_cons_zero, List.set_cons_succ]; rfl)))
      refine done_ (by kernel_rfl) ?_
      go_wp2
      refine bodyPost_ret (results_list (rs := [.cell 4 32, .tmp 5, .tmp 6, .tmp 7]) rfl (by simp) (.cell g4 32 #[.int .i64 n, .bool a1, .slice Av acc.length cv] (0, 0) _ rfl (blk_put (cs := #[.int .i64 n, .bool a1, .slice none 0 0]) (blk_put (cs := #[.int .i64 n, .bool false, .slice none 0 0]) (blk_put (cs := #[.int .i64 0, .bool false, .slice none 0 0]) r4 0 _ rfl) 1 _ rfl) 2 _ rfl) hu rfl (by kernel_rfl) (.tmp (.tmp (.tmp .nil))))) rfl ?_
      have st := st_ok (n := n) (a3 := a3) (a4 := a4) n2 n5 b3 b5 b6
      have q8 := tmi_bd (x := a5) (n := 8) b7 (by omega) (by decide)
      have hac := HAC.out
      exact ⟨n, acc, _, _, _, Av, cv, rfl, Kd.R_mono (Kd.R_far (p := ⟨g4, 2, none⟩) (Kd.R_far (p := ⟨g4, 1, none⟩) (Kd.R_far (p := ⟨g4, 0, none⟩) (Kd.R_types HZ.out.1 HZ.out.2.1 (by decide)) (fun _ hk => hk.2) (.int .i64 n)) (fun _ hk => hk.2) (.bool a1)) (fun _ hk => hk.2) (.slice Av acc.length cv)) (fun _ hk => trivial), ⟨n2, n5, by omega, HL.out.1⟩, st.1, st.2.1, st.2.2, ⟨q8.1, Int.le_of_lt_add_one q8.2⟩, below_set (below_set (below_set HZ.out.2.2.2 GE4.out) GE4.out) GE4.out⟩
end Go.Proofs.Ytcgdloldkcmhnaa.H
end
section
namespace Go.Proofs.Ytcgdloldkcmhnaa.H
open Go Go.RowKit Go.Proofs.Ytcgdloldkcmhnaa.PrintC Go.Proofs.Ytcgdloldkcmhnaa.PrintE Go.Proofs.YtcgdloldkcmhnaaW.PrintWords Go.Proofs.YtcgdloldkcmhnaaW.PrintLast Go.Proofs.YtcgdloldkcmhnaaW.PrintMore Go.Proofs.Ytcgdloldkcmhnaa.Flow
set_option linter.unusedVariables false
set_option linter.unusedSimpArgs false
def gOf (v : Int) : List Grp → Int
  | [] => -1
  | g :: l => if g.f0 = v then g.f1 else gOf v l
theorem gOf_drop {l : List Grp} (v : Int) {i : Nat} (hi : i < l.length) : gOf v (l.drop i) = if (rd_T44 l (i : Int)).f0 = v then (rd_T44 l (i : Int)).f1 else gOf v (l.drop (i + 1)) := by
  have e : rd_T44 l (i : Int) = l[i] := by
    unfold rd_T44
    rw [Int.toNat_natCast, List.getD_eq_getElem?_getD, List.getElem?_eq_getElem hi]
    rfl
  rw [List.drop_eq_getElem_cons hi, e]
  rfl
theorem gOf_neg (v : Int) : ∀ {l : List Grp}, (∀ g, g ∈ l → 0 ≤ g.f1) → (gOf v l < 0 ↔ hasK (putGs l) v = false) := by
  intro l
  rw [hasK_putGs]
  induction l with
  | nil => intro _; exact ⟨fun _ => rfl, fun _ => by unfold gOf; decide⟩
  | cons g l ih =>
    intro h
    have h0 := h g (List.mem_cons_self ..)
    have h1 := ih (fun x hx => h x (List.mem_cons_of_mem _ hx))
    unfold gOf
    rw [List.any_cons]
    by_cases e : g.f0 = v
    · rw [if_pos e, decide_eq_true e]
      exact ⟨fun h => by omega, fun h => by cases h⟩
    · rw [if_neg e, decide_eq_false e, Bool.false_or]
      exact h1
set_option maxHeartbeats 4000000 in
set_option maxRecDepth 100000 in
theorem rof_walk (m : Nat) (A : Option Addr) (c : Nat) (l : List Grp) (v : Int) (w : World) (hm : l.length = m) (hr : Kd.C kGrp w A l.length l) (hl : m ≤ 1000000) :
    Calls Try.prog 27 #[.slice A m c, .int .i64 v] w fun e w' => e = .returned (.int .i64 (gOf v l)) ∧ Below w.heap.size w w' := by
  subst hm
  have HR := Lib.hid hr
  clear hr
  go_enter Try.func27, Try.ntmps27
  go_wp2
  go_loopg [5] l.length (fun k iv W => ∃ i : Nat, i ≤ l.length ∧ iv = .int .i64 i ∧ k = l.length - i ∧ Hid (gOf v (l.drop i) = gOf v l ∧ Below w.heap.size w W))
  case atStart => exact ⟨0, Nat.zero_le _, rfl, rfl, Lib.hid ⟨rfl, by first | exact Below.refl _ _ | exact pw_below_drewN (Below.refl _ _) _⟩⟩
  case round =>
    obtain ⟨i, hi, rfl, rfl, HL⟩ := hrel
    by_cases d1 : i < l.length
    · have i0 : (0 : Int) ≤ (i : Int) := by omega
      have i1 : (i : Int) < (l.length : Int) := by omega
      obtain ⟨ad, ea, y0, y1⟩ := at_T44 (Kd.C_below HR.out HL.out.2) (i : Int) i0 i1
      subst ea
      rw [Int.toNat_natCast] at y0 y1
      have HD := Lib.hid (gOf_drop v d1)
      obtain ⟨g, hg⟩ : ∃ g, g = rd_T44 l (i : Int) := ⟨_, rfl⟩
      rw [← hg] at HD y0 y1
      clear hg
      by_cases d2 : g.f0 = v
      · have d3 : (g.f0 == v) = true := by simpa using d2
        have d4 : (g.f0 != v) = false := by simpa using d2
        have HD2 : Hid (gOf v (l.drop i) = g.f1) := Lib.hid (by rw [HD.out, if_pos d2])
        clear d2
        go_wp2
        go_ret
        refine ⟨?_, HL.out.2⟩
        rw [← HL.out.1, HD2.out]
        rfl
      · have d3 : (g.f0 == v) = false := by simpa using d2
        have d4 : (g.f0 != v) = true := by simpa using d2
        have HD2 : Hid (gOf v (l.drop i) = gOf v (l.drop (i + 1))) := Lib.hid (by rw [HD.out, if_neg d2])
        clear d2
        go_wp2
        go_roundg (l.length - (i + 1))
        case measure => omega
        case rel => exact ⟨i + 1, by omega, by go_num, by omega, Lib.hid ⟨by rw [← HL.out.1, HD2.out], HL.out.2⟩⟩
    · have d2 : ¬ (i : Int) < (l.length : Int) := by omega
      have HE : Hid (l.drop i = []) := Lib.hid (List.drop_of_length_le (by omega))
      go_wp2
      go_ret
      refine ⟨?_, HL.out.2⟩
      rw [← HL.out.1, HE.out]
      rfl
set_option maxHeartbeats 4000000 in
set_option maxRecDepth 100000 in
theorem rkeeps_walk (n : Int) (b : Bool) (vl : Value) (Ap : Option Addr) (cp : Nat) (p : List Grp) (Aq : Option Addr) (cq : Nat) (q : List Grp) (v : Int) (w : World) (hp : Kd.C kGrp w Ap p.length p) (hq : Kd.C kGrp w Aq q.length q) (lp : p.length ≤ 1000000) (lq : q.length ≤ 1000000) (gp : ∀ g, g ∈ p → 0 ≤ g.f1) (gq : ∀ g, g ∈ q → 0 ≤ g.f1) :
    Calls Try.prog 44 #[.agg #[.int .i64 n, .bool b, vl], .slice Ap p.length cp, .slice Aq q.length cq, .int .i64 v] w fun e w' => e = .returned (.bool (b || (hasK (putGs p) v || hasK (putGs q) v))) ∧ Below w.heap.size w w' := by
  have hu := Try.underlying32
  have HP := Lib.hid hp
  have HQ := Lib.hid hq
  have HGP := Lib.hid (gOf_neg v gp)
  have HGQ := Lib.hid (gOf_neg v gq)
  clear hp hq gp gq
  obtain ⟨x, hx⟩ : ∃ x, x = gOf v p := ⟨_, rfl⟩
  obtain ⟨y, hy⟩ : ∃ y, y = gOf v q := ⟨_, rfl⟩
  have HX := Lib.hid hx
  have HY := Lib.hid hy
  clear hx hy
  cases b with
  | true =>
    go_enter Try.func44, Try.ntmps44
    go_wp2
    go_ret
    exact ⟨rfl, below_alloc (Below.refl _ _) _⟩
  | false =>
    by_cases c1 : x < 0
    · have c2 : ¬ 0 ≤ x := by omega
      by_cases c3 : y < 0
      · have c4 : ¬ 0 ≤ y := by omega
        go_enter Try.func44, Try.ntmps44
        go_wp2_with (go_at_call 27; go_loud (first | ((with_reducible refine (rof_walk p.length Ap cp p v _ ?s1 ?s2 ?s3).mono ?_); (case s1 => rfl); (case s2 => exact Kd.C_below HP.out (below_alloc (Below.refl _ _) _)); (case s3 => exact lp); rintro e w1 ⟨rfl, hb⟩; rw [← HX.out]; have HB := Lib.hid (below_step (below_alloc (Below.refl _ _) _) hb); clear hb) | ((with_reducible refine (rof_walk q.length Aq cq q v _ ?s1 ?s2 ?s3).mono ?_); (case s1 => rfl); (case s2 => exact Kd.C_below HQ.out HB.out); (case s3 => exact lq); rintro e w2 ⟨rfl, hb⟩; rw [← HY.out]; have HB2 := Lib.hid (below_step HB.out hb); clear hb)))
        go_ret
        refine ⟨?_, HB2.out⟩
        rw [HGP.out.1 (by rw [← HX.out]; exact c1), HGQ.out.1 (by rw [← HY.out]; exact c3)]
        first | rfl | (simp; exact ⟨c1, c3⟩)
      · have c4 : 0 ≤ y := by omega
        go_enter Try.func44, Try.ntmps44
        go_wp2_with (go_at_call 27; go_loud (first | ((with_reducible refine (rof_walk p.length Ap cp p v _ ?s1 ?s2 ?s3).mono ?_); (case s1 => rfl); (case s2 => exact Kd.C_below HP.out (below_alloc (Below.refl _ _) _)); (case s3 => exact lp); rintro e w1 ⟨rfl, hb⟩; rw [← HX.out]; have HB := Lib.hid (below_step (below_alloc (Below.refl _ _) _) hb); clear hb) | ((with_reducible refine (rof_walk q.length Aq cq q v _ ?s1 ?s2 ?s3).mono ?_); (case s1 => rfl); (case s2 => exact Kd.C_below HQ.out HB.out); (case s3 => exact lq); rintro e w2 ⟨rfl, hb⟩; rw [← HY.out]; have HB2 := Lib.hid (below_step HB.out hb); clear hb)))
        go_ret
        refine ⟨?_, HB2.out⟩
        have : hasK (putGs q) v = true := by
          cases h : hasK (putGs q) v
          · have := HGQ.out.2 h; rw [← HY.out] at this; omega
          · rfl
        rw [this, Bool.or_true, Bool.or_true]
        rfl
    · have c2 : 0 ≤ x := by omega
      go_enter Try.func44, Try.ntmps44
      go_wp2_with (go_at_call 27; go_loud ((with_reducible refine (rof_walk p.length Ap cp p v _ ?s1 ?s2 ?s3).mono ?_); (case s1 => rfl); (case s2 => exact Kd.C_below HP.out (below_alloc (Below.refl _ _) _)); (case s3 => exact lp); rintro e w1 ⟨rfl, hb⟩; rw [← HX.out]; have HB := Lib.hid (below_step (below_alloc (Below.refl _ _) _) hb); clear hb))
      go_ret
      refine ⟨?_, HB.out⟩
      have : hasK (putGs p) v = true := by
        cases h : hasK (putGs p) v
        · have := HGP.out.2 h; rw [← HX.out] at this; omega
        · rfl
      rw [this, Bool.true_or, Bool.or_true]
      rfl
end Go.Proofs.Ytcgdloldkcmhnaa.H
end
section
namespace Go.Proofs.Ytcgdloldkcmhnaa.H
open Go Go.RowKit Go.Proofs.Ytcgdloldkcmhnaa.PrintC Go.Proofs.Ytcgdloldkcmhnaa.PrintE Go.Proofs.YtcgdloldkcmhnaaW.PrintWords Go.Proofs.YtcgdloldkcmhnaaW.PrintLast Go.Proofs.YtcgdloldkcmhnaaW.PrintMore Go.Proofs.Ytcgdloldkcmhnaa.Flow
set_option linter.unusedVariables false
set_option linter.unusedSimpArgs false
theorem grp_one {W : World} {g base : Nat} {a b : Int} {ok : Nat → Prop} (hok : ok g) (hb : W.heap[g]? = some (.cells #[.int .i64 a, .int .i64 b] 44 (0, 0))) (hg : base ≤ g) : Kd.R kGrp 44 W base ok (.slice (some ⟨g, 0, none⟩) 1 1) [⟨a, b⟩] := by
  refine ⟨fun k hk => ?_, [.int .i64 a, .int .i64 b], ⟨rfl, .inr ⟨g, 1, #[.int .i64 a, .int .i64 b], rfl, hg, hb, Nat.le_refl _, by decide, rfl, rfl⟩⟩, ⟨rfl, fun j p hj => ?_⟩⟩
  · have : g = k := by simpa [Value.ownBlock] using hk
    subst this
    exact hok
  · have hj0 : j = 0 := by have := (List.getElem?_eq_some_iff.1 hj).1; simpa using this
    subst hj0
    have e : (⟨a, b⟩ : Grp) = p := by simpa using hj
    subst e
    exact k44_mkM _ _ _ ⟨a, b⟩
theorem infoGrp : (Try.prog.info? 44).map (fun i => (i.zero, i.size, i.bytes)) = some (some (.agg #[.int .i64 0, .int .i64 0]), 2, 16) := by kernel_rfl
structure RdI (w : World) (xs ys : Array Value) (g4 g8 : Nat) (vl : Value) (l : List Arc) (vp : Value) (p : List Grp) (vq : Value) (q : List Grp) (W : World) : Prop where
  rp : Kd.R kGrp 44 W w.heap.size (fun k => some k ≠ vq.ownBlock) vp p
  rq : Kd.R kGrp 44 W w.heap.size (fun k => some k ≠ vp.ownBlock) vq q
  rl : Kd.R kArc 79 W w.heap.size (fun _ => True) vl l
  bx : W.heap[w.heap.size]? = some (.cells xs 29 (0, 0))
  b4 : W.heap[g4]? = some (.cells #[.int .i64 0, .bool false, .slice none 0 0] 32 (0, 0))
  b8 : W.heap[g8]? = some (.cells ys 32 (0, 0))
  low : Below w.heap.size w W
section
variable {w : World} {xs ys : Array Value} {g4 g8 : Nat} {vl vp vq vp2 : Value} {l : List Arc} {p q p2 : List Grp} {W W1 : World}
theorem RdI.swap (h : RdI w xs ys g4 g8 vl l vp p vq q W) : RdI w xs ys g4 g8 vl l vq q vp p W := ⟨h.rq, h.rp, h.rl, h.bx, h.b4, h.b8, h.low⟩
theorem RdI.below (h : RdI w xs ys g4 g8 vl l vp p vq q W) (hb : Below W.heap.size W W1) : RdI w xs ys g4 g8 vl l vp p vq q W1 :=
  ⟨Kd.R_below h.rp hb, Kd.R_below h.rq hb, Kd.R_below h.rl hb, blk_below h.bx hb, blk_below h.b4 hb, blk_below h.b8 hb, below_step h.low hb⟩
theorem RdI.grow (h : RdI w xs ys g4 g8 vl l vp p vq q W) (hg : W.grownBy W1 vp.ownBlock) (ho : Kd.R kGrp 44 W1 w.heap.size (fun k => some k ≠ vq.ownBlock) vp2 p2) (hat : vp2.ownBlock = vp.ownBlock ∨ ∃ b, vp2.ownBlock = some b ∧ W.heap.size ≤ b) (hb : Below w.heap.size w W1) : RdI w xs ys g4 g8 vl l vp2 p2 vq q W1 :=
  ⟨ho, Kd.R_mono (Kd.R_after (v := vp) (ok := (fun _ => True)) (Kd.R_mono h.rq (fun _ hk => ⟨trivial, hk⟩)) hg hat) (fun _ hk => hk.2), Kd.R_over' h.rl (Kd.R_typed h.rp) (by decide) hg, blk_grown h.bx hg (Kd.R_ne h.rp h.bx (by decide)), blk_grown h.b4 hg (Kd.R_ne h.rp h.b4 (by decide)), blk_grown h.b8 hg (Kd.R_ne h.rp h.b8 (by decide)), hb⟩
theorem RdI.fresh (h : RdI w xs ys g4 g8 vl l vp p vq q W) (k : Nat) (hk : W.heap.size ≤ k) : some k ≠ vq.ownBlock := fun e => absurd (Kd.R_lt h.rq k e.symm) (by omega)
theorem RdI.first (h : RdI w xs ys g4 g8 vl l vp p vq q W) (hp : p ≠ []) : ∃ gm cm, vp = .slice (some ⟨gm, 0, none⟩) p.length cm ∧ W.cell? ⟨gm, 1, none⟩ = some (.int .i64 (rd_T44 p 0).f1) ∧ W.frozen? ⟨gm, 1, none⟩ = false ∧
    ∀ k : Int, RdI w xs ys g4 g8 vl l vp (p.set (0 : Int).toNat ⟨(rd_T44 p 0).f0, k⟩) vq q (W.setCell ⟨gm, 1, none⟩ (.int .i64 k)) := by
  obtain ⟨gm, cm, rfl, gm0, gm1, gmB⟩ := Kd.R_form h.rp (List.length_pos_iff.mpr hp)
  have i1 : (0 : Int) < (p.length : Int) := by have := List.length_pos_iff.mpr hp; omega
  obtain ⟨ce, hcl, hM, hcc, hfr⟩ := Kd.R_elem h.rp z44 0 (Int.le_refl _) i1
  obtain rfl := k44_openM hM
  refine ⟨gm, cm, rfl, hcc 1 _ rfl, hfr 1, fun k => ?_⟩
  have hs := Kd.R_seg h.rp 0 (Int.le_refl _) i1 (seg := [.int .i64 k]) (j := 1) hcl hcc (show 2 ≤ 2 from by decide) (x' := ⟨(p.getD (0 : Int).toNat z44).f0, k⟩) (k44_mkM _ _ _ _) (fun _ hk => hk)
  simp only [World.setCells, show kGrp.sz = 2 from rfl] at hs
  exact h.grow hs.2 hs.1 (.inl rfl) (below_set h.low gm0)
end
theorem gOf_all (v : Int) {l : List Grp} (h : ∀ g, g ∈ l → 0 ≤ g.f1) (hn : gOf v l < 0) : ∀ g, g ∈ l → g.f0 ≠ v := fun g hg e => by
  have h1 := (gOf_neg v h).1 hn
  rw [hasK_putGs, List.any_eq_false] at h1
  exact h1 g hg (decide_eq_true e)
theorem snoc_g (p : List Grp) (g : Grp) : (p ++ [g]).length = p.length + 1 := by rw [List.length_append]; rfl
def ReadAt (m : Nat) (w : World) (e : Ending) (w' : World) : Prop :=
  ∃ (n h : Nat) (b : Bool) (l : List Arc) (p q : List Grp) (A : Option Addr) (c : Nat) (Ap : Option Addr) (cp : Nat) (Aq : Option Addr) (cq : Nat),
    e = .returned (.tuple #[.agg #[.int .i64 n, .bool b, .slice A l.length c], .slice Ap p.length cp, .slice Aq q.length cq, .int .i64 h]) ∧ Kd.C kArc w' A l.length l ∧ l.length ≤ c ∧ Kd.C kGrp w' Ap p.length p ∧ p.length ≤ cp ∧ Kd.C kGrp w' Aq q.length q ∧ q.length ≤ cq ∧
      NetSm m n l ∧ GI n p q ∧ h ≤ 7 ∧ Below w.heap.size w w'
abbrev caseCells (a0 : Int) (a1 : Bool) (l2 : List CBit) (a3 a4 a5 : Int) (l6 l7 : List Int) (l8 : List CBit3) (l9 : List Int) (A2 : Option Addr) (c2 : Nat) (A6 : Option Addr) (c6 : Nat) (A7 : Option Addr) (c7 : Nat) (A8 : Option Addr) (c8 : Nat) (A9 : Option Addr) (c9 : Nat) : Array Value :=
  #[.int .u8 a0, .bool a1, .slice A2 l2.length c2, .int .u8 a3, .int .u8 a4, .int .u8 a5, .slice A6 l6.length c6, .slice A7 l7.length c7, .slice A8 l8.length c8, .slice A9 l9.length c9]
section
variable {a0 : Int} {a1 : Bool} {l2 : List CBit} {a3 a4 a5 : Int} {l6 l7 : List Int} {l8 : List CBit3} {l9 : List Int} {A2 : Option Addr} {c2 : Nat} {A6 : Option Addr} {c6 : Nat} {A7 : Option Addr} {c7 : Nat} {A8 : Option Addr} {c8 : Nat} {A9 : Option Addr} {c9 : Nat} {w : World} {v : Value}
theorem CaseAt.below (o : CaseAt w v a0 a1 l2 a3 a4 a5 l6 l7 l8 l9 A2 c2 A6 c6 A7 c7 A8 c8 A9 c9) {w' : World} (hb : Below w.heap.size w w') : CaseAt w' v a0 a1 l2 a3 a4 a5 l6 l7 l8 l9 A2 c2 A6 c6 A7 c7 A8 c8 A9 c9 :=
  ⟨o.is, o.u0, o.u3, o.u4, o.u5, Kd.C_below o.r2 hb, Kd.C_below o.r6 hb, Kd.C_below o.r7 hb, Kd.C_below o.r8 hb, Kd.C_below o.r9 hb, o.h2, o.h6, o.h7, o.h8, o.h9, o.u2, o.u6, o.u7, o.u8, o.u9⟩
set_option maxHeartbeats 4000000 in
set_option maxRecDepth 100000 in
theorem read_at (m : Nat) (i : Int) (hi : i = m) (hm : m ≤ 40) (o : CaseAt w v a0 a1 l2 a3 a4 a5 l6 l7 l8 l9 A2 c2 A6 c6 A7 c7 A8 c8 A9 c9) :
    Calls Try.prog 10 #[.agg #[.int .u8 a0, .bool a1, .slice A2 l2.length c2, .int .u8 a3, .int .u8 a4, .int .u8 a5, .slice A6 l6.length c6, .slice A7 l7.length c7, .slice A8 l8.length c8, .slice A9 l9.length c9], .int .i64 i] w (ReadAt m w) := by
  have HO := Lib.hid o
  have HI := Lib.hid hi
  have hu := Try.underlying32
  have hu2 := Try.underlying29
  have hu3 := Try.underlying44
  have hu4 := Try.underlying24
  clear o hi
  go_enter Try.func10, Try.ntmps10
  go_wp2_with (go_at_call 16; fail)
  obtain ⟨w1, hw1⟩ : ∃ w1, w1 = (w.alloc (.cells #[.int .u8 a0, .bool a1, .slice A2 l2.length c2, .int .u8 a3, .int .u8 a4, .int .u8 a5, .slice A6 l6.length c6, .slice A7 l7.length c7, .slice A8 l8.length c8, .slice A9 l9.length c9] 29)).alloc (.cells #[.int .i64 0, .bool false, .slice none 0 0] 32) := ⟨_, rfl⟩
  have HX2 : Hid (w1.heap[w.heap.size]? = some (.cells #[.int .u8 a0, .bool a1, .slice A2 l2.length c2, .int .u8 a3, .int .u8 a4, .int .u8 a5, .slice A6 l6.length c6, .slice A7 l7.length c7, .slice A8 l8.length c8, .slice A9 l9.length c9] 29 (0, 0))) := Lib.hid (by rw [hw1]; exact blk_alloc (heap_alloc_new _ _) _)
  have HX4 : Hid (w1.heap[w.heap.size + 1]? = some (.cells #[.int .i64 0, .bool false, .slice none 0 0] 32 (0, 0))) := Lib.hid (by rw [hw1]; exact alloc_at (by simp))
  have HB1 : Hid (Below w.heap.size w w1) := Lib.hid (by rw [hw1]; exact below_alloc (below_alloc (Below.refl _ _) _) _)
  have HS1 : Hid (w1.heap.size = w.heap.size + 1 + 1) := Lib.hid (by rw [hw1]; simp)
  rw [← hw1]
  clear hw1
  go_upto_block 0 with (go_at_call 16; (with_reducible refine (read12_walk m (by omega) i HI.out a0 a1 A2 c2 l2 a3 a4 a5 _ ?s1 HO.out.u0 HO.out.u2 HO.out.u3 HO.out.u4 HO.out.u5).mono ?_); (case s1 => exact Kd.C_below HO.out.r2 HB1.out); rintro e w2 ⟨n, l, s, t, h, A, c, rfl, hR, hN, hs, ht, hst, hh, hb⟩; have HR := Lib.hid hR; have HN := Lib.hid hN; have HB2 := Lib.hid hb; have HST := Lib.hid hst; have HH := Lib.hid hh; have HSS := Lib.hid (And.intro hs ht); clear hR hN hs ht hst hh hb)
  obtain ⟨w3, hw3⟩ : ∃ w3, w3 = ((w2.alloc (.cells #[.int .i64 n, .bool a1, .slice A l.length c] 32)).alloc (.cells #[.int .i64 s, .int .i64 0] 44)).alloc (.cells #[.int .i64 t, .int .i64 0] 44) := ⟨_, rfl⟩
  obtain ⟨g8, hg8⟩ : ∃ g8, g8 = w2.heap.size := ⟨_, rfl⟩
  obtain ⟨g4, hg4⟩ : ∃ g4, g4 = w.heap.size + 1 := ⟨_, rfl⟩
  obtain ⟨gp, hgp⟩ : ∃ gp, gp = w2.heap.size + 1 := ⟨_, rfl⟩
  obtain ⟨gq, hgq⟩ : ∃ gq, gq = w2.heap.size + 1 + 1 := ⟨_, rfl⟩
  have hsz : w.heap.size + 1 + 1 ≤ w2.heap.size := by have := HS1.out; have := HB2.out.size; omega
  have HW3 : Hid (Below w2.heap.size w2 w3) := Lib.hid (by rw [hw3]; exact below_alloc (below_alloc (below_alloc (Below.refl _ _) _) _) _)
  have HR3 : Hid (Kd.R kArc 79 w3 w.heap.size (fun _ => True) (.slice A l.length c) l) := Lib.hid (Kd.R_below (Kd.R_lower HR.out (by have := HS1.out; omega)) HW3.out)
  have HP3 : Hid (Kd.R kGrp 44 w3 w.heap.size (fun k => some k ≠ (Value.slice (some ⟨gq, 0, none⟩) 1 1).ownBlock) (.slice (some ⟨gp, 0, none⟩) 1 1) [⟨s, 0⟩]) := Lib.hid (grp_one (by simp [Value.ownBlock]; omega) (by rw [hw3]; exact blk_alloc (alloc_at (by rw [hgp]; simp)) _) (by omega))
  have HQ3 : Hid (Kd.R kGrp 44 w3 w.heap.size (fun k => some k ≠ (Value.slice (some ⟨gp, 0, none⟩) 1 1).ownBlock) (.slice (some ⟨gq, 0, none⟩) 1 1) [⟨t, 0⟩]) := Lib.hid (grp_one (by simp [Value.ownBlock]; omega) (by rw [hw3]; exact alloc_at (by rw [hgq]; simp)) (by omega))
  have HX3 : Hid (w3.heap[w.heap.size]? = some (.cells #[.int .u8 a0, .bool a1, .slice A2 l2.length c2, .int .u8 a3, .int .u8 a4, .int .u8 a5, .slice A6 l6.length c6, .slice A7 l7.length c7, .slice A8 l8.length c8, .slice A9 l9.length c9] 29 (0, 0))) := Lib.hid (blk_below (blk_below HX2.out HB2.out) HW3.out)
  have HX43 : Hid (w3.heap[g4]? = some (.cells #[.int .i64 0, .bool false, .slice none 0 0] 32 (0, 0))) := Lib.hid (by rw [hg4]; exact blk_below (blk_below HX4.out HB2.out) HW3.out)
  have HX83 : Hid (w3.heap[g8]? = some (.cells #[.int .i64 n, .bool a1, .slice A l.length c] 32 (0, 0))) := Lib.hid (by rw [hw3]; exact blk_alloc (blk_alloc (alloc_at hg8) _) _)
  have HB3 : Hid (Below w.heap.size w w3) := Lib.hid (below_step (below_step HB1.out HB2.out) HW3.out)
  have GE4 : Hid (w.heap.size ≤ g4) := Lib.hid (by omega)
  have N48 : Hid (g4 ≠ g8) := Lib.hid (by omega)
  have N24 : Hid (w.heap.size ≠ g4) := Lib.hid (by omega)
  rw [← hw3, ← hgq, ← hgp, ← hg8, ← hg4]
  clear hw3 hg8 hg4 hgp hgq hsz HW3 HR HX2 HX4 HB1 HB2 HS1
  have HI3 : Hid (RdI w #[.int .u8 a0, .bool a1, .slice A2 l2.length c2, .int .u8 a3, .int .u8 a4, .int .u8 a5, .slice A6 l6.length c6, .slice A7 l7.length c7, .slice A8 l8.length c8, .slice A9 l9.length c9] #[.int .i64 n, .bool a1, .slice A l.length c] g4 g8 (.slice A l.length c) l (.slice (some ⟨gp, 0, none⟩) 1 1) [⟨s, 0⟩] (.slice (some ⟨gq, 0, none⟩) 1 1) [⟨t, 0⟩] w3) := Lib.hid ⟨HP3.out, HQ3.out, HR3.out, HX3.out, HX43.out, HX83.out, HB3.out⟩
  have HG0 : Hid (GI n [⟨s, 0⟩] [⟨t, 0⟩]) := Lib.hid ⟨by simp, by simp, fun g hg => by
      obtain rfl := List.mem_singleton.1 hg
      exact ⟨HSS.out.1, Int.le_refl _, by show (0 : Int) ≤ 8; decide⟩, fun g hg => by
      obtain rfl := List.mem_singleton.1 hg
      exact ⟨HSS.out.2, Int.le_refl _, by show (0 : Int) ≤ 8; decide⟩, by simp, by simp, fun g hg x hx => by
      obtain rfl := List.mem_singleton.1 hg
      obtain rfl := List.mem_singleton.1 hx
      exact HST.out⟩
  have hs0 : 0 ≤ s := HSS.out.1.1
  have hs1 : s < n := HSS.out.1.2
  have ht0 : 0 ≤ t := HSS.out.2.1
  have ht1 : t < n := HSS.out.2.2
  have n2 : 2 ≤ n := HN.out.n2
  have n5 : n ≤ 5 := HN.out.n5
  have hn0 : ¬ n = 0 := by omega
  clear HP3 HQ3 HR3 HX3 HX43 HX83 HB3
  obtain ⟨q, hq0⟩ : ∃ q : List Grp, q = [⟨t, 0⟩] := ⟨_, rfl⟩
  obtain ⟨p0, hp0⟩ : ∃ p : List Grp, p = [⟨s, 0⟩] := ⟨_, rfl⟩
  have hql : q.length = 1 := by rw [hq0]; rfl
  have hpl : p0.length = 1 := by rw [hp0]; rfl
  obtain ⟨Aq, hAq⟩ : ∃ Aq : Option Addr, Aq = some ⟨gq, 0, none⟩ := ⟨_, rfl⟩
  obtain ⟨Ap, hAp⟩ : ∃ Ap : Option Addr, Ap = some ⟨gp, 0, none⟩ := ⟨_, rfl⟩
  rw [← hq0, ← hp0] at HI3 HG0
  rw [← hAq, ← hAp] at HI3 ⊢
  have HPL : Hid (p0.length = 1 ∧ q.length = 1) := Lib.hid ⟨hpl, hql⟩
  clear hql hpl hAq hAp hq0 hp0
  go_cut [12] from 14 (fun pv W => ∃ (X : List Grp) (AX : Option Addr) (cX : Nat), pv = .slice AX X.length cX ∧ Hid (GI n X q ∧ X.length ≤ 5 ∧ RdI w #[.int .u8 a0, .bool a1, .slice A2 l2.length c2, .int .u8 a3, .int .u8 a4, .int .u8 a5, .slice A6 l6.length c6, .slice A7 l7.length c7, .slice A8 l8.length c8, .slice A9 l9.length c9] #[.int .i64 n, .bool a1, .slice A l.length c] g4 g8 (.slice A l.length c) l (.slice AX X.length cX) X (.slice Aq 1 1) q W))
  case first =>
    go_wp2
    go_loopg [12, 14] 5 (fun k pv iv W => ∃ (j : Nat) (X : List Grp) (AX : Option Addr) (cX : Nat), j ≤ 4 ∧ pv = .slice AX X.length cX ∧ iv = .int .i64 j ∧ k = 5 - j ∧ Hid (GI n X q ∧ X.length ≤ j + 1 ∧ RdI w #[.int .u8 a0, .bool a1, .slice A2 l2.length c2, .int .u8 a3, .int .u8 a4, .int .u8 a5, .slice A6 l6.length c6, .slice A7 l7.length c7, .slice A8 l8.length c8, .slice A9 l9.length c9] #[.int .i64 n, .bool a1, .slice A l.length c] g4 g8 (.slice A l.length c) l (.slice AX X.length cX) X (.slice Aq 1 1) q W))
    case atStart => exact ⟨0, p0, Ap, 1, Nat.zero_le _, by rw [HPL.out.1], rfl, rfl, Lib.hid ⟨HG0.out, by rw [HPL.out.1]; decide, by rw [HPL.out.1]; exact HI3.out⟩⟩
    case round =>
      obtain ⟨j, X, AX, cX, hj, rfl, rfl, rfl, HL⟩ := hrel
      have x6 : wr.cell? ⟨w.heap.size, 6, none⟩ = some (.slice A6 l6.length c6) := (blk_cell HL.out.2.2.bx 6).trans rfl
      have y0 : wr.cell? ⟨g8, 0, none⟩ = some (.int .i64 n) := (blk_cell HL.out.2.2.b8 0).trans rfl
      have i0 : (0 : Int) ≤ (j : Int) := by omega
      by_cases c1 : (j : Int) < (l6.length : Int)
      · by_cases c3 : (j : Int) < 4
        · obtain ⟨ad, ea, z0⟩ := Kd.at_int (Kd.C_below HO.out.r6 HL.out.2.2.low) (j : Int) i0 c1
          subst ea
          rw [Int.toNat_natCast] at z0
          have hu8 := rd_u8 HO.out.u6 (i := j) (by omega)
          obtain ⟨e0, he0⟩ : ∃ e0, e0 = rd l6 (j : Int) := ⟨_, rfl⟩
          rw [← he0] at z0 hu8
          obtain ⟨u0, u1⟩ : 0 ≤ e0 ∧ e0 ≤ 255 := hu8
          clear he0
          by_cases cj : (j : Int) = 0
          · obtain ⟨gm, cm, e9, s0, s1, hset⟩ := HL.out.2.2.first HL.out.1.p0
            injection e9 with e1 e2 e3
            have hlen : 0 < X.length := List.length_pos_iff.mpr HL.out.1.p0
            have hlen2 : (0 : Int) < (X.length : Int) := by omega
            have HSET := Lib.hid hset
            have cj1 : ((j : Int) == 0) = true := by simpa using cj
            have cj2 : ((j : Int) != 0) = false := by simpa using cj
            clear hset cj e2 e3 hlen
            subst e1
            go_wp2
            go_roundg (4 - j)
            case measure => omega
            case rel => exact ⟨j + 1, X.set (0 : Int).toNat ⟨(rd_T44 X 0).f0, e0 % 7⟩, some ⟨gm, 0, none⟩, cX, by omega, by rw [List.length_set], by go_num, by omega, Lib.hid ⟨HL.out.1.amend0 ⟨by omega, by omega⟩, by rw [List.length_set]; have := HL.out.2.1; omega, by rw [List.length_set]; exact HSET.out _⟩⟩
          · have cj1 : ((j : Int) == 0) = false := by simpa using cj
            have cj2 : ((j : Int) != 0) = true := by simpa using cj
            clear cj
            obtain ⟨r1, hr1⟩ : ∃ r1, r1 = gOf ((s + 2 * (j : Int)) % n) X := ⟨_, rfl⟩
            obtain ⟨r2, hr2⟩ : ∃ r2, r2 = gOf ((s + 2 * (j : Int)) % n) q := ⟨_, rfl⟩
            have O1 := Lib.hid hr1
            have O2 := Lib.hid hr2
            clear hr1 hr2
            have HC1 := Lib.hid (Kd.R_reads' HL.out.2.2.rp).2.2
            have HC2 : Hid (Kd.C kGrp wr Aq q.length q) := Lib.hid (Kd.R_reads' (show Kd.R kGrp 44 wr w.heap.size _ (.slice Aq q.length 1) q by rw [HPL.out.2]; exact HL.out.2.2.rq)).2.2
            have HLX : Hid (X.length ≤ 5) := Lib.hid (by have := HL.out.2.1; omega)
            by_cases h1 : r1 < 0
            · by_cases h2 : r2 < 0
              · have HV1 := Lib.hid (gOf_all ((s + 2 * (j : Int)) % n) (fun g hm => (HL.out.1.gp g hm).2.1) (by rw [← O1.out]; exact h1))
                have HV2 := Lib.hid (gOf_all ((s + 2 * (j : Int)) % n) (fun g hm => (HL.out.1.gq g hm).2.1) (by rw [← O2.out]; exact h2))
                go_wp2_with (first
                  | (go_at_call 27; (with_reducible refine (rof_walk X.length AX cX X _ _ ?s1 ?s2 ?s3).mono ?_); go_loud ((case s1 => rfl); (case s2 => exact HC1.out); (case s3 => have := HLX.out; omega); rintro e w4 ⟨rfl, hb⟩; rw [← O1.out]; have HI1 := Lib.hid (HL.out.2.2.below hb); have hb9 := hb; clear hb))
                  | (go_at_call 27; (with_reducible refine (rof_walk 1 Aq 1 q _ _ ?s1 ?s2 ?s3).mono ?_); go_loud ((case s1 => exact HPL.out.2); (case s2 => exact Kd.C_below HC2.out hb9); (case s3 => decide); rintro e w5 ⟨rfl, hb⟩; rw [← O2.out]; have HI2 := Lib.hid (HI1.out.below hb); clear hb))
                  | ((with_reducible refine gate_dst (N := 81) rfl ?_); go_loud (refine Kd.R_append kGrp (w0 := w) w.heap.size rfl (.tmp 76) (.tmp 80) 33 44 (.agg #[.int .i64 0, .int .i64 0]) 16 rfl Try.underlying33 infoGrp rfl (by decide) (by decide) (.slice AX X.length cX) X ⟨(s + 2 * (j : Int)) % n, e0 % 7⟩ [.int .i64 ((s + 2 * (j : Int)) % n), .int .i64 (e0 % 7)] (fun k => some k ≠ (Value.ownBlock (.slice Aq 1 1))) (fun _ => False) rfl ?aX ?aP (fun _ hk => hk.elim) ?aF ?aO ?aB ?aS ?aL ?_; (case aX => first | rfl | (simp; done) | (simp; rfl)); (case aP => exact k44_mkM _ _ _ (⟨(s + 2 * (j : Int)) % n, e0 % 7⟩ : Grp)); (case aO => exact HI2.out.rp); (case aB => exact HI2.out.low); (case aS => exact HI2.out.low.size); (case aL => have := HLX.out; omega); (case aF => exact HI2.out.fresh); intro v1 w9 ho hb hg hat; obtain ⟨A1, cc1, e9⟩ := Kd.R_slice ho; rw [snoc_g] at e9; subst e9; have HS9 := Lib.hid (HI2.out.grow hg ho hat hb); clear ho hb hg hat)))
                have q8 : 0 ≤ (s + 2 * (j : Int)) % n ∧ (s + 2 * (j : Int)) % n < n := ⟨Int.emod_nonneg _ (by omega), Int.emod_lt_of_pos _ (by omega)⟩
                have q9 : 0 ≤ e0 % 7 ∧ e0 % 7 ≤ 8 := by omega
                go_roundg (4 - j)
                case measure => omega
                case rel => exact ⟨j + 1, X ++ [(⟨(s + 2 * (j : Int)) % n, e0 % 7⟩ : Grp)], A1, cc1, by omega, by rw [snoc_g], by first | rfl | go_num, by omega, Lib.hid ⟨HL.out.1.snoc (g := ⟨(s + 2 * (j : Int)) % n, e0 % 7⟩) ⟨q8, q9⟩ HV1.out HV2.out, by rw [snoc_g]; have := HL.out.2.1; omega, by rw [snoc_g]; exact HS9.out⟩⟩
              · go_wp2_with (first
                  | (go_at_call 27; (with_reducible refine (rof_walk X.length AX cX X _ _ ?s1 ?s2 ?s3).mono ?_); go_loud ((case s1 => rfl); (case s2 => exact HC1.out); (case s3 => have := HLX.out; omega); rintro e w4 ⟨rfl, hb⟩; rw [← O1.out]; have HI1 := Lib.hid (HL.out.2.2.below hb); have hb9 := hb; clear hb))
                  | (go_at_call 27; (with_reducible refine (rof_walk 1 Aq 1 q _ _ ?s1 ?s2 ?s3).mono ?_); go_loud ((case s1 => exact HPL.out.2); (case s2 => exact Kd.C_below HC2.out hb9); (case s3 => decide); rintro e w5 ⟨rfl, hb⟩; rw [← O2.out]; have HI2 := Lib.hid (HI1.out.below hb); clear hb)))
                go_roundg (4 - j)
                case measure => omega
                case rel => exact ⟨j + 1, X, AX, cX, by omega, rfl, by first | rfl | go_num, by omega, Lib.hid ⟨HL.out.1, by have := HL.out.2.1; omega, HI2.out⟩⟩
            · go_wp2_with (go_at_call 27; (with_reducible refine (rof_walk X.length AX cX X _ _ ?s1 ?s2 ?s3).mono ?_); go_loud ((case s1 => rfl); (case s2 => exact HC1.out); (case s3 => have := HLX.out; omega); rintro e w4 ⟨rfl, hb⟩; rw [← O1.out]; have HI1 := Lib.hid (HL.out.2.2.below hb); have hb9 := hb; clear hb))
              go_roundg (4 - j)
              case measure => omega
              case rel => exact ⟨j + 1, X, AX, cX, by omega, rfl, by first | rfl | go_num, by omega, Lib.hid ⟨HL.out.1, by have := HL.out.2.1; omega, HI1.out⟩⟩
        · go_wp2
          go_meet
          case rel => exact ⟨X, AX, cX, rfl, Lib.hid ⟨HL.out.1, by have := HL.out.2.1; omega, HL.out.2.2⟩⟩
      · go_wp2
        go_meet
        case rel => exact ⟨X, AX, cX, rfl, Lib.hid ⟨HL.out.1, by have := HL.out.2.1; omega, HL.out.2.2⟩⟩
  case rest =>
  obtain ⟨p, Ap, cp, rfl, HP1⟩ := hcut
  clear HI3 HG0
  go_upto_block 2 with (fail)
  go_cut [13] from 17 (fun pv W => ∃ (X : List Grp) (AX : Option Addr) (cX : Nat), pv = .slice AX X.length cX ∧ Hid (GI n X p ∧ X.length ≤ 5 ∧ RdI w #[.int .u8 a0, .bool a1, .slice A2 l2.length c2, .int .u8 a3, .int .u8 a4, .int .u8 a5, .slice A6 l6.length c6, .slice A7 l7.length c7, .slice A8 l8.length c8, .slice A9 l9.length c9] #[.int .i64 n, .bool a1, .slice A l.length c] g4 g8 (.slice A l.length c) l (.slice AX X.length cX) X (.slice Ap p.length cp) p W))
  case first =>
    go_wp2
    go_loopg [13, 17] 5 (fun k pv iv W => ∃ (j : Nat) (X : List Grp) (AX : Option Addr) (cX : Nat), j ≤ 4 ∧ pv = .slice AX X.length cX ∧ iv = .int .i64 j ∧ k = 5 - j ∧ Hid (GI n X p ∧ X.length ≤ j + 1 ∧ RdI w #[.int .u8 a0, .bool a1, .slice A2 l2.length c2, .int .u8 a3, .int .u8 a4, .int .u8 a5, .slice A6 l6.length c6, .slice A7 l7.length c7, .slice A8 l8.length c8, .slice A9 l9.length c9] #[.int .i64 n, .bool a1, .slice A l.length c] g4 g8 (.slice A l.length c) l (.slice AX X.length cX) X (.slice Ap p.length cp) p W))
    case atStart => exact ⟨0, q, Aq, 1, Nat.zero_le _, by rw [HPL.out.2], rfl, rfl, Lib.hid ⟨HP1.out.1.swap, by rw [HPL.out.2]; decide, by rw [HPL.out.2]; exact HP1.out.2.2.swap⟩⟩
    case round =>
      obtain ⟨j, X, AX, cX, hj, rfl, rfl, rfl, HL⟩ := hrel
      have x6 : wr.cell? ⟨w.heap.size, 7, none⟩ = some (.slice A7 l7.length c7) := (blk_cell HL.out.2.2.bx 7).trans rfl
      have y0 : wr.cell? ⟨g8, 0, none⟩ = some (.int .i64 n) := (blk_cell HL.out.2.2.b8 0).trans rfl
      have i0 : (0 : Int) ≤ (j : Int) := by omega
      by_cases c1 : (j : Int) < (l7.length : Int)
      · by_cases c3 : (j : Int) < 4
        · obtain ⟨ad, ea, z0⟩ := Kd.at_int (Kd.C_below HO.out.r7 HL.out.2.2.low) (j : Int) i0 c1
          subst ea
          rw [Int.toNat_natCast] at z0
          have hu8 := rd_u8 HO.out.u7 (i := j) (by omega)
          obtain ⟨e0, he0⟩ : ∃ e0, e0 = rd l7 (j : Int) := ⟨_, rfl⟩
          rw [← he0] at z0 hu8
          obtain ⟨u0, u1⟩ : 0 ≤ e0 ∧ e0 ≤ 255 := hu8
          clear he0
          by_cases cj : (j : Int) = 0
          · obtain ⟨gm, cm, e9, s0, s1, hset⟩ := HL.out.2.2.first HL.out.1.p0
            injection e9 with e1 e2 e3
            have hlen : 0 < X.length := List.length_pos_iff.mpr HL.out.1.p0
            have hlen2 : (0 : Int) < (X.length : Int) := by omega
            have HSET := Lib.hid hset
            have cj1 : ((j : Int) == 0) = true := by simpa using cj
            have cj2 : ((j : Int) != 0) = false := by simpa using cj
            clear hset cj e2 e3 hlen
            subst e1
            go_wp2
            go_roundg (4 - j)
            case measure => omega
            case rel => exact ⟨j + 1, X.set (0 : Int).toNat ⟨(rd_T44 X 0).f0, e0 % 9⟩, some ⟨gm, 0, none⟩, cX, by omega, by rw [List.length_set], by go_num, by omega, Lib.hid ⟨HL.out.1.amend0 ⟨by omega, by omega⟩, by rw [List.length_set]; have := HL.out.2.1; omega, by rw [List.length_set]; exact HSET.out _⟩⟩
          · have cj1 : ((j : Int) == 0) = false := by simpa using cj
            have cj2 : ((j : Int) != 0) = true := by simpa using cj
            clear cj
            obtain ⟨r1, hr1⟩ : ∃ r1, r1 = gOf ((t + (j : Int)) % n) p := ⟨_, rfl⟩
            obtain ⟨r2, hr2⟩ : ∃ r2, r2 = gOf ((t + (j : Int)) % n) X := ⟨_, rfl⟩
            have O1 := Lib.hid hr1
            have O2 := Lib.hid hr2
            clear hr1 hr2
            have HC1 := Lib.hid (Kd.R_reads' HL.out.2.2.rp).2.2
            have HC2 : Hid (Kd.C kGrp wr Ap p.length p) := Lib.hid (Kd.R_reads' (show Kd.R kGrp 44 wr w.heap.size _ (.slice Ap p.length cp) p by  exact HL.out.2.2.rq)).2.2
            have HLX : Hid (X.length ≤ 5) := Lib.hid (by have := HL.out.2.1; omega)
            by_cases h1 : r1 < 0
            · by_cases h2 : r2 < 0
              · have HV1 := Lib.hid (gOf_all ((t + (j : Int)) % n) (fun g hm => (HL.out.1.gq g hm).2.1) (by rw [← O1.out]; exact h1))
                have HV2 := Lib.hid (gOf_all ((t + (j : Int)) % n) (fun g hm => (HL.out.1.gp g hm).2.1) (by rw [← O2.out]; exact h2))
                go_wp2_with (first
                  | (go_at_call 27; (with_reducible refine (rof_walk p.length Ap cp p _ _ ?s1 ?s2 ?s3).mono ?_); go_loud ((case s1 => exact rfl); (case s2 => exact HC2.out); (case s3 => have := HP1.out.2.1; omega); rintro e w4 ⟨rfl, hb⟩; rw [← O1.out]; have HI1 := Lib.hid (HL.out.2.2.below hb); have hb9 := hb; clear hb))
                  | (go_at_call 27; (with_reducible refine (rof_walk X.length AX cX X _ _ ?s1 ?s2 ?s3).mono ?_); go_loud ((case s1 => rfl); (case s2 => exact Kd.C_below HC1.out hb9); (case s3 => have := HLX.out; omega); rintro e w5 ⟨rfl, hb⟩; rw [← O2.out]; have HI2 := Lib.hid (HI1.out.below hb); clear hb))
                  | ((with_reducible refine gate_dst (N := 127) rfl ?_); go_loud (refine Kd.R_append kGrp (w0 := w) w.heap.size rfl (.tmp 122) (.tmp 126) 33 44 (.agg #[.int .i64 0, .int .i64 0]) 16 rfl Try.underlying33 infoGrp rfl (by decide) (by decide) (.slice AX X.length cX) X ⟨(t + (j : Int)) % n, e0 % 9⟩ [.int .i64 ((t + (j : Int)) % n), .int .i64 (e0 % 9)] (fun k => some k ≠ (Value.ownBlock (.slice Ap p.length cp))) (fun _ => False) rfl ?aX ?aP (fun _ hk => hk.elim) ?aF ?aO ?aB ?aS ?aL ?_; (case aX => first | rfl | (simp; done) | (simp; rfl)); (case aP => exact k44_mkM _ _ _ (⟨(t + (j : Int)) % n, e0 % 9⟩ : Grp)); (case aO => exact HI2.out.rp); (case aB => exact HI2.out.low); (case aS => exact HI2.out.low.size); (case aL => have := HLX.out; omega); (case aF => exact HI2.out.fresh); intro v1 w9 ho hb hg hat; obtain ⟨A1, cc1, e9⟩ := Kd.R_slice ho; rw [snoc_g] at e9; subst e9; have HS9 := Lib.hid (HI2.out.grow hg ho hat hb); clear ho hb hg hat)))
                have q8 : 0 ≤ (t + (j : Int)) % n ∧ (t + (j : Int)) % n < n := ⟨Int.emod_nonneg _ (by omega), Int.emod_lt_of_pos _ (by omega)⟩
                have q9 : 0 ≤ e0 % 9 ∧ e0 % 9 ≤ 8 := by omega
                go_roundg (4 - j)
                case measure => omega
                case rel => exact ⟨j + 1, X ++ [(⟨(t + (j : Int)) % n, e0 % 9⟩ : Grp)], A1, cc1, by omega, by rw [snoc_g], by first | rfl | go_num, by omega, Lib.hid ⟨HL.out.1.snoc (g := ⟨(t + (j : Int)) % n, e0 % 9⟩) ⟨q8, q9⟩ HV2.out HV1.out, by rw [snoc_g]; have := HL.out.2.1; omega, by rw [snoc_g]; exact HS9.out⟩⟩
              · go_wp2_with (first
                  | (go_at_call 27; (with_reducible refine (rof_walk p.length Ap cp p _ _ ?s1 ?s2 ?s3).mono ?_); go_loud ((case s1 => exact rfl); (case s2 => exact HC2.out); (case s3 => have := HP1.out.2.1; omega); rintro e w4 ⟨rfl, hb⟩; rw [← O1.out]; have HI1 := Lib.hid (HL.out.2.2.below hb); have hb9 := hb; clear hb))
                  | (go_at_call 27; (with_reducible refine (rof_walk X.length AX cX X _ _ ?s1 ?s2 ?s3).mono ?_); go_loud ((case s1 => rfl); (case s2 => exact Kd.C_below HC1.out hb9); (case s3 => have := HLX.out; omega); rintro e w5 ⟨rfl, hb⟩; rw [← O2.out]; have HI2 := Lib.hid (HI1.out.below hb); clear hb)))
                go_roundg (4 - j)
                case measure => omega
                case rel => exact ⟨j + 1, X, AX, cX, by omega, rfl, by first | rfl | go_num, by omega, Lib.hid ⟨HL.out.1, by have := HL.out.2.1; omega, HI2.out⟩⟩
            · go_wp2_with (go_at_call 27; (with_reducible refine (rof_walk p.length Ap cp p _ _ ?s1 ?s2 ?s3).mono ?_); go_loud ((case s1 => exact rfl); (case s2 => exact HC2.out); (case s3 => have := HP1.out.2.1; omega); rintro e w4 ⟨rfl, hb⟩; rw [← O1.out]; have HI1 := Lib.hid (HL.out.2.2.below hb); have hb9 := hb; clear hb))
              go_roundg (4 - j)
              case measure => omega
              case rel => exact ⟨j + 1, X, AX, cX, by omega, rfl, by first | rfl | go_num, by omega, Lib.hid ⟨HL.out.1, by have := HL.out.2.1; omega, HI1.out⟩⟩
        · go_wp2
          go_meet
          case rel => exact ⟨X, AX, cX, rfl, Lib.hid ⟨HL.out.1, by have := HL.out.2.1; omega, HL.out.2.2⟩⟩
      · go_wp2
        go_meet
        case rel => exact ⟨X, AX, cX, rfl, Lib.hid ⟨HL.out.1, by have := HL.out.2.1; omega, HL.out.2.2⟩⟩
  case rest =>
  obtain ⟨q, Aq, cq, rfl, HQ1⟩ := hcut
  clear HP1
  have y0 : wc.cell? ⟨g8, 0, none⟩ = some (.int .i64 n) := (blk_cell HQ1.out.2.2.b8 0).trans rfl
  have y1 : wc.cell? ⟨g8, 1, none⟩ = some (.bool a1) := (blk_cell HQ1.out.2.2.b8 1).trans rfl
  have y2 : wc.cell? ⟨g8, 2, none⟩ = some (.slice A l.length c) := (blk_cell HQ1.out.2.2.b8 2).trans rfl
  have b4 := HQ1.out.2.2.b4
  have z0 : wc.cell? ⟨g4, 0, none⟩ = some (.int .i64 0) := (blk_cell b4 0).trans rfl
  have z1 : wc.cell? ⟨g4, 1, none⟩ = some (.bool false) := (blk_cell b4 1).trans rfl
  have z2 : wc.cell? ⟨g4, 2, none⟩ = some (.slice none 0 0) := (blk_cell b4 2).trans rfl
  have fz0 := blk_frozen b4 0
  have fz1 := blk_frozen b4 1
  have fz2 := blk_frozen b4 2
  go_wp2
  have r0 := blk_put (cs := #[.int .i64 0, .bool false, .slice none 0 0]) b4 0 (.int .i64 n) rfl
  have r1 := blk_put (cs := #[.int .i64 n, .bool false, .slice none 0 0]) r0 1 (.bool a1) rfl
  have r2 := blk_put (cs := #[.int .i64 n, .bool a1, .slice none 0 0]) r1 2 (.slice A l.length c) rfl
  refine bodyPost_ret (results_list (rs := [.cell 4 32, .tmp 5, .tmp 6, .tmp 7]) rfl (by simp) (.cell g4 32 #[.int .i64 n, .bool a1, .slice A l.length c] (0, 0) _ rfl r2 hu rfl (by kernel_rfl) (.tmp (.tmp (.tmp .nil))))) rfl ?_
  have hL := Kd.R_reads' (Kd.R_set (Kd.R_set (Kd.R_set HQ1.out.2.2.rl b4 (by decide) 0 (.int .i64 n)) r0 (by decide) 1 (.bool a1)) r1 (by decide) 2 (.slice A l.length c))
  have hP := Kd.R_reads' (Kd.R_set (Kd.R_set (Kd.R_set HQ1.out.2.2.rq b4 (by decide) 0 (.int .i64 n)) r0 (by decide) 1 (.bool a1)) r1 (by decide) 2 (.slice A l.length c))
  have hQ := Kd.R_reads' (Kd.R_set (Kd.R_set (Kd.R_set HQ1.out.2.2.rp b4 (by decide) 0 (.int .i64 n)) r0 (by decide) 1 (.bool a1)) r1 (by decide) 2 (.slice A l.length c))
  obtain ⟨nn, hnn⟩ := Int.eq_ofNat_of_zero_le (show 0 ≤ n by omega)
  have hh := HH.out
  obtain ⟨hn, hhn⟩ := Int.eq_ofNat_of_zero_le hh.1
  subst hnn hhn
  exact ⟨nn, hn, a1, l, p, q, A, c, Ap, cp, Aq, cq, rfl, hL.2.2, hL.2.1, hP.2.2, hP.2.1, hQ.2.2, hQ.2.1, HN.out, HQ1.out.1.swap, by have := hh.2; omega, below_set (below_set (below_set HQ1.out.2.2.low GE4.out) GE4.out) GE4.out⟩
end
end Go.Proofs.Ytcgdloldkcmhnaa.H
end
section
namespace Go.Proofs.Ytcgdloldkcmhnaa.H
open Go Go.RowKit Go.Proofs.Ytcgdloldkcmhnaa.PrintC Go.Proofs.Ytcgdloldkcmhnaa.PrintE Go.Proofs.YtcgdloldkcmhnaaW.PrintWords Go.Proofs.YtcgdloldkcmhnaaW.PrintLast Go.Proofs.YtcgdloldkcmhnaaW.PrintMore Go.Proofs.Ytcgdloldkcmhnaa.Flow
abbrev lineL : List Arc := [⟨0, 1, 2, 1⟩, ⟨1, 2, 2, 1⟩]
abbrev pL : List Grp := [⟨0, 3⟩]
abbrev qL : List Grp := [⟨2, 5⟩]
theorem line_sm : NetSm 6 (3 : Nat) lineL where
  n2 := by decide
  n5 := by decide
  ll := by decide
  arc x hx := by
    simp only [lineL, List.mem_cons, List.not_mem_nil, or_false] at hx
    rcases hx with rfl | rfl <;> decide
theorem line_gi : GI (3 : Nat) pL qL where
  p0 := by simp
  q0 := by simp
  gp g hg := by
    obtain rfl := List.mem_singleton.1 hg
    decide
  gq g hg := by
    obtain rfl := List.mem_singleton.1 hg
    decide
  dp := by simp
  dq := by simp
  apart g hg x hx := by
    obtain rfl := List.mem_singleton.1 hg
    obtain rfl := List.mem_singleton.1 hx
    decide
theorem line_ask {h : Nat} (hh : h ≤ 16) : AskOk 3 h lineL pL qL := ask_of (m := 6) (by omega) line_sm line_gi hh
theorem useL (x : Arc) : useOf qL x = !decide (x.f0 = 2) := by
  unfold useOf
  rw [hasK_putGs]
  simp [eq_comm]
theorem keepsL (v : Nat) : keepsOf false pL qL v = (decide ((v : Int) = 0) || decide ((v : Int) = 2)) := by
  unfold keepsOf
  rw [hasK_putGs, hasK_putGs]
  simp [eq_comm]
theorem useL_is : useOf qL = fun x => !decide (x.f0 = 2) := funext useL
theorem keepsL_is : keepsOf false pL qL = fun v : Nat => (decide ((v : Int) = 0) || decide ((v : Int) = 2)) := funext keepsL
theorem line2 : evArcs lineL (useOf qL) (keepsOf false pL qL) 3 2 9 10 pL qL = [⟨0, 4, 2, 0⟩, ⟨1, 5, 2, 0⟩, ⟨0, 3, 1099511627776, 0⟩, ⟨2, 5, 1099511627776, 0⟩, ⟨3, 7, 2, 0⟩, ⟨4, 8, 2, 0⟩, ⟨3, 6, 1099511627776, 0⟩, ⟨5, 8, 1099511627776, 0⟩, ⟨9, 0, 3, 0⟩, ⟨8, 10, 5, 0⟩] := by
  rw [useL_is, keepsL_is]
  rfl
theorem line3 : evArcs lineL (useOf qL) (keepsOf false pL qL) 3 3 12 13 pL qL = [⟨0, 4, 2, 0⟩, ⟨1, 5, 2, 0⟩, ⟨0, 3, 1099511627776, 0⟩, ⟨2, 5, 1099511627776, 0⟩, ⟨3, 7, 2, 0⟩, ⟨4, 8, 2, 0⟩, ⟨3, 6, 1099511627776, 0⟩, ⟨5, 8, 1099511627776, 0⟩, ⟨6, 10, 2, 0⟩, ⟨7, 11, 2, 0⟩, ⟨6, 9, 1099511627776, 0⟩, ⟨8, 11, 1099511627776, 0⟩, ⟨12, 0, 3, 0⟩, ⟨11, 13, 5, 0⟩] := by
  rw [useL_is, keepsL_is]
  rfl
theorem line_two : mostV 3 2 false lineL pL qL = 2 := by
  obtain ⟨⟨S, h1, h2, h3⟩, h4⟩ := ((line_ask (h := 2) (by decide)).place).cut false
  have u := h4 (fun v => decide (v = 9) || decide (v = 0) || decide (v = 3) || decide (v = 6) || decide (v = 7)) (by decide) (by decide)
  unfold evCut at u h3
  rw [show evArcs lineL (useOf qL) (keepsOf false pL qL) 3 2 ((2 + 1) * 3) ((2 + 1) * 3 + 1) pL qL = _ from line2] at u h3
  have u2 : cutL (fun v => decide (v = 9) || decide (v = 0) || decide (v = 3) || decide (v = 6) || decide (v = 7)) [⟨0, 4, 2, 0⟩, ⟨1, 5, 2, 0⟩, ⟨0, 3, 1099511627776, 0⟩, ⟨2, 5, 1099511627776, 0⟩, ⟨3, 7, 2, 0⟩, ⟨4, 8, 2, 0⟩, ⟨3, 6, 1099511627776, 0⟩, ⟨5, 8, 1099511627776, 0⟩, ⟨9, 0, 3, 0⟩, ⟨8, 10, 5, 0⟩] = 2 := by decide +kernel
  rw [u2] at u
  have h1' : S 9 = true := h1
  have h2' : S 10 = false := h2
  have lo : 2 ≤ cutL S [⟨0, 4, 2, 0⟩, ⟨1, 5, 2, 0⟩, ⟨0, 3, 1099511627776, 0⟩, ⟨2, 5, 1099511627776, 0⟩, ⟨3, 7, 2, 0⟩, ⟨4, 8, 2, 0⟩, ⟨3, 6, 1099511627776, 0⟩, ⟨5, 8, 1099511627776, 0⟩, ⟨9, 0, 3, 0⟩, ⟨8, 10, 5, 0⟩] := by
    simp only [cutL, cutA, h1', h2']
    generalize S 0 = x0
    generalize S 1 = x1
    generalize S 2 = x2
    generalize S 3 = x3
    generalize S 4 = x4
    generalize S 5 = x5
    generalize S 6 = x6
    generalize S 7 = x7
    generalize S 8 = x8
    revert x0 x1 x2 x3 x4 x5 x6 x7 x8
    decide +kernel
  omega
theorem line_three : mostV 3 3 false lineL pL qL = 3 := by
  have hp := (line_ask (h := 3) (by decide)).place
  obtain ⟨⟨S, h1, h2, h3⟩, -⟩ := hp.cut false
  have u := hp.le_total false
  have ut : totalV pL = 3 := by decide
  rw [ut] at u
  unfold evCut at h3
  rw [show evArcs lineL (useOf qL) (keepsOf false pL qL) 3 3 ((3 + 1) * 3) ((3 + 1) * 3 + 1) pL qL = _ from line3] at h3
  have h1' : S 12 = true := h1
  have h2' : S 13 = false := h2
  have lo : 3 ≤ cutL S [⟨0, 4, 2, 0⟩, ⟨1, 5, 2, 0⟩, ⟨0, 3, 1099511627776, 0⟩, ⟨2, 5, 1099511627776, 0⟩, ⟨3, 7, 2, 0⟩, ⟨4, 8, 2, 0⟩, ⟨3, 6, 1099511627776, 0⟩, ⟨5, 8, 1099511627776, 0⟩, ⟨6, 10, 2, 0⟩, ⟨7, 11, 2, 0⟩, ⟨6, 9, 1099511627776, 0⟩, ⟨8, 11, 1099511627776, 0⟩, ⟨12, 0, 3, 0⟩, ⟨11, 13, 5, 0⟩] := by
    simp only [cutL, cutA, h1', h2']
    generalize S 0 = x0
    generalize S 1 = x1
    generalize S 2 = x2
    generalize S 3 = x3
    generalize S 4 = x4
    generalize S 5 = x5
    generalize S 6 = x6
    generalize S 7 = x7
    generalize S 8 = x8
    generalize S 9 = x9
    generalize S 10 = x10
    generalize S 11 = x11
    revert x0 x1 x2 x3 x4 x5 x6 x7 x8 x9 x10 x11
    decide +kernel
  omega
theorem line_bad {k : Nat} (hk : 300 ≤ k) : evac_Most.f k 3 false lineL pL pL 2 = some (0, 210) := by
  have c1 := check_good (b := false) (line_ask (h := 2) (by decide)).net hk
  have c2 : groupsC 3 pL pL = 210 := by decide +kernel
  have ok : okG pL = true ∧ okG pL = true := ⟨(line_ask (h := 2) (by decide)).okp.1, (line_ask (h := 2) (by decide)).okp.1⟩
  have hb : begunF k 3 false lineL pL pL 2 = some 210 := by
    unfold begunF
    rw [show netfmt_Check.f k 3 false lineL = some 0 from c1, Option.bind_some, if_pos rfl, c2, if_neg (by decide)]
  unfold evac_Most.f
  rw [if_pos ok, hb, Option.bind_some, if_neg (by decide)]
theorem line_most : evac_Most.f 300 3 false lineL pL qL 2 = some (2, 0) := by
  have h2 := (line_ask (h := 2) (by decide)).most false (k := 300) (by decide)
  rw [line_two] at h2
  exact h2
theorem line_least : evac_Least.f 300 3 false lineL pL qL 9 = some (3, true, 0) := by
  have h9 := (line_ask (h := 9) (by decide)).least false (k := 300) (by decide)
  have hp9 := (line_ask (h := 9) (by decide)).place
  have t3 : totalV pL = 3 := by decide
  have e9 : mostV 3 9 false lineL pL qL = totalV pL := by
    have m1 := PlaceOk.mono_le (m := 3) (h := 9) false hp9 (by decide)
    have m2 := hp9.le_total false
    rw [line_three] at m1
    omega
  obtain ⟨f1, f2, f3⟩ := (line_ask (h := 9) (by decide)).first false e9
  have hb : bsr (fun k => mostV 3 k false lineL pL qL == totalV pL) 0 9 = 3 := by
    generalize bsr (fun k => mostV 3 k false lineL pL qL == totalV pL) 0 9 = z at f1 f2 f3
    by_cases c : z < 3
    · have m1 := PlaceOk.mono_le (m := z) (h := 2) false (hp9.le (by decide)) (by omega)
      rw [line_two] at m1
      omega
    · by_cases c2 : 3 < z
      · have := f2 3 c2
        rw [line_three] at this
        omega
      · omega
  rw [hb, if_pos (by simpa using e9), e9] at h9
  rw [show (some (3, true, 0) : Option (Int × Bool × Int)) = some (((3 : Nat) : Int), totalV pL == totalV pL, 0) by simp]
  exact h9
end Go.Proofs.Ytcgdloldkcmhnaa.H
end
section
namespace Go.Proofs.Ytcgdloldkcmhnaa.H
open Go Go.RowKit Go.Proofs.Ytcgdloldkcmhnaa.PrintC Go.Proofs.Ytcgdloldkcmhnaa.PrintE Go.Proofs.YtcgdloldkcmhnaaW.PrintWords Go.Proofs.YtcgdloldkcmhnaaW.PrintLast Go.Proofs.YtcgdloldkcmhnaaW.PrintMore Go.Proofs.Ytcgdloldkcmhnaa.Flow
set_option linter.unusedVariables false
set_option linter.unusedSimpArgs false
theorem arcs_blk {W : World} {g : Nat} {l : List Arc} (hl : l.length ≤ 100000) (h : W.heap[g]? = some (.cells (arcCells l).toArray 79 (0, 0))) : Kd.C kArc W (some ⟨g, 0, none⟩) l.length l := by
  refine ⟨rfl, by omega, fun _ => ⟨_, rfl, fun j p hj => ⟨[.int .i64 p.f0, .int .i64 p.f1, .int .i64 p.f2, .int .i64 p.f3], rfl, k79_mk _ p, fun i u hu => ?_⟩⟩⟩
  have h1 := arcCells_get l j p hj i u hu
  have h2 : W.cell? ⟨g, j * 4 + i, none⟩ = some u := by
    refine (blk_cell h (j * 4 + i)).trans ?_
    rw [List.getElem?_toArray]
    exact h1
  have h3 : (Addr.add ⟨g, 0, none⟩ (j * kArc.sz + i)) = ⟨g, j * 4 + i, none⟩ := by
    have : kArc.sz = 4 := rfl
    rw [this]
    unfold Addr.add
    split
    · rename_i h4
      rw [h4]
    · simp
  rw [h3]
  exact h2
theorem grp_blk {W : World} {g : Nat} {a b : Int} (h : W.heap[g]? = some (.cells #[.int .i64 a, .int .i64 b] 44 (0, 0))) : Kd.C kGrp W (some ⟨g, 0, none⟩) 1 [⟨a, b⟩] := by
  refine ⟨rfl, by simp, fun _ => ⟨_, rfl, fun j p hj => ?_⟩⟩
  have hj0 : j = 0 := by have := (List.getElem?_eq_some_iff.1 hj).1; simpa using this
  subst hj0
  have e : (⟨a, b⟩ : Grp) = p := by simpa using hj
  subst e
  refine ⟨[.int .i64 a, .int .i64 b], rfl, k44_mk _ ⟨a, b⟩, fun i u hu => ?_⟩
  match i, hu with
  | 0, hu => exact (blk_cell h 0).trans hu
  | 1, hu => exact (blk_cell h 1).trans hu
  | i + 2, hu => simp at hu
set_option maxHeartbeats 4000000 in
set_option maxRecDepth 100000 in
theorem line_walk (b : Bool) (w : World) : Calls Try.prog 34 #[.bool b] w fun e w' => ∃ g, e = .returned (.agg #[.int .i64 3, .bool b, .slice (some ⟨g, 0, none⟩) 2 2]) ∧ Kd.C kArc w' (some ⟨g, 0, none⟩) 2 lineL ∧ Below w.heap.size w w' := by
  have hu := Try.underlying32
  go_enter Try.func34, Try.ntmps34
  go_wp2
  refine bodyPost_ret (results_cell_row rfl _ _ w.heap.size 32 #[.int .i64 3, .bool b, .slice (some ⟨w.heap.size + 1, 0, none⟩) 2 2] (0, 0) _ rfl (blk_alloc (heap_alloc_new w _) _) hu rfl (by kernel_rfl)) rfl ?_
  exact ⟨_, rfl, arcs_blk (l := lineL) (by decide) (alloc_at (by simp)), below_alloc (below_alloc (Below.refl _ _) _) _⟩
theorem most_line {A Ap Aq : Option Addr} {w : World} (hA : Kd.C kArc w A 2 lineL) (hp : Kd.C kGrp w Ap 1 pL) (hq : Kd.C kGrp w Aq 1 qL) :
    Calls Try.prog 14 #[.agg #[.int .i64 3, .bool false, .slice A 2 2], .slice Ap 1 1, .slice Aq 1 1, .int .i64 2] w fun e w' => e = .returned (.tuple #[.int .i64 2, .int .i64 0]) ∧ Below w.heap.size w w' :=
  evac_Most.calls 300 3 false A 2 lineL Ap 1 pL Aq 1 qL 2 2 0 w hA (Nat.le_refl _) hp (Nat.le_refl _) hq (Nat.le_refl _) line_most
theorem least_line {A Ap Aq : Option Addr} {w : World} (hA : Kd.C kArc w A 2 lineL) (hp : Kd.C kGrp w Ap 1 pL) (hq : Kd.C kGrp w Aq 1 qL) :
    Calls Try.prog 11 #[.agg #[.int .i64 3, .bool false, .slice A 2 2], .slice Ap 1 1, .slice Aq 1 1, .int .i64 9] w fun e w' => e = .returned (.tuple #[.int .i64 3, .bool true, .int .i64 0]) ∧ Below w.heap.size w w' :=
  evac_Least.calls 300 3 false A 2 lineL Ap 1 pL Aq 1 qL 9 3 true 0 w hA (Nat.le_refl _) hp (Nat.le_refl _) hq (Nat.le_refl _) line_least
theorem bad_line {A Ap : Option Addr} {w : World} (hA : Kd.C kArc w A 2 lineL) (hp : Kd.C kGrp w Ap 1 pL) :
    Calls Try.prog 14 #[.agg #[.int .i64 3, .bool false, .slice A 2 2], .slice Ap 1 1, .slice Ap 1 1, .int .i64 2] w fun e w' => e = .returned (.tuple #[.int .i64 0, .int .i64 210]) ∧ Below w.heap.size w w' :=
  evac_Most.calls 300 3 false A 2 lineL Ap 1 pL Ap 1 pL 2 0 210 w hA (Nat.le_refl _) hp (Nat.le_refl _) hp (Nat.le_refl _) (line_bad (k := 300) (Nat.le_refl _))
set_option maxHeartbeats 4000000 in
set_option maxRecDepth 100000 in
theorem awake_walk (w : World) : Calls Try.prog 13 #[] w fun e w' => e = .returned (.bool true) ∧ Below w.heap.size w w' := by
  have hu := Try.underlying44
  have hu2 := Try.underlying33
  go_enter Try.func13, Try.ntmps13
  go_wp2_with (go_at_call 34; fail)
  have HP := Lib.hid (grp_blk (blk_alloc (heap_alloc_new w (.cells #[.int .i64 0, .int .i64 3] 44)) (.cells #[.int .i64 2, .int .i64 5] 44)))
  have HQ := Lib.hid (grp_blk (g := w.heap.size + 1) (alloc_at (W := w.alloc (.cells #[.int .i64 0, .int .i64 3] 44)) (o := .cells #[.int .i64 2, .int .i64 5] 44) (by simp)))
  have HB0 := Lib.hid (below_alloc (below_alloc (Below.refl w.heap.size w) (.cells #[.int .i64 0, .int .i64 3] 44)) (.cells #[.int .i64 2, .int .i64 5] 44))
  generalize ((w.alloc (.cells #[.int .i64 0, .int .i64 3] 44)).alloc (.cells #[.int .i64 2, .int .i64 5] 44)) = w1 at HP HQ HB0 ⊢
  have HB := Lib.hid (Below.refl w1.heap.size w1)
  go_wp2_with (first
    | (go_at_call 34; (with_reducible refine (line_walk false _).mono ?_); rintro e w2 ⟨g, rfl, hA, hb⟩; (try clear HA); have HA := Lib.hid hA; have HN := Lib.hid (below_step HB.out hb); clear HB; have HB := HN; clear HN hb hA)
    | (go_at_call 14; (with_reducible refine (most_line HA.out (Kd.C_below HP.out HB.out) (Kd.C_below HQ.out HB.out)).mono ?_); rintro e w2 ⟨rfl, hb⟩; have HN := Lib.hid (below_step HB.out hb); clear HB; have HB := HN; clear HN hb)
    | (go_at_call 11; (with_reducible refine (least_line HA.out (Kd.C_below HP.out HB.out) (Kd.C_below HQ.out HB.out)).mono ?_); rintro e w2 ⟨rfl, hb⟩; have HN := Lib.hid (below_step HB.out hb); clear HB; have HB := HN; clear HN hb)
    | (go_at_call 14; (with_reducible refine (bad_line HA.out (Kd.C_below HP.out HB.out)).mono ?_); rintro e w2 ⟨rfl, hb⟩; have HN := Lib.hid (below_step HB.out hb); clear HB; have HB := HN; clear HN hb))
  go_ret
  exact ⟨rfl, below_step HB0.out HB.out⟩
end Go.Proofs.Ytcgdloldkcmhnaa.H
end
section
namespace Go.Proofs.Ytcgdloldkcmhnaa.H
open Go Go.RowKit Go.Proofs.Ytcgdloldkcmhnaa.PrintC Go.Proofs.YtcgdloldkcmhnaaW.PrintWords Go.Proofs.YtcgdloldkcmhnaaW.PrintLast Go.Proofs.YtcgdloldkcmhnaaW.PrintMore Go.Proofs.Ytcgdloldkcmhnaa.Flow
set_option linter.unusedVariables false
set_option linter.unusedSimpArgs false
def stepV (x : Stp) : Value := .agg #[.int .i64 x.f0, .bool x.f1]
set_option maxHeartbeats 4000000 in
set_option maxRecDepth 100000 in
theorem rfrom_walk (n : Int) (b : Bool) (A : Option Addr) (c : Nat) (l : List Arc) (x : Stp) (w : World) (hr : Kd.C k79 w A l.length l) (h0 : 0 ≤ x.f0) (h1 : x.f0 < (l.length : Int)) :
    Calls Try.prog 95 #[.agg #[.int .i64 n, .bool b, .slice A l.length c], stepV x] w fun e w' => e = .returned (.int .i64 (src l x)) ∧ Below w.heap.size w w' := by
  have hu := Try.underlying32
  have hu2 := Try.underlying158
  obtain ⟨a, d⟩ := x
  have h0 : 0 ≤ a := h0
  have h1 : a < (l.length : Int) := h1
  unfold stepV
  cases d with
  | false =>
    obtain ⟨w1, hw1⟩ : ∃ w1, w1 = (w.alloc (.cells #[.int .i64 n, .bool b, .slice A l.length c] 32)).alloc (.cells #[.int .i64 a, .bool false] 158) := ⟨_, rfl⟩
    have HB : Hid (Below w.heap.size w w1) := Lib.hid (by rw [hw1]; exact below_alloc (below_alloc (Below.refl _ _) _) _)
    obtain ⟨ad, ea, y0, y1, y2, y3⟩ := at_T79 (Kd.C_below hr HB.out) a h0 h1
    have z2 : w1.cell? ⟨w.heap.size, 2, none⟩ = some (.slice A l.length c) := by rw [hw1]; exact (blk_cell (blk_alloc (heap_alloc_new _ _) _) 2).trans rfl
    have x0 : w1.cell? ⟨w.heap.size + 1, 0, none⟩ = some (.int .i64 a) := by rw [hw1]; exact (blk_cell (alloc_at (by simp)) 0).trans rfl
    have x1 : w1.cell? ⟨w.heap.size + 1, 1, none⟩ = some (.bool false) := by rw [hw1]; exact (blk_cell (alloc_at (by simp)) 1).trans rfl
    subst ea
    subst hw1
    clear hr
    go_enter Try.func95, Try.ntmps95
    go_wp2
    go_ret
    exact ⟨rfl, HB.out⟩
  | true =>
    obtain ⟨w1, hw1⟩ : ∃ w1, w1 = (w.alloc (.cells #[.int .i64 n, .bool b, .slice A l.length c] 32)).alloc (.cells #[.int .i64 a, .bool true] 158) := ⟨_, rfl⟩
    have HB : Hid (Below w.heap.size w w1) := Lib.hid (by rw [hw1]; exact below_alloc (below_alloc (Below.refl _ _) _) _)
    obtain ⟨ad, ea, y0, y1, y2, y3⟩ := at_T79 (Kd.C_below hr HB.out) a h0 h1
    have z2 : w1.cell? ⟨w.heap.size, 2, none⟩ = some (.slice A l.length c) := by rw [hw1]; exact (blk_cell (blk_alloc (heap_alloc_new _ _) _) 2).trans rfl
    have x0 : w1.cell? ⟨w.heap.size + 1, 0, none⟩ = some (.int .i64 a) := by rw [hw1]; exact (blk_cell (alloc_at (by simp)) 0).trans rfl
    have x1 : w1.cell? ⟨w.heap.size + 1, 1, none⟩ = some (.bool true) := by rw [hw1]; exact (blk_cell (alloc_at (by simp)) 1).trans rfl
    subst ea
    subst hw1
    clear hr
    go_enter Try.func95, Try.ntmps95
    go_wp2
    go_ret
    exact ⟨rfl, HB.out⟩
set_option maxHeartbeats 4000000 in
set_option maxRecDepth 100000 in
theorem rto_walk (n : Int) (b : Bool) (A : Option Addr) (c : Nat) (l : List Arc) (x : Stp) (w : World) (hr : Kd.C k79 w A l.length l) (h0 : 0 ≤ x.f0) (h1 : x.f0 < (l.length : Int)) :
    Calls Try.prog 105 #[.agg #[.int .i64 n, .bool b, .slice A l.length c], stepV x] w fun e w' => e = .returned (.int .i64 (tgt l x)) ∧ Below w.heap.size w w' := by
  have hu := Try.underlying32
  have hu2 := Try.underlying158
  obtain ⟨a, d⟩ := x
  have h0 : 0 ≤ a := h0
  have h1 : a < (l.length : Int) := h1
  unfold stepV
  cases d with
  | false =>
    obtain ⟨w1, hw1⟩ : ∃ w1, w1 = (w.alloc (.cells #[.int .i64 n, .bool b, .slice A l.length c] 32)).alloc (.cells #[.int .i64 a, .bool false] 158) := ⟨_, rfl⟩
    have HB : Hid (Below w.heap.size w w1) := Lib.hid (by rw [hw1]; exact below_alloc (below_alloc (Below.refl _ _) _) _)
    obtain ⟨ad, ea, y0, y1, y2, y3⟩ := at_T79 (Kd.C_below hr HB.out) a h0 h1
    have z2 : w1.cell? ⟨w.heap.size, 2, none⟩ = some (.slice A l.length c) := by rw [hw1]; exact (blk_cell (blk_alloc (heap_alloc_new _ _) _) 2).trans rfl
    have x0 : w1.cell? ⟨w.heap.size + 1, 0, none⟩ = some (.int .i64 a) := by rw [hw1]; exact (blk_cell (alloc_at (by simp)) 0).trans rfl
    have x1 : w1.cell? ⟨w.heap.size + 1, 1, none⟩ = some (.bool false) := by rw [hw1]; exact (blk_cell (alloc_at (by simp)) 1).trans rfl
    subst ea
    subst hw1
    clear hr
    go_enter Try.func105, Try.ntmps105
    go_wp2
    go_ret
    exact ⟨rfl, HB.out⟩
  | true =>
    obtain ⟨w1, hw1⟩ : ∃ w1, w1 = (w.alloc (.cells #[.int .i64 n, .bool b, .slice A l.length c] 32)).alloc (.cells #[.int .i64 a, .bool true] 158) := ⟨_, rfl⟩
    have HB : Hid (Below w.heap.size w w1) := Lib.hid (by rw [hw1]; exact below_alloc (below_alloc (Below.refl _ _) _) _)
    obtain ⟨ad, ea, y0, y1, y2, y3⟩ := at_T79 (Kd.C_below hr HB.out) a h0 h1
    have z2 : w1.cell? ⟨w.heap.size, 2, none⟩ = some (.slice A l.length c) := by rw [hw1]; exact (blk_cell (blk_alloc (heap_alloc_new _ _) _) 2).trans rfl
    have x0 : w1.cell? ⟨w.heap.size + 1, 0, none⟩ = some (.int .i64 a) := by rw [hw1]; exact (blk_cell (alloc_at (by simp)) 0).trans rfl
    have x1 : w1.cell? ⟨w.heap.size + 1, 1, none⟩ = some (.bool true) := by rw [hw1]; exact (blk_cell (alloc_at (by simp)) 1).trans rfl
    subst ea
    subst hw1
    clear hr
    go_enter Try.func105, Try.ntmps105
    go_wp2
    go_ret
    exact ⟨rfl, HB.out⟩
set_option maxHeartbeats 4000000 in
set_option maxRecDepth 100000 in
theorem rleft_walk (n : Int) (b : Bool) (A : Option Addr) (c : Nat) (l : List Arc) (Af : Option Addr) (cf : Nat) (f : List Int) (x : Stp) (w : World) (hr : Kd.C k79 w A l.length l) (hf : Kd.C (Kd.int .i64) w Af f.length f) (h0 : 0 ≤ x.f0) (h1 : x.f0 < (l.length : Int)) (h2 : x.f0 < (f.length : Int))
    (hb : 0 ≤ rmv l f x ∧ rmv l f x ≤ 1099511627776) :
    Calls Try.prog 96 #[.agg #[.int .i64 n, .bool b, .slice A l.length c], .slice Af f.length cf, stepV x] w fun e w' => e = .returned (.int .i64 (rmv l f x)) ∧ Below w.heap.size w w' := by
  have hu := Try.underlying32
  have hu2 := Try.underlying158
  obtain ⟨a, d⟩ := x
  have h0 : 0 ≤ a := h0
  have h1 : a < (l.length : Int) := h1
  have h2 : a < (f.length : Int) := h2
  unfold stepV
  cases d with
  | false =>
    obtain ⟨w1, hw1⟩ : ∃ w1, w1 = (w.alloc (.cells #[.int .i64 n, .bool b, .slice A l.length c] 32)).alloc (.cells #[.int .i64 a, .bool false] 158) := ⟨_, rfl⟩
    have HB : Hid (Below w.heap.size w w1) := Lib.hid (by rw [hw1]; exact below_alloc (below_alloc (Below.refl _ _) _) _)
    obtain ⟨ad, ea, y0, y1, y2, y3⟩ := at_T79 (Kd.C_below hr HB.out) a h0 h1
    obtain ⟨ae, eb, z0⟩ := Kd.at_int (Kd.C_below hf HB.out) a h0 h2
    have z2 : w1.cell? ⟨w.heap.size, 2, none⟩ = some (.slice A l.length c) := by rw [hw1]; exact (blk_cell (blk_alloc (heap_alloc_new _ _) _) 2).trans rfl
    have x0 : w1.cell? ⟨w.heap.size + 1, 0, none⟩ = some (.int .i64 a) := by rw [hw1]; exact (blk_cell (alloc_at (by simp)) 0).trans rfl
    have x1 : w1.cell? ⟨w.heap.size + 1, 1, none⟩ = some (.bool false) := by rw [hw1]; exact (blk_cell (alloc_at (by simp)) 1).trans rfl
    subst ea
    subst eb
    subst hw1
    clear hr hf
    go_enter Try.func96, Try.ntmps96
    have hb : 0 ≤ (rd_T79 l a).f2 - rd f a ∧ (rd_T79 l a).f2 - rd f a ≤ 1099511627776 := hb
    have eb : IntKind.i64.wrap ((rd_T79 l a).f2 - rd f a) = (rd_T79 l a).f2 - rd f a := IntWalk.i64_in _ (by omega)
    go_wp2
    refine stepS (S := fun w' => w'.cell? ⟨w.heap.size, 2, none⟩ = some (.slice (some ad) l.length c) ∧ w'.cell? ⟨w.heap.size + 1, 0, none⟩ = some (.int .i64 a) ∧ w'.cell? ⟨(ad.add (a.toNat * 4)).block, (ad.add (a.toNat * 4)).off + 2, none⟩ = some (.int .i64 (rd_T79 l a).f2) ∧ w'.cell? (ae.add a.toNat) = some (.int .i64 (rd f a))) (ds := []) 14 (by kernel_rfl) rfl ⟨z2, x0, y2, z0⟩ (fun hHeld => ?_)
    repeat (first
      | (refine stepP 14 (N := some _) (v := ?_) (a' := ?_) rfl rfl (by kernel_rfl) (fun _ _ _ h => h) (Or.inl ⟨by rfl, ?_⟩) ?_ ?_
         rotate_left
         · (intro w'; go_simp; with_reducible rfl)
         rotate_left
         · (simp only [Act.put, List.setIfInBounds_toArray, List.set_cons_zero, List.set_cons_succ]; rfl))
      | (refine stepT 14 (N := some _) (v := ?_) (a' := ?_) rfl rfl (by kernel_rfl) (fun _ _ _ h => h) (Or.inl ⟨by rfl, ?_⟩) hHeld ?_ ?_
         rotate_left
         · (rintro w' ⟨s0, s1, s2, s3⟩; go_simp; with_reducible rfl)
         rotate_left
         · (simp only [Act.put, List.setIfInBounds_toArray, List.set_cons_zero, List.set_cons_succ]; rfl)))
    refine done_ (by kernel_rfl) ?_
    go_wp2
    go_ret
    exact ⟨rfl, below_drew1 HB.out⟩
  | true =>
    obtain ⟨w1, hw1⟩ : ∃ w1, w1 = (w.alloc (.cells #[.int .i64 n, .bool b, .slice A l.length c] 32)).alloc (.cells #[.int .i64 a, .bool true] 158) := ⟨_, rfl⟩
    have HB : Hid (Below w.heap.size w w1) := Lib.hid (by rw [hw1]; exact below_alloc (below_alloc (Below.refl _ _) _) _)
    obtain ⟨ad, ea, y0, y1, y2, y3⟩ := at_T79 (Kd.C_below hr HB.out) a h0 h1
    obtain ⟨ae, eb, z0⟩ := Kd.at_int (Kd.C_below hf HB.out) a h0 h2
    have z2 : w1.cell? ⟨w.heap.size, 2, none⟩ = some (.slice A l.length c) := by rw [hw1]; exact (blk_cell (blk_alloc (heap_alloc_new _ _) _) 2).trans rfl
    have x0 : w1.cell? ⟨w.heap.size + 1, 0, none⟩ = some (.int .i64 a) := by rw [hw1]; exact (blk_cell (alloc_at (by simp)) 0).trans rfl
    have x1 : w1.cell? ⟨w.heap.size + 1, 1, none⟩ = some (.bool true) := by rw [hw1]; exact (blk_cell (alloc_at (by simp)) 1).trans rfl
    subst ea
    subst eb
    subst hw1
    clear hr hf
    go_enter Try.func96, Try.ntmps96
    go_wp2
    go_ret
    exact ⟨rfl, HB.out⟩
def HasP (N : List Int) (v r : Int) : Prop := (r = -1 ∧ ∀ j : Nat, j < N.length → rd N (j : Int) ≠ v) ∨ ∃ j : Nat, r = (j : Int) ∧ j < N.length ∧ rd N (j : Int) = v
def HasAt (N : List Int) (v : Int) (w : World) (e : Ending) (w' : World) : Prop := ∃ r : Int, e = .returned (.int .i64 r) ∧ HasP N v r ∧ Below w.heap.size w w'
set_option maxHeartbeats 4000000 in
set_option maxRecDepth 100000 in
theorem rhas_walk (An : Option Addr) (cn : Nat) (N : List Int) (vb : Value) (Ab : Option Addr) (nb cb : Nat) (hvb : vb = .slice Ab nb cb) (v : Int) (w : World) (hr : Kd.C (Kd.int .i64) w An N.length N) (hl : N.length ≤ 1000000) :
    Calls Try.prog 94 #[.agg #[.slice An N.length cn, vb], .int .i64 v] w (HasAt N v w) := by
  have hu := Try.underlying154
  subst hvb
  have HR := Lib.hid hr
  clear hr
  go_enter Try.func94, Try.ntmps94
  go_wp2
  have HX := Lib.hid (heap_alloc_new w (.cells #[.slice An N.length cn, .slice Ab nb cb] 154))
  have HB : Hid (Below w.heap.size w (w.alloc (.cells #[.slice An N.length cn, .slice Ab nb cb] 154))) := Lib.hid (below_alloc (Below.refl _ _) _)
  generalize w.alloc (.cells #[.slice An N.length cn, .slice Ab nb cb] 154) = w1 at HX HB ⊢
  go_loopg [5] N.length (fun k iv W => ∃ i : Nat, i ≤ N.length ∧ iv = .int .i64 i ∧ k = N.length - i ∧ Hid (W.heap[w.heap.size]? = some (.cells #[.slice An N.length cn, .slice Ab nb cb] 154 (0, 0)) ∧ Below w.heap.size w W ∧ ∀ j : Nat, j < i → rd N (j : Int) ≠ v))
  case atStart => exact ⟨0, Nat.zero_le _, rfl, rfl, Lib.hid ⟨HX.out, HB.out, fun j hj => absurd hj (Nat.not_lt_zero _)⟩⟩
  case round =>
    obtain ⟨i, hi, rfl, rfl, HL⟩ := hrel
    clear HX HB
    have x0 : wr.cell? ⟨w.heap.size, 0, none⟩ = some (.slice An N.length cn) := (blk_cell HL.out.1 0).trans rfl
    by_cases c1 : i < N.length
    · have c1' : (i : Int) < (N.length : Int) := by omega
      have i0 : (0 : Int) ≤ (i : Int) := by omega
      obtain ⟨ad, ea, y0⟩ := Kd.at_int (Kd.C_below HR.out HL.out.2.1) (i : Int) i0 c1'
      subst ea
      rw [Int.toNat_natCast] at y0
      by_cases c2 : rd N (i : Int) = v
      · have HE := Lib.hid c2
        have t1 : (rd N (i : Int) == v) = true := beq_iff_eq.2 c2
        clear c2
        go_wp2
        go_ret
        exact ⟨i, rfl, .inr ⟨i, rfl, c1, HE.out⟩, HL.out.2.1⟩
      · have HE := Lib.hid c2
        have t1 : (rd N (i : Int) == v) = false := beq_eq_false_iff_ne.2 c2
        clear c2
        go_wp2
        go_roundg (N.length - (i + 1))
        case measure => omega
        case rel => exact ⟨i + 1, by omega, by go_num, rfl, Lib.hid ⟨HL.out.1, HL.out.2.1, fun j hj => by
          rcases Nat.lt_or_eq_of_le (Nat.le_of_lt_succ hj) with h | rfl
          · exact HL.out.2.2 j h
          · exact HE.out⟩⟩
    · have c1' : ¬ (i : Int) < (N.length : Int) := by omega
      have e : i = N.length := by omega
      have HE := Lib.hid e
      clear e
      go_wp2
      go_ret
      exact ⟨-1, rfl, .inl ⟨rfl, fun j hj => HL.out.2.2 j (by have := HE.out; omega)⟩, HL.out.2.1⟩
end Go.Proofs.Ytcgdloldkcmhnaa.H
end
section
namespace Go.Proofs.Ytcgdloldkcmhnaa.H
open Go Go.RowKit Go.Proofs.Ytcgdloldkcmhnaa.PrintC Go.Proofs.YtcgdloldkcmhnaaW.PrintWords Go.Proofs.YtcgdloldkcmhnaaW.PrintLast Go.Proofs.YtcgdloldkcmhnaaW.PrintMore Go.Proofs.Ytcgdloldkcmhnaa.Flow
set_option linter.unusedVariables false
def stAt (B : List Stp) (j : Nat) : Stp := B.getD j ⟨0, false⟩
structure Sg (l : List Arc) (L : List Stp) (M : Nat) (s : Int) (N : List Int) (B : List Stp) : Prop where
  len : B.length = N.length
  pos : 0 < N.length
  hd : rd N 0 = s
  nd : N.Nodup
  rng : ∀ v, v ∈ N → 0 ≤ v ∧ v < M
  tree : ∃ d : Int → Int, d s = 0 ∧ ∀ j : Nat, 0 < j → j < N.length → stAt B j ∈ L ∧ tgt l (stAt B j) = rd N (j : Int) ∧ ∃ i : Nat, i < j ∧ src l (stAt B j) = rd N (i : Int) ∧ d (rd N (j : Int)) = d (rd N (i : Int)) + 1
theorem rd_get {N : List Int} {j : Nat} (h : j < N.length) : rd N (j : Int) = N[j] := by
  unfold rd
  rw [Int.toNat_natCast, List.getD_eq_getElem?_getD, List.getElem?_eq_getElem h]
  rfl
theorem rd_mem {N : List Int} {j : Nat} (h : j < N.length) : rd N (j : Int) ∈ N := by rw [rd_get h]; exact List.getElem_mem _
theorem mem_rd {N : List Int} {v : Int} (h : v ∈ N) : ∃ j : Nat, j < N.length ∧ rd N (j : Int) = v := by
  obtain ⟨j, hj, e⟩ := List.mem_iff_getElem.1 h
  exact ⟨j, hj, by rw [rd_get hj, e]⟩
theorem rd_app {N M : List Int} {j : Nat} (h : j < N.length) : rd (N ++ M) (j : Int) = rd N (j : Int) := by
  rw [rd_get h, rd_get (by rw [List.length_append]; omega), List.getElem_append_left h]
theorem rd_last (N : List Int) (v : Int) : rd (N ++ [v]) (N.length : Int) = v := by
  rw [rd_get (by rw [List.length_append]; exact Nat.lt_succ_self _), List.getElem_append_right (Nat.le_refl _)]
  simp
theorem stAt_app {B C : List Stp} {j : Nat} (h : j < B.length) : stAt (B ++ C) j = stAt B j := by
  unfold stAt
  rw [List.getD_eq_getElem?_getD, List.getD_eq_getElem?_getD, List.getElem?_append_left h]
theorem stAt_last (B : List Stp) (x : Stp) : stAt (B ++ [x]) B.length = x := by
  unfold stAt
  simp
theorem nodup_int {M : Nat} {N : List Int} (h : N.Nodup) (hr : ∀ v, v ∈ N → 0 ≤ v ∧ v < M) : N.length ≤ M := by
  have h1 : (N.map Int.toNat).Nodup := by
    refine List.pairwise_map.2 (List.Pairwise.imp_of_mem (R := fun a b => a ≠ b) (fun {a b} ha hb hab e => hab ?_) h)
    have := hr a ha
    have := hr b hb
    omega
  have h2 := Flow.nodup_le h1 (n := M) (fun a ha => by
    obtain ⟨v, hv, rfl⟩ := List.mem_map.1 ha
    have := hr v hv
    omega)
  rwa [List.length_map] at h2
section
variable {l : List Arc} {L : List Stp} {M : Nat} {s : Int} {N : List Int} {B : List Stp}
theorem Sg.le (h : Sg l L M s N B) : N.length ≤ M := nodup_int h.nd h.rng
theorem Sg.start (h0 : 0 ≤ s) (h1 : s < M) (x : Stp) : Sg l L M s [s] [x] where
  len := rfl
  pos := Nat.one_pos
  hd := rfl
  nd := by simp
  rng := fun v hv => by
    obtain rfl := List.mem_singleton.1 hv
    exact ⟨h0, h1⟩
  tree := ⟨fun _ => 0, rfl, fun j h2 h3 => by
    have : j < 1 := h3
    omega⟩
theorem Sg.snoc (h : Sg l L M s N B) {x : Stp} (hx : x ∈ L) {i : Nat} (hi : i < N.length) (hs : src l x = rd N (i : Int)) (ht : ∀ j : Nat, j < N.length → rd N (j : Int) ≠ tgt l x) (hr : 0 ≤ tgt l x ∧ tgt l x < M) : Sg l L M s (N ++ [tgt l x]) (B ++ [x]) where
  len := by rw [List.length_append, List.length_append, h.len]; rfl
  pos := by rw [List.length_append]; exact Nat.lt_of_lt_of_le h.pos (Nat.le_add_right _ _)
  hd := (rd_app (j := 0) h.pos).trans h.hd
  nd := by
    refine List.nodup_append.2 ⟨h.nd, by simp, fun a ha b hb e => ?_⟩
    obtain ⟨j, hj, e2⟩ := mem_rd ha
    obtain rfl := List.mem_singleton.1 hb
    exact ht j hj (e2.trans e)
  rng := fun v hv => by
    rcases List.mem_append.1 hv with hv | hv
    · exact h.rng v hv
    · obtain rfl := List.mem_singleton.1 hv
      exact hr
  tree := by
    obtain ⟨d, d0, hd⟩ := h.tree
    have hst : s ≠ tgt l x := fun e => ht 0 h.pos (h.hd.trans e)
    obtain ⟨D, hD⟩ : ∃ D : Int → Int, ∀ v, D v = if v = tgt l x then d (rd N (i : Int)) + 1 else d v := ⟨_, fun _ => rfl⟩
    refine ⟨D, by rw [hD, if_neg hst]; exact d0, fun j h0 h1 => ?_⟩
    rw [List.length_append] at h1
    by_cases hj : j < N.length
    · obtain ⟨h2, h3, i', h4, h5, h6⟩ := hd j h0 hj
      rw [stAt_app (by rw [h.len]; exact hj), rd_app hj]
      refine ⟨h2, h3, i', h4, by rw [rd_app (by omega)]; exact h5, ?_⟩
      rw [rd_app (by omega), hD, hD, if_neg (ht j hj), if_neg (ht i' (by omega))]
      exact h6
    · have e : j = N.length := by
        have : j < N.length + 1 := h1
        omega
      subst e
      rw [← h.len, stAt_last, h.len, rd_last]
      exact ⟨hx, rfl, i, hi, by rw [rd_app hi]; exact hs, by rw [rd_app hi, hD, hD, if_pos rfl, if_neg (ht i hi)]⟩
end
def Cl (l : List Arc) (L : List Stp) (N : List Int) (i k : Nat) : Prop := (∀ a : Nat, a < i → ∀ x, x ∈ L → src l x = rd N (a : Int) → tgt l x ∈ N) ∧ ∀ b : Nat, b < k → src l (stAt L b) = rd N (i : Int) → tgt l (stAt L b) ∈ N
section
variable {l : List Arc} {L : List Stp} {N : List Int} {i k : Nat}
theorem Cl.zero : Cl l L N 0 0 := ⟨fun a h => absurd h (Nat.not_lt_zero _), fun b h => absurd h (Nat.not_lt_zero _)⟩
theorem Cl.next (h : Cl l L N i L.length) : Cl l L N (i + 1) 0 := ⟨fun a ha x hx e => by
  rcases Nat.lt_or_eq_of_le (Nat.le_of_lt_succ ha) with h1 | rfl
  · exact h.1 a h1 x hx e
  · obtain ⟨b, hb, e2⟩ := List.mem_iff_getElem.1 hx
    have e3 : stAt L b = x := by
      unfold stAt
      rw [List.getD_eq_getElem?_getD, List.getElem?_eq_getElem hb, e2]
      rfl
    have := h.2 b hb
    rw [e3] at this
    exact this e, fun b h => absurd h (Nat.not_lt_zero _)⟩
theorem Cl.skip (h : Cl l L N i k) (hc : src l (stAt L k) = rd N (i : Int) → tgt l (stAt L k) ∈ N) : Cl l L N i (k + 1) := ⟨h.1, fun b hb e => by
  rcases Nat.lt_or_eq_of_le (Nat.le_of_lt_succ hb) with h1 | rfl
  · exact h.2 b h1 e
  · exact hc e⟩
theorem Cl.grow (h : Cl l L N i k) (hi : i < N.length) (t : Int) : Cl l L (N ++ [t]) i k := ⟨fun a ha x hx e => by
  rw [rd_app (by omega)] at e
  exact List.mem_append_left _ (h.1 a ha x hx e), fun b hb e => by
  rw [rd_app hi] at e
  exact List.mem_append_left _ (h.2 b hb e)⟩
end
structure SoI (w : World) (gx : Nat) (cn : Array Value) (N : List Int) (B : List Stp) (v1 v2 : Value) (W : World) : Prop where
  bx : W.heap[gx]? = some (.cells #[v1, v2] 154 (0, 0))
  r1 : Kd.R (Kd.int .i64) 3 W w.heap.size (fun _ => True) v1 N
  r2 : Kd.R kStep 158 W w.heap.size (fun _ => True) v2 B
  bn : W.heap[w.heap.size]? = some (.cells cn 32 (0, 0))
  br : W.heap[w.heap.size + 1]? = some (.cells #[.slice none 0 0, .slice none 0 0] 154 (0, 0))
  ge : w.heap.size + 1 < gx
  low : Below w.heap.size w W
section
variable {w W W1 : World} {gx : Nat} {cn : Array Value} {N : List Int} {B : List Stp} {v1 v2 : Value}
theorem SoI.below (h : SoI w gx cn N B v1 v2 W) (hb : Below W.heap.size W W1) : SoI w gx cn N B v1 v2 W1 := ⟨blk_below h.bx hb, Kd.R_below h.r1 hb, Kd.R_below h.r2 hb, blk_below h.bn hb, blk_below h.br hb, h.ge, below_step h.low hb⟩
theorem SoI.drew (h : SoI w gx cn N B v1 v2 W) : SoI w gx cn N B v1 v2 W.drew := ⟨blk_drew h.bx, Kd.R_drew h.r1, Kd.R_drew h.r2, blk_drew h.bn, blk_drew h.br, h.ge, below_drew1 h.low⟩
theorem SoI.add1 (h : SoI w gx cn N B v1 v2 W) {N' : List Int} {v : Value} (ho : Kd.R (Kd.int .i64) 3 W1 w.heap.size (fun _ => True) v N') (hb : Below w.heap.size w W1) (hg : W.grownBy W1 v1.ownBlock) : SoI w gx cn N' B v v2 (W1.setCell ⟨gx, 0, none⟩ v) := by
  have hx := blk_grown h.bx hg (Kd.R_ne h.r1 h.bx (by decide))
  have hn := blk_grown h.bn hg (Kd.R_ne h.r1 h.bn (by decide))
  have hr := blk_grown h.br hg (Kd.R_ne h.r1 h.br (by decide))
  have h2 := Kd.R_over' h.r2 (Kd.R_typed h.r1) (by decide) hg
  have hge := h.ge
  exact ⟨blk_put hx 0 v rfl, Kd.R_mono (Kd.R_far (p := ⟨gx, 0, none⟩) (Kd.R_types ho hx (by decide)) (fun _ hk => hk.2) v) (fun _ hk => trivial), Kd.R_mono (Kd.R_far (p := ⟨gx, 0, none⟩) (Kd.R_types h2 hx (by decide)) (fun _ hk => hk.2) v) (fun _ hk => trivial),
    blk_far hn (by show w.heap.size ≠ gx; omega) v, blk_far hr (by show w.heap.size + 1 ≠ gx; omega) v, hge, below_set hb (by omega)⟩
theorem SoI.add2 (h : SoI w gx cn N B v1 v2 W) {B' : List Stp} {v : Value} (ho : Kd.R kStep 158 W1 w.heap.size (fun _ => True) v B') (hb : Below w.heap.size w W1) (hg : W.grownBy W1 v2.ownBlock) : SoI w gx cn N B' v1 v (W1.setCell ⟨gx, 1, none⟩ v) := by
  have hx := blk_grown h.bx hg (Kd.R_ne h.r2 h.bx (by decide))
  have hn := blk_grown h.bn hg (Kd.R_ne h.r2 h.bn (by decide))
  have hr := blk_grown h.br hg (Kd.R_ne h.r2 h.br (by decide))
  have h2 := Kd.R_over' h.r1 (Kd.R_typed h.r2) (by decide) hg
  have hge := h.ge
  exact ⟨blk_put hx 1 v rfl, Kd.R_mono (Kd.R_far (p := ⟨gx, 1, none⟩) (Kd.R_types h2 hx (by decide)) (fun _ hk => hk.2) v) (fun _ hk => trivial), Kd.R_mono (Kd.R_far (p := ⟨gx, 1, none⟩) (Kd.R_types ho hx (by decide)) (fun _ hk => hk.2) v) (fun _ hk => trivial),
    blk_far hn (by show w.heap.size ≠ gx; omega) v, blk_far hr (by show w.heap.size + 1 ≠ gx; omega) v, hge, below_set hb (by omega)⟩
end
end Go.Proofs.Ytcgdloldkcmhnaa.H
end
section
namespace Go.Proofs.Ytcgdloldkcmhnaa.H
open Go Go.RowKit Go.Proofs.YtcgdloldkcmhnaaW.PrintWords Go.Proofs.YtcgdloldkcmhnaaW.PrintLast Go.Proofs.YtcgdloldkcmhnaaW.PrintMore
section
variable {P : Program} {md : Region.Mode} {ops : Array Oper} {Q : Exit → Act → World → Prop} {S : World → Prop} {ds : List Nat}
theorem stepPi (i : Nat) {N : Option Tmp} {oi : Oper} {v : Value} {fuel : Nat} {l : Array Bool} {a : Act} {w : World} (hi : ops[i]? = some oi) (hN : oi.dst = N) (hc : anyB md ops l (l.setIfInBounds i true) i = true)
    (hQ : ∀ c a w, Q (.panic c) (a.put oi.dst v) w → Q (.panic c) a w) (hy : Yields P ops oi v a) {a' : Act} (ha : a.put N v = a')
    (h : wpAnyLast P md ops Q S ds fuel (l.setIfInBounds i true) a' w) : wpAnyLast P md ops Q S ds (fuel + 1) l a w := pure_ _ hi hN hc hQ hy ha h
theorem stepTi (i : Nat) {N : Option Tmp} {oi : Oper} {v : Value} {fuel : Nat} {l : Array Bool} {a : Act} {w : World} (hi : ops[i]? = some oi) (hN : oi.dst = N) (hc : takeB md ops ds l (l.setIfInBounds i true) i = true)
    (hQ : ∀ c a w, Q (.panic c) (a.put oi.dst v) w → Q (.panic c) a w) (hy : YieldsIf P ops S oi v a) (hS : S w) {a' : Act} (ha : a.put N v = a')
    (h : wpAnyLast P md ops Q S ds fuel (l.setIfInBounds i true) a' w) : wpAnyLast P md ops Q S ds (fuel + 1) l a w := take_ _ hi hN hc hQ hy hS ha h
theorem stepEi (i : Nat) {N : Option Tmp} {oi : Oper} {fuel : Nat} {l : Array Bool} {a : Act} {w : World} (hi : ops[i]? = some oi) (hN : oi.dst = N) (hc : readyB md ops l (l.setIfInBounds i true) i = true) (hd : i ∉ ds)
    (h : ∀ K : Act → World → Prop, Shut (∀ a' w', S w' → (S w' → wpAnyLast P md ops Q S ds fuel (l.setIfInBounds i true) a' w') → K a' w') → if Region.wanted oi (yielded ops a.tmps) = true then Oper.wp P oi a w K Q else K (a.put N undef) w) :
    wpAnyLast P md ops Q S ds (fuel + 1) l a w := one_ _ hi hN hc hd h
theorem stepLi (i : Nat) {N : Option Tmp} {oi : Oper} {fuel : Nat} {l : Array Bool} {a : Act} {w : World} (hi : ops[i]? = some oi) (hN : oi.dst = N) (hc : readyB md ops l (l.setIfInBounds i true) i = true) (hd : i ∈ ds)
    (h : ∀ K : Act → World → Prop, Shut (∀ a' w', wpAnyLast P md ops Q S ds fuel (l.setIfInBounds i true) a' w' → K a' w') → if Region.wanted oi (yielded ops a.tmps) = true then Oper.wp P oi a w K Q else K (a.put N undef) w) :
    wpAnyLast P md ops Q S ds (fuel + 1) l a w := last_ _ hi hN hc hd h
end
end Go.Proofs.Ytcgdloldkcmhnaa.H
end
section
namespace Go.Proofs.Ytcgdloldkcmhnaa.H
open Go Go.RowKit Go.Proofs.Ytcgdloldkcmhnaa.PrintC Go.Proofs.YtcgdloldkcmhnaaW.PrintWords Go.Proofs.YtcgdloldkcmhnaaW.PrintLast Go.Proofs.YtcgdloldkcmhnaaW.PrintMore Go.Proofs.Ytcgdloldkcmhnaa.Flow
set_option linter.unusedVariables false
set_option linter.unusedSimpArgs false
def StP (l : List Arc) (f : List Int) (i : Nat) (L : List Stp) : Prop := (∀ x : Stp, x ∈ L ↔ (0 ≤ x.f0 ∧ x.f0 < (i : Int)) ∧ 0 < rmv l f x) ∧ L.length ≤ 2 * i
def StepsAt (l : List Arc) (f : List Int) (w : World) (e : Ending) (w' : World) : Prop := ∃ (L : List Stp) (A1 : Option Addr) (c1 : Nat), e = .returned (.slice A1 L.length c1) ∧ Kd.R kStep 158 w' w.heap.size (fun _ => True) (.slice A1 L.length c1) L ∧ StP l f l.length L ∧ Below w.heap.size w w'
theorem StP.zero {l : List Arc} {f : List Int} : StP l f 0 [] := ⟨fun x => ⟨fun h => (nomatch h), fun h => absurd h.1 (fun h2 => by have := h2.1; have := h2.2; omega)⟩, Nat.zero_le _⟩
theorem StP.next {l : List Arc} {f : List Int} {i : Nat} {L : List Stp} (h : StP l f i L) {a b : List Stp} (ha : a = if 0 < rmv l f ⟨i, false⟩ then [⟨i, false⟩] else []) (hb : b = if 0 < rmv l f ⟨i, true⟩ then [⟨i, true⟩] else []) : StP l f (i + 1) (L ++ a ++ b) := by
  refine ⟨fun x => ?_, ?_⟩
  · have hma : x ∈ a ↔ x = ⟨i, false⟩ ∧ 0 < rmv l f ⟨i, false⟩ := by
      rw [ha]
      split <;> simp_all
    have hmb : x ∈ b ↔ x = ⟨i, true⟩ ∧ 0 < rmv l f ⟨i, true⟩ := by
      rw [hb]
      split <;> simp_all
    rw [List.mem_append, List.mem_append, h.1 x, hma, hmb]
    obtain ⟨y, d⟩ := x
    constructor
    · rintro ((⟨h1, h2⟩ | ⟨h1, h2⟩) | ⟨h1, h2⟩)
      · exact ⟨⟨h1.1, by have := h1.2; show y < ((i + 1 : Nat) : Int); have : y < (i : Int) := this; omega⟩, h2⟩
      · injection h1 with e1 e2
        subst e1 e2
        exact ⟨⟨by show (0 : Int) ≤ (i : Int); omega, by show (i : Int) < ((i + 1 : Nat) : Int); omega⟩, h2⟩
      · injection h1 with e1 e2
        subst e1 e2
        exact ⟨⟨by show (0 : Int) ≤ (i : Int); omega, by show (i : Int) < ((i + 1 : Nat) : Int); omega⟩, h2⟩
    · rintro ⟨⟨h1, h2⟩, h3⟩
      have h1 : 0 ≤ y := h1
      have h2 : y < ((i + 1 : Nat) : Int) := h2
      by_cases e : y = (i : Int)
      · subst e
        cases d
        · exact .inl (.inr ⟨rfl, h3⟩)
        · exact .inr ⟨rfl, h3⟩
      · exact .inl (.inl ⟨⟨h1, by show y < (i : Int); omega⟩, h3⟩)
  · have la : a.length ≤ 1 := by rw [ha]; split <;> simp
    have lb : b.length ≤ 1 := by rw [hb]; split <;> simp
    rw [List.length_append, List.length_append]
    have := h.2
    omega
set_option maxHeartbeats 4000000 in
set_option maxRecDepth 100000 in
theorem rsteps_walk (M : Nat) (n : Int) (b : Bool) (A : Option Addr) (c : Nat) (l : List Arc) (Af : Option Addr) (cf : Nat) (f : List Int) (w : World) (hn : NetOk M l) (hf : FlowOk l f) (hr : Kd.C k79 w A l.length l) (hF : Kd.C (Kd.int .i64) w Af f.length f) :
    Calls Try.prog 72 #[.agg #[.int .i64 n, .bool b, .slice A l.length c], .slice Af f.length cf] w (StepsAt l f w) := by
  have hu := Try.underlying32
  have hu2 := Try.underlying158
  have hu3 := Try.underlying79
  have HR := Lib.hid hr
  have HF := Lib.hid hF
  have HLEN := Lib.hid hf.len
  have hll := hn.ll
  clear hr hF
  go_enter Try.func72, Try.ntmps72
  obtain ⟨w1, hw1⟩ : ∃ w1, w1 = w.alloc (.cells #[.int .i64 n, .bool b, .slice A l.length c] 32) := ⟨_, rfl⟩
  have HX : Hid (w1.heap[w.heap.size]? = some (.cells #[.int .i64 n, .bool b, .slice A l.length c] 32 (0, 0))) := Lib.hid (by rw [hw1]; exact heap_alloc_new _ _)
  have HB : Hid (Below w.heap.size w w1) := Lib.hid (by rw [hw1]; exact below_alloc (Below.refl _ _) _)
  go_wp2
  rw [← hw1]
  clear hw1
  rw [HLEN.out]
  go_loopg [5, 6] l.length (fun k ov iv W => ∃ (i : Nat) (Lq : List Stp) (Ao : Option Addr) (co : Nat), i ≤ l.length ∧ ov = .slice Ao Lq.length co ∧ iv = .int .i64 i ∧ k = l.length - i ∧ Hid (Kd.R kStep 158 W w.heap.size (fun _ => True) (.slice Ao Lq.length co) Lq ∧ W.heap[w.heap.size]? = some (.cells #[.int .i64 n, .bool b, .slice A l.length c] 32 (0, 0)) ∧ Below w.heap.size w W ∧ StP l f i Lq))
  case atStart => exact ⟨0, [], none, 0, Nat.zero_le _, rfl, rfl, rfl, Lib.hid ⟨Kd.R_nil _ _ _ _ _, HX.out, HB.out, StP.zero⟩⟩
  case round =>
    obtain ⟨i, Lq, Ao, co, hi, rfl, rfl, rfl, HL⟩ := hrel
    clear HX HB
    by_cases d1 : i < l.length
    · have i0 : (0 : Int) ≤ (i : Int) := by omega
      have i1 : (i : Int) < (l.length : Int) := by omega
      have hcap := (hn.caps (i : Int) i0 i1)
      have hfw := (hf.wit (i : Int) i0 i1)
      have C0 : rmv l f ⟨i, false⟩ = (rd_T79 l (i : Int)).f2 - rd f (i : Int) := rfl
      have C9 : rmv l f ⟨i, true⟩ = rd f (i : Int) := rfl
      obtain ⟨ad, ea, y0, y1, y2, y3⟩ := at_T79 (Kd.C_drew (Kd.C_below HR.out HL.out.2.2.1)) (i : Int) i0 i1
      subst ea
      obtain ⟨ae, eb, z0⟩ := Kd.at_int (Kd.C_drew (Kd.C_below HF.out HL.out.2.2.1)) (i : Int) i0 (by rw [HLEN.out]; exact i1)
      subst eb
      rw [Int.toNat_natCast] at y2 z0
      obtain ⟨cp, hcp⟩ : ∃ cp, cp = (rd_T79 l (i : Int)).f2 := ⟨_, rfl⟩
      obtain ⟨fv, hfv⟩ : ∃ fv, fv = rd f (i : Int) := ⟨_, rfl⟩
      rw [← hcp] at y2 C0 hcap hfw
      rw [← hfv] at z0 C0 C9 hfw
      have x2 : wr.drew.cell? ⟨w.heap.size, 2, none⟩ = some (.slice (some ad) l.length c) := (blk_cell (blk_drew HL.out.2.1) 2).trans rfl
      have ZF : Hid (∀ W, Below w.heap.size w W → W.cell? (ae.add i) = some (.int .i64 fv)) := Lib.hid (fun W hW => by
        obtain ⟨ae2, e2, z2⟩ := Kd.at_int (Kd.C_below HF.out hW) (i : Int) i0 (by rw [HLEN.out]; exact i1)
        injection e2 with e2
        subst e2
        rw [Int.toNat_natCast, ← hfv] at z2
        exact z2)
      clear y0 y1 y3 hcp hfv
      have HO : Hid (Kd.R kStep 158 wr.drew w.heap.size (fun _ => True) (.slice Ao Lq.length co) Lq ∧ wr.drew.heap[w.heap.size]? = some (.cells #[.int .i64 n, .bool b, .slice (some ad) l.length c] 32 (0, 0)) ∧ Below w.heap.size w wr.drew) := Lib.hid ⟨Kd.R_drew HL.out.1, blk_drew HL.out.2.1, below_drew1 HL.out.2.2.1⟩
      go_wp2
      refine stepS (S := fun w' => w'.cell? ⟨w.heap.size, 2, none⟩ = some (.slice (some ad) l.length c) ∧ w'.cell? ⟨(ad.add (i * 4)).block, (ad.add (i * 4)).off + 2, none⟩ = some (.int .i64 cp) ∧ w'.cell? (ae.add i) = some (.int .i64 fv)) (ds := []) 11 (by kernel_rfl) rfl ⟨x2, y2, z0⟩ (fun hHeld => ?_)
      generalize wr.drew = wd at HO hHeld x2 y2 z0 ⊢
      repeat (first
        | (refine stepP 11 (N := some _) (v := ?_) (a' := ?_) rfl rfl (by kernel_rfl) (fun _ _ _ h => h) (Or.inl ⟨by rfl, ?_⟩) ?_ ?_
           rotate_left
           · (intro w'; go_simp; with_reducible rfl)
           rotate_left
           · (simp only [Act.put, List.setIfInBounds_toArray, List.set_cons_zero, List.set_cons_succ]; rfl))
        | (refine stepT 11 (N := some _) (v := ?_) (a' := ?_) rfl rfl (by kernel_rfl) (fun _ _ _ h => h) (Or.inl ⟨by rfl, ?_⟩) hHeld ?_ ?_
           rotate_left
           · (rintro w' ⟨s0, s1, s2⟩; go_simp; with_reducible rfl)
           rotate_left
           · (simp only [Act.put, List.setIfInBounds_toArray, List.set_cons_zero, List.set_cons_succ]; rfl)))
      refine done_ (by kernel_rfl) ?_
      by_cases c1 : fv < cp
      · have C1 : Hid (0 < rmv l f ⟨i, false⟩) := Lib.hid (by rw [C0]; omega)
        by_cases c2 : 0 < fv
        · have C2 : Hid (0 < rmv l f ⟨i, true⟩) := Lib.hid (by rw [C9]; exact c2)
          clear C0 C9
          go_wp2_with (first
            | ((with_reducible refine gate_dst (N := 28) rfl ?_); go_loud (refine Kd.R_append kStep (w0 := w) w.heap.size rfl (.tmp 24) (.tmp 27) 127 158 (.agg #[.int .i64 0, .bool false]) 16 rfl Try.underlying127 info158 rfl (by decide) (by decide) (.slice Ao Lq.length co) (Lq) ⟨(i : Int), false⟩ [.int .i64 (i : Int), .bool false] (fun _ => True) (fun _ => False) rfl ?aX ?aP (fun _ hk => hk.elim) ?aF ?aO ?aB ?aS ?aL ?_); (case aX => first | rfl | (simp; done) | (simp; rfl)); (case aP => exact k158_mkM _ _ _ (⟨(i : Int), false⟩ : Stp)); (case aF => exact fun _ _ => trivial); (case aO => exact HO.out.1); (case aB => exact HO.out.2.2); (case aS => exact HO.out.2.2.size); (case aL => have := HL.out.2.2.2.2; (try rw [List.length_append]); (try simp only [List.length_cons, List.length_nil]); omega); go_loud ((intro v1 w1 ho hb hg hat; obtain ⟨A1, k1, e9⟩ := Kd.R_slice ho; rw [show ((Lq) ++ [(⟨(i : Int), false⟩ : Stp)]).length = Lq.length + 1 by (rw [List.length_append]; (try rw [List.length_append]); rfl)] at e9; subst e9; have HN9 := Lib.hid (And.intro ho (And.intro (blk_grown HO.out.2.1 hg (Kd.R_ne HO.out.1 HO.out.2.1 (by decide))) hb)); (try clear z0); have z0 : w1.cell? (ae.add i) = some (.int .i64 fv) := ZF.out _ hb; clear ho hb hg hat HO; have HO := HN9; clear HN9)))
            | ((with_reducible refine gate_dst (N := 38) rfl ?_); go_loud (refine Kd.R_append kStep (w0 := w) w.heap.size rfl (.tmp 34) (.tmp 37) 127 158 (.agg #[.int .i64 0, .bool false]) 16 rfl Try.underlying127 info158 rfl (by decide) (by decide) (.slice A1 (Lq.length + 1) k1) (Lq ++ [(⟨(i : Int), false⟩ : Stp)]) ⟨(i : Int), true⟩ [.int .i64 (i : Int), .bool true] (fun _ => True) (fun _ => False) rfl ?aX ?aP (fun _ hk => hk.elim) ?aF ?aO ?aB ?aS ?aL ?_); (case aX => first | rfl | (simp; done) | (simp; rfl)); (case aP => exact k158_mkM _ _ _ (⟨(i : Int), true⟩ : Stp)); (case aF => exact fun _ _ => trivial); (case aO => exact HO.out.1); (case aB => exact HO.out.2.2); (case aS => exact HO.out.2.2.size); (case aL => have := HL.out.2.2.2.2; (try rw [List.length_append]); (try simp only [List.length_cons, List.length_nil]); omega); go_loud ((intro v2 w2 ho hb hg hat; obtain ⟨A2, k2, e9⟩ := Kd.R_slice ho; rw [show ((Lq ++ [(⟨(i : Int), false⟩ : Stp)]) ++ [(⟨(i : Int), true⟩ : Stp)]).length = (Lq.length + 1) + 1 by (rw [List.length_append]; (try rw [List.length_append]); rfl)] at e9; subst e9; have HN9 := Lib.hid (And.intro ho (And.intro (blk_grown HO.out.2.1 hg (Kd.R_ne HO.out.1 HO.out.2.1 (by decide))) hb)); (try clear z0); have z0 : w2.cell? (ae.add i) = some (.int .i64 fv) := ZF.out _ hb; clear ho hb hg hat HO; have HO := HN9; clear HN9))))
          have hnx := HL.out.2.2.2.next (a := [(⟨(i : Int), false⟩ : Stp)]) (b := [(⟨(i : Int), true⟩ : Stp)]) (by rw [if_pos (by have := C1.out; omega)]) (by rw [if_pos (by have := C2.out; omega)])
          go_roundg (l.length - (i + 1))
          case measure => omega
          case rel => exact ⟨i + 1, Lq ++ [(⟨(i : Int), false⟩ : Stp)] ++ [(⟨(i : Int), true⟩ : Stp)], A2, k2, by omega, by simp, by go_num, by omega, Lib.hid ⟨by rw [show (Lq ++ [(⟨(i : Int), false⟩ : Stp)] ++ [(⟨(i : Int), true⟩ : Stp)]).length = ((Lq.length + 1) + 1) by simp]; first | exact HO.out.1 | simpa using HO.out.1, HO.out.2.1, HO.out.2.2, hnx⟩⟩
        · have C2 : Hid (¬ 0 < rmv l f ⟨i, true⟩) := Lib.hid (by rw [C9]; exact c2)
          clear C0 C9
          go_wp2_with (first
            | ((with_reducible refine gate_dst (N := 28) rfl ?_); go_loud (refine Kd.R_append kStep (w0 := w) w.heap.size rfl (.tmp 24) (.tmp 27) 127 158 (.agg #[.int .i64 0, .bool false]) 16 rfl Try.underlying127 info158 rfl (by decide) (by decide) (.slice Ao Lq.length co) (Lq) ⟨(i : Int), false⟩ [.int .i64 (i : Int), .bool false] (fun _ => True) (fun _ => False) rfl ?aX ?aP (fun _ hk => hk.elim) ?aF ?aO ?aB ?aS ?aL ?_); (case aX => first | rfl | (simp; done) | (simp; rfl)); (case aP => exact k158_mkM _ _ _ (⟨(i : Int), false⟩ : Stp)); (case aF => exact fun _ _ => trivial); (case aO => exact HO.out.1); (case aB => exact HO.out.2.2); (case aS => exact HO.out.2.2.size); (case aL => have := HL.out.2.2.2.2; (try rw [List.length_append]); (try simp only [List.length_cons, List.length_nil]); omega); go_loud ((intro v1 w1 ho hb hg hat; obtain ⟨A1, k1, e9⟩ := Kd.R_slice ho; rw [show ((Lq) ++ [(⟨(i : Int), false⟩ : Stp)]).length = Lq.length + 1 by (rw [List.length_append]; (try rw [List.length_append]); rfl)] at e9; subst e9; have HN9 := Lib.hid (And.intro ho (And.intro (blk_grown HO.out.2.1 hg (Kd.R_ne HO.out.1 HO.out.2.1 (by decide))) hb)); (try clear z0); have z0 : w1.cell? (ae.add i) = some (.int .i64 fv) := ZF.out _ hb; clear ho hb hg hat HO; have HO := HN9; clear HN9))))
          have hnx := HL.out.2.2.2.next (a := [(⟨(i : Int), false⟩ : Stp)]) (b := ([] : List Stp)) (by rw [if_pos (by have := C1.out; omega)]) (by rw [if_neg (by have := C2.out; omega)])
          go_roundg (l.length - (i + 1))
          case measure => omega
          case rel => exact ⟨i + 1, Lq ++ [(⟨(i : Int), false⟩ : Stp)] ++ ([] : List Stp), A1, k1, by omega, by simp, by go_num, by omega, Lib.hid ⟨by rw [show (Lq ++ [(⟨(i : Int), false⟩ : Stp)] ++ ([] : List Stp)).length = (Lq.length + 1) by simp]; first | exact HO.out.1 | simpa using HO.out.1, HO.out.2.1, HO.out.2.2, hnx⟩⟩
      · have C1 : Hid (¬ 0 < rmv l f ⟨i, false⟩) := Lib.hid (by rw [C0]; omega)
        by_cases c2 : 0 < fv
        · have C2 : Hid (0 < rmv l f ⟨i, true⟩) := Lib.hid (by rw [C9]; exact c2)
          clear C0 C9
          go_wp2_with (first
            | ((with_reducible refine gate_dst (N := 38) rfl ?_); go_loud (refine Kd.R_append kStep (w0 := w) w.heap.size rfl (.tmp 34) (.tmp 37) 127 158 (.agg #[.int .i64 0, .bool false]) 16 rfl Try.underlying127 info158 rfl (by decide) (by decide) (.slice Ao Lq.length co) (Lq) ⟨(i : Int), true⟩ [.int .i64 (i : Int), .bool true] (fun _ => True) (fun _ => False) rfl ?aX ?aP (fun _ hk => hk.elim) ?aF ?aO ?aB ?aS ?aL ?_); (case aX => first | rfl | (simp; done) | (simp; rfl)); (case aP => exact k158_mkM _ _ _ (⟨(i : Int), true⟩ : Stp)); (case aF => exact fun _ _ => trivial); (case aO => exact HO.out.1); (case aB => exact HO.out.2.2); (case aS => exact HO.out.2.2.size); (case aL => have := HL.out.2.2.2.2; (try rw [List.length_append]); (try simp only [List.length_cons, List.length_nil]); omega); go_loud ((intro v1 w1 ho hb hg hat; obtain ⟨A1, k1, e9⟩ := Kd.R_slice ho; rw [show ((Lq) ++ [(⟨(i : Int), true⟩ : Stp)]).length = Lq.length + 1 by (rw [List.length_append]; (try rw [List.length_append]); rfl)] at e9; subst e9; have HN9 := Lib.hid (And.intro ho (And.intro (blk_grown HO.out.2.1 hg (Kd.R_ne HO.out.1 HO.out.2.1 (by decide))) hb)); (try clear z0); have z0 : w1.cell? (ae.add i) = some (.int .i64 fv) := ZF.out _ hb; clear ho hb hg hat HO; have HO := HN9; clear HN9))))
          have hnx := HL.out.2.2.2.next (a := ([] : List Stp)) (b := [(⟨(i : Int), true⟩ : Stp)]) (by rw [if_neg (by have := C1.out; omega)]) (by rw [if_pos (by have := C2.out; omega)])
          go_roundg (l.length - (i + 1))
          case measure => omega
          case rel => exact ⟨i + 1, Lq ++ ([] : List Stp) ++ [(⟨(i : Int), true⟩ : Stp)], A1, k1, by omega, by simp, by go_num, by omega, Lib.hid ⟨by rw [show (Lq ++ ([] : List Stp) ++ [(⟨(i : Int), true⟩ : Stp)]).length = (Lq.length + 1) by simp]; first | exact HO.out.1 | simpa using HO.out.1, HO.out.2.1, HO.out.2.2, hnx⟩⟩
        · have C2 : Hid (¬ 0 < rmv l f ⟨i, true⟩) := Lib.hid (by rw [C9]; exact c2)
          clear C0 C9
          go_wp2
          have hnx := HL.out.2.2.2.next (a := ([] : List Stp)) (b := ([] : List Stp)) (by rw [if_neg (by have := C1.out; omega)]) (by rw [if_neg (by have := C2.out; omega)])
          go_roundg (l.length - (i + 1))
          case measure => omega
          case rel => exact ⟨i + 1, Lq ++ ([] : List Stp) ++ ([] : List Stp), Ao, co, by omega, by simp, by go_num, by omega, Lib.hid ⟨by rw [show (Lq ++ ([] : List Stp) ++ ([] : List Stp)).length = Lq.length by simp]; first | exact HO.out.1 | simpa using HO.out.1, HO.out.2.1, HO.out.2.2, hnx⟩⟩
    · have e : i = l.length := by omega
      have d2 : ¬ (i : Int) < (l.length : Int) := by omega
      have HE := Lib.hid e
      clear e
      go_wp2
      go_ret
      exact ⟨Lq, Ao, co, rfl, HL.out.1, by have := HL.out.2.2.2; rw [HE.out] at this; exact this, HL.out.2.2.1⟩
end Go.Proofs.Ytcgdloldkcmhnaa.H
end
section
namespace Go.Proofs.Ytcgdloldkcmhnaa.H
open Go Go.RowKit Go.Proofs.Ytcgdloldkcmhnaa.PrintC Go.Proofs.YtcgdloldkcmhnaaW.PrintWords Go.Proofs.YtcgdloldkcmhnaaW.PrintLast Go.Proofs.YtcgdloldkcmhnaaW.PrintMore Go.Proofs.Ytcgdloldkcmhnaa.Flow
set_option linter.unusedVariables false
set_option linter.unusedSimpArgs false
def SoughtAt (l : List Arc) (L : List Stp) (M : Nat) (s : Int) (w : World) (e : Ending) (w' : World) : Prop :=
  ∃ (N : List Int) (B : List Stp) (A1 : Option Addr) (c1 : Nat) (A2 : Option Addr) (c2 : Nat), e = .returned (.agg #[.slice A1 N.length c1, .slice A2 B.length c2]) ∧ Kd.R (Kd.int .i64) 3 w' w.heap.size (fun _ => True) (.slice A1 N.length c1) N ∧
    Kd.R kStep 158 w' w.heap.size (fun _ => True) (.slice A2 B.length c2) B ∧ Sg l L M s N B ∧ Cl l L N N.length 0 ∧ Below w.heap.size w w'
theorem so_cells {w W : World} {gx : Nat} {n : Int} {b : Bool} {A A1 A2 : Option Addr} {c c1 c2 m1 m2 : Nat} {l : List Arc} {L : List Stp} {N : List Int} {B : List Stp} {ad : Addr} (hL : Kd.C kStep w (some ad) L.length L) (h : SoI w gx #[.int .i64 n, .bool b, .slice A l.length c] N B (.slice A1 m1 c1) (.slice A2 m2 c2) W) {j : Nat} (hj : j < L.length) {x : Stp} (hx : x = stAt L j) :
    W.cell? ⟨w.heap.size, 0, none⟩ = some (.int .i64 n) ∧ W.cell? ⟨w.heap.size, 1, none⟩ = some (.bool b) ∧ W.cell? ⟨w.heap.size, 2, none⟩ = some (.slice A l.length c) ∧ W.cell? (ad.add (j * 2)) = some (.int .i64 x.f0) ∧ W.cell? ⟨(ad.add (j * 2)).block, (ad.add (j * 2)).off + 1, none⟩ = some (.bool x.f1) ∧ W.cell? ⟨gx, 0, none⟩ = some (.slice A1 m1 c1) ∧ W.cell? ⟨gx, 1, none⟩ = some (.slice A2 m2 c2) := by
  obtain ⟨ae, ea, y0, y1⟩ := at_T158 (Kd.C_below hL h.low) (j : Int) (by omega) (by omega)
  injection ea with ea
  subst ea
  rw [Int.toNat_natCast] at y0 y1
  have hx0 : (rd_T158 L (j : Int)) = x := by rw [hx]; unfold rd_T158 stAt; rw [Int.toNat_natCast]; rfl
  rw [hx0] at y0 y1
  exact ⟨(blk_cell h.bn 0).trans rfl, (blk_cell h.bn 1).trans rfl, (blk_cell h.bn 2).trans rfl, y0, y1, (blk_cell h.bx 0).trans rfl, (blk_cell h.bx 1).trans rfl⟩
set_option maxHeartbeats 4000000 in
set_option maxRecDepth 100000 in
theorem sought_walk (n : Int) (b : Bool) (A : Option Addr) (c : Nat) (l : List Arc) (s : Int) (As : Option Addr) (cs : Nat) (L : List Stp) (M : Nat) (w : World) (hr : Kd.C k79 w A l.length l) (hL : Kd.C kStep w As L.length L)
    (hin : ∀ x, x ∈ L → (0 ≤ x.f0 ∧ x.f0 < (l.length : Int)) ∧ 0 ≤ tgt l x ∧ tgt l x < M) (h0 : 0 ≤ s) (h1 : s < M) (hm : M ≤ 10000) (hl : L.length ≤ 400000) :
    Calls Try.prog 93 #[.agg #[.int .i64 n, .bool b, .slice A l.length c], .int .i64 s, .slice As L.length cs] w (SoughtAt l L M s w) := by
  have hu := Try.underlying32
  have hu2 := Try.underlying158
  have hu3 := Try.underlying154
  have HR := Lib.hid hr
  have HL0 := Lib.hid hL
  have HIN := Lib.hid hin
  have HS := Lib.hid (And.intro h0 h1)
  clear hr hL hin h0 h1
  go_enter Try.func93, Try.ntmps93
  obtain ⟨w3, hw3⟩ : ∃ w3, w3 = ((w.alloc (.cells #[.int .i64 n, .bool b, .slice A l.length c] 32)).alloc (.cells #[.slice none 0 0, .slice none 0 0] 154)).alloc (.cells #[.slice none 0 0, .slice none 0 0] 154) := ⟨_, rfl⟩
  have HI : Hid (SoI w (w.heap.size + 1 + 1) #[.int .i64 n, .bool b, .slice A l.length c] [] [] (.slice none 0 0) (.slice none 0 0) w3) := Lib.hid (by
    rw [hw3]
    exact ⟨alloc_at (by simp), Kd.R_nil _ _ _ _ _, Kd.R_nil _ _ _ _ _, blk_alloc (blk_alloc (heap_alloc_new _ _) _) _, blk_alloc (alloc_at (by simp)) _, by omega, below_alloc (below_alloc (below_alloc (Below.refl _ _) _) _) _⟩)
  go_wp2_with (first
    | ((with_reducible refine gate_dst (N := 14) rfl ?_); rw [← hw3]; go_loud (refine Kd.R_append (Kd.int .i64) (w0 := w) w.heap.size rfl (.tmp 11) (.tmp 13) 69 3 (.int .i64 0) 8 rfl Try.underlying69 infoInt rfl (by decide) (by decide) (.slice none 0 0) ([] : List Int) s [.int .i64 s] (fun _ => True) (fun _ => False) rfl (by rw [hw3]; simp; rfl) ?aP (fun _ hk => hk.elim) ?aF ?aO ?aB ?aS ?aL ?_); (case aP => exact rfl); (case aF => exact fun _ _ => trivial); (case aO => exact Kd.R_nil _ _ _ _ _); (case aB => exact HI.out.low); (case aS => exact HI.out.low.size); (case aL => decide); intro v1 w9 ho hb hg hat; rw [List.nil_append] at ho; obtain ⟨A1, c1, rfl⟩ := (show ∃ A c, v1 = .slice A 1 c from Kd.R_slice ho); have HJ := Lib.hid (HI.out.add1 ho hb hg); have z0 : w9.cell? ⟨w.heap.size + 1 + 1, 0, none⟩ = some (.slice none 0 0) := (blk_cell (blk_grown HI.out.bx hg (by simp [Value.ownBlock])) 0).trans rfl; have z1 : w9.cell? ⟨w.heap.size + 1 + 1, 1, none⟩ = some (.slice none 0 0) := (blk_cell (blk_grown HI.out.bx hg (by simp [Value.ownBlock])) 1).trans rfl; have z2 : w9.frozen? ⟨w.heap.size + 1 + 1, 0, none⟩ = false := blk_frozen (blk_grown HI.out.bx hg (by simp [Value.ownBlock])) 0; have z3 : w9.frozen? ⟨w.heap.size + 1 + 1, 1, none⟩ = false := blk_frozen (blk_grown HI.out.bx hg (by simp [Value.ownBlock])) 1; clear ho hb hg hat HI)
    | ((with_reducible refine gate_dst (N := 20) rfl ?_); go_loud (refine Kd.R_append kStep (w0 := w) w.heap.size rfl (.tmp 17) (.tmp 19) 127 158 (.agg #[.int .i64 0, .bool false]) 16 rfl Try.underlying127 info158 rfl (by decide) (by decide) (.slice none 0 0) ([] : List Stp) ⟨0, false⟩ [.int .i64 0, .bool false] (fun _ => True) (fun _ => False) rfl ?aX ?aP (fun _ hk => hk.elim) ?aF ?aO ?aB ?aS ?aL ?_); (case aX => first | (simp; done) | (simp; rfl)); (case aP => exact k158_mkM _ _ _ (⟨0, false⟩ : Stp)); (case aF => exact fun _ _ => trivial); (case aO => exact Kd.R_nil _ _ _ _ _); (case aB => exact HJ.out.low); (case aS => exact HJ.out.low.size); (case aL => decide); go_loud ((intro v2 w10 ho hb hg hat; rw [List.nil_append] at ho; obtain ⟨A2, c2, rfl⟩ := (show ∃ A c, v2 = .slice A 1 c from Kd.R_slice ho); have HI2 := Lib.hid (HJ.out.add2 ho hb hg); have z0 : w10.cell? ⟨w.heap.size + 1 + 1, 1, none⟩ = some (.slice none 0 0) := (blk_cell (blk_grown HJ.out.bx hg (by simp [Value.ownBlock])) 1).trans rfl; have z1 : w10.frozen? ⟨w.heap.size + 1 + 1, 1, none⟩ = false := blk_frozen (blk_grown HJ.out.bx hg (by simp [Value.ownBlock])) 1; have z5 : w10.cell? ⟨w.heap.size + 1 + 1, 0, none⟩ = some (.slice A1 1 c1) := (blk_cell (blk_grown HJ.out.bx hg (by simp [Value.ownBlock])) 0).trans rfl; clear ho hb hg hat HJ))))
  clear z0 z1 z5 hw3 w3
  generalize w10.setCell ⟨w.heap.size + 1 + 1, 1, none⟩ (.slice A2 1 c2) = w11 at HI2 ⊢
  generalize w.heap.size + 1 + 1 = gx at HI2 ⊢
  go_loopg [8] M (fun k iv W => ∃ (i : Nat) (N : List Int) (B : List Stp) (A1 : Option Addr) (c1 : Nat) (A2 : Option Addr) (c2 : Nat), i ≤ N.length ∧ iv = .int .i64 i ∧ k = M - i ∧ Hid (SoI w gx #[.int .i64 n, .bool b, .slice A l.length c] N B (.slice A1 N.length c1) (.slice A2 B.length c2) W ∧ Sg l L M s N B ∧ Cl l L N i 0))
  case atStart => exact ⟨0, [s], [⟨0, false⟩], A1, c1, A2, c2, Nat.zero_le _, rfl, rfl, Lib.hid ⟨HI2.out, Sg.start HS.out.1 HS.out.2 _, Cl.zero⟩⟩
  case round =>
    obtain ⟨i, N, B, A1, c1, A2, c2, hi, rfl, rfl, HL⟩ := hrel
    clear HI2
    have x0 : wr.cell? ⟨gx, 0, none⟩ = some (.slice A1 N.length c1) := (blk_cell HL.out.1.bx 0).trans rfl
    have hNM := HL.out.2.1.le
    by_cases d1 : i < N.length
    · have d1' : (i : Int) < (N.length : Int) := by omega
      go_wp2
      have HD := Lib.hid (And.intro hi (And.intro hNM d1))
      clear x0
      go_loopg [9] L.length (fun k kv W => ∃ (j : Nat) (N : List Int) (B : List Stp) (A1 : Option Addr) (c1 : Nat) (A2 : Option Addr) (c2 : Nat), j ≤ L.length ∧ kv = .int .i64 j ∧ k = L.length - j ∧ Hid (i < N.length ∧ SoI w gx #[.int .i64 n, .bool b, .slice A l.length c] N B (.slice A1 N.length c1) (.slice A2 B.length c2) W ∧ Sg l L M s N B ∧ Cl l L N i j))
      case atStart => exact ⟨0, N, B, A1, c1, A2, c2, Nat.zero_le _, rfl, rfl, Lib.hid ⟨HD.out.2.2, HL.out⟩⟩
      case round =>
        clear HL d1' d1 hi hNM
        obtain ⟨j, N, B, A1, c1, A2, c2, hj, rfl, rfl, HL⟩ := hrel
        by_cases d2 : j < L.length
        · have d2' : (j : Int) < (L.length : Int) := by omega
          have j0 : (0 : Int) ≤ (j : Int) := by omega
          have i0 : (0 : Int) ≤ (i : Int) := by omega
          have i1 : (i : Int) < (N.length : Int) := by have := HL.out.1; omega
          go_wp2
          obtain ⟨ad, ea, y0, y1⟩ := at_T158 (Kd.C_drew (Kd.C_below HL0.out HL.out.2.1.low)) (j : Int) j0 d2'
          subst ea
          rw [Int.toNat_natCast] at y0 y1
          obtain ⟨ae, eb, y2⟩ := Kd.at_int (Kd.C_drew (Kd.R_reads' HL.out.2.1.r1).2.2) (i : Int) i0 i1
          subst eb
          rw [Int.toNat_natCast] at y2
          obtain ⟨x, hx⟩ : ∃ x, x = stAt L j := ⟨_, rfl⟩
          have hx0 : (rd_T158 L (j : Int)) = x := by rw [hx]; unfold rd_T158 stAt; rw [Int.toNat_natCast]; rfl
          rw [hx0] at y0 y1
          have hxm : x ∈ L := by rw [hx]; exact getD_mem d2 _
          have HX := Lib.hid (HIN.out x hxm)
          have HXE := Lib.hid (And.intro hxm hx)
          have HI9 := Lib.hid HL.out.2.1.drew
          have x0 : wr.drew.cell? ⟨w.heap.size, 0, none⟩ = some (.int .i64 n) := (blk_cell HI9.out.bn 0).trans rfl
          have x1 : wr.drew.cell? ⟨w.heap.size, 1, none⟩ = some (.bool b) := (blk_cell HI9.out.bn 1).trans rfl
          have x2 : wr.drew.cell? ⟨w.heap.size, 2, none⟩ = some (.slice A l.length c) := (blk_cell HI9.out.bn 2).trans rfl
          have x3 : wr.drew.cell? ⟨gx, 0, none⟩ = some (.slice (some ae) N.length c1) := (blk_cell HI9.out.bx 0).trans rfl
          have x4 : wr.drew.cell? ⟨gx, 1, none⟩ = some (.slice A2 B.length c2) := (blk_cell HI9.out.bx 1).trans rfl
          clear hx hx0 hxm
          refine stepS (S := fun w' => w'.cell? ⟨w.heap.size, 0, none⟩ = some (.int .i64 n) ∧ w'.cell? ⟨w.heap.size, 1, none⟩ = some (.bool b) ∧ w'.cell? ⟨w.heap.size, 2, none⟩ = some (.slice A l.length c) ∧ w'.cell? (ad.add (j * 2)) = some (.int .i64 x.f0) ∧ w'.cell? ⟨(ad.add (j * 2)).block, (ad.add (j * 2)).off + 1, none⟩ = some (.bool x.f1) ∧ w'.cell? ⟨gx, 0, none⟩ = some (.slice (some ae) N.length c1) ∧ w'.cell? ⟨gx, 1, none⟩ = some (.slice A2 B.length c2) ∧ w'.cell? (ae.add i) = some (.int .i64 (rd N (i : Int)))) (ds := [20]) 23 (by kernel_rfl) rfl ⟨x0, x1, x2, y0, y1, x3, x4, y2⟩ (fun hHeld => ?_)
          generalize wr.drew = wd at HI9 hHeld ⊢
          clear x0 x1 x2 x3 x4 y0 y1 y2
          refine stepTi 0 (N := some _) (v := ?_) (a' := ?_) rfl rfl (by kernel_rfl) (fun _ _ _ h => h) (Or.inl ⟨by rfl, ?_⟩) hHeld ?_ ?_
          rotate_left
          · (rintro w' ⟨s0, s1, s2, s3, s4, s5, s6, s7⟩; go_simp; with_reducible rfl)
          rotate_left
          · (simp only [Act.put, List.setIfInBounds_toArray, List.set_cons_zero, List.set_cons_succ]; rfl)
          refine stepPi 1 (N := some _) (v := ?_) (a' := ?_) rfl rfl (by kernel_rfl) (fun _ _ _ h => h) (Or.inl ⟨by rfl, ?_⟩) ?_ ?_
          rotate_left
          · (intro w'; go_simp; with_reducible rfl)
          rotate_left
          · (simp only [Act.put, List.setIfInBounds_toArray, List.set_cons_zero, List.set_cons_succ]; rfl)
          refine stepPi 2 (N := some _) (v := ?_) (a' := ?_) rfl rfl (by kernel_rfl) (fun _ _ _ h => h) (Or.inl ⟨by rfl, ?_⟩) ?_ ?_
          rotate_left
          · (intro w'; go_simp; with_reducible rfl)
          rotate_left
          · (simp only [Act.put, List.setIfInBounds_toArray, List.set_cons_zero, List.set_cons_succ]; rfl)
          refine stepPi 3 (N := some _) (v := ?_) (a' := ?_) rfl rfl (by kernel_rfl) (fun _ _ _ h => h) (Or.inl ⟨by rfl, ?_⟩) ?_ ?_
          rotate_left
          · (intro w'; go_simp; with_reducible rfl)
          rotate_left
          · (simp only [Act.put, List.setIfInBounds_toArray, List.set_cons_zero, List.set_cons_succ]; rfl)
          refine stepTi 4 (N := some _) (v := ?_) (a' := ?_) rfl rfl (by kernel_rfl) (fun _ _ _ h => h) (Or.inl ⟨by rfl, ?_⟩) hHeld ?_ ?_
          rotate_left
          · (rintro w' ⟨s0, s1, s2, s3, s4, s5, s6, s7⟩; go_simp; with_reducible rfl)
          rotate_left
          · (simp only [Act.put, List.setIfInBounds_toArray, List.set_cons_zero, List.set_cons_succ]; rfl)
          refine stepPi 6 (N := some _) (v := ?_) (a' := ?_) rfl rfl (by kernel_rfl) (fun _ _ _ h => h) (Or.inl ⟨by rfl, ?_⟩) ?_ ?_
          rotate_left
          · (intro w'; go_simp; with_reducible rfl)
          rotate_left
          · (simp only [Act.put, List.setIfInBounds_toArray, List.set_cons_zero, List.set_cons_succ]; rfl)
          refine stepTi 7 (N := some _) (v := ?_) (a' := ?_) rfl rfl (by kernel_rfl) (fun _ _ _ h => h) (Or.inl ⟨by rfl, ?_⟩) hHeld ?_ ?_
          rotate_left
          · (rintro w' ⟨s0, s1, s2, s3, s4, s5, s6, s7⟩; go_simp; with_reducible rfl)
          rotate_left
          · (simp only [Act.put, List.setIfInBounds_toArray, List.set_cons_zero, List.set_cons_succ]; rfl)
          refine stepPi 8 (N := some _) (v := ?_) (a' := ?_) rfl rfl (by kernel_rfl) (fun _ _ _ h => h) (Or.inl ⟨by rfl, ?_⟩) ?_ ?_
          rotate_left
          · (intro w'; go_simp; with_reducible rfl)
          rotate_left
          · (simp only [Act.put, List.setIfInBounds_toArray, List.set_cons_zero, List.set_cons_succ]; rfl)
          refine stepPi 9 (N := some _) (v := ?_) (a' := ?_) rfl rfl (by kernel_rfl) (fun _ _ _ h => h) (Or.inl ⟨by rfl, ?_⟩) ?_ ?_
          rotate_left
          · (intro w'; go_simp; with_reducible rfl)
          rotate_left
          · (simp only [Act.put, List.setIfInBounds_toArray, List.set_cons_zero, List.set_cons_succ]; rfl)
          refine stepTi 10 (N := some _) (v := ?_) (a' := ?_) rfl rfl (by kernel_rfl) (fun _ _ _ h => h) (Or.inl ⟨by rfl, ?_⟩) hHeld ?_ ?_
          rotate_left
          · (rintro w' ⟨s0, s1, s2, s3, s4, s5, s6, s7⟩; go_simp; with_reducible rfl)
          rotate_left
          · (simp only [Act.put, List.setIfInBounds_toArray, List.set_cons_zero, List.set_cons_succ]; rfl)
          refine stepEi 5 (N := some 40) rfl rfl (by kernel_rfl) (by decide) (fun K hK => ?_)
          refine goes_ Try.func95 (by kernel_rfl) rfl #[.agg #[.int .i64 n, .bool b, .slice A l.length c], .agg #[.int .i64 x.f0, .bool x.f1]] (by rfl) rfl rfl (by (try simp only [List.map_toArray, List.map_cons, List.map_nil]); rfl) ?_
          refine (rfrom_walk n b A c l x _ (Kd.C_below HR.out HI9.out.low) HX.out.1.1 HX.out.1.2).mono ?_
          rintro e w5 ⟨rfl, hb⟩
          refine ⟨_, rfl, ?_⟩
          have HI9' := Lib.hid (HI9.out.below hb)
          refine hK.out _ _ ⟨pw_cell_below hb hHeld.1, pw_cell_below hb hHeld.2.1, pw_cell_below hb hHeld.2.2.1, pw_cell_below hb hHeld.2.2.2.1, pw_cell_below hb hHeld.2.2.2.2.1, pw_cell_below hb hHeld.2.2.2.2.2.1, pw_cell_below hb hHeld.2.2.2.2.2.2.1, pw_cell_below hb hHeld.2.2.2.2.2.2.2⟩ (fun hH2 => ?_)
          clear hK K hHeld hb HI9 wd
          have HI9 := HI9'
          have hHeld := hH2
          clear HI9' hH2
          refine norm_ (a' := ?_) ?_ ?_
          rotate_left
          · (show Act.put _ (some 40) _ = _; simp only [Act.put, List.setIfInBounds_toArray, List.set_cons_zero, List.set_cons_succ]; rfl)
          have hNM := HL.out.2.2.1.le
          by_cases q : src l x = rd N (i : Int)
          · have q1 : (src l x == rd N (i : Int)) = true := beq_iff_eq.2 q
            have q2 : decide (src l x = rd N (i : Int)) = true := decide_eq_true q
            have HQ := Lib.hid q
            clear q
            refine stepPi 11 (N := some _) (v := ?_) (a' := ?_) rfl rfl (by kernel_rfl) (fun _ _ _ h => h) (Or.inl ⟨by rfl, ?_⟩) ?_ ?_
            rotate_left
            · (intro w'; go_simp; with_reducible rfl)
            rotate_left
            · (simp only [Act.put, List.setIfInBounds_toArray, List.set_cons_zero, List.set_cons_succ]; rfl)
            refine stepPi 12 (N := some _) (v := ?_) (a' := ?_) rfl rfl (by kernel_rfl) (fun _ _ _ h => h) (Or.inl ⟨by rfl, ?_⟩) ?_ ?_
            rotate_left
            · (intro w'; go_simp; with_reducible rfl)
            rotate_left
            · (simp only [Act.put, List.setIfInBounds_toArray, List.set_cons_zero, List.set_cons_succ]; rfl)
            refine stepTi 13 (N := some _) (v := ?_) (a' := ?_) rfl rfl (by kernel_rfl) (fun _ _ _ h => h) (Or.inl ⟨by rfl, ?_⟩) hHeld ?_ ?_
            rotate_left
            · (rintro w' ⟨s0, s1, s2, s3, s4, s5, s6, s7⟩; go_simp; with_reducible rfl)
            rotate_left
            · (simp only [Act.put, List.setIfInBounds_toArray, List.set_cons_zero, List.set_cons_succ]; rfl)
            refine stepTi 14 (N := some _) (v := ?_) (a' := ?_) rfl rfl (by kernel_rfl) (fun _ _ _ h => h) (Or.inl ⟨by rfl, ?_⟩) hHeld ?_ ?_
            rotate_left
            · (rintro w' ⟨s0, s1, s2, s3, s4, s5, s6, s7⟩; go_simp; with_reducible rfl)
            rotate_left
            · (simp only [Act.put, List.setIfInBounds_toArray, List.set_cons_zero, List.set_cons_succ]; rfl)
            refine stepPi 15 (N := some _) (v := ?_) (a' := ?_) rfl rfl (by kernel_rfl) (fun _ _ _ h => h) (Or.inl ⟨by rfl, ?_⟩) ?_ ?_
            rotate_left
            · (intro w'; go_simp; with_reducible rfl)
            rotate_left
            · (simp only [Act.put, List.setIfInBounds_toArray, List.set_cons_zero, List.set_cons_succ]; rfl)
            refine stepPi 16 (N := some _) (v := ?_) (a' := ?_) rfl rfl (by kernel_rfl) (fun _ _ _ h => h) (Or.inl ⟨by rfl, ?_⟩) ?_ ?_
            rotate_left
            · (intro w'; go_simp; with_reducible rfl)
            rotate_left
            · (simp only [Act.put, List.setIfInBounds_toArray, List.set_cons_zero, List.set_cons_succ]; rfl)
            refine stepPi 17 (N := some _) (v := ?_) (a' := ?_) rfl rfl (by kernel_rfl) (fun _ _ _ h => h) (Or.inl ⟨by rfl, ?_⟩) ?_ ?_
            rotate_left
            · (intro w'; go_simp; with_reducible rfl)
            rotate_left
            · (simp only [Act.put, List.setIfInBounds_toArray, List.set_cons_zero, List.set_cons_succ]; rfl)
            refine stepTi 18 (N := some _) (v := ?_) (a' := ?_) rfl rfl (by kernel_rfl) (fun _ _ _ h => h) (Or.inl ⟨by rfl, ?_⟩) hHeld ?_ ?_
            rotate_left
            · (rintro w' ⟨s0, s1, s2, s3, s4, s5, s6, s7⟩; go_simp; with_reducible rfl)
            rotate_left
            · (simp only [Act.put, List.setIfInBounds_toArray, List.set_cons_zero, List.set_cons_succ]; rfl)
            refine stepEi 19 (N := some 54) rfl rfl (by kernel_rfl) (by decide) (fun K hK => ?_)
            refine goes_ Try.func105 (by kernel_rfl) rfl #[.agg #[.int .i64 n, .bool b, .slice A l.length c], .agg #[.int .i64 x.f0, .bool x.f1]] (by rfl) rfl rfl (by (try simp only [List.map_toArray, List.map_cons, List.map_nil]); rfl) ?_
            refine (rto_walk n b A c l x _ (Kd.C_below HR.out HI9.out.low) HX.out.1.1 HX.out.1.2).mono ?_
            rintro e w5 ⟨rfl, hb⟩
            refine ⟨_, rfl, ?_⟩
            have HI9' := Lib.hid (HI9.out.below hb)
            refine hK.out _ _ ⟨pw_cell_below hb hHeld.1, pw_cell_below hb hHeld.2.1, pw_cell_below hb hHeld.2.2.1, pw_cell_below hb hHeld.2.2.2.1, pw_cell_below hb hHeld.2.2.2.2.1, pw_cell_below hb hHeld.2.2.2.2.2.1, pw_cell_below hb hHeld.2.2.2.2.2.2.1, pw_cell_below hb hHeld.2.2.2.2.2.2.2⟩ (fun hH2 => ?_)
            clear hK K hHeld hb HI9
            have HI9 := HI9'
            have hHeld := hH2
            clear HI9' hH2
            refine norm_ (a' := ?_) ?_ ?_
            rotate_left
            · (show Act.put _ (some 54) _ = _; simp only [Act.put, List.setIfInBounds_toArray, List.set_cons_zero, List.set_cons_succ]; rfl)
            refine stepLi 20 (N := some 55) rfl rfl (by kernel_rfl) (by decide) (fun K hK => ?_)
            refine goes_ Try.func94 (by kernel_rfl) rfl #[.agg #[.slice (some ae) N.length c1, .slice A2 B.length c2], .int .i64 (tgt l x)] (by rfl) rfl rfl (by (try simp only [List.map_toArray, List.map_cons, List.map_nil]); rfl) ?_
            refine (rhas_walk (some ae) c1 N (.slice A2 B.length c2) A2 B.length c2 rfl (tgt l x) _ (Kd.R_reads' HI9.out.r1).2.2 (by omega)).mono ?_
            rintro e w5 ⟨r, rfl, hP, hb⟩
            refine ⟨_, rfl, ?_⟩
            have HI8 := Lib.hid (HI9.out.below hb)
            have HP := Lib.hid hP
            refine hK.out _ _ ?_
            clear hK K hHeld hb HI9 hP
            refine norm_ (a' := ?_) ?_ ?_
            rotate_left
            · (show Act.put _ (some 55) _ = _; simp only [Act.put, List.setIfInBounds_toArray, List.set_cons_zero, List.set_cons_succ]; rfl)
            refine stepPi 21 (N := some _) (v := ?_) (a' := ?_) rfl rfl (by kernel_rfl) (fun _ _ _ h => h) (Or.inl ⟨by rfl, ?_⟩) ?_ ?_
            rotate_left
            · (intro w'; go_simp; with_reducible rfl)
            rotate_left
            · (simp only [Act.put, List.setIfInBounds_toArray, List.set_cons_zero, List.set_cons_succ]; rfl)
            refine stepPi 22 (N := some _) (v := ?_) (a' := ?_) rfl rfl (by kernel_rfl) (fun _ _ _ h => h) (Or.inl ⟨by rfl, ?_⟩) ?_ ?_
            rotate_left
            · (intro w'; go_simp; with_reducible rfl)
            rotate_left
            · (simp only [Act.put, List.setIfInBounds_toArray, List.set_cons_zero, List.set_cons_succ]; rfl)
            refine done_ (by kernel_rfl) ?_
            by_cases r0 : r < 0
            · go_wp2
              refine stepS (S := fun w' => w'.cell? ⟨w.heap.size, 0, none⟩ = some (.int .i64 n) ∧ w'.cell? ⟨w.heap.size, 1, none⟩ = some (.bool b) ∧ w'.cell? ⟨w.heap.size, 2, none⟩ = some (.slice A l.length c) ∧ w'.cell? (ad.add (j * 2)) = some (.int .i64 x.f0) ∧ w'.cell? ⟨(ad.add (j * 2)).block, (ad.add (j * 2)).off + 1, none⟩ = some (.bool x.f1) ∧ w'.cell? ⟨gx, 0, none⟩ = some (.slice (some ae) (N).length c1) ∧ w'.cell? ⟨gx, 1, none⟩ = some (.slice A2 B.length c2)) (ds := [9, 11]) 12 (by kernel_rfl) rfl (so_cells HL0.out HI8.out.drew (by omega) HXE.out.2) (fun hHeld => ?_)
              have HI9 := Lib.hid HI8.out.drew
              generalize w5.drew = w5 at HI9 hHeld ⊢
              clear HI8
              refine stepPi 0 (N := some _) (v := ?_) (a' := ?_) rfl rfl (by kernel_rfl) (fun _ _ _ h => h) (Or.inl ⟨by rfl, ?_⟩) ?_ ?_
              rotate_left
              · (intro w'; go_simp; with_reducible rfl)
              rotate_left
              · (simp only [Act.put, List.setIfInBounds_toArray, List.set_cons_zero, List.set_cons_succ]; rfl)
              refine stepTi 1 (N := some _) (v := ?_) (a' := ?_) rfl rfl (by kernel_rfl) (fun _ _ _ h => h) (Or.inl ⟨by rfl, ?_⟩) hHeld ?_ ?_
              rotate_left
              · (rintro w' ⟨s0, s1, s2, s3, s4, s5, s6⟩; go_simp; with_reducible rfl)
              rotate_left
              · (simp only [Act.put, List.setIfInBounds_toArray, List.set_cons_zero, List.set_cons_succ]; rfl)
              refine stepTi 2 (N := some _) (v := ?_) (a' := ?_) rfl rfl (by kernel_rfl) (fun _ _ _ h => h) (Or.inl ⟨by rfl, ?_⟩) hHeld ?_ ?_
              rotate_left
              · (rintro w' ⟨s0, s1, s2, s3, s4, s5, s6⟩; go_simp; with_reducible rfl)
              rotate_left
              · (simp only [Act.put, List.setIfInBounds_toArray, List.set_cons_zero, List.set_cons_succ]; rfl)
              refine stepPi 3 (N := some _) (v := ?_) (a' := ?_) rfl rfl (by kernel_rfl) (fun _ _ _ h => h) (Or.inl ⟨by rfl, ?_⟩) ?_ ?_
              rotate_left
              · (intro w'; go_simp; with_reducible rfl)
              rotate_left
              · (simp only [Act.put, List.setIfInBounds_toArray, List.set_cons_zero, List.set_cons_succ]; rfl)
              refine stepPi 4 (N := some _) (v := ?_) (a' := ?_) rfl rfl (by kernel_rfl) (fun _ _ _ h => h) (Or.inl ⟨by rfl, ?_⟩) ?_ ?_
              rotate_left
              · (intro w'; go_simp; with_reducible rfl)
              rotate_left
              · (simp only [Act.put, List.setIfInBounds_toArray, List.set_cons_zero, List.set_cons_succ]; rfl)
              refine stepPi 5 (N := some _) (v := ?_) (a' := ?_) rfl rfl (by kernel_rfl) (fun _ _ _ h => h) (Or.inl ⟨by rfl, ?_⟩) ?_ ?_
              rotate_left
              · (intro w'; go_simp; with_reducible rfl)
              rotate_left
              · (simp only [Act.put, List.setIfInBounds_toArray, List.set_cons_zero, List.set_cons_succ]; rfl)
              refine stepTi 6 (N := some _) (v := ?_) (a' := ?_) rfl rfl (by kernel_rfl) (fun _ _ _ h => h) (Or.inl ⟨by rfl, ?_⟩) hHeld ?_ ?_
              rotate_left
              · (rintro w' ⟨s0, s1, s2, s3, s4, s5, s6⟩; go_simp; with_reducible rfl)
              rotate_left
              · (simp only [Act.put, List.setIfInBounds_toArray, List.set_cons_zero, List.set_cons_succ]; rfl)
              refine stepEi 7 (N := some 65) rfl rfl (by kernel_rfl) (by decide) (fun K hK => ?_)
              refine goes_ Try.func105 (by kernel_rfl) rfl #[.agg #[.int .i64 n, .bool b, .slice A l.length c], .agg #[.int .i64 x.f0, .bool x.f1]] (by rfl) rfl rfl (by (try simp only [List.map_toArray, List.map_cons, List.map_nil]); rfl) ?_
              refine (rto_walk n b A c l x _ (Kd.C_below HR.out HI9.out.low) HX.out.1.1 HX.out.1.2).mono ?_
              rintro e w5 ⟨rfl, hb⟩
              refine ⟨_, rfl, ?_⟩
              have HI9' := Lib.hid (HI9.out.below hb)
              refine hK.out _ _ ⟨pw_cell_below hb hHeld.1, pw_cell_below hb hHeld.2.1, pw_cell_below hb hHeld.2.2.1, pw_cell_below hb hHeld.2.2.2.1, pw_cell_below hb hHeld.2.2.2.2.1, pw_cell_below hb hHeld.2.2.2.2.2.1, pw_cell_below hb hHeld.2.2.2.2.2.2⟩ (fun hH2 => ?_)
              clear hK K hHeld hb HI9
              have HI9 := HI9'
              have hHeld := hH2
              clear HI9' hH2
              refine norm_ (a' := ?_) ?_ ?_
              rotate_left
              · (show Act.put _ (some 65) _ = _; simp only [Act.put, List.setIfInBounds_toArray, List.set_cons_zero, List.set_cons_succ]; rfl)
              refine stepEi 8 (N := some 66) rfl rfl (by kernel_rfl) (by decide) (fun K hK => ?_)
              refine value_ (w1 := ?_) (v := ?_) (by rfl) rfl ?_ ?_
              rotate_left 2
              · go_simp
                constructor
                · rfl
                · rfl
              have hb := below_alloc (Below.refl w5.heap.size w5) (.cells #[.int .i64 (tgt l x)] 3 (0, 0))
              refine hK.out _ _ ⟨pw_cell_below hb hHeld.1, pw_cell_below hb hHeld.2.1, pw_cell_below hb hHeld.2.2.1, pw_cell_below hb hHeld.2.2.2.1, pw_cell_below hb hHeld.2.2.2.2.1, pw_cell_below hb hHeld.2.2.2.2.2.1, pw_cell_below hb hHeld.2.2.2.2.2.2⟩ (fun hH2 => ?_)
              clear hK K hHeld hb hH2
              refine norm_ (a' := ?_) ?_ ?_
              rotate_left
              · (show Act.put _ (some 66) _ = _; simp only [Act.put, List.setIfInBounds_toArray, List.set_cons_zero, List.set_cons_succ]; rfl)
              refine stepLi 9 (N := some 67) rfl rfl (by kernel_rfl) (by decide) (fun K hK => ?_)
              (repeat rw [drew_of_alloc])
              refine Kd.R_append_step (Kd.int .i64) (w0 := w) w.heap.size (by rfl) (.tmp 59) (.tmp 66) 69 3 (.int .i64 0) 8 (by rfl) Try.underlying69 infoInt rfl (by decide) (by decide) (.slice (some ae) N.length c1) N (tgt l x) [.int .i64 (tgt l x)] (fun _ => True) (fun _ => False) (by rfl) (by rfl) rfl (fun _ hk => hk.elim) (fun _ _ => trivial) ?aO ?aB ?aS (by omega) ?_
              case aO => exact HI9.out.r1
              case aB => exact HI9.out.low
              case aS => exact HI9.out.low.size
              intro v1 w7 ho hb hg hat
              obtain ⟨A1n, c1n, e9⟩ := Kd.R_slice ho
              rw [show (N ++ [tgt l x]).length = N.length + 1 by rw [List.length_append]; rfl] at e9
              subst e9
              have HJ := Lib.hid (HI9.out.add1 ho hb hg)
              have z0 : w7.cell? ⟨gx, 0, none⟩ = some (.slice (some ae) N.length c1) := (blk_cell (blk_grown HI9.out.bx hg (Kd.R_ne HI9.out.r1 HI9.out.bx (by decide))) 0).trans rfl
              have z2 : w7.frozen? ⟨gx, 0, none⟩ = false := blk_frozen (blk_grown HI9.out.bx hg (Kd.R_ne HI9.out.r1 HI9.out.bx (by decide))) 0
              clear ho hb hg hat HI9
              refine hK.out _ _ ?_
              clear hK K
              refine norm_ (a' := ?_) ?_ ?_
              rotate_left
              · (show Act.put _ (some 67) _ = _; simp only [Act.put, List.setIfInBounds_toArray, List.set_cons_zero, List.set_cons_succ]; rfl)
              refine stepPi 10 (N := some _) (v := ?_) (a' := ?_) rfl rfl (by kernel_rfl) (fun _ _ _ h => h) (Or.inl ⟨by rfl, ?_⟩) ?_ ?_
              rotate_left
              · (intro w'; go_simp; with_reducible rfl)
              rotate_left
              · (simp only [Act.put, List.setIfInBounds_toArray, List.set_cons_zero, List.set_cons_succ]; rfl)
              refine stepLi 11 (N := none) rfl rfl (by kernel_rfl) (by decide) (fun K hK => ?_)
              refine skip_ (w1 := ?_) (by rfl) rfl ?_ ?_
              rotate_left
              · go_simp
                rfl
              refine hK.out _ _ ?_
              clear hK K z0 z2
              generalize w7.setCell ⟨gx, 0, none⟩ (.slice A1n (N.length + 1) c1n) = w8 at HJ ⊢
              refine done_ (by kernel_rfl) ?_
              go_wp2
              refine stepS (S := fun w' => w'.cell? ⟨w.heap.size, 0, none⟩ = some (.int .i64 n) ∧ w'.cell? ⟨w.heap.size, 1, none⟩ = some (.bool b) ∧ w'.cell? ⟨w.heap.size, 2, none⟩ = some (.slice A l.length c) ∧ w'.cell? (ad.add (j * 2)) = some (.int .i64 x.f0) ∧ w'.cell? ⟨(ad.add (j * 2)).block, (ad.add (j * 2)).off + 1, none⟩ = some (.bool x.f1) ∧ w'.cell? ⟨gx, 0, none⟩ = some (.slice A1n (N.length + 1) c1n) ∧ w'.cell? ⟨gx, 1, none⟩ = some (.slice A2 B.length c2)) (ds := [7, 9]) 10 (by kernel_rfl) rfl (so_cells HL0.out HJ.out.drew (by omega) HXE.out.2) (fun hHeld => ?_)
              have HI9 := Lib.hid HJ.out.drew
              generalize w8.drew = w5 at HI9 hHeld ⊢
              clear HJ
              refine stepPi 0 (N := some _) (v := ?_) (a' := ?_) rfl rfl (by kernel_rfl) (fun _ _ _ h => h) (Or.inl ⟨by rfl, ?_⟩) ?_ ?_
              rotate_left
              · (intro w'; go_simp; with_reducible rfl)
              rotate_left
              · (simp only [Act.put, List.setIfInBounds_toArray, List.set_cons_zero, List.set_cons_succ]; rfl)
              refine stepTi 1 (N := some _) (v := ?_) (a' := ?_) rfl rfl (by kernel_rfl) (fun _ _ _ h => h) (Or.inl ⟨by rfl, ?_⟩) hHeld ?_ ?_
              rotate_left
              · (rintro w' ⟨s0, s1, s2, s3, s4, s5, s6⟩; go_simp; with_reducible rfl)
              rotate_left
              · (simp only [Act.put, List.setIfInBounds_toArray, List.set_cons_zero, List.set_cons_succ]; rfl)
              refine stepPi 2 (N := some _) (v := ?_) (a' := ?_) rfl rfl (by kernel_rfl) (fun _ _ _ h => h) (Or.inl ⟨by rfl, ?_⟩) ?_ ?_
              rotate_left
              · (intro w'; go_simp; with_reducible rfl)
              rotate_left
              · (simp only [Act.put, List.setIfInBounds_toArray, List.set_cons_zero, List.set_cons_succ]; rfl)
              refine stepPi 3 (N := some _) (v := ?_) (a' := ?_) rfl rfl (by kernel_rfl) (fun _ _ _ h => h) (Or.inl ⟨by rfl, ?_⟩) ?_ ?_
              rotate_left
              · (intro w'; go_simp; with_reducible rfl)
              rotate_left
              · (simp only [Act.put, List.setIfInBounds_toArray, List.set_cons_zero, List.set_cons_succ]; rfl)
              refine stepPi 4 (N := some _) (v := ?_) (a' := ?_) rfl rfl (by kernel_rfl) (fun _ _ _ h => h) (Or.inl ⟨by rfl, ?_⟩) ?_ ?_
              rotate_left
              · (intro w'; go_simp; with_reducible rfl)
              rotate_left
              · (simp only [Act.put, List.setIfInBounds_toArray, List.set_cons_zero, List.set_cons_succ]; rfl)
              refine stepTi 5 (N := some _) (v := ?_) (a' := ?_) rfl rfl (by kernel_rfl) (fun _ _ _ h => h) (Or.inl ⟨by rfl, ?_⟩) hHeld ?_ ?_
              rotate_left
              · (rintro w' ⟨s0, s1, s2, s3, s4, s5, s6⟩; go_simp; with_reducible rfl)
              rotate_left
              · (simp only [Act.put, List.setIfInBounds_toArray, List.set_cons_zero, List.set_cons_succ]; rfl)
              refine stepEi 6 (N := some 75) rfl rfl (by kernel_rfl) (by decide) (fun K hK => ?_)
              refine value_ (w1 := ?_) (v := ?_) (by rfl) rfl ?_ ?_
              rotate_left 2
              · go_simp
                constructor
                · rfl
                · rfl
              have hb := below_alloc (Below.refl w5.heap.size w5) (.cells #[.int .i64 x.f0, .bool x.f1] 158 (0, 0))
              refine hK.out _ _ ⟨pw_cell_below hb hHeld.1, pw_cell_below hb hHeld.2.1, pw_cell_below hb hHeld.2.2.1, pw_cell_below hb hHeld.2.2.2.1, pw_cell_below hb hHeld.2.2.2.2.1, pw_cell_below hb hHeld.2.2.2.2.2.1, pw_cell_below hb hHeld.2.2.2.2.2.2⟩ (fun hH2 => ?_)
              clear hK K hHeld hb hH2
              refine norm_ (a' := ?_) ?_ ?_
              rotate_left
              · (show Act.put _ (some 75) _ = _; simp only [Act.put, List.setIfInBounds_toArray, List.set_cons_zero, List.set_cons_succ]; rfl)
              refine stepLi 7 (N := some 76) rfl rfl (by kernel_rfl) (by decide) (fun K hK => ?_)
              (repeat rw [drew_of_alloc])
              refine Kd.R_append_step kStep (w0 := w) w.heap.size (by rfl) (.tmp 70) (.tmp 75) 127 158 (.agg #[.int .i64 0, .bool false]) 16 (by rfl) Try.underlying127 info158 rfl (by decide) (by decide) (.slice A2 B.length c2) B x [.int .i64 x.f0, .bool x.f1] (fun _ => True) (fun _ => False) (by rfl) (by rfl) (k158_mkM _ _ _ x) (fun _ hk => hk.elim) (fun _ _ => trivial) ?aO ?aB ?aS (by have := HL.out.2.2.1.len; omega) ?_
              case aO => exact HI9.out.r2
              case aB => exact HI9.out.low
              case aS => exact HI9.out.low.size
              intro v2 w7 ho hb hg hat
              obtain ⟨A2n, c2n, e9⟩ := Kd.R_slice ho
              rw [show (B ++ [x]).length = B.length + 1 by rw [List.length_append]; rfl] at e9
              subst e9
              have HJ2 := Lib.hid (HI9.out.add2 ho hb hg)
              have z0 : w7.cell? ⟨gx, 1, none⟩ = some (.slice A2 B.length c2) := (blk_cell (blk_grown HI9.out.bx hg (Kd.R_ne HI9.out.r2 HI9.out.bx (by decide))) 1).trans rfl
              have z2 : w7.frozen? ⟨gx, 1, none⟩ = false := blk_frozen (blk_grown HI9.out.bx hg (Kd.R_ne HI9.out.r2 HI9.out.bx (by decide))) 1
              clear ho hb hg hat HI9
              refine hK.out _ _ ?_
              clear hK K
              refine norm_ (a' := ?_) ?_ ?_
              rotate_left
              · (show Act.put _ (some 76) _ = _; simp only [Act.put, List.setIfInBounds_toArray, List.set_cons_zero, List.set_cons_succ]; rfl)
              refine stepPi 8 (N := some _) (v := ?_) (a' := ?_) rfl rfl (by kernel_rfl) (fun _ _ _ h => h) (Or.inl ⟨by rfl, ?_⟩) ?_ ?_
              rotate_left
              · (intro w'; go_simp; with_reducible rfl)
              rotate_left
              · (simp only [Act.put, List.setIfInBounds_toArray, List.set_cons_zero, List.set_cons_succ]; rfl)
              refine stepLi 9 (N := none) rfl rfl (by kernel_rfl) (by decide) (fun K hK => ?_)
              refine skip_ (w1 := ?_) (by rfl) rfl ?_ ?_
              rotate_left
              · go_simp
                rfl
              refine hK.out _ _ ?_
              clear hK K z0 z2
              generalize w7.setCell ⟨gx, 1, none⟩ (.slice A2n (B.length + 1) c2n) = w9 at HJ2 ⊢
              refine done_ (by kernel_rfl) ?_
              go_wp2
              have hne : ∀ k : Nat, k < N.length → rd N (k : Int) ≠ tgt l x := by
                rcases HP.out with ⟨_, h⟩ | ⟨k, h, _⟩
                · exact h
                · omega
              have hi9 := HL.out.1
              have hsn := HL.out.2.2.1.snoc HXE.out.1 hi9 HQ.out hne HX.out.2
              have hcl := (HL.out.2.2.2.grow hi9 (tgt l x)).skip (fun _ => List.mem_append_right _ (by rw [← HXE.out.2]; exact List.mem_singleton.2 rfl))
              go_roundg (L.length - (j + 1))
              case measure => omega
              case rel => exact ⟨j + 1, N ++ [tgt l x], B ++ [x], A1n, c1n, A2n, c2n, by omega, by go_num, rfl, Lib.hid ⟨by rw [List.length_append]; omega, by rw [show (N ++ [tgt l x]).length = N.length + 1 by rw [List.length_append]; rfl, show (B ++ [x]).length = B.length + 1 by rw [List.length_append]; rfl]; exact HJ2.out, hsn, hcl⟩⟩
            · go_wp2
              have hmem : tgt l x ∈ N := by
                rcases HP.out with ⟨h, _⟩ | ⟨k, _, h1, h2⟩
                · omega
                · rw [← h2]; exact rd_mem h1
              go_roundg (L.length - (j + 1))
              case measure => omega
              case rel => exact ⟨j + 1, N, B, some ae, c1, A2, c2, by omega, by go_num, rfl, Lib.hid ⟨HL.out.1, HI8.out, HL.out.2.2.1, HL.out.2.2.2.skip (fun _ => by rw [← HXE.out.2]; exact hmem)⟩⟩
          · have q1 : (src l x == rd N (i : Int)) = false := beq_eq_false_iff_ne.2 q
            have q2 : decide (src l x = rd N (i : Int)) = false := decide_eq_false q
            have HQ := Lib.hid q
            clear q
            refine stepPi 11 (N := some _) (v := ?_) (a' := ?_) rfl rfl (by kernel_rfl) (fun _ _ _ h => h) (Or.inl ⟨by rfl, ?_⟩) ?_ ?_
            rotate_left
            · (intro w'; go_simp; with_reducible rfl)
            rotate_left
            · (simp only [Act.put, List.setIfInBounds_toArray, List.set_cons_zero, List.set_cons_succ]; rfl)
            refine stepPi 12 (N := some _) (v := ?_) (a' := ?_) rfl rfl (by kernel_rfl) (fun _ _ _ h => h) (Or.inl ⟨by rfl, ?_⟩) ?_ ?_
            rotate_left
            · (intro w'; go_simp; with_reducible rfl)
            rotate_left
            · (simp only [Act.put, List.setIfInBounds_toArray, List.set_cons_zero, List.set_cons_succ]; rfl)
            refine stepPi 13 (N := some _) (v := undef) (a' := ?_) rfl rfl (by kernel_rfl) (fun _ _ _ h => h) (Or.inr ⟨by rfl, rfl⟩) ?_ ?_
            rotate_left
            · (simp only [Act.put, List.setIfInBounds_toArray, List.set_cons_zero, List.set_cons_succ]; rfl)
            refine stepPi 14 (N := some _) (v := undef) (a' := ?_) rfl rfl (by kernel_rfl) (fun _ _ _ h => h) (Or.inr ⟨by rfl, rfl⟩) ?_ ?_
            rotate_left
            · (simp only [Act.put, List.setIfInBounds_toArray, List.set_cons_zero, List.set_cons_succ]; rfl)
            refine stepPi 15 (N := some _) (v := undef) (a' := ?_) rfl rfl (by kernel_rfl) (fun _ _ _ h => h) (Or.inr ⟨by rfl, rfl⟩) ?_ ?_
            rotate_left
            · (simp only [Act.put, List.setIfInBounds_toArray, List.set_cons_zero, List.set_cons_succ]; rfl)
            refine stepPi 16 (N := some _) (v := undef) (a' := ?_) rfl rfl (by kernel_rfl) (fun _ _ _ h => h) (Or.inr ⟨by rfl, rfl⟩) ?_ ?_
            rotate_left
            · (simp only [Act.put, List.setIfInBounds_toArray, List.set_cons_zero, List.set_cons_succ]; rfl)
            refine stepPi 17 (N := some _) (v := undef) (a' := ?_) rfl rfl (by kernel_rfl) (fun _ _ _ h => h) (Or.inr ⟨by rfl, rfl⟩) ?_ ?_
            rotate_left
            · (simp only [Act.put, List.setIfInBounds_toArray, List.set_cons_zero, List.set_cons_succ]; rfl)
            refine stepPi 18 (N := some _) (v := undef) (a' := ?_) rfl rfl (by kernel_rfl) (fun _ _ _ h => h) (Or.inr ⟨by rfl, rfl⟩) ?_ ?_
            rotate_left
            · (simp only [Act.put, List.setIfInBounds_toArray, List.set_cons_zero, List.set_cons_succ]; rfl)
            refine stepPi 19 (N := some _) (v := undef) (a' := ?_) rfl rfl (by kernel_rfl) (fun _ _ _ h => h) (Or.inr ⟨by rfl, rfl⟩) ?_ ?_
            rotate_left
            · (simp only [Act.put, List.setIfInBounds_toArray, List.set_cons_zero, List.set_cons_succ]; rfl)
            refine stepPi 20 (N := some _) (v := undef) (a' := ?_) rfl rfl (by kernel_rfl) (fun _ _ _ h => h) (Or.inr ⟨by rfl, rfl⟩) ?_ ?_
            rotate_left
            · (simp only [Act.put, List.setIfInBounds_toArray, List.set_cons_zero, List.set_cons_succ]; rfl)
            refine stepPi 21 (N := some _) (v := undef) (a' := ?_) rfl rfl (by kernel_rfl) (fun _ _ _ h => h) (Or.inr ⟨by rfl, rfl⟩) ?_ ?_
            rotate_left
            · (simp only [Act.put, List.setIfInBounds_toArray, List.set_cons_zero, List.set_cons_succ]; rfl)
            refine stepPi 22 (N := some _) (v := ?_) (a' := ?_) rfl rfl (by kernel_rfl) (fun _ _ _ h => h) (Or.inl ⟨by rfl, ?_⟩) ?_ ?_
            rotate_left
            · (intro w'; go_simp; with_reducible rfl)
            rotate_left
            · (simp only [Act.put, List.setIfInBounds_toArray, List.set_cons_zero, List.set_cons_succ]; rfl)
            refine done_ (by kernel_rfl) ?_
            go_wp2
            go_roundg (L.length - (j + 1))
            case measure => omega
            case rel => exact ⟨j + 1, N, B, some ae, c1, A2, c2, by omega, by go_num, rfl, Lib.hid ⟨HL.out.1, HI9.out, HL.out.2.2.1, HL.out.2.2.2.skip (fun e => absurd (by rw [← HXE.out.2] at e; exact e) HQ.out)⟩⟩
        · go_wp2
          have e : j = L.length := by omega
          have hd := HD.out
          go_roundg (M - (i + 1))
          case measure => omega
          case rel => exact ⟨i + 1, N, B, A1, c1, A2, c2, HL.out.1, by rw [wrap1 i (by omega)], rfl, Lib.hid ⟨HL.out.2.1, HL.out.2.2.1, Cl.next (by rw [← e]; exact HL.out.2.2.2)⟩⟩
    · have e : i = N.length := by omega
      have d1' : ¬ (i : Int) < (N.length : Int) := by omega
      have HE := Lib.hid e
      clear e
      have x1 : wr.cell? ⟨gx, 1, none⟩ = some (.slice A2 B.length c2) := (blk_cell HL.out.1.bx 1).trans rfl
      have z0 : wr.cell? ⟨w.heap.size + 1, 0, none⟩ = some (.slice none 0 0) := (blk_cell HL.out.1.br 0).trans rfl
      have z1 : wr.cell? ⟨w.heap.size + 1, 1, none⟩ = some (.slice none 0 0) := (blk_cell HL.out.1.br 1).trans rfl
      have z2 : wr.frozen? ⟨w.heap.size + 1, 0, none⟩ = false := blk_frozen HL.out.1.br 0
      have z3 : wr.frozen? ⟨w.heap.size + 1, 1, none⟩ = false := blk_frozen HL.out.1.br 1
      go_wp2
      refine bodyPost_ret (results_cell_row rfl _ _ (w.heap.size + 1) 154 #[.slice A1 N.length c1, .slice A2 B.length c2] (0, 0) _ rfl (blk_put (cs := #[.slice A1 N.length c1, .slice none 0 0]) (blk_put (cs := #[.slice none 0 0, .slice none 0 0]) HL.out.1.br 0 _ rfl) 1 _ rfl) hu3 rfl (by kernel_rfl)) rfl ?_
      have hbr := HL.out.1.br
      have g1 := Kd.R_mono (Kd.R_far (p := ⟨w.heap.size + 1, 1, none⟩) (Kd.R_far (p := ⟨w.heap.size + 1, 0, none⟩) (Kd.R_types HL.out.1.r1 hbr (by decide)) (fun _ hk => hk.2) (.slice A1 N.length c1)) (fun _ hk => hk.2) (.slice A2 B.length c2)) (ok' := fun _ => True) (fun _ _ => trivial)
      have g2 := Kd.R_mono (Kd.R_far (p := ⟨w.heap.size + 1, 1, none⟩) (Kd.R_far (p := ⟨w.heap.size + 1, 0, none⟩) (Kd.R_types HL.out.1.r2 hbr (by decide)) (fun _ hk => hk.2) (.slice A1 N.length c1)) (fun _ hk => hk.2) (.slice A2 B.length c2)) (ok' := fun _ => True) (fun _ _ => trivial)
      exact ⟨N, B, A1, c1, A2, c2, rfl, g1, g2, HL.out.2.1, by have := HL.out.2.2; rw [HE.out] at this; exact this, below_set (below_set HL.out.1.low (by omega)) (by omega)⟩
end Go.Proofs.Ytcgdloldkcmhnaa.H
end
section
namespace Go.Proofs.Ytcgdloldkcmhnaa.H
open Go Go.RowKit Go.Proofs.Ytcgdloldkcmhnaa.PrintC Go.Proofs.YtcgdloldkcmhnaaW.PrintWords Go.Proofs.YtcgdloldkcmhnaaW.PrintLast Go.Proofs.YtcgdloldkcmhnaaW.PrintMore Go.Proofs.Ytcgdloldkcmhnaa.Flow
set_option linter.unusedVariables false
set_option linter.unusedSimpArgs false
def WayP (l : List Arc) (L : List Stp) (s t : Int) (d : Int → Int) (way : List Stp) : Prop := (∀ x, x ∈ way → x ∈ L ∧ d (tgt l x) = d (src l x) + 1) ∧ Chain (frOf l) (toOf l) s (way.map toSt) t
def NoWay (l : List Arc) (L : List Stp) (M : Nat) (s t : Int) : Prop := ∃ N : List Int, s ∈ N ∧ t ∉ N ∧ ∀ x, x ∈ L → src l x ∈ N → tgt l x ∈ N
def WayAt (l : List Arc) (L : List Stp) (M : Nat) (s t : Int) (w : World) (e : Ending) (w' : World) : Prop := Below w.heap.size w w' ∧
  ((e = .returned (.tuple #[.slice none 0 0, .bool false]) ∧ NoWay l L M s t) ∨
   ∃ (way : List Stp) (A1 : Option Addr) (c1 : Nat) (d : Int → Int), e = .returned (.tuple #[.slice A1 way.length c1, .bool true]) ∧ Kd.R kStep 158 w' w.heap.size (fun _ => True) (.slice A1 way.length c1) way ∧ WayP l L s t d way ∧ way.length ≤ M)
theorem rd_inj {N : List Int} (h : N.Nodup) {i j : Nat} (hi : i < N.length) (hj : j < N.length) (e : rd N (i : Int) = rd N (j : Int)) : i = j := by
  rw [rd_get hi, rd_get hj] at e
  have hp := List.pairwise_iff_getElem.1 h
  rcases Nat.lt_trichotomy i j with g | g | g
  · exact absurd e (hp i j hi hj g)
  · exact g
  · exact absurd e.symm (hp j i hj hi g)
theorem noway_of {l : List Arc} {L : List Stp} {M : Nat} {s t : Int} {N : List Int} {B : List Stp} (h : Sg l L M s N B) (hc : Cl l L N N.length 0) (ht : ∀ j : Nat, j < N.length → rd N (j : Int) ≠ t) : NoWay l L M s t :=
  ⟨N, by have := rd_mem (N := N) (j := 0) h.pos; rwa [show ((0 : Nat) : Int) = 0 from rfl, h.hd] at this, fun hm => by
    obtain ⟨j, hj, e⟩ := mem_rd hm
    exact ht j hj e, fun x hx hm => by
    obtain ⟨j, hj, e⟩ := mem_rd hm
    exact hc.1 j hj x hx e.symm⟩
theorem chain_front {l : List Arc} {x : Stp} {W : List Stp} {v t : Int} (h0 : 0 ≤ x.f0) (h1 : tgt l x = v) (h : Chain (frOf l) (toOf l) v (W.reverse.map toSt) t) : Chain (frOf l) (toOf l) (src l x) ((W ++ [x]).reverse.map toSt) t := by
  rw [List.reverse_append]
  show Chain (frOf l) (toOf l) (src l x) (toSt x :: W.reverse.map toSt) t
  exact ⟨src_st x h0, by rw [tgt_st x h0, h1]; exact h⟩
theorem twoOk {md : Region.Mode} {ops : Array Oper} {i j : Nat} {l : Array Bool} (h : (Region.ready md ops l == [i, j]) = true) : (Region.ready md ops l == [i, j] && l.setIfInBounds i true == l.setIfInBounds i true && l.setIfInBounds j true == l.setIfInBounds j true) = true := by
  rw [h]
  simp
structure WaI (w : World) (gf : Nat) (cn : Array Value) (N : List Int) (B : List Stp) (A1 : Option Addr) (c1 : Nat) (A2 : Option Addr) (c2 : Nat) (W : World) : Prop where
  bn : W.heap[w.heap.size]? = some (.cells cn 32 (0, 0))
  bf : W.heap[gf]? = some (.cells #[.slice A1 N.length c1, .slice A2 B.length c2] 154 (0, 0))
  r1 : Kd.R (Kd.int .i64) 3 W w.heap.size (fun k => k < gf) (.slice A1 N.length c1) N
  r2 : Kd.R kStep 158 W w.heap.size (fun k => k < gf) (.slice A2 B.length c2) B
  ge : w.heap.size < gf
  low : Below w.heap.size w W
  lt : gf < W.heap.size
section
variable {w W W1 : World} {gf : Nat} {cn : Array Value} {N : List Int} {B : List Stp} {A1 : Option Addr} {c1 : Nat} {A2 : Option Addr} {c2 : Nat}
theorem WaI.below (h : WaI w gf cn N B A1 c1 A2 c2 W) (hb : Below W.heap.size W W1) : WaI w gf cn N B A1 c1 A2 c2 W1 := ⟨blk_below h.bn hb, blk_below h.bf hb, Kd.R_below h.r1 hb, Kd.R_below h.r2 hb, h.ge, below_step h.low hb, Nat.lt_of_lt_of_le h.lt hb.size⟩
theorem WaI.start {w1 w2 : World} (hx : w1.heap[w.heap.size]? = some (.cells cn 32 (0, 0))) (hb1 : Below w.heap.size w w1) (hr1 : Kd.R (Kd.int .i64) 3 w2 w1.heap.size (fun _ => True) (.slice A1 N.length c1) N) (hr2 : Kd.R kStep 158 w2 w1.heap.size (fun _ => True) (.slice A2 B.length c2) B) (hb : Below w1.heap.size w1 w2) :
    WaI w w2.heap.size cn N B A1 c1 A2 c2 (w2.alloc (.cells #[.slice A1 N.length c1, .slice A2 B.length c2] 154)) where
  bn := blk_alloc (blk_below hx hb) _
  bf := heap_alloc_new _ _
  r1 := Kd.R_alloc (Kd.R_lower (Kd.R_mono (Kd.R_bound hr1) (fun k hk => hk.2.2.1)) hb1.size) _
  r2 := Kd.R_alloc (Kd.R_lower (Kd.R_mono (Kd.R_bound hr2) (fun k hk => hk.2.2.1)) hb1.size) _
  ge := Nat.lt_of_lt_of_le (blk_lt hx) hb.size
  low := below_alloc (below_step hb1 hb) _
  lt := by rw [alloc_size]; omega
theorem WaI.drew (h : WaI w gf cn N B A1 c1 A2 c2 W) : WaI w gf cn N B A1 c1 A2 c2 W.drew := ⟨blk_drew h.bn, blk_drew h.bf, Kd.R_drew h.r1, Kd.R_drew h.r2, h.ge, below_drew1 h.low, h.lt⟩
theorem WaI.grown (h : WaI w gf cn N B A1 c1 A2 c2 W) {row : Option Nat} (hg : W.grownBy W1 row) (hr : ∀ k, row = some k → gf < k) (hb : Below w.heap.size w W1) : WaI w gf cn N B A1 c1 A2 c2 W1 :=
  ⟨blk_grown h.bn hg (fun e => by have := hr _ e.symm; have := h.ge; omega), blk_grown h.bf hg (fun e => by have := hr _ e.symm; omega), Kd.R_grown h.r1 hg (fun k hk e => by have := hr _ e.symm; omega), Kd.R_grown h.r2 hg (fun k hk e => by have := hr _ e.symm; omega), h.ge, hb, Nat.lt_of_lt_of_le h.lt hg.size⟩
theorem WaI.set (h : WaI w gf cn N B A1 c1 A2 c2 W) {p : Addr} (hp : gf < p.block) (v : Value) : WaI w gf cn N B A1 c1 A2 c2 (W.setCell p v) :=
  ⟨blk_far h.bn (by have := h.ge; omega) v, blk_far h.bf (by omega) v, Kd.R_far h.r1 (fun k hk => by omega) v, Kd.R_far h.r2 (fun k hk => by omega) v, h.ge, h.low.setCell (by have := h.ge; omega) v, by rw [show (W.setCell p v).heap.size = W.heap.size from by simp]; exact h.lt⟩
end
set_option maxHeartbeats 4000000 in
set_option maxRecDepth 100000 in
theorem way_walk (n : Int) (b : Bool) (A : Option Addr) (c : Nat) (l : List Arc) (s t : Int) (As : Option Addr) (cs : Nat) (L : List Stp) (M : Nat) (w : World) (hr : Kd.C k79 w A l.length l) (hL : Kd.C kStep w As L.length L)
    (hin : ∀ x, x ∈ L → (0 ≤ x.f0 ∧ x.f0 < (l.length : Int)) ∧ 0 ≤ tgt l x ∧ tgt l x < M) (h0 : 0 ≤ s) (h1 : s < M) (hm : M ≤ 10000) (hl : L.length ≤ 400000) :
    Calls Try.prog 71 #[.agg #[.int .i64 n, .bool b, .slice A l.length c], .int .i64 s, .int .i64 t, .slice As L.length cs] w (WayAt l L M s t w) := by
  have hu := Try.underlying32
  have hu2 := Try.underlying158
  have hu3 := Try.underlying154
  have HR := Lib.hid hr
  have HIN := Lib.hid hin
  have HSO : Hid (∀ W, Below w.heap.size w W → Calls Try.prog 93 #[.agg #[.int .i64 n, .bool b, .slice A l.length c], .int .i64 s, .slice As L.length cs] W (SoughtAt l L M s W)) := Lib.hid (fun W hW => sought_walk n b A c l s As cs L M W (Kd.C_below hr hW) (Kd.C_below hL hW) hin h0 h1 hm hl)
  clear hr hL hin h0 h1 hl
  go_enter Try.func71, Try.ntmps71
  obtain ⟨w1, hw1⟩ : ∃ w1, w1 = w.alloc (.cells #[.int .i64 n, .bool b, .slice A l.length c] 32) := ⟨_, rfl⟩
  have HB1 : Hid (Below w.heap.size w w1) := Lib.hid (by rw [hw1]; exact below_alloc (Below.refl _ _) _)
  have HX1 : Hid (w1.heap[w.heap.size]? = some (.cells #[.int .i64 n, .bool b, .slice A l.length c] 32 (0, 0))) := Lib.hid (by rw [hw1]; exact heap_alloc_new _ _)
  go_wp2_with (first
    | (go_at_call 93; go_loud ((rw [← hw1]; refine (HSO.out _ HB1.out).mono ?_; rintro e w2 ⟨N, B, A1, c1, A2, c2, rfl, hr1, hr2, hsg, hcl, hb⟩; have HN := Lib.hid (And.intro hsg hcl); have HI : Hid (WaI w w2.heap.size #[.int .i64 n, .bool b, .slice A l.length c] N B A1 c1 A2 c2 (w2.alloc (.cells #[.slice A1 N.length c1, .slice A2 B.length c2] 154))) := Lib.hid (WaI.start HX1.out HB1.out hr1 hr2 hb); clear hr1 hr2 hsg hcl hb)))
    | (go_at_call 94; go_loud ((refine (rhas_walk A1 c1 N (.slice A2 B.length c2) A2 B.length c2 rfl t _ (Kd.R_reads' HI.out.r1).2.2 (by have := HN.out.1.le; omega)).mono ?_; rintro e w3 ⟨r, rfl, hP, hb⟩; have HI3 := Lib.hid (HI.out.below hb); have HP := Lib.hid hP; clear hP hb HI; have r9 : -1 ≤ r ∧ r ≤ 1000000 := (by have h9 := HN.out.1.le; rcases HP.out with ⟨h, _⟩ | ⟨k, h, h2, _⟩ <;> omega)))))
  · have hz : r < 0 := by assumption
    go_ret2
    refine ⟨HI3.out.low, .inl ⟨rfl, noway_of HN.out.1 HN.out.2 ?_⟩⟩
    rcases HP.out with ⟨_, h⟩ | ⟨k, h, _⟩
    · exact h
    · omega
  obtain ⟨j0, hj0, e0⟩ : ∃ j : Nat, j < N.length ∧ rd N (j : Int) = t := by
    rcases HP.out with ⟨h, _⟩ | ⟨k, _, h2, h3⟩
    · omega
    · exact ⟨k, h2, h3⟩
  obtain ⟨d, hd0, hd⟩ := HN.out.1.tree
  have HD := Lib.hid hd
  have HJ0 := Lib.hid (And.intro hj0 e0)
  have hNM := HN.out.1.le
  have HLEN := Lib.hid HN.out.1.len
  have hhd := Lib.hid HN.out.1.hd
  clear hd hd0 hj0 e0
  generalize w2.heap.size = gf at HI3 ⊢
  go_loopg [11, 12] (j0 + 1) (fun k bv vv W => ∃ (j : Nat) (Wy : List Stp) (Ab : Option Addr) (cb : Nat), j < N.length ∧ bv = .slice Ab Wy.length cb ∧ vv = .int .i64 (rd N (j : Int)) ∧ k = j + 1 ∧ Wy.length + j ≤ N.length ∧ Hid (WaI w gf #[.int .i64 n, .bool b, .slice A l.length c] N B A1 c1 A2 c2 W ∧ Kd.R kStep 158 W w.heap.size (fun k => gf < k) (.slice Ab Wy.length cb) Wy ∧ WayP l L (rd N (j : Int)) t d Wy.reverse))
  case atStart => exact ⟨j0, [], none, 0, HJ0.out.1, rfl, by rw [HJ0.out.2], rfl, by have := HJ0.out.1; show 0 + j0 ≤ N.length; omega, Lib.hid ⟨HI3.out, Kd.R_nil _ _ _ _ _, fun x hx => (nomatch hx), HJ0.out.2⟩⟩
  case round =>
    obtain ⟨j, Wy, Ab, cb, hjl, rfl, rfl, rfl, hwl, HL⟩ := hrel
    clear HI3
    by_cases hs : rd N (j : Int) = s
    · have t1 : (rd N (j : Int) == s) = true := beq_iff_eq.2 hs
      have t2 : (rd N (j : Int) != s) = false := by simpa using hs
      have HS := Lib.hid hs
      clear hs
      have hwn : Wy.length ≤ 1000000 := by omega
      go_wp2
      have HWP := Lib.hid HL.out.2.2
      have HRB := Lib.hid (Kd.R_mono (Kd.R_bound HL.out.2.1) (ok' := fun k => k < wr.heap.size) (fun k hk => hk.2.2.1))
      have HLOW := Lib.hid HL.out.1.low
      obtain ⟨gm, hgm⟩ : ∃ gm, gm = wr.heap.size := ⟨_, rfl⟩
      rw [← hgm] at HRB
      have HGM := Lib.hid (Nat.le_of_eq hgm)
      clear hgm
      go_loopg [14, 15] (Wy.length + 1) (fun k ov iv W => ∃ (m : Nat) (Ao : Option Addr) (co : Nat), m ≤ Wy.length ∧ ov = .slice Ao m co ∧ iv = .int .i64 ((Wy.length : Int) - 1 - m) ∧ k = Wy.length + 1 - m ∧ Hid (Kd.R kStep 158 W w.heap.size (fun k => k < gm) (.slice Ab Wy.length cb) Wy ∧ Kd.R kStep 158 W w.heap.size (fun k => gm ≤ k) (.slice Ao m co) (Wy.reverse.take m) ∧ gm ≤ W.heap.size ∧ Below w.heap.size w W))
      case atStart => exact ⟨0, none, 0, Nat.zero_le _, rfl, by first | rfl | go_num | simp, rfl, Lib.hid ⟨HRB.out, Kd.R_nil _ _ _ _ _, HGM.out, HLOW.out⟩⟩
      case round =>
        clear HL HRB HLOW HGM
        obtain ⟨m, Ao, co, hmW, rfl, rfl, rfl, HL⟩ := hrel
        by_cases hmw : m < Wy.length
        · obtain ⟨q, hq⟩ : ∃ q : Nat, q = Wy.length - 1 - m := ⟨_, rfl⟩
          have hq2 : (Wy.length : Int) - 1 - m = (q : Int) := by omega
          have hqw : q < Wy.length := by omega
          rw [hq2]
          have q0 : (0 : Int) ≤ (q : Int) := by omega
          have q1 : (q : Int) < (Wy.length : Int) := by omega
          obtain ⟨ad, ea, y0, y1⟩ := at_T158 (Kd.R_reads' HL.out.1).2.2 (q : Int) q0 q1
          subst ea
          rw [Int.toNat_natCast] at y0 y1
          obtain ⟨x, hx⟩ : ∃ x, x = stAt Wy q := ⟨_, rfl⟩
          have hx0 : (rd_T158 Wy (q : Int)) = x := by rw [hx]; unfold rd_T158 stAt; rw [Int.toNat_natCast]; rfl
          rw [hx0] at y0 y1
          have HXR : Hid (Wy.reverse.take m ++ [x] = Wy.reverse.take (m + 1)) := Lib.hid (by
            rw [take_pushS (by rw [List.length_reverse]; exact hmw), hx]
            congr 2
            unfold stAt
            rw [List.getD_eq_getElem?_getD, List.getD_eq_getElem?_getD, List.getElem?_eq_getElem hqw, List.getElem?_eq_getElem (by rw [List.length_reverse]; exact hmw), List.getElem_reverse]
            simp only [hq])
          have HQ2 := Lib.hid (And.intro hq hq2)
          clear hx hx0 hq hq2
          go_wp2_with ((with_reducible refine gate_dst (N := 55) rfl ?_); go_loud (refine Kd.R_append kStep (w0 := w) w.heap.size rfl (.tmp 49) (.tmp 54) 127 158 (.agg #[.int .i64 0, .bool false]) 16 rfl Try.underlying127 info158 rfl (by decide) (by decide) (.slice Ao m co) (Wy.reverse.take m) x [.int .i64 x.f0, .bool x.f1] (fun k => gm ≤ k) (fun _ => False) rfl ?aX ?aP (fun _ hk => hk.elim) ?aF ?aO ?aB ?aS ?aL ?_); (case aX => first | rfl | (simp; done) | (simp; rfl)); (case aP => exact k158_mkM _ _ _ x); (case aF => exact fun k hk => Nat.le_trans HL.out.2.2.1 hk); (case aO => exact HL.out.2.1); (case aB => exact HL.out.2.2.2); (case aS => exact HL.out.2.2.2.size); (case aL => rw [List.length_take, List.length_reverse]; omega); go_loud ((intro v1 w9 ho hb hg hat; rw [HXR.out] at ho; obtain ⟨Aon, con, e9⟩ := Kd.R_slice ho; rw [show (Wy.reverse.take (m + 1)).length = m + 1 by rw [List.length_take, List.length_reverse]; omega] at e9; subst e9; have HN9 := Lib.hid (And.intro (Kd.R_grown HL.out.1 hg (fun k hk e => by have := HL.out.2.1.1 _ e.symm; omega)) (And.intro ho (And.intro (Nat.le_trans HL.out.2.2.1 hg.size) hb))); clear ho hb hg hat y0 y1)))
          have hq3 := HQ2.out
          go_roundg (Wy.length + 1 - (m + 1))
          case measure => omega
          case rel => exact ⟨m + 1, Aon, con, by omega, by go_num, by first | (congr 1; omega) | (rw [show (Wy.length : Int) - 1 - ((m + 1 : Nat) : Int) = (q : Int) - 1 by omega]; done) | (rw [show (Wy.length : Int) - 1 - ((m + 1 : Nat) : Int) = (q : Int) - 1 by omega]; go_num), rfl, HN9⟩
        · have hm9 : m = Wy.length := by omega
          have hq2 : (Wy.length : Int) - 1 - m = -1 := by omega
          rw [hq2]
          have HM9 := Lib.hid hm9
          clear hm9 hq2
          go_wp2
          go_ret2
          have hm9 := HM9.out
          have hlr : (Wy.reverse).length = m := by rw [List.length_reverse, hm9]
          have htk : Wy.reverse.take m = Wy.reverse := List.take_of_length_le (by omega)
          have hr9 := HL.out.2.1
          rw [htk] at hr9
          exact ⟨HL.out.2.2.2, .inr ⟨Wy.reverse, Ao, co, d, by rw [hlr]; rfl, by rw [hlr]; exact Kd.R_mono hr9 (fun _ _ => trivial), by rw [← HS.out]; exact HWP.out, by omega⟩⟩
    · have t1 : (rd N (j : Int) == s) = false := beq_eq_false_iff_ne.2 hs
      have t2 : (rd N (j : Int) != s) = true := bne_iff_ne.2 hs
      have hj1 : 0 < j := by
        rcases Nat.eq_zero_or_pos j with h | h
        · rw [h] at hs
          exact absurd hhd.out hs
        · exact h
      obtain ⟨hxL, hxt, i', hi', hxs, hxd⟩ := HD.out j hj1 hjl
      obtain ⟨x, hx⟩ : ∃ x, x = stAt B j := ⟨_, rfl⟩
      rw [← hx] at hxL hxt hxs
      have HX := Lib.hid (And.intro hxL (And.intro hxt (And.intro hi' (And.intro hxs hxd))))
      have HXB := Lib.hid (HIN.out x hxL)
      clear hs hxL hxt hi' hxs hxd
      go_wp2
      obtain ⟨ad, ea, y0, y1⟩ := at_T158 (Kd.C_drew (Kd.R_reads' HL.out.1.r2).2.2) (j : Int) (by omega) (by have := HLEN.out; omega)
      subst ea
      rw [Int.toNat_natCast] at y0 y1
      have hx0 : (rd_T158 B (j : Int)) = x := by rw [hx]; unfold rd_T158 stAt; rw [Int.toNat_natCast]; rfl
      rw [hx0] at y0 y1
      clear hx hx0
      have x0 : wr.drew.cell? ⟨gf, 0, none⟩ = some (.slice A1 N.length c1) := (blk_cell (blk_drew HL.out.1.bf) 0).trans rfl
      have x1 : wr.drew.cell? ⟨gf, 1, none⟩ = some (.slice (some ad) B.length c2) := (blk_cell (blk_drew HL.out.1.bf) 1).trans rfl
      have jb : (0 : Int) ≤ (j : Int) := by omega
      have jb2 : (j : Int) < (B.length : Int) := by have := HLEN.out; omega
      refine stepS (S := fun w' => w'.cell? ⟨gf, 0, none⟩ = some (.slice A1 N.length c1) ∧ w'.cell? ⟨gf, 1, none⟩ = some (.slice (some ad) B.length c2) ∧ w'.cell? (ad.add (j * 2)) = some (.int .i64 x.f0) ∧ w'.cell? ⟨(ad.add (j * 2)).block, (ad.add (j * 2)).off + 1, none⟩ = some (.bool x.f1)) (ds := [8]) 9 (by kernel_rfl) rfl ⟨x0, x1, y0, y1⟩ (fun hHeld => ?_)
      have HI9 := Lib.hid HL.out.1.drew
      have RB9 := Lib.hid (Kd.R_mono (Kd.R_bound (Kd.R_drew HL.out.2.1)) (ok' := fun k => gf < k ∧ k < wr.drew.heap.size) (fun k hk => ⟨hk.1, hk.2.2.1⟩))
      generalize wr.drew = w5 at HI9 RB9 hHeld ⊢
      clear x0 x1 y0 y1
      refine stepPi 0 (N := some _) (v := ?_) (a' := ?_) rfl rfl (by kernel_rfl) (fun _ _ _ h => h) (Or.inl ⟨by rfl, ?_⟩) ?_ ?_
      rotate_left
      · (intro w'; go_simp; with_reducible rfl)
      rotate_left
      · (simp only [Act.put, List.setIfInBounds_toArray, List.set_cons_zero, List.set_cons_succ]; rfl)
      refine stepTi 1 (N := some _) (v := ?_) (a' := ?_) rfl rfl (by kernel_rfl) (fun _ _ _ h => h) (Or.inl ⟨by rfl, ?_⟩) hHeld ?_ ?_
      rotate_left
      · (rintro w' ⟨s0, s1, s2, s3⟩; go_simp; with_reducible rfl)
      rotate_left
      · (simp only [Act.put, List.setIfInBounds_toArray, List.set_cons_zero, List.set_cons_succ]; rfl)
      refine stepTi 2 (N := some _) (v := ?_) (a' := ?_) rfl rfl (by kernel_rfl) (fun _ _ _ h => h) (Or.inl ⟨by rfl, ?_⟩) hHeld ?_ ?_
      rotate_left
      · (rintro w' ⟨s0, s1, s2, s3⟩; go_simp; with_reducible rfl)
      rotate_left
      · (simp only [Act.put, List.setIfInBounds_toArray, List.set_cons_zero, List.set_cons_succ]; rfl)
      refine stepPi 3 (N := some _) (v := ?_) (a' := ?_) rfl rfl (by kernel_rfl) (fun _ _ _ h => h) (Or.inl ⟨by rfl, ?_⟩) ?_ ?_
      rotate_left
      · (intro w'; go_simp; with_reducible rfl)
      rotate_left
      · (simp only [Act.put, List.setIfInBounds_toArray, List.set_cons_zero, List.set_cons_succ]; rfl)
      refine two_ (i := 4) (j := 7) (Ni := some 32) (Nj := some 13) _ _ rfl rfl rfl rfl (twoOk (by kernel_rfl)) (by decide) (by decide) ?_ ?_
      · intro K hK
        refine goes_ Try.func94 (by kernel_rfl) rfl #[.agg #[.slice A1 N.length c1, .slice (some ad) B.length c2], .int .i64 (rd N (j : Int))] (by rfl) rfl rfl (by (try simp only [List.map_toArray, List.map_cons, List.map_nil]); rfl) ?_
        refine (rhas_walk A1 c1 N (.slice (some ad) B.length c2) (some ad) B.length c2 rfl (rd N (j : Int)) _ (Kd.R_reads' HI9.out.r1).2.2 (by have := HLEN.out; omega)).mono ?_
        rintro e w6 ⟨r, rfl, hP, hb⟩
        refine ⟨_, rfl, ?_⟩
        obtain rfl : r = (j : Int) := by
          rcases hP with ⟨_, h⟩ | ⟨k, rfl, h2, h3⟩
          · exact absurd rfl (h j hjl)
          · rw [rd_inj HN.out.1.nd h2 hjl h3]
        clear hP
        have HI8 := Lib.hid (HI9.out.below hb)
        have RB8 := Lib.hid (Kd.R_below RB9.out hb)
        have HS8 := Lib.hid hb.size
        refine hK.out _ _ ⟨pw_cell_below hb hHeld.1, pw_cell_below hb hHeld.2.1, pw_cell_below hb hHeld.2.2.1, pw_cell_below hb hHeld.2.2.2⟩ (fun hH2 => ?_)
        clear hK K hHeld hb HI9 RB9
        have hHeld := hH2
        clear hH2
        refine norm_ (a' := ?_) ?_ ?_
        rotate_left
        · (show Act.put _ (some 32) _ = _; simp only [Act.put, List.setIfInBounds_toArray, List.set_cons_zero, List.set_cons_succ]; rfl)
        refine stepPi 5 (N := some _) (v := ?_) (a' := ?_) rfl rfl (by kernel_rfl) (fun _ _ _ h => h) (Or.inl ⟨by rfl, ?_⟩) ?_ ?_
        rotate_left
        · (intro w'; go_simp; with_reducible rfl)
        rotate_left
        · (simp only [Act.put, List.setIfInBounds_toArray, List.set_cons_zero, List.set_cons_succ]; rfl)
        refine stepTi 6 (N := some _) (v := ?_) (a' := ?_) rfl rfl (by kernel_rfl) (fun _ _ _ h => h) (Or.inl ⟨by rfl, ?_⟩) hHeld ?_ ?_
        rotate_left
        · (rintro w' ⟨s0, s1, s2, s3⟩; go_simp; with_reducible rfl)
        rotate_left
        · (simp only [Act.put, List.setIfInBounds_toArray, List.set_cons_zero, List.set_cons_succ]; rfl)
        refine stepEi 7 (N := some 13) rfl rfl (by kernel_rfl) (by decide) (fun K hK => ?_)
        refine value_ (w1 := ?_) (v := ?_) (by rfl) rfl ?_ ?_
        rotate_left 2
        · go_simp
          constructor
          · rfl
          · rfl
        have hb := below_alloc (Below.refl w6.heap.size w6) (.cells #[.int .i64 0, .bool false] 158 (0, 0))
        refine hK.out _ _ ⟨pw_cell_below hb hHeld.1, pw_cell_below hb hHeld.2.1, pw_cell_below hb hHeld.2.2.1, pw_cell_below hb hHeld.2.2.2⟩ (fun hH2 => ?_)
        have HXZ : Hid ((w6.alloc (.cells #[.int .i64 0, .bool false] 158 (0, 0))).heap[w6.heap.size]? = some (.cells #[.int .i64 0, .bool false] 158 (0, 0))) := Lib.hid (heap_alloc_new _ _)
        have HWZ := Lib.hid (HI8.out.below hb)
        have RBZ := Lib.hid (Kd.R_below RB8.out hb)
        have GG : Hid (gf < w6.heap.size ∧ w5.heap.size ≤ w6.heap.size) := Lib.hid ⟨HI8.out.lt, HS8.out⟩
        clear hK K hHeld hH2 hb HI8 RB8 HS8
        refine norm_ (a' := ?_) ?_ ?_
        rotate_left
        · (show Act.put _ (some 13) _ = _; simp only [Act.put, List.setIfInBounds_toArray, List.set_cons_zero, List.set_cons_succ]; rfl)
        generalize (w6.alloc (.cells #[.int .i64 0, .bool false] 158 (0, 0))) = wz at HXZ HWZ RBZ ⊢
        generalize w6.heap.size = gs at HXZ GG ⊢
        have q0 : wz.cell? ⟨gs, 0, none⟩ = some (.int .i64 0) := (blk_cell HXZ.out 0).trans rfl
        have q1 : wz.cell? ⟨gs, 1, none⟩ = some (.bool false) := (blk_cell HXZ.out 1).trans rfl
        have q2 : wz.frozen? ⟨gs, 0, none⟩ = false := blk_frozen HXZ.out 0
        have q3 : wz.frozen? ⟨gs, 1, none⟩ = false := blk_frozen HXZ.out 1
        refine stepLi 8 (N := none) rfl rfl (by kernel_rfl) (by decide) (fun K hK => ?_)
        refine skip_ (w1 := ?_) (by rfl) rfl ?_ ?_
        rotate_left
        · go_simp
          rfl
        refine hK.out _ _ ?_
        clear hK K q0 q1 q2 q3
        have HW1 := Lib.hid ((HWZ.out.set (p := ⟨gs, 0, none⟩) GG.out.1 (.int .i64 x.f0)).set (p := ⟨gs, 1, none⟩) GG.out.1 (.bool x.f1))
        have HX1 : Hid (((wz.setCell ⟨gs, 0, none⟩ (.int .i64 x.f0)).setCell ⟨gs, 1, none⟩ (.bool x.f1)).heap[gs]? = some (.cells #[.int .i64 x.f0, .bool x.f1] 158 (0, 0))) := Lib.hid (blk_put (cs := #[.int .i64 x.f0, .bool false]) (blk_put (cs := #[.int .i64 0, .bool false]) HXZ.out 0 _ rfl) 1 _ rfl)
        have HRB := Lib.hid (Kd.R_mono (Kd.R_far (p := ⟨gs, 1, none⟩) (Kd.R_far (p := ⟨gs, 0, none⟩) RBZ.out (fun k hk => by have := GG.out.2; have := hk.2; show k ≠ gs; omega) (.int .i64 x.f0)) (fun k hk => by have := GG.out.2; have := hk.2; show k ≠ gs; omega) (.bool x.f1)) (ok' := fun k => gf < k) (fun k hk => hk.1))
        generalize (wz.setCell ⟨gs, 0, none⟩ (.int .i64 x.f0)).setCell ⟨gs, 1, none⟩ (.bool x.f1) = wy at HW1 HX1 HRB ⊢
        have NEQ : Hid (some gs ≠ (Value.slice Ab Wy.length cb).ownBlock) := Lib.hid (fun e => by have := (RBZ.out.1 _ e.symm).2; have := GG.out.2; omega)
        clear HXZ HWZ RBZ
        refine done_ (by kernel_rfl) ?_
        have p0 : wy.cell? ⟨gs, 0, none⟩ = some (.int .i64 x.f0) := (blk_cell HX1.out 0).trans rfl
        have p1 : wy.cell? ⟨gs, 1, none⟩ = some (.bool x.f1) := (blk_cell HX1.out 1).trans rfl
        go_wp2_with (first
          | ((with_reducible refine gate_dst (N := 38) rfl ?_); go_loud (refine Kd.R_append kStep (w0 := w) w.heap.size rfl (.tmp 35) (.tmp 37) 127 158 (.agg #[.int .i64 0, .bool false]) 16 rfl Try.underlying127 info158 rfl (by decide) (by decide) (.slice Ab Wy.length cb) Wy x [.int .i64 x.f0, .bool x.f1] (fun k => gf < k) (fun _ => False) rfl ?aX ?aP (fun _ hk => hk.elim) ?aF ?aO ?aB ?aS ?aL ?_); (case aX => first | rfl | (simp; done) | (simp; rfl)); (case aP => exact k158_mkM _ _ _ x); (case aF => exact fun k hk => by have := HW1.out.lt; omega); (case aO => exact HRB.out); (case aB => exact HW1.out.low); (case aS => exact HW1.out.low.size); (case aL => omega); go_loud ((intro v1 w9 ho hb hg hat; obtain ⟨Abn, cbn, e9⟩ := Kd.R_slice ho; rw [show (Wy ++ [x]).length = Wy.length + 1 by rw [List.length_append]; rfl] at e9; subst e9; have HW2 := Lib.hid (HW1.out.grown hg (fun k hk => HRB.out.1 k hk) hb); have HX2 := Lib.hid (blk_grown HX1.out hg NEQ.out); have HR2 := Lib.hid ho; clear ho hb hg hat HW1 HX1 HRB p0 p1; have p0 : w9.cell? ⟨gs, 0, none⟩ = some (.int .i64 x.f0) := (blk_cell HX2.out 0).trans rfl; have p1 : w9.cell? ⟨gs, 1, none⟩ = some (.bool x.f1) := (blk_cell HX2.out 1).trans rfl; have n0 : w9.cell? ⟨w.heap.size, 0, none⟩ = some (.int .i64 n) := (blk_cell HW2.out.bn 0).trans rfl; have n1 : w9.cell? ⟨w.heap.size, 1, none⟩ = some (.bool b) := (blk_cell HW2.out.bn 1).trans rfl; have n2 : w9.cell? ⟨w.heap.size, 2, none⟩ = some (.slice A l.length c) := (blk_cell HW2.out.bn 2).trans rfl)))
          | (go_at_call 95; go_loud ((refine (rfrom_walk n b A c l x _ (Kd.C_below HR.out HW2.out.low) HXB.out.1.1 HXB.out.1.2).mono ?_; rintro e w10 ⟨rfl, hb⟩; have HW3 := Lib.hid (HW2.out.below hb); have HR3 := Lib.hid (Kd.R_below HR2.out hb); clear hb HW2 HR2 HX2 p0 p1 n0 n1 n2))))
        obtain ⟨hxL, hxt, hi', hxs, hxd⟩ := HX.out
        have el : (Wy ++ [x]).length = Wy.length + 1 := by rw [List.length_append]; rfl
        go_roundg (i' + 1)
        case measure => omega
        case rel => exact ⟨i', Wy ++ [x], Abn, cbn, by omega, by rw [el], by rw [hxs], rfl, by rw [el]; omega, Lib.hid ⟨HW3.out, by rw [el]; exact HR3.out, fun y hy => by
          rcases List.mem_append.1 (List.mem_reverse.1 hy) with h | h
          · exact HL.out.2.2.1 y (List.mem_reverse.2 h)
          · obtain rfl := List.mem_singleton.1 h
            exact ⟨hxL, by rw [hxt, hxs, hxd]⟩, by rw [← hxs]; exact chain_front HXB.out.1.1 hxt HL.out.2.2.2⟩⟩
      · intro K hK
        refine value_ (w1 := ?_) (v := ?_) (by rfl) rfl ?_ ?_
        rotate_left 2
        · go_simp
          constructor
          · rfl
          · rfl
        have hb := below_alloc (Below.refl w5.heap.size w5) (.cells #[.int .i64 0, .bool false] 158 (0, 0))
        refine hK.out _ _ ⟨pw_cell_below hb hHeld.1, pw_cell_below hb hHeld.2.1, pw_cell_below hb hHeld.2.2.1, pw_cell_below hb hHeld.2.2.2⟩ (fun hH2 => ?_)
        have HXZ0 : Hid ((w5.alloc (.cells #[.int .i64 0, .bool false] 158 (0, 0))).heap[w5.heap.size]? = some (.cells #[.int .i64 0, .bool false] 158 (0, 0))) := Lib.hid (heap_alloc_new _ _)
        have HI8 := Lib.hid (HI9.out.below hb)
        have RB8 := Lib.hid (Kd.R_below RB9.out hb)
        have GG : Hid (gf < w5.heap.size ∧ w5.heap.size ≤ w5.heap.size) := Lib.hid ⟨HI9.out.lt, Nat.le_refl _⟩
        clear hK K hHeld hb HI9 RB9
        have HI9 := HI8
        have hHeld := hH2
        clear hH2 HI8
        refine norm_ (a' := ?_) ?_ ?_
        rotate_left
        · (show Act.put _ (some 13) _ = _; simp only [Act.put, List.setIfInBounds_toArray, List.set_cons_zero, List.set_cons_succ]; rfl)
        refine stepEi 4 (N := some 32) rfl rfl (by kernel_rfl) (by decide) (fun K hK => ?_)
        refine goes_ Try.func94 (by kernel_rfl) rfl #[.agg #[.slice A1 N.length c1, .slice (some ad) B.length c2], .int .i64 (rd N (j : Int))] (by rfl) rfl rfl (by (try simp only [List.map_toArray, List.map_cons, List.map_nil]); rfl) ?_
        refine (rhas_walk A1 c1 N (.slice (some ad) B.length c2) (some ad) B.length c2 rfl (rd N (j : Int)) _ (Kd.R_reads' HI9.out.r1).2.2 (by have := HLEN.out; omega)).mono ?_
        rintro e w6 ⟨r, rfl, hP, hb⟩
        refine ⟨_, rfl, ?_⟩
        obtain rfl : r = (j : Int) := by
          rcases hP with ⟨_, h⟩ | ⟨k, rfl, h2, h3⟩
          · exact absurd rfl (h j hjl)
          · rw [rd_inj HN.out.1.nd h2 hjl h3]
        clear hP
        have HWZ := Lib.hid (HI9.out.below hb)
        have RBZ := Lib.hid (Kd.R_below RB8.out hb)
        have HXZ := Lib.hid (blk_below HXZ0.out hb)
        refine hK.out _ _ ⟨pw_cell_below hb hHeld.1, pw_cell_below hb hHeld.2.1, pw_cell_below hb hHeld.2.2.1, pw_cell_below hb hHeld.2.2.2⟩ (fun hH2 => ?_)
        clear hK K hHeld hb HI9 RB8 HXZ0
        have hHeld := hH2
        clear hH2
        refine norm_ (a' := ?_) ?_ ?_
        rotate_left
        · (show Act.put _ (some 32) _ = _; simp only [Act.put, List.setIfInBounds_toArray, List.set_cons_zero, List.set_cons_succ]; rfl)
        refine stepPi 5 (N := some _) (v := ?_) (a' := ?_) rfl rfl (by kernel_rfl) (fun _ _ _ h => h) (Or.inl ⟨by rfl, ?_⟩) ?_ ?_
        rotate_left
        · (intro w'; go_simp; with_reducible rfl)
        rotate_left
        · (simp only [Act.put, List.setIfInBounds_toArray, List.set_cons_zero, List.set_cons_succ]; rfl)
        refine stepTi 6 (N := some _) (v := ?_) (a' := ?_) rfl rfl (by kernel_rfl) (fun _ _ _ h => h) (Or.inl ⟨by rfl, ?_⟩) hHeld ?_ ?_
        rotate_left
        · (rintro w' ⟨s0, s1, s2, s3⟩; go_simp; with_reducible rfl)
        rotate_left
        · (simp only [Act.put, List.setIfInBounds_toArray, List.set_cons_zero, List.set_cons_succ]; rfl)
        generalize w5.heap.size = gs at HXZ GG RBZ ⊢
        have q0 : w6.cell? ⟨gs, 0, none⟩ = some (.int .i64 0) := (blk_cell HXZ.out 0).trans rfl
        have q1 : w6.cell? ⟨gs, 1, none⟩ = some (.bool false) := (blk_cell HXZ.out 1).trans rfl
        have q2 : w6.frozen? ⟨gs, 0, none⟩ = false := blk_frozen HXZ.out 0
        have q3 : w6.frozen? ⟨gs, 1, none⟩ = false := blk_frozen HXZ.out 1
        refine stepLi 8 (N := none) rfl rfl (by kernel_rfl) (by decide) (fun K hK => ?_)
        refine skip_ (w1 := ?_) (by rfl) rfl ?_ ?_
        rotate_left
        · go_simp
          rfl
        refine hK.out _ _ ?_
        clear hK K q0 q1 q2 q3
        have HW1 := Lib.hid ((HWZ.out.set (p := ⟨gs, 0, none⟩) GG.out.1 (.int .i64 x.f0)).set (p := ⟨gs, 1, none⟩) GG.out.1 (.bool x.f1))
        have HX1 : Hid (((w6.setCell ⟨gs, 0, none⟩ (.int .i64 x.f0)).setCell ⟨gs, 1, none⟩ (.bool x.f1)).heap[gs]? = some (.cells #[.int .i64 x.f0, .bool x.f1] 158 (0, 0))) := Lib.hid (blk_put (cs := #[.int .i64 x.f0, .bool false]) (blk_put (cs := #[.int .i64 0, .bool false]) HXZ.out 0 _ rfl) 1 _ rfl)
        have HRB := Lib.hid (Kd.R_mono (Kd.R_far (p := ⟨gs, 1, none⟩) (Kd.R_far (p := ⟨gs, 0, none⟩) RBZ.out (fun k hk => by have := GG.out.2; have := hk.2; show k ≠ gs; omega) (.int .i64 x.f0)) (fun k hk => by have := GG.out.2; have := hk.2; show k ≠ gs; omega) (.bool x.f1)) (ok' := fun k => gf < k) (fun k hk => hk.1))
        generalize (w6.setCell ⟨gs, 0, none⟩ (.int .i64 x.f0)).setCell ⟨gs, 1, none⟩ (.bool x.f1) = wy at HW1 HX1 HRB ⊢
        have NEQ : Hid (some gs ≠ (Value.slice Ab Wy.length cb).ownBlock) := Lib.hid (fun e => by have := (RBZ.out.1 _ e.symm).2; have := GG.out.2; omega)
        clear HXZ HWZ RBZ
        refine done_ (by kernel_rfl) ?_
        have p0 : wy.cell? ⟨gs, 0, none⟩ = some (.int .i64 x.f0) := (blk_cell HX1.out 0).trans rfl
        have p1 : wy.cell? ⟨gs, 1, none⟩ = some (.bool x.f1) := (blk_cell HX1.out 1).trans rfl
        go_wp2_with (first
          | ((with_reducible refine gate_dst (N := 38) rfl ?_); go_loud (refine Kd.R_append kStep (w0 := w) w.heap.size rfl (.tmp 35) (.tmp 37) 127 158 (.agg #[.int .i64 0, .bool false]) 16 rfl Try.underlying127 info158 rfl (by decide) (by decide) (.slice Ab Wy.length cb) Wy x [.int .i64 x.f0, .bool x.f1] (fun k => gf < k) (fun _ => False) rfl ?aX ?aP (fun _ hk => hk.elim) ?aF ?aO ?aB ?aS ?aL ?_); (case aX => first | rfl | (simp; done) | (simp; rfl)); (case aP => exact k158_mkM _ _ _ x); (case aF => exact fun k hk => by have := HW1.out.lt; omega); (case aO => exact HRB.out); (case aB => exact HW1.out.low); (case aS => exact HW1.out.low.size); (case aL => omega); go_loud ((intro v1 w9 ho hb hg hat; obtain ⟨Abn, cbn, e9⟩ := Kd.R_slice ho; rw [show (Wy ++ [x]).length = Wy.length + 1 by rw [List.length_append]; rfl] at e9; subst e9; have HW2 := Lib.hid (HW1.out.grown hg (fun k hk => HRB.out.1 k hk) hb); have HX2 := Lib.hid (blk_grown HX1.out hg NEQ.out); have HR2 := Lib.hid ho; clear ho hb hg hat HW1 HX1 HRB p0 p1; have p0 : w9.cell? ⟨gs, 0, none⟩ = some (.int .i64 x.f0) := (blk_cell HX2.out 0).trans rfl; have p1 : w9.cell? ⟨gs, 1, none⟩ = some (.bool x.f1) := (blk_cell HX2.out 1).trans rfl; have n0 : w9.cell? ⟨w.heap.size, 0, none⟩ = some (.int .i64 n) := (blk_cell HW2.out.bn 0).trans rfl; have n1 : w9.cell? ⟨w.heap.size, 1, none⟩ = some (.bool b) := (blk_cell HW2.out.bn 1).trans rfl; have n2 : w9.cell? ⟨w.heap.size, 2, none⟩ = some (.slice A l.length c) := (blk_cell HW2.out.bn 2).trans rfl)))
          | (go_at_call 95; go_loud ((refine (rfrom_walk n b A c l x _ (Kd.C_below HR.out HW2.out.low) HXB.out.1.1 HXB.out.1.2).mono ?_; rintro e w10 ⟨rfl, hb⟩; have HW3 := Lib.hid (HW2.out.below hb); have HR3 := Lib.hid (Kd.R_below HR2.out hb); clear hb HW2 HR2 HX2 p0 p1 n0 n1 n2))))
        obtain ⟨hxL, hxt, hi', hxs, hxd⟩ := HX.out
        have el : (Wy ++ [x]).length = Wy.length + 1 := by rw [List.length_append]; rfl
        go_roundg (i' + 1)
        case measure => omega
        case rel => exact ⟨i', Wy ++ [x], Abn, cbn, by omega, by rw [el], by rw [hxs], rfl, by rw [el]; omega, Lib.hid ⟨HW3.out, by rw [el]; exact HR3.out, fun y hy => by
          rcases List.mem_append.1 (List.mem_reverse.1 hy) with h | h
          · exact HL.out.2.2.1 y (List.mem_reverse.2 h)
          · obtain rfl := List.mem_singleton.1 h
            exact ⟨hxL, by rw [hxt, hxs, hxd]⟩, by rw [← hxs]; exact chain_front HXB.out.1.1 hxt HL.out.2.2.2⟩⟩
end Go.Proofs.Ytcgdloldkcmhnaa.H
end
section
namespace Go.Proofs.Ytcgdloldkcmhnaa.H
open Go Go.RowKit Go.Proofs.Ytcgdloldkcmhnaa.PrintC Go.Proofs.YtcgdloldkcmhnaaW.PrintWords Go.Proofs.YtcgdloldkcmhnaaW.PrintLast Go.Proofs.YtcgdloldkcmhnaaW.PrintMore Go.Proofs.Ytcgdloldkcmhnaa.Flow
attribute [local go_sem] min2_int
set_option linter.unusedVariables false
set_option linter.unusedSimpArgs false
def BottleAt (l : List Arc) (f : List Int) (way : List Stp) (w : World) (e : Ending) (w' : World) : Prop := ∃ r : Int, e = .returned (.int .i64 r) ∧ (∀ x, x ∈ way → r ≤ rmv l f x) ∧ (∃ x, x ∈ way ∧ r = rmv l f x) ∧ Below w.heap.size w w'
set_option maxHeartbeats 4000000 in
set_option maxRecDepth 100000 in
theorem bottle_walk (M : Nat) (n : Int) (b : Bool) (A : Option Addr) (c : Nat) (l : List Arc) (Af : Option Addr) (cf : Nat) (f : List Int) (Aw : Option Addr) (cw : Nat) (way : List Stp) (w : World) (hn : NetOk M l) (hf : FlowOk l f) (hr : Kd.C k79 w A l.length l) (hF : Kd.C (Kd.int .i64) w Af f.length f) (hW : Kd.C kStep w Aw way.length way) (hin : ∀ x, x ∈ way → 0 ≤ x.f0 ∧ x.f0 < (l.length : Int)) (h0 : 0 < way.length) (hwl : way.length ≤ 1000000) :
    Calls Try.prog 74 #[.agg #[.int .i64 n, .bool b, .slice A l.length c], .slice Af f.length cf, .slice Aw way.length cw] w (BottleAt l f way w) := by
  have hu := Try.underlying32
  have hu2 := Try.underlying158
  have HR := Lib.hid hr
  have HF := Lib.hid hF
  have HWA := Lib.hid hW
  have HIN := Lib.hid hin
  clear hr hF hW hin
  go_enter Try.func74, Try.ntmps74
  obtain ⟨w1, hw1⟩ : ∃ w1, w1 = w.alloc (.cells #[.int .i64 n, .bool b, .slice A l.length c] 32) := ⟨_, rfl⟩
  have HX : Hid (w1.heap[w.heap.size]? = some (.cells #[.int .i64 n, .bool b, .slice A l.length c] 32 (0, 0)) ∧ Below w.heap.size w w1) := Lib.hid (by rw [hw1]; exact ⟨heap_alloc_new _ _, below_alloc (Below.refl _ _) _⟩)
  go_wp2
  rw [← hw1]
  clear hw1
  have h00 : (0 : Int) < (way.length : Int) := by omega
  obtain ⟨ad, ea, y0, y1⟩ := at_T158 (Kd.C_drew (Kd.C_below HWA.out HX.out.2)) 0 (Int.le_refl 0) h00
  subst ea
  obtain ⟨x, hx0⟩ : ∃ x, x = rd_T158 way 0 := ⟨_, rfl⟩
  rw [← hx0] at y0 y1
  have hxm : x ∈ way := by
    rw [hx0]
    unfold rd_T158
    exact getD_mem h0 _
  have hx := HIN.out x hxm
  have HXM := Lib.hid hxm
  have HB9 := Lib.hid (And.intro (blk_drew HX.out.1) (below_drew1 HX.out.2))
  have x0 : w1.drew.cell? ⟨w.heap.size, 0, none⟩ = some (.int .i64 n) := (blk_cell HB9.out.1 0).trans rfl
  have x1 : w1.drew.cell? ⟨w.heap.size, 1, none⟩ = some (.bool b) := (blk_cell HB9.out.1 1).trans rfl
  have x2 : w1.drew.cell? ⟨w.heap.size, 2, none⟩ = some (.slice A l.length c) := (blk_cell HB9.out.1 2).trans rfl
  have HX0 : Hid (stAt way 0 = x) := Lib.hid (by rw [hx0]; rfl)
  clear hx0 hxm
  refine stepS (S := fun w' => w'.cell? ⟨w.heap.size, 0, none⟩ = some (.int .i64 n) ∧ w'.cell? ⟨w.heap.size, 1, none⟩ = some (.bool b) ∧ w'.cell? ⟨w.heap.size, 2, none⟩ = some (.slice A l.length c) ∧ w'.cell? ad = some (.int .i64 x.f0) ∧ w'.cell? ⟨ad.block, ad.off + 1, none⟩ = some (.bool x.f1)) (ds := [5]) 7 (by kernel_rfl) rfl ⟨x0, x1, x2, y0, y1⟩ (fun hHeld => ?_)
  generalize w1.drew = wd at HB9 hHeld ⊢
  clear x0 x1 x2 y0 y1
  refine stepTi 0 (N := some _) (v := ?_) (a' := ?_) rfl rfl (by kernel_rfl) (fun _ _ _ h => h) (Or.inl ⟨by rfl, ?_⟩) hHeld ?_ ?_
  rotate_left
  · (rintro w' ⟨s0, s1, s2, s3, s4⟩; go_simp; with_reducible rfl)
  rotate_left
  · (simp only [Act.put, List.setIfInBounds_toArray, List.set_cons_zero, List.set_cons_succ]; rfl)
  refine stepPi 1 (N := some _) (v := ?_) (a' := ?_) rfl rfl (by kernel_rfl) (fun _ _ _ h => h) (Or.inl ⟨by rfl, ?_⟩) ?_ ?_
  rotate_left
  · (intro w'; go_simp; with_reducible rfl)
  rotate_left
  · (simp only [Act.put, List.setIfInBounds_toArray, List.set_cons_zero, List.set_cons_succ]; rfl)
  refine stepPi 2 (N := some _) (v := ?_) (a' := ?_) rfl rfl (by kernel_rfl) (fun _ _ _ h => h) (Or.inl ⟨by rfl, ?_⟩) ?_ ?_
  rotate_left
  · (intro w'; go_simp; with_reducible rfl)
  rotate_left
  · (simp only [Act.put, List.setIfInBounds_toArray, List.set_cons_zero, List.set_cons_succ]; rfl)
  refine stepPi 3 (N := some _) (v := ?_) (a' := ?_) rfl rfl (by kernel_rfl) (fun _ _ _ h => h) (Or.inl ⟨by rfl, ?_⟩) ?_ ?_
  rotate_left
  · (intro w'; go_simp; with_reducible rfl)
  rotate_left
  · (simp only [Act.put, List.setIfInBounds_toArray, List.set_cons_zero, List.set_cons_succ]; rfl)
  refine stepTi 4 (N := some _) (v := ?_) (a' := ?_) rfl rfl (by kernel_rfl) (fun _ _ _ h => h) (Or.inl ⟨by rfl, ?_⟩) hHeld ?_ ?_
  rotate_left
  · (rintro w' ⟨s0, s1, s2, s3, s4⟩; go_simp; with_reducible rfl)
  rotate_left
  · (simp only [Act.put, List.setIfInBounds_toArray, List.set_cons_zero, List.set_cons_succ]; rfl)
  refine stepLi 5 (N := some 14) rfl rfl (by kernel_rfl) (by decide) (fun K hK => ?_)
  refine goes_ Try.func96 (by kernel_rfl) rfl #[.agg #[.int .i64 n, .bool b, .slice A l.length c], .slice Af f.length cf, .agg #[.int .i64 x.f0, .bool x.f1]] (by rfl) rfl rfl (by (try simp only [List.map_toArray, List.map_cons, List.map_nil]); rfl) ?_
  refine (rleft_walk n b A c l Af cf f x _ (Kd.C_below HR.out HB9.out.2) (Kd.C_below HF.out HB9.out.2) hx.1 hx.2 (by rw [hf.len]; exact hx.2) (room_ok hn hf hx.1 hx.2)).mono ?_
  rintro e w5 ⟨rfl, hb⟩
  refine ⟨_, rfl, ?_⟩
  have HB8 := Lib.hid (And.intro (blk_below HB9.out.1 hb) (below_step HB9.out.2 hb))
  refine hK.out _ _ ?_
  clear hK K hHeld hb HB9
  refine norm_ (a' := ?_) ?_ ?_
  rotate_left
  · (show Act.put _ (some 14) _ = _; simp only [Act.put, List.setIfInBounds_toArray, List.set_cons_zero, List.set_cons_succ]; rfl)
  refine stepPi 6 (N := some _) (v := ?_) (a' := ?_) rfl rfl (by kernel_rfl) (fun _ _ _ h => h) (Or.inl ⟨by rfl, ?_⟩) ?_ ?_
  rotate_left
  · (intro w'; go_simp; with_reducible rfl)
  rotate_left
  · (simp only [Act.put, List.setIfInBounds_toArray, List.set_cons_zero, List.set_cons_succ]; rfl)
  refine done_ (by kernel_rfl) ?_
  go_wp2
  go_loopg [7, 8] (way.length - 1) (fun k kv iv W => ∃ (i : Nat) (z : Int), (1 ≤ i ∧ i ≤ way.length) ∧ kv = .int .i64 z ∧ iv = .int .i64 i ∧ k = way.length - i ∧ (0 ≤ z ∧ z ≤ 1099511627776) ∧ Hid (W.heap[w.heap.size]? = some (.cells #[.int .i64 n, .bool b, .slice A l.length c] 32 (0, 0)) ∧ Below w.heap.size w W ∧ (∀ j : Nat, j < i → z ≤ rmv l f (stAt way j)) ∧ ∃ y, y ∈ way ∧ z = rmv l f y))
  case atStart => exact ⟨1, rmv l f x, ⟨Nat.le_refl _, h0⟩, rfl, rfl, rfl, room_ok hn hf hx.1 hx.2, Lib.hid ⟨HB8.out.1, HB8.out.2, fun j hj => by
    obtain rfl : j = 0 := by omega
    rw [HX0.out]
    exact Int.le_refl _, x, HXM.out, rfl⟩⟩
  case round =>
    clear HB8 HXM HX0 hx
    obtain ⟨i, z, hi, rfl, rfl, rfl, hz, HL⟩ := hrel
    by_cases d1 : i < way.length
    · have i0 : (0 : Int) ≤ (i : Int) := by omega
      have i1 : (i : Int) < (way.length : Int) := by omega
      go_wp2
      obtain ⟨ad2, ea, y0, y1⟩ := at_T158 (Kd.C_drew (Kd.C_below HWA.out HL.out.2.1)) (i : Int) i0 i1
      injection ea with ea
      subst ea
      rw [Int.toNat_natCast] at y0 y1
      obtain ⟨x, hx0⟩ : ∃ x, x = stAt way i := ⟨_, rfl⟩
      have hx1 : (rd_T158 way (i : Int)) = x := by rw [hx0]; unfold rd_T158 stAt; rw [Int.toNat_natCast]; rfl
      rw [hx1] at y0 y1
      have hxm : x ∈ way := by rw [hx0]; exact getD_mem d1 _
      have hx := HIN.out x hxm
      have hrx := room_ok hn hf hx.1 hx.2
      have HXM := Lib.hid (And.intro hxm hx0)
      have HB9 := Lib.hid (And.intro (blk_drew HL.out.1) (below_drew1 HL.out.2.1))
      have x0 : wr.drew.cell? ⟨w.heap.size, 0, none⟩ = some (.int .i64 n) := (blk_cell HB9.out.1 0).trans rfl
      have x1 : wr.drew.cell? ⟨w.heap.size, 1, none⟩ = some (.bool b) := (blk_cell HB9.out.1 1).trans rfl
      have x2 : wr.drew.cell? ⟨w.heap.size, 2, none⟩ = some (.slice A l.length c) := (blk_cell HB9.out.1 2).trans rfl
      clear hx0 hx1 hxm
      refine stepS (S := fun w' => w'.cell? ⟨w.heap.size, 0, none⟩ = some (.int .i64 n) ∧ w'.cell? ⟨w.heap.size, 1, none⟩ = some (.bool b) ∧ w'.cell? ⟨w.heap.size, 2, none⟩ = some (.slice A l.length c) ∧ w'.cell? (ad.add (i * 2)) = some (.int .i64 x.f0) ∧ w'.cell? ⟨(ad.add (i * 2)).block, (ad.add (i * 2)).off + 1, none⟩ = some (.bool x.f1)) (ds := [7]) 10 (by kernel_rfl) rfl ⟨x0, x1, x2, y0, y1⟩ (fun hHeld => ?_)
      generalize wr.drew = wd at HB9 hHeld ⊢
      clear x0 x1 x2 y0 y1
      refine stepPi 0 (N := some _) (v := ?_) (a' := ?_) rfl rfl (by kernel_rfl) (fun _ _ _ h => h) (Or.inl ⟨by rfl, ?_⟩) ?_ ?_
      rotate_left
      · (intro w'; go_simp; with_reducible rfl)
      rotate_left
      · (simp only [Act.put, List.setIfInBounds_toArray, List.set_cons_zero, List.set_cons_succ]; rfl)
      refine stepTi 1 (N := some _) (v := ?_) (a' := ?_) rfl rfl (by kernel_rfl) (fun _ _ _ h => h) (Or.inl ⟨by rfl, ?_⟩) hHeld ?_ ?_
      rotate_left
      · (rintro w' ⟨s0, s1, s2, s3, s4⟩; go_simp; with_reducible rfl)
      rotate_left
      · (simp only [Act.put, List.setIfInBounds_toArray, List.set_cons_zero, List.set_cons_succ]; rfl)
      refine stepPi 2 (N := some _) (v := ?_) (a' := ?_) rfl rfl (by kernel_rfl) (fun _ _ _ h => h) (Or.inl ⟨by rfl, ?_⟩) ?_ ?_
      rotate_left
      · (intro w'; go_simp; with_reducible rfl)
      rotate_left
      · (simp only [Act.put, List.setIfInBounds_toArray, List.set_cons_zero, List.set_cons_succ]; rfl)
      refine stepPi 3 (N := some _) (v := ?_) (a' := ?_) rfl rfl (by kernel_rfl) (fun _ _ _ h => h) (Or.inl ⟨by rfl, ?_⟩) ?_ ?_
      rotate_left
      · (intro w'; go_simp; with_reducible rfl)
      rotate_left
      · (simp only [Act.put, List.setIfInBounds_toArray, List.set_cons_zero, List.set_cons_succ]; rfl)
      refine stepPi 4 (N := some _) (v := ?_) (a' := ?_) rfl rfl (by kernel_rfl) (fun _ _ _ h => h) (Or.inl ⟨by rfl, ?_⟩) ?_ ?_
      rotate_left
      · (intro w'; go_simp; with_reducible rfl)
      rotate_left
      · (simp only [Act.put, List.setIfInBounds_toArray, List.set_cons_zero, List.set_cons_succ]; rfl)
      refine stepPi 5 (N := some _) (v := ?_) (a' := ?_) rfl rfl (by kernel_rfl) (fun _ _ _ h => h) (Or.inl ⟨by rfl, ?_⟩) ?_ ?_
      rotate_left
      · (intro w'; go_simp; with_reducible rfl)
      rotate_left
      · (simp only [Act.put, List.setIfInBounds_toArray, List.set_cons_zero, List.set_cons_succ]; rfl)
      refine stepTi 6 (N := some _) (v := ?_) (a' := ?_) rfl rfl (by kernel_rfl) (fun _ _ _ h => h) (Or.inl ⟨by rfl, ?_⟩) hHeld ?_ ?_
      rotate_left
      · (rintro w' ⟨s0, s1, s2, s3, s4⟩; go_simp; with_reducible rfl)
      rotate_left
      · (simp only [Act.put, List.setIfInBounds_toArray, List.set_cons_zero, List.set_cons_succ]; rfl)
      refine stepLi 7 (N := some 28) rfl rfl (by kernel_rfl) (by decide) (fun K hK => ?_)
      refine goes_ Try.func96 (by kernel_rfl) rfl #[.agg #[.int .i64 n, .bool b, .slice A l.length c], .slice Af f.length cf, .agg #[.int .i64 x.f0, .bool x.f1]] (by rfl) rfl rfl (by (try simp only [List.map_toArray, List.map_cons, List.map_nil]); rfl) ?_
      refine (rleft_walk n b A c l Af cf f x _ (Kd.C_below HR.out HB9.out.2) (Kd.C_below HF.out HB9.out.2) hx.1 hx.2 (by rw [hf.len]; exact hx.2) (room_ok hn hf hx.1 hx.2)).mono ?_
      rintro e w5 ⟨rfl, hb⟩
      refine ⟨_, rfl, ?_⟩
      have HB8 := Lib.hid (And.intro (blk_below HB9.out.1 hb) (below_step HB9.out.2 hb))
      refine hK.out _ _ ?_
      clear hK K hHeld hb HB9
      refine norm_ (a' := ?_) ?_ ?_
      rotate_left
      · (show Act.put _ (some 28) _ = _; simp only [Act.put, List.setIfInBounds_toArray, List.set_cons_zero, List.set_cons_succ]; rfl)
      obtain ⟨rx, hrx9⟩ : ∃ rx, rx = rmv l f x := ⟨_, rfl⟩
      rw [← hrx9] at hrx ⊢
      have HRX := Lib.hid hrx9
      clear hrx9
      refine stepPi 8 (N := some _) (v := ?_) (a' := ?_) rfl rfl (by kernel_rfl) (fun _ _ _ h => h) (Or.inl ⟨by rfl, ?_⟩) ?_ ?_
      rotate_left
      · (intro w'; go_simp; with_reducible rfl)
      rotate_left
      · (simp only [Act.put, List.setIfInBounds_toArray, List.set_cons_zero, List.set_cons_succ]; rfl)
      refine stepPi 9 (N := some _) (v := ?_) (a' := ?_) rfl rfl (by kernel_rfl) (fun _ _ _ h => h) (Or.inl ⟨by rfl, ?_⟩) ?_ ?_
      rotate_left
      · (intro w'; go_simp; with_reducible rfl)
      rotate_left
      · (simp only [Act.put, List.setIfInBounds_toArray, List.set_cons_zero, List.set_cons_succ]; rfl)
      refine done_ (by kernel_rfl) ?_
      go_wp2
      case inl h =>
        go_roundg (way.length - (i + 1))
        case measure => omega
        case rel => exact ⟨i + 1, rx, by omega, rfl, by go_num, by omega, by omega, Lib.hid ⟨HB8.out.1, HB8.out.2, fun j hj => by
          rcases Nat.lt_or_eq_of_le (Nat.le_of_lt_succ hj) with g | rfl
          · have := HL.out.2.2.1 j g
            omega
          · rw [← HXM.out.2, ← HRX.out]
            omega, ⟨x, HXM.out.1, HRX.out⟩⟩⟩
      case inr h =>
        go_roundg (way.length - (i + 1))
        case measure => omega
        case rel => exact ⟨i + 1, z, by omega, rfl, by go_num, by omega, by omega, Lib.hid ⟨HB8.out.1, HB8.out.2, fun j hj => by
          rcases Nat.lt_or_eq_of_le (Nat.le_of_lt_succ hj) with g | rfl
          · have := HL.out.2.2.1 j g
            omega
          · rw [← HXM.out.2, ← HRX.out]
            omega, HL.out.2.2.2⟩⟩
    · have e : i = way.length := by omega
      have d2 : ¬ (i : Int) < (way.length : Int) := by omega
      have HE := Lib.hid e
      clear e
      go_wp2
      go_ret
      exact ⟨z, rfl, fun y hy => by
        obtain ⟨j, hj, e2⟩ := List.mem_iff_getElem.1 hy
        have := HL.out.2.2.1 j (by rw [HE.out]; exact hj)
        unfold stAt at this
        rw [List.getD_eq_getElem?_getD, List.getElem?_eq_getElem hj, e2] at this
        exact this, HL.out.2.2.2, HL.out.2.1⟩
end Go.Proofs.Ytcgdloldkcmhnaa.H
end
section
namespace Go.Proofs.Ytcgdloldkcmhnaa.H
open Go Go.RowKit Go.Proofs.Ytcgdloldkcmhnaa.PrintC Go.Proofs.YtcgdloldkcmhnaaW.PrintWords Go.Proofs.YtcgdloldkcmhnaaW.PrintLast Go.Proofs.YtcgdloldkcmhnaaW.PrintMore Go.Proofs.Ytcgdloldkcmhnaa.Flow
set_option linter.unusedVariables false
set_option linter.unusedSimpArgs false
def PushedAt (g : List Int) (w : World) (e : Ending) (w' : World) : Prop := ∃ (A1 : Option Addr) (c1 : Nat), e = .returned (.slice A1 g.length c1) ∧ Kd.R (Kd.int .i64) 3 w' w.heap.size (fun _ => True) (.slice A1 g.length c1) g ∧ Below w.heap.size w w'
theorem int_elem {W : World} {base g n c : Nat} {ok : Nat → Prop} {f : List Int} (h : Kd.R (Kd.int .i64) 3 W base ok (.slice (some ⟨g, 0, none⟩) n c) f) (a : Int) (h0 : 0 ≤ a) (h1 : a < n) :
    W.cell? ⟨g, a.toNat, none⟩ = some (.int .i64 (rd f a)) ∧ W.frozen? ⟨g, a.toNat, none⟩ = false ∧ ∀ v : Int, Kd.R (Kd.int .i64) 3 (W.setCell ⟨g, a.toNat, none⟩ (.int .i64 v)) base ok (.slice (some ⟨g, 0, none⟩) n c) (f.set a.toNat v) := by
  obtain ⟨ce, hcl, hM, hcc, hfr⟩ := Kd.R_elem h 0 a h0 h1
  obtain rfl : ce = [.int .i64 (f.getD a.toNat 0)] := hM
  have h2 := hcc 0 _ rfl
  have h3 := hfr 0
  simp only [show (Kd.int .i64).sz = 1 from rfl, Nat.mul_one, Nat.add_zero] at h2 h3
  refine ⟨h2, h3, fun v => ?_⟩
  have h4 := (Kd.R_seg h a h0 h1 (seg := [.int .i64 v]) (j := 0) hcl hcc (show 1 ≤ 1 from by decide) (x' := v) rfl (okp := fun _ => False) (fun _ hk => hk.elim)).1
  simp only [World.setCells, show (Kd.int .i64).sz = 1 from rfl, Nat.mul_one, Nat.add_zero] at h4
  exact h4
set_option maxHeartbeats 4000000 in
set_option maxRecDepth 100000 in
theorem pushed_walk (l : List Arc) (Af : Option Addr) (cf : Nat) (f : List Int) (Aw : Option Addr) (cw : Nat) (way : List Stp) (k : Int) (w : World) (hF : Kd.C (Kd.int .i64) w Af f.length f) (hW : Kd.C kStep w Aw way.length way) (hin : ∀ x, x ∈ way → 0 ≤ x.f0 ∧ x.f0 < (f.length : Int)) (hwl : way.length ≤ 1000000) (hfl : f.length ≤ 1000000) (hk : 0 ≤ k ∧ k ≤ 1099511627776)
    (hok : ∀ j, j ≤ way.length → ∀ a : Int, 0 ≤ a → a < f.length → 0 ≤ rd (goL f (way.take j) k) a ∧ rd (goL f (way.take j) k) a ≤ 1099511627776) :
    Calls Try.prog 73 #[.slice Af f.length cf, .slice Aw way.length cw, .int .i64 k] w (PushedAt (goL f way k) w) := by
  have hu2 := Try.underlying158
  have HF := Lib.hid hF
  have HWA := Lib.hid hW
  have HIN := Lib.hid hin
  have HOK := Lib.hid hok
  clear hF hW hin hok
  go_enter Try.func73, Try.ntmps73
  go_wp2_with ((with_reducible refine gate_builtin (b := .append) (xs := #[.tmp 9, .tmp 10]) rfl ?_); (try (refine gate_guard (by rfl) ?_; dsimp only)); at_builtin; go_loud (refine Kd.R_append_rows (Kd.int .i64) (w0 := w) w.heap.size rfl (.tmp 9) (.tmp 10) 69 3 (.int .i64 0) 8 rfl Try.underlying69 infoInt rfl (by decide) (by decide) (.slice none 0 0) ([] : List Int) f _ _ _ (fun _ => True) (fun _ => False) rfl rfl ?aO ?aR (fun _ _ h => h) (fun _ h => h.elim) ?aF ?aB ?aS ?aL ?_); (case aR => exact HF.out); (case aB => exact Below.refl _ _); (case aF => exact fun _ _ => trivial); (case aO => exact Kd.R_nil _ _ _ _ _); (case aS => exact Nat.le_refl _); (case aL => show (0 + f.length) * 8 ≤ 140737488355328; omega); go_loud ((intro v1 w1 ho hb hg hat; rw [List.nil_append] at ho; obtain ⟨A1, c1, rfl⟩ := Kd.R_slice ho; have HO := Lib.hid (And.intro ho hb); clear ho hb hg hat)))
  go_loopg [8] way.length (fun k' iv W => ∃ i : Nat, i ≤ way.length ∧ iv = .int .i64 i ∧ k' = way.length - i ∧ Hid (Kd.R (Kd.int .i64) 3 W w.heap.size (fun _ => True) (.slice A1 f.length c1) (goL f (way.take i) k) ∧ Below w.heap.size w W))
  case atStart => exact ⟨0, Nat.zero_le _, rfl, rfl, HO⟩
  case round =>
    obtain ⟨i, hi, rfl, rfl, HL⟩ := hrel
    clear HO
    by_cases d1 : i < way.length
    · have i0 : (0 : Int) ≤ (i : Int) := by omega
      have i1 : (i : Int) < (way.length : Int) := by omega
      obtain ⟨ad, ea, y0, y1⟩ := at_T158 (Kd.C_below HWA.out HL.out.2) (i : Int) i0 i1
      subst ea
      rw [Int.toNat_natCast] at y0 y1
      obtain ⟨x, hx0⟩ : ∃ x, x = stAt way i := ⟨_, rfl⟩
      have hx1 : (rd_T158 way (i : Int)) = x := by rw [hx0]; unfold rd_T158 stAt; rw [Int.toNat_natCast]; rfl
      rw [hx1] at y0 y1
      have hxm : x ∈ way := by rw [hx0]; exact getD_mem d1 _
      have hx := HIN.out x hxm
      obtain ⟨g, hg⟩ : ∃ g, g = goL f (way.take i) k := ⟨_, rfl⟩
      have hgl : g.length = f.length := by rw [hg]; exact goL_len k _ f
      have HGS0 : Hid (goL f (way.take (i + 1)) k = goF g x k) := Lib.hid (by rw [take_pushS d1, goL_snoc, ← hg, hx0]; rfl)
      have hfb := HOK.out i hi x.f0 hx.1 hx.2
      have hfb2 := HOK.out (i + 1) d1 x.f0 hx.1 hx.2
      rw [HGS0.out] at hfb2
      have HL2 := HL
      rw [← hg] at HL hfb
      clear hx0 hx1 hxm HL2
      have HGL := Lib.hid hgl
      have hx2 : x.f0 < (f.length : Int) := hx.2
      obtain ⟨go, co, eo, hge, _⟩ := Kd.R_form HL.out.1 (by omega)
      rw [hgl] at eo
      injection eo with e1 _ e3
      subst e1 e3
      have HGO := Lib.hid hge
      have q0 := (int_elem HL.out.1 x.f0 hx.1 hx2).1
      obtain ⟨fv, hfv⟩ : ∃ fv, fv = rd g x.f0 := ⟨_, rfl⟩
      rw [← hfv] at q0 hfb
      have hsame : rd (goF g x k) x.f0 = if x.f1 = true then fv - k else fv + k := by
        unfold goF
        rw [← hfv]
        unfold rd
        rw [List.getD_eq_getElem?_getD, List.getElem?_set_self (by omega)]
        rfl
      rw [hsame] at hfb2
      have HGF : Hid (goF g x k = g.set x.f0.toNat (if x.f1 = true then fv - k else fv + k)) := Lib.hid (by unfold goF; rw [hfv])
      clear hg hgl hge hfv hsame
      obtain ⟨xa, xb⟩ := x
      cases xb with
      | true =>
        have hfb2 : 0 ≤ fv - k ∧ fv - k ≤ 1099511627776 := hfb2
        have HGS : Hid (goL f (way.take (i + 1)) k = g.set xa.toNat (fv - k)) := Lib.hid (HGS0.out.trans HGF.out)
        clear HGS0 HGF
        have y0 : wr.cell? (ad.add (i * 2)) = some (.int .i64 xa) := y0
        have y1 : wr.cell? ⟨(ad.add (i * 2)).block, (ad.add (i * 2)).off + 1, none⟩ = some (.bool true) := y1
        have q0 : wr.cell? ⟨go, xa.toNat, none⟩ = some (.int .i64 fv) := q0
        have xa0 : 0 ≤ xa := hx.1
        have xa1 : xa < (f.length : Int) := hx2
        go_wp2
        refine stepS (S := fun w' => w'.cell? (ad.add (i * 2)) = some (.int .i64 xa) ∧ w'.cell? ⟨go, xa.toNat, none⟩ = some (.int .i64 fv)) (ds := [17]) 18 (by kernel_rfl) rfl ⟨by simpa using y0, by simpa using q0⟩ (fun hHeld => ?_)
        have HG := Lib.hid (And.intro (Kd.R_drew HL.out.1) (And.intro (below_drew1 HL.out.2) (int_elem (Kd.R_drew HL.out.1) xa xa0 xa1).2.2))
        have q1 := (int_elem (Kd.R_drew HL.out.1) xa xa0 xa1).2.1
        generalize wr.drew = wd at HG hHeld q0 q1 ⊢
        clear y0 y1
        refine stepPi 0 (N := some _) (v := ?_) (a' := ?_) rfl rfl (by kernel_rfl) (fun _ _ _ h => h) (Or.inl ⟨by rfl, ?_⟩) ?_ ?_
        rotate_left
        · (intro w'; go_simp; with_reducible rfl)
        rotate_left
        · (simp only [Act.put, List.setIfInBounds_toArray, List.set_cons_zero, List.set_cons_succ]; rfl)
        refine stepPi 1 (N := some _) (v := ?_) (a' := ?_) rfl rfl (by kernel_rfl) (fun _ _ _ h => h) (Or.inl ⟨by rfl, ?_⟩) ?_ ?_
        rotate_left
        · (intro w'; go_simp; with_reducible rfl)
        rotate_left
        · (simp only [Act.put, List.setIfInBounds_toArray, List.set_cons_zero, List.set_cons_succ]; rfl)
        refine stepPi 2 (N := some _) (v := ?_) (a' := ?_) rfl rfl (by kernel_rfl) (fun _ _ _ h => h) (Or.inl ⟨by rfl, ?_⟩) ?_ ?_
        rotate_left
        · (intro w'; go_simp; with_reducible rfl)
        rotate_left
        · (simp only [Act.put, List.setIfInBounds_toArray, List.set_cons_zero, List.set_cons_succ]; rfl)
        refine stepPi 3 (N := some _) (v := ?_) (a' := ?_) rfl rfl (by kernel_rfl) (fun _ _ _ h => h) (Or.inl ⟨by rfl, ?_⟩) ?_ ?_
        rotate_left
        · (intro w'; go_simp; with_reducible rfl)
        rotate_left
        · (simp only [Act.put, List.setIfInBounds_toArray, List.set_cons_zero, List.set_cons_succ]; rfl)
        refine stepPi 4 (N := some _) (v := ?_) (a' := ?_) rfl rfl (by kernel_rfl) (fun _ _ _ h => h) (Or.inl ⟨by rfl, ?_⟩) ?_ ?_
        rotate_left
        · (intro w'; go_simp; with_reducible rfl)
        rotate_left
        · (simp only [Act.put, List.setIfInBounds_toArray, List.set_cons_zero, List.set_cons_succ]; rfl)
        refine stepTi 5 (N := some _) (v := ?_) (a' := ?_) rfl rfl (by kernel_rfl) (fun _ _ _ h => h) (Or.inl ⟨by rfl, ?_⟩) hHeld ?_ ?_
        rotate_left
        · (rintro w' ⟨s0, s1⟩; go_simp; with_reducible rfl)
        rotate_left
        · (simp only [Act.put, List.setIfInBounds_toArray, List.set_cons_zero, List.set_cons_succ]; rfl)
        refine stepPi 6 (N := some _) (v := ?_) (a' := ?_) rfl rfl (by kernel_rfl) (fun _ _ _ h => h) (Or.inl ⟨by rfl, ?_⟩) ?_ ?_
        rotate_left
        · (intro w'; go_simp; with_reducible rfl)
        rotate_left
        · (simp only [Act.put, List.setIfInBounds_toArray, List.set_cons_zero, List.set_cons_succ]; rfl)
        refine stepPi 7 (N := some _) (v := ?_) (a' := ?_) rfl rfl (by kernel_rfl) (fun _ _ _ h => h) (Or.inl ⟨by rfl, ?_⟩) ?_ ?_
        rotate_left
        · (intro w'; go_simp; with_reducible rfl)
        rotate_left
        · (simp only [Act.put, List.setIfInBounds_toArray, List.set_cons_zero, List.set_cons_succ]; rfl)
        refine stepPi 8 (N := some _) (v := ?_) (a' := ?_) rfl rfl (by kernel_rfl) (fun _ _ _ h => h) (Or.inl ⟨by rfl, ?_⟩) ?_ ?_
        rotate_left
        · (intro w'; go_simp; with_reducible rfl)
        rotate_left
        · (simp only [Act.put, List.setIfInBounds_toArray, List.set_cons_zero, List.set_cons_succ]; rfl)
        refine stepPi 9 (N := some _) (v := ?_) (a' := ?_) rfl rfl (by kernel_rfl) (fun _ _ _ h => h) (Or.inl ⟨by rfl, ?_⟩) ?_ ?_
        rotate_left
        · (intro w'; go_simp; with_reducible rfl)
        rotate_left
        · (simp only [Act.put, List.setIfInBounds_toArray, List.set_cons_zero, List.set_cons_succ]; rfl)
        refine stepPi 10 (N := some _) (v := ?_) (a' := ?_) rfl rfl (by kernel_rfl) (fun _ _ _ h => h) (Or.inl ⟨by rfl, ?_⟩) ?_ ?_
        rotate_left
        · (intro w'; go_simp; with_reducible rfl)
        rotate_left
        · (simp only [Act.put, List.setIfInBounds_toArray, List.set_cons_zero, List.set_cons_succ]; rfl)
        refine stepTi 11 (N := some _) (v := ?_) (a' := ?_) rfl rfl (by kernel_rfl) (fun _ _ _ h => h) (Or.inl ⟨by rfl, ?_⟩) hHeld ?_ ?_
        rotate_left
        · (rintro w' ⟨s0, s1⟩; go_simp; with_reducible rfl)
        rotate_left
        · (simp only [Act.put, List.setIfInBounds_toArray, List.set_cons_zero, List.set_cons_succ]; rfl)
        refine stepPi 12 (N := some _) (v := ?_) (a' := ?_) rfl rfl (by kernel_rfl) (fun _ _ _ h => h) (Or.inl ⟨by rfl, ?_⟩) ?_ ?_
        rotate_left
        · (intro w'; go_simp; with_reducible rfl)
        rotate_left
        · (simp only [Act.put, List.setIfInBounds_toArray, List.set_cons_zero, List.set_cons_succ]; rfl)
        refine stepTi 13 (N := some _) (v := ?_) (a' := ?_) rfl rfl (by kernel_rfl) (fun _ _ _ h => h) (Or.inl ⟨by rfl, ?_⟩) hHeld ?_ ?_
        rotate_left
        · (rintro w' ⟨s0, s1⟩; go_simp; with_reducible rfl)
        rotate_left
        · (simp only [Act.put, List.setIfInBounds_toArray, List.set_cons_zero, List.set_cons_succ]; rfl)
        refine stepPi 14 (N := some _) (v := ?_) (a' := ?_) rfl rfl (by kernel_rfl) (fun _ _ _ h => h) (Or.inl ⟨by rfl, ?_⟩) ?_ ?_
        rotate_left
        · (intro w'; go_simp; with_reducible rfl)
        rotate_left
        · (simp only [Act.put, List.setIfInBounds_toArray, List.set_cons_zero, List.set_cons_succ]; rfl)
        refine stepPi 15 (N := some _) (v := ?_) (a' := ?_) rfl rfl (by kernel_rfl) (fun _ _ _ h => h) (Or.inl ⟨by rfl, ?_⟩) ?_ ?_
        rotate_left
        · (intro w'; go_simp; with_reducible rfl)
        rotate_left
        · (simp only [Act.put, List.setIfInBounds_toArray, List.set_cons_zero, List.set_cons_succ]; rfl)
        refine stepPi 16 (N := some _) (v := ?_) (a' := ?_) rfl rfl (by kernel_rfl) (fun _ _ _ h => h) (Or.inl ⟨by rfl, ?_⟩) ?_ ?_
        rotate_left
        · (intro w'; go_simp; with_reducible rfl)
        rotate_left
        · (simp only [Act.put, List.setIfInBounds_toArray, List.set_cons_zero, List.set_cons_succ]; rfl)
        refine stepLi 17 (N := none) rfl rfl (by kernel_rfl) (by decide) (fun K hK => ?_)
        refine skip_ (w1 := ?_) (by rfl) rfl ?_ ?_
        rotate_left
        · go_simp
          rfl
        refine hK.out _ _ ?_
        clear hK K hHeld
        refine done_ (by kernel_rfl) ?_
        have HG2 := Lib.hid (And.intro (HG.out.2.2 (fv - k)) (below_set HG.out.2.1 HGO.out (j := xa.toNat) (v := .int .i64 (fv - k))))
        clear HG q0 q1
        go_wp2
        go_roundg (way.length - (i + 1))
        case measure => omega
        case rel => exact ⟨i + 1, by omega, by go_num, rfl, Lib.hid ⟨by rw [HGS.out]; exact HG2.out.1, HG2.out.2⟩⟩
      | false =>
        have hfb2 : 0 ≤ fv + k ∧ fv + k ≤ 1099511627776 := hfb2
        have HGS : Hid (goL f (way.take (i + 1)) k = g.set xa.toNat (fv + k)) := Lib.hid (HGS0.out.trans HGF.out)
        clear HGS0 HGF
        have y0 : wr.cell? (ad.add (i * 2)) = some (.int .i64 xa) := y0
        have y1 : wr.cell? ⟨(ad.add (i * 2)).block, (ad.add (i * 2)).off + 1, none⟩ = some (.bool false) := y1
        have q0 : wr.cell? ⟨go, xa.toNat, none⟩ = some (.int .i64 fv) := q0
        have xa0 : 0 ≤ xa := hx.1
        have xa1 : xa < (f.length : Int) := hx2
        go_wp2
        refine stepS (S := fun w' => w'.cell? (ad.add (i * 2)) = some (.int .i64 xa) ∧ w'.cell? ⟨go, xa.toNat, none⟩ = some (.int .i64 fv)) (ds := [17]) 18 (by kernel_rfl) rfl ⟨by simpa using y0, by simpa using q0⟩ (fun hHeld => ?_)
        have HG := Lib.hid (And.intro (Kd.R_drew HL.out.1) (And.intro (below_drew1 HL.out.2) (int_elem (Kd.R_drew HL.out.1) xa xa0 xa1).2.2))
        have q1 := (int_elem (Kd.R_drew HL.out.1) xa xa0 xa1).2.1
        generalize wr.drew = wd at HG hHeld q0 q1 ⊢
        clear y0 y1
        refine stepPi 0 (N := some _) (v := ?_) (a' := ?_) rfl rfl (by kernel_rfl) (fun _ _ _ h => h) (Or.inl ⟨by rfl, ?_⟩) ?_ ?_
        rotate_left
        · (intro w'; go_simp; with_reducible rfl)
        rotate_left
        · (simp only [Act.put, List.setIfInBounds_toArray, List.set_cons_zero, List.set_cons_succ]; rfl)
        refine stepPi 1 (N := some _) (v := ?_) (a' := ?_) rfl rfl (by kernel_rfl) (fun _ _ _ h => h) (Or.inl ⟨by rfl, ?_⟩) ?_ ?_
        rotate_left
        · (intro w'; go_simp; with_reducible rfl)
        rotate_left
        · (simp only [Act.put, List.setIfInBounds_toArray, List.set_cons_zero, List.set_cons_succ]; rfl)
        refine stepPi 2 (N := some _) (v := ?_) (a' := ?_) rfl rfl (by kernel_rfl) (fun _ _ _ h => h) (Or.inl ⟨by rfl, ?_⟩) ?_ ?_
        rotate_left
        · (intro w'; go_simp; with_reducible rfl)
        rotate_left
        · (simp only [Act.put, List.setIfInBounds_toArray, List.set_cons_zero, List.set_cons_succ]; rfl)
        refine stepPi 3 (N := some _) (v := ?_) (a' := ?_) rfl rfl (by kernel_rfl) (fun _ _ _ h => h) (Or.inl ⟨by rfl, ?_⟩) ?_ ?_
        rotate_left
        · (intro w'; go_simp; with_reducible rfl)
        rotate_left
        · (simp only [Act.put, List.setIfInBounds_toArray, List.set_cons_zero, List.set_cons_succ]; rfl)
        refine stepPi 4 (N := some _) (v := ?_) (a' := ?_) rfl rfl (by kernel_rfl) (fun _ _ _ h => h) (Or.inl ⟨by rfl, ?_⟩) ?_ ?_
        rotate_left
        · (intro w'; go_simp; with_reducible rfl)
        rotate_left
        · (simp only [Act.put, List.setIfInBounds_toArray, List.set_cons_zero, List.set_cons_succ]; rfl)
        refine stepTi 5 (N := some _) (v := ?_) (a' := ?_) rfl rfl (by kernel_rfl) (fun _ _ _ h => h) (Or.inl ⟨by rfl, ?_⟩) hHeld ?_ ?_
        rotate_left
        · (rintro w' ⟨s0, s1⟩; go_simp; with_reducible rfl)
        rotate_left
        · (simp only [Act.put, List.setIfInBounds_toArray, List.set_cons_zero, List.set_cons_succ]; rfl)
        refine stepPi 6 (N := some _) (v := ?_) (a' := ?_) rfl rfl (by kernel_rfl) (fun _ _ _ h => h) (Or.inl ⟨by rfl, ?_⟩) ?_ ?_
        rotate_left
        · (intro w'; go_simp; with_reducible rfl)
        rotate_left
        · (simp only [Act.put, List.setIfInBounds_toArray, List.set_cons_zero, List.set_cons_succ]; rfl)
        refine stepPi 7 (N := some _) (v := ?_) (a' := ?_) rfl rfl (by kernel_rfl) (fun _ _ _ h => h) (Or.inl ⟨by rfl, ?_⟩) ?_ ?_
        rotate_left
        · (intro w'; go_simp; with_reducible rfl)
        rotate_left
        · (simp only [Act.put, List.setIfInBounds_toArray, List.set_cons_zero, List.set_cons_succ]; rfl)
        refine stepPi 8 (N := some _) (v := ?_) (a' := ?_) rfl rfl (by kernel_rfl) (fun _ _ _ h => h) (Or.inl ⟨by rfl, ?_⟩) ?_ ?_
        rotate_left
        · (intro w'; go_simp; with_reducible rfl)
        rotate_left
        · (simp only [Act.put, List.setIfInBounds_toArray, List.set_cons_zero, List.set_cons_succ]; rfl)
        refine stepPi 9 (N := some _) (v := ?_) (a' := ?_) rfl rfl (by kernel_rfl) (fun _ _ _ h => h) (Or.inl ⟨by rfl, ?_⟩) ?_ ?_
        rotate_left
        · (intro w'; go_simp; with_reducible rfl)
        rotate_left
        · (simp only [Act.put, List.setIfInBounds_toArray, List.set_cons_zero, List.set_cons_succ]; rfl)
        refine stepPi 10 (N := some _) (v := ?_) (a' := ?_) rfl rfl (by kernel_rfl) (fun _ _ _ h => h) (Or.inl ⟨by rfl, ?_⟩) ?_ ?_
        rotate_left
        · (intro w'; go_simp; with_reducible rfl)
        rotate_left
        · (simp only [Act.put, List.setIfInBounds_toArray, List.set_cons_zero, List.set_cons_succ]; rfl)
        refine stepTi 11 (N := some _) (v := ?_) (a' := ?_) rfl rfl (by kernel_rfl) (fun _ _ _ h => h) (Or.inl ⟨by rfl, ?_⟩) hHeld ?_ ?_
        rotate_left
        · (rintro w' ⟨s0, s1⟩; go_simp; with_reducible rfl)
        rotate_left
        · (simp only [Act.put, List.setIfInBounds_toArray, List.set_cons_zero, List.set_cons_succ]; rfl)
        refine stepPi 12 (N := some _) (v := ?_) (a' := ?_) rfl rfl (by kernel_rfl) (fun _ _ _ h => h) (Or.inl ⟨by rfl, ?_⟩) ?_ ?_
        rotate_left
        · (intro w'; go_simp; with_reducible rfl)
        rotate_left
        · (simp only [Act.put, List.setIfInBounds_toArray, List.set_cons_zero, List.set_cons_succ]; rfl)
        refine stepTi 13 (N := some _) (v := ?_) (a' := ?_) rfl rfl (by kernel_rfl) (fun _ _ _ h => h) (Or.inl ⟨by rfl, ?_⟩) hHeld ?_ ?_
        rotate_left
        · (rintro w' ⟨s0, s1⟩; go_simp; with_reducible rfl)
        rotate_left
        · (simp only [Act.put, List.setIfInBounds_toArray, List.set_cons_zero, List.set_cons_succ]; rfl)
        refine stepPi 14 (N := some _) (v := ?_) (a' := ?_) rfl rfl (by kernel_rfl) (fun _ _ _ h => h) (Or.inl ⟨by rfl, ?_⟩) ?_ ?_
        rotate_left
        · (intro w'; go_simp; with_reducible rfl)
        rotate_left
        · (simp only [Act.put, List.setIfInBounds_toArray, List.set_cons_zero, List.set_cons_succ]; rfl)
        refine stepPi 15 (N := some _) (v := ?_) (a' := ?_) rfl rfl (by kernel_rfl) (fun _ _ _ h => h) (Or.inl ⟨by rfl, ?_⟩) ?_ ?_
        rotate_left
        · (intro w'; go_simp; with_reducible rfl)
        rotate_left
        · (simp only [Act.put, List.setIfInBounds_toArray, List.set_cons_zero, List.set_cons_succ]; rfl)
        refine stepPi 16 (N := some _) (v := ?_) (a' := ?_) rfl rfl (by kernel_rfl) (fun _ _ _ h => h) (Or.inl ⟨by rfl, ?_⟩) ?_ ?_
        rotate_left
        · (intro w'; go_simp; with_reducible rfl)
        rotate_left
        · (simp only [Act.put, List.setIfInBounds_toArray, List.set_cons_zero, List.set_cons_succ]; rfl)
        refine stepLi 17 (N := none) rfl rfl (by kernel_rfl) (by decide) (fun K hK => ?_)
        refine skip_ (w1 := ?_) (by rfl) rfl ?_ ?_
        rotate_left
        · go_simp
          rfl
        refine hK.out _ _ ?_
        clear hK K hHeld
        refine done_ (by kernel_rfl) ?_
        have HG2 := Lib.hid (And.intro (HG.out.2.2 (fv + k)) (below_set HG.out.2.1 HGO.out (j := xa.toNat) (v := .int .i64 (fv + k))))
        clear HG q0 q1
        go_wp2
        go_roundg (way.length - (i + 1))
        case measure => omega
        case rel => exact ⟨i + 1, by omega, by go_num, rfl, Lib.hid ⟨by rw [HGS.out]; exact HG2.out.1, HG2.out.2⟩⟩
    · have e : i = way.length := by omega
      have d2 : ¬ (i : Int) < (way.length : Int) := by omega
      have HE := Lib.hid e
      clear e
      go_wp2
      go_ret
      have h9 := HL.out.1
      rw [HE.out, List.take_of_length_le (Nat.le_refl _)] at h9
      have hgl := goL_len k way f
      exact ⟨A1, c1, by rw [hgl]; rfl, by rw [hgl]; exact h9, HL.out.2⟩
end Go.Proofs.Ytcgdloldkcmhnaa.H
end
section
namespace Go.Proofs.Ytcgdloldkcmhnaa.H
open Go Go.RowKit Go.Proofs.Ytcgdloldkcmhnaa.PrintC Go.Proofs.YtcgdloldkcmhnaaW.PrintWords Go.Proofs.YtcgdloldkcmhnaaW.PrintLast Go.Proofs.YtcgdloldkcmhnaaW.PrintMore Go.Proofs.Ytcgdloldkcmhnaa.Flow
set_option linter.unusedVariables false
set_option linter.unusedSimpArgs false
theorem wayOk_of {M : Nat} {l : List Arc} {f : List Int} {L : List Stp} {s t : Nat} {d : Int → Int} {way : List Stp} (hn : NetOk M l) (hL : StP l f l.length L) (h : WayP l L s t d way) : WayOk M l f (fun u => d (u : Int)) s t way := by
  have ha : ∀ x, x ∈ way → (0 ≤ x.f0 ∧ x.f0 < (l.length : Int)) ∧ 0 < rmv l f x := fun x hx => (hL.1 x).1 (h.1 x hx).1
  exact ⟨fun x hx => (ha x hx).1, fun x hx => (ha x hx).2, fun x hx => by
    have h1 := tgt_ok hn (ha x hx).1.1 (ha x hx).1.2
    have h2 := src_ok hn (ha x hx).1.1 (ha x hx).1.2
    show d (((tgt l x).toNat : Nat) : Int) = d (((src l x).toNat : Nat) : Int) + 1
    rw [Int.toNat_of_nonneg h1.1, Int.toNat_of_nonneg h2.1]
    exact (h.1 x hx).2, h.2⟩
theorem nw_closed {M : Nat} {l : List Arc} {f : List Int} {L : List Stp} {s t : Int} (hL : StP l f l.length L) (h : NoWay l L M s t) : ∃ S : Int → Bool, Closed l.length (frOf l) (toOf l) (capOf l) (dOf f) S ∧ S s = true ∧ S t = false := by
  obtain ⟨N, h1, h2, h3⟩ := h
  refine ⟨fun v => decide (v ∈ N), fun i hi => ⟨fun g1 g2 => ?_, fun g1 g2 => ?_⟩, decide_eq_true h1, decide_eq_false h2⟩
  · have hx : (⟨(i : Int), false⟩ : Stp) ∈ L := (hL.1 _).2 ⟨⟨by show (0 : Int) ≤ (i : Int); omega, by show (i : Int) < (l.length : Int); omega⟩, by
      show 0 < (rd_T79 l (i : Int)).f2 - rd f (i : Int)
      have : rd f (i : Int) < (rd_T79 l (i : Int)).f2 := g2
      omega⟩
    exact decide_eq_true (h3 _ hx (of_decide_eq_true g1))
  · have hx : (⟨(i : Int), true⟩ : Stp) ∈ L := (hL.1 _).2 ⟨⟨by show (0 : Int) ≤ (i : Int); omega, by show (i : Int) < (l.length : Int); omega⟩, g2⟩
    exact decide_eq_true (h3 _ hx (of_decide_eq_true g1))
theorem top_of {M : Nat} {l : List Arc} {f : List Int} {L : List Stp} {s t : Nat} (hf : FlowOk l f) (hb : Bal l.length (frOf l) (toOf l) M s t (dOf f)) (hL : StP l f l.length L) (h : NoWay l L M s t) : ∃ S : Int → Bool, Top l.length (frOf l) (toOf l) M s t (capOf l) (dOf f) S := by
  obtain ⟨S, h1⟩ := nw_closed hL h
  exact ⟨S, within_of hf, hb, h1⟩
def BestAt (l : List Arc) (M s t : Nat) (w : World) (e : Ending) (w' : World) : Prop := ∃ (f : List Int) (A1 : Option Addr) (c1 : Nat) (S : Int → Bool), e = .returned (.slice A1 f.length c1) ∧ Kd.C (Kd.int .i64) w' A1 f.length f ∧ FlowOk l f ∧ Top l.length (frOf l) (toOf l) M s t (capOf l) (dOf f) S ∧ Below w.heap.size w w'
theorem rsteps_at (M : Nat) (n : Int) (b : Bool) (A : Option Addr) (c : Nat) (l : List Arc) (Af : Option Addr) (cf : Nat) (f : List Int) (m : Nat) (hm : f.length = m) (w : World) (hn : NetOk M l) (hf : FlowOk l f) (hr : Kd.C k79 w A l.length l) (hF : Kd.C (Kd.int .i64) w Af f.length f) :
    Calls Try.prog 72 #[.agg #[.int .i64 n, .bool b, .slice A l.length c], .slice Af m cf] w (StepsAt l f w) := by
  subst hm
  exact rsteps_walk M n b A c l Af cf f w hn hf hr hF
theorem bottle_at (M : Nat) (n : Int) (b : Bool) (A : Option Addr) (c : Nat) (l : List Arc) (Af : Option Addr) (cf : Nat) (f : List Int) (m : Nat) (hm : f.length = m) (Aw : Option Addr) (cw : Nat) (way : List Stp) (w : World) (hn : NetOk M l) (hf : FlowOk l f) (hr : Kd.C k79 w A l.length l) (hF : Kd.C (Kd.int .i64) w Af f.length f) (hW : Kd.C kStep w Aw way.length way) (hin : ∀ x, x ∈ way → 0 ≤ x.f0 ∧ x.f0 < (l.length : Int)) (h0 : 0 < way.length) (hwl : way.length ≤ 1000000) :
    Calls Try.prog 74 #[.agg #[.int .i64 n, .bool b, .slice A l.length c], .slice Af m cf, .slice Aw way.length cw] w (BottleAt l f way w) := by
  subst hm
  exact bottle_walk M n b A c l Af cf f Aw cw way w hn hf hr hF hW hin h0 hwl
theorem pushed_at (l : List Arc) (Af : Option Addr) (cf : Nat) (f : List Int) (m : Nat) (hm : f.length = m) (Aw : Option Addr) (cw : Nat) (way : List Stp) (k : Int) (w : World) (hF : Kd.C (Kd.int .i64) w Af f.length f) (hW : Kd.C kStep w Aw way.length way) (hin : ∀ x, x ∈ way → 0 ≤ x.f0 ∧ x.f0 < (f.length : Int)) (hwl : way.length ≤ 1000000) (hfl : f.length ≤ 1000000) (hk : 0 ≤ k ∧ k ≤ 1099511627776)
    (hok : ∀ j, j ≤ way.length → ∀ a : Int, 0 ≤ a → a < f.length → 0 ≤ rd (goL f (way.take j) k) a ∧ rd (goL f (way.take j) k) a ≤ 1099511627776) :
    Calls Try.prog 73 #[.slice Af m cf, .slice Aw way.length cw, .int .i64 k] w (PushedAt (goL f way k) w) := by
  subst hm
  exact pushed_walk l Af cf f Aw cw way k w hF hW hin hwl hfl hk hok
set_option maxHeartbeats 4000000 in
set_option maxRecDepth 100000 in
theorem best_walk (M s t : Nat) (n : Int) (b : Bool) (A : Option Addr) (c : Nat) (l : List Arc) (w : World) (hn : NetOk M l) (hcap : ∀ i : Int, 0 ≤ i → i < l.length → 0 ≤ (rd_T79 l i).f2) (hs : s < M) (ht : t < M) (hst : s ≠ t) (hr : Kd.C k79 w A l.length l) :
    Calls Try.prog 38 #[.agg #[.int .i64 n, .bool b, .slice A l.length c], .int .i64 s, .int .i64 t] w (BestAt l M s t w) := by
  have HN := Lib.hid hn
  have HR := Lib.hid hr
  have HZ := Lib.hid (zero_flow (n := M) (s := s) (t := t) hcap)
  have HST := Lib.hid (And.intro hs (And.intro ht hst))
  have hll := hn.ll
  have hm1 := hn.n1
  clear hn hcap hr hst
  have hu := Try.underlying32
  have hmk : ∀ W : World, (Instr.makeSlice 69 (.int .i64 (l.length : Int)) (.int .i64 (l.length : Int))).run Try.prog W = .ok (.slice (some ⟨W.heap.size, 0, none⟩) l.length l.length) (W.alloc (.cells (madeCells #[.int .i64 0] l.length) 3)) := fun W => by
    obtain ⟨i0, hi, hz0, hz1, hz2⟩ := info_parts infoInt
    have := run_make (P := Try.prog) W 69 3 i0 (.int .i64 0) Try.underlying69 hi hz0 .i64 .i64 (l.length : Int) (l.length : Int) (by omega) (by omega) (by rw [hz2]; omega) (by omega)
    rw [hz1, Int.toNat_natCast, Nat.mul_one] at this
    exact this
  go_enter Try.func38, Try.ntmps38
  obtain ⟨w1, hw1⟩ : ∃ w1, w1 = w.alloc (.cells #[.int .i64 n, .bool b, .slice A l.length c] 32) := ⟨_, rfl⟩
  have hbk := made_blk (w.alloc (.cells #[.int .i64 n, .bool b, .slice A l.length c] 32)) l.length
  obtain ⟨w2, hw2⟩ : ∃ w2, w2 = (w.alloc (.cells #[.int .i64 n, .bool b, .slice A l.length c] 32)).alloc (.cells (madeCells #[.int .i64 0] l.length) 3) := ⟨_, rfl⟩
  rw [← hw2] at hbk
  rw [alloc_size] at hbk
  have HX : Hid (w2.heap[w.heap.size]? = some (.cells #[.int .i64 n, .bool b, .slice A l.length c] 32 (0, 0)) ∧ Below w.heap.size w w2 ∧ Kd.C (Kd.int .i64) w2 (some ⟨w.heap.size + 1, 0, none⟩) (List.replicate l.length (0 : Int)).length (List.replicate l.length (0 : Int))) := Lib.hid ⟨by rw [hw2]; exact blk_alloc (heap_alloc_new _ _) _, by rw [hw2]; exact below_alloc (below_alloc (Below.refl _ _) _) _, IntBlk.reads hbk (by rw [List.length_replicate]; omega)⟩
  clear hbk hw1 w1
  go_wp2
  rw [← hw2]
  clear hw2 hmk
  obtain ⟨T, hT⟩ : ∃ T, T = takes l.length (frOf l) (toOf l) (capOf l) (fun v => decide (v = (s : Int))) := ⟨_, rfl⟩
  have HT := Lib.hid hT
  clear hT
  generalize w.heap.size + 1 = g0 at HX ⊢
  go_loopg [7] ((T - leaves l.length (frOf l) (toOf l) (dOf (List.replicate l.length (0 : Int))) s).toNat + 1) (fun k fv W => ∃ (f : List Int) (Af : Option Addr) (cf : Nat), fv = .slice Af l.length cf ∧ k = (T - leaves l.length (frOf l) (toOf l) (dOf f) s).toNat + 1 ∧ Hid (W.heap[w.heap.size]? = some (.cells #[.int .i64 n, .bool b, .slice A l.length c] 32 (0, 0)) ∧ Below w.heap.size w W ∧ Kd.C (Kd.int .i64) W Af f.length f ∧ FlowOk l f ∧ Bal l.length (frOf l) (toOf l) M s t (dOf f)))
  case atStart => exact ⟨List.replicate l.length 0, some ⟨g0, 0, none⟩, l.length, rfl, rfl, Lib.hid ⟨HX.out.1, HX.out.2.1, HX.out.2.2, HZ.out.1, HZ.out.2⟩⟩
  case round =>
    obtain ⟨f, Af, cf, rfl, rfl, HL⟩ := hrel
    clear HX HZ
    have HFL := Lib.hid HL.out.2.2.2.1.len
    go_wp2
    have HB9 := Lib.hid (And.intro (blk_drew HL.out.1) (And.intro (below_drew1 HL.out.2.1) (Kd.C_drew HL.out.2.2.1)))
    have x0 : wr.drew.cell? ⟨w.heap.size, 0, none⟩ = some (.int .i64 n) := (blk_cell HB9.out.1 0).trans rfl
    have x1 : wr.drew.cell? ⟨w.heap.size, 1, none⟩ = some (.bool b) := (blk_cell HB9.out.1 1).trans rfl
    have x2 : wr.drew.cell? ⟨w.heap.size, 2, none⟩ = some (.slice A l.length c) := (blk_cell HB9.out.1 2).trans rfl
    refine stepS (S := fun w' => w'.cell? ⟨w.heap.size, 0, none⟩ = some (.int .i64 n) ∧ w'.cell? ⟨w.heap.size, 1, none⟩ = some (.bool b) ∧ w'.cell? ⟨w.heap.size, 2, none⟩ = some (.slice A l.length c)) (ds := [6]) 12 (by kernel_rfl) rfl ⟨x0, x1, x2⟩ (fun hHeld => ?_)
    generalize wr.drew = wd at HB9 hHeld ⊢
    clear x0 x1 x2
    refine stepTi 0 (N := some _) (v := ?_) (a' := ?_) rfl rfl (by kernel_rfl) (fun _ _ _ h => h) (Or.inl ⟨by rfl, ?_⟩) hHeld ?_ ?_
    rotate_left
    · (rintro w' ⟨s0, s1, s2⟩; go_simp; with_reducible rfl)
    rotate_left
    · (simp only [Act.put, List.setIfInBounds_toArray, List.set_cons_zero, List.set_cons_succ]; rfl)
    refine stepPi 1 (N := some _) (v := ?_) (a' := ?_) rfl rfl (by kernel_rfl) (fun _ _ _ h => h) (Or.inl ⟨by rfl, ?_⟩) ?_ ?_
    rotate_left
    · (intro w'; go_simp; with_reducible rfl)
    rotate_left
    · (simp only [Act.put, List.setIfInBounds_toArray, List.set_cons_zero, List.set_cons_succ]; rfl)
    refine stepPi 2 (N := some _) (v := ?_) (a' := ?_) rfl rfl (by kernel_rfl) (fun _ _ _ h => h) (Or.inl ⟨by rfl, ?_⟩) ?_ ?_
    rotate_left
    · (intro w'; go_simp; with_reducible rfl)
    rotate_left
    · (simp only [Act.put, List.setIfInBounds_toArray, List.set_cons_zero, List.set_cons_succ]; rfl)
    refine stepTi 3 (N := some _) (v := ?_) (a' := ?_) rfl rfl (by kernel_rfl) (fun _ _ _ h => h) (Or.inl ⟨by rfl, ?_⟩) hHeld ?_ ?_
    rotate_left
    · (rintro w' ⟨s0, s1, s2⟩; go_simp; with_reducible rfl)
    rotate_left
    · (simp only [Act.put, List.setIfInBounds_toArray, List.set_cons_zero, List.set_cons_succ]; rfl)
    refine stepPi 4 (N := some _) (v := ?_) (a' := ?_) rfl rfl (by kernel_rfl) (fun _ _ _ h => h) (Or.inl ⟨by rfl, ?_⟩) ?_ ?_
    rotate_left
    · (intro w'; go_simp; with_reducible rfl)
    rotate_left
    · (simp only [Act.put, List.setIfInBounds_toArray, List.set_cons_zero, List.set_cons_succ]; rfl)
    refine stepEi 5 (N := some 20) rfl rfl (by kernel_rfl) (by decide) (fun K hK => ?_)
    refine goes_ Try.func72 (by kernel_rfl) rfl #[.agg #[.int .i64 n, .bool b, .slice A l.length c], .slice Af l.length cf] (by rfl) rfl rfl (by (try simp only [List.map_toArray, List.map_cons, List.map_nil]); rfl) ?_
    refine (rsteps_at M n b A c l Af cf f l.length HFL.out _ HN.out HL.out.2.2.2.1 (Kd.C_below HR.out HB9.out.2.1) HB9.out.2.2).mono ?_
    rintro e w5 ⟨L, As, cs, rfl, hrL, hst, hb⟩
    refine ⟨_, rfl, ?_⟩
    have HB8 := Lib.hid (And.intro (blk_below HB9.out.1 hb) (And.intro (below_step HB9.out.2.1 hb) (Kd.C_below HB9.out.2.2 hb)))
    have HLS := Lib.hid (And.intro (Kd.R_reads' hrL).2.2 hst)
    refine hK.out _ _ ⟨pw_cell_below hb hHeld.1, pw_cell_below hb hHeld.2.1, pw_cell_below hb hHeld.2.2⟩ (fun _ => ?_)
    clear hK K hHeld hb HB9 hrL hst
    refine norm_ (a' := ?_) ?_ ?_
    rotate_left
    · (show Act.put _ (some 20) _ = _; simp only [Act.put, List.setIfInBounds_toArray, List.set_cons_zero, List.set_cons_succ]; rfl)
    refine stepLi 6 (N := some 21) rfl rfl (by kernel_rfl) (by decide) (fun K hK => ?_)
    refine goes_ Try.func71 (by kernel_rfl) rfl #[.agg #[.int .i64 n, .bool b, .slice A l.length c], .int .i64 s, .int .i64 t, .slice As L.length cs] (by rfl) rfl rfl (by (try simp only [List.map_toArray, List.map_cons, List.map_nil]); rfl) ?_
    refine (way_walk n b A c l s t As cs L M _ (Kd.C_below HR.out HB8.out.2.1) HLS.out.1 (fun x hx => by have h9 := (HLS.out.2.1 x).1 hx; exact ⟨h9.1, tgt_ok HN.out h9.1.1 h9.1.2⟩) (by omega) (by have := HST.out.1; omega) hm1 (by have := HLS.out.2.2; omega)).mono ?_
    rintro e w6 ⟨hb, (⟨rfl, hno⟩ | ⟨way, Aw, cw, d, rfl, hrw, hwp, hwl⟩)⟩
    · refine ⟨_, rfl, ?_⟩
      have HB7 := Lib.hid (And.intro (below_step HB8.out.2.1 hb) (Kd.C_below HB8.out.2.2 hb))
      have HNO := Lib.hid hno
      refine hK.out _ _ ?_
      clear hK K hb HB8 hno
      refine norm_ (a' := ?_) ?_ ?_
      rotate_left
      · (show Act.put _ (some 21) _ = _; simp only [Act.put, List.setIfInBounds_toArray, List.set_cons_zero, List.set_cons_succ]; rfl)
      refine stepPi 7 (N := some _) (v := ?_) (a' := ?_) rfl rfl (by kernel_rfl) (fun _ _ _ h => h) (Or.inl ⟨by rfl, ?_⟩) ?_ ?_
      rotate_left
      · (intro w'; go_simp; with_reducible rfl)
      rotate_left
      · (simp only [Act.put, List.setIfInBounds_toArray, List.set_cons_zero, List.set_cons_succ]; rfl)
      refine stepPi 8 (N := some _) (v := ?_) (a' := ?_) rfl rfl (by kernel_rfl) (fun _ _ _ h => h) (Or.inl ⟨by rfl, ?_⟩) ?_ ?_
      rotate_left
      · (intro w'; go_simp; with_reducible rfl)
      rotate_left
      · (simp only [Act.put, List.setIfInBounds_toArray, List.set_cons_zero, List.set_cons_succ]; rfl)
      refine stepPi 9 (N := some _) (v := ?_) (a' := ?_) rfl rfl (by kernel_rfl) (fun _ _ _ h => h) (Or.inl ⟨by rfl, ?_⟩) ?_ ?_
      rotate_left
      · (intro w'; go_simp; with_reducible rfl)
      rotate_left
      · (simp only [Act.put, List.setIfInBounds_toArray, List.set_cons_zero, List.set_cons_succ]; rfl)
      refine stepPi 10 (N := some _) (v := ?_) (a' := ?_) rfl rfl (by kernel_rfl) (fun _ _ _ h => h) (Or.inl ⟨by rfl, ?_⟩) ?_ ?_
      rotate_left
      · (intro w'; go_simp; with_reducible rfl)
      rotate_left
      · (simp only [Act.put, List.setIfInBounds_toArray, List.set_cons_zero, List.set_cons_succ]; rfl)
      refine stepPi 11 (N := some _) (v := ?_) (a' := ?_) rfl rfl (by kernel_rfl) (fun _ _ _ h => h) (Or.inl ⟨by rfl, ?_⟩) ?_ ?_
      rotate_left
      · (intro w'; go_simp; with_reducible rfl)
      rotate_left
      · (simp only [Act.put, List.setIfInBounds_toArray, List.set_cons_zero, List.set_cons_succ]; rfl)
      refine done_ (by kernel_rfl) ?_
      go_wp2
      go_ret
      obtain ⟨S, hS⟩ := top_of HL.out.2.2.2.1 HL.out.2.2.2.2 HLS.out.2 HNO.out
      exact ⟨f, Af, cf, S, by rw [HFL.out]; rfl, HB7.out.2, HL.out.2.2.2.1, hS, HB7.out.1⟩
    · refine ⟨_, rfl, ?_⟩
      have HB7 := Lib.hid (And.intro (blk_below HB8.out.1 hb) (And.intro (below_step HB8.out.2.1 hb) (Kd.C_below HB8.out.2.2 hb)))
      have HWY := Lib.hid (And.intro (Kd.R_reads' hrw).2.2 (wayOk_of HN.out HLS.out.2 hwp))
      refine hK.out _ _ ?_
      clear hK K hb HB8 hrw hwp
      refine norm_ (a' := ?_) ?_ ?_
      rotate_left
      · (show Act.put _ (some 21) _ = _; simp only [Act.put, List.setIfInBounds_toArray, List.set_cons_zero, List.set_cons_succ]; rfl)
      refine stepPi 7 (N := some _) (v := ?_) (a' := ?_) rfl rfl (by kernel_rfl) (fun _ _ _ h => h) (Or.inl ⟨by rfl, ?_⟩) ?_ ?_
      rotate_left
      · (intro w'; go_simp; with_reducible rfl)
      rotate_left
      · (simp only [Act.put, List.setIfInBounds_toArray, List.set_cons_zero, List.set_cons_succ]; rfl)
      refine stepPi 8 (N := some _) (v := ?_) (a' := ?_) rfl rfl (by kernel_rfl) (fun _ _ _ h => h) (Or.inl ⟨by rfl, ?_⟩) ?_ ?_
      rotate_left
      · (intro w'; go_simp; with_reducible rfl)
      rotate_left
      · (simp only [Act.put, List.setIfInBounds_toArray, List.set_cons_zero, List.set_cons_succ]; rfl)
      refine stepPi 9 (N := some _) (v := ?_) (a' := ?_) rfl rfl (by kernel_rfl) (fun _ _ _ h => h) (Or.inl ⟨by rfl, ?_⟩) ?_ ?_
      rotate_left
      · (intro w'; go_simp; with_reducible rfl)
      rotate_left
      · (simp only [Act.put, List.setIfInBounds_toArray, List.set_cons_zero, List.set_cons_succ]; rfl)
      refine stepPi 10 (N := some _) (v := ?_) (a' := ?_) rfl rfl (by kernel_rfl) (fun _ _ _ h => h) (Or.inl ⟨by rfl, ?_⟩) ?_ ?_
      rotate_left
      · (intro w'; go_simp; with_reducible rfl)
      rotate_left
      · (simp only [Act.put, List.setIfInBounds_toArray, List.set_cons_zero, List.set_cons_succ]; rfl)
      refine stepPi 11 (N := some _) (v := ?_) (a' := ?_) rfl rfl (by kernel_rfl) (fun _ _ _ h => h) (Or.inl ⟨by rfl, ?_⟩) ?_ ?_
      rotate_left
      · (intro w'; go_simp; with_reducible rfl)
      rotate_left
      · (simp only [Act.put, List.setIfInBounds_toArray, List.set_cons_zero, List.set_cons_succ]; rfl)
      refine done_ (by kernel_rfl) ?_
      have x0 : w6.cell? ⟨w.heap.size, 0, none⟩ = some (.int .i64 n) := (blk_cell HB7.out.1 0).trans rfl
      have x1 : w6.cell? ⟨w.heap.size, 1, none⟩ = some (.bool b) := (blk_cell HB7.out.1 1).trans rfl
      have x2 : w6.cell? ⟨w.heap.size, 2, none⟩ = some (.slice A l.length c) := (blk_cell HB7.out.1 2).trans rfl
      have hwp0 : 0 < way.length := by
        rcases way with _ | ⟨x, way⟩
        · have := HWY.out.2.chain
          have h9 : (s : Int) = (t : Int) := this
          exact absurd (Int.ofNat.inj h9) HST.out.2.2
        · exact Nat.succ_pos _
      go_wp2_with (first
        | (go_at_call 74; go_loud ((refine (bottle_at M n b A c l Af cf f l.length HFL.out Aw cw way _ HN.out HL.out.2.2.2.1 (Kd.C_below HR.out HB7.out.2.1) HB7.out.2.2 HWY.out.1 HWY.out.2.arcs hwp0 (by omega)).mono ?_; rintro e w7 ⟨r, rfl, hr1, hr2, hb⟩; have HBT := Lib.hid (And.intro hr1 hr2); have HB6 := Lib.hid (And.intro (blk_below HB7.out.1 hb) (And.intro (below_step HB7.out.2.1 hb) (Kd.C_below HB7.out.2.2 hb))); have HW6 := Lib.hid (Kd.C_below HWY.out.1 hb); have hr0 : 1 ≤ r ∧ r ≤ 1099511627776 := (by obtain ⟨x, hx, e⟩ := hr2; have h1 := HWY.out.2.room x hx; have h2 := HWY.out.2.arcs x hx; have h3 := room_ok HN.out HL.out.2.2.2.1 h2.1 h2.2; omega); clear hr1 hr2 hb)))
        | (go_at_call 73; go_loud ((refine (pushed_at l Af cf f l.length HFL.out Aw cw way r _ HB6.out.2.2 HW6.out (fun x hx => by rw [HFL.out]; exact HWY.out.2.arcs x hx) (by omega) (by rw [HFL.out]; omega) ⟨by omega, hr0.2⟩ (fun j hj a h1 h2 => by have h3 := push_flow HL.out.2.2.2.1 HWY.out.2 (k := r) (by omega) HBT.out.1 j; have h4 := h3.wit a h1 (by rw [HFL.out] at h2; exact h2); have h5 := HN.out.caps a h1 (by rw [HFL.out] at h2; exact h2); omega)).mono ?_; rintro e w8 ⟨A8, c8, rfl, hr8, hb⟩; have HB5 := Lib.hid (And.intro (blk_below HB6.out.1 hb) (And.intro (below_step HB6.out.2.1 hb) (Kd.R_reads' hr8).2.2)); clear hr8 hb))))
      have HPF := Lib.hid (push_flow HL.out.2.2.2.1 HWY.out.2 (k := r) (by omega) HBT.out.1 way.length)
      have HPV := Lib.hid (push_value HL.out.2.2.2.1 HWY.out.2 (k := r) HST.out.2.2 HL.out.2.2.2.2)
      have hGL : (goL f way r).length = l.length := (goL_len ..).trans HFL.out
      have hnv := HPV.out.2
      have hvt : leaves l.length (frOf l) (toOf l) (dOf f) s + r ≤ T := by
        rw [← hnv, HT.out]
        exact value_top HN.out (by have := HPF.out; rw [List.take_length] at this; exact this) HPV.out.1 HST.out.1 HST.out.2.2
      go_roundg ((T - leaves l.length (frOf l) (toOf l) (dOf (goL f way r)) s).toNat + 1)
      case measure => rw [hnv]; omega
      case rel => exact ⟨goL f way r, A8, c8, by rw [hGL], rfl, Lib.hid ⟨HB5.out.1, HB5.out.2.1, HB5.out.2.2, by have := HPF.out; rw [List.take_length] at this; exact this, HPV.out.1⟩⟩
end Go.Proofs.Ytcgdloldkcmhnaa.H
end
section
namespace Go.Proofs.Ytcgdloldkcmhnaa.H
open Go Go.RowKit Go.Proofs.Ytcgdloldkcmhnaa.PrintC Go.Proofs.Ytcgdloldkcmhnaa.PrintE Go.Proofs.YtcgdloldkcmhnaaW.PrintWords Go.Proofs.YtcgdloldkcmhnaaW.PrintLast Go.Proofs.YtcgdloldkcmhnaaW.PrintMore Go.Proofs.Ytcgdloldkcmhnaa.Flow
section
variable {M N N1 : Nat} {l : List Arc} {f : List Int} {L : List Stp} {S : Int → Bool}
theorem chain_in {T : Int → Bool} (hc : Closed l.length (frOf l) (toOf l) (capOf l) (dOf f) T) (hL : StP l f l.length L) : ∀ (way : List Stp) (s t : Int), (∀ x, x ∈ way → x ∈ L) → Chain (frOf l) (toOf l) s (way.map toSt) t → T s = true → T t = true
  | [], s, t, _, h, hs => by
    rw [← show s = t from h]
    exact hs
  | x :: way, s, t, hin, h, hs => by
    obtain ⟨a1, a2⟩ := (hL.1 x).1 (hin x (List.mem_cons_self ..))
    have h1 : sFrom (frOf l) (toOf l) (toSt x) = s := h.1
    have h2 : Chain (frOf l) (toOf l) (sTo (frOf l) (toOf l) (toSt x)) (way.map toSt) t := h.2
    rw [tgt_st x a1.1] at h2
    rw [src_st x a1.1] at h1
    refine chain_in hc hL way _ t (fun y hy => hin y (List.mem_cons_of_mem _ hy)) h2 ?_
    obtain ⟨i, hi⟩ := Int.eq_ofNat_of_zero_le a1.1
    have hc2 := hc i (by omega)
    unfold rmv at a2
    unfold src at h1
    unfold tgt
    rw [hi] at a2 h1 ⊢
    cases hb2 : x.f1 with
    | true =>
      rw [hb2, if_pos rfl] at a2 h1
      rw [if_pos rfl]
      exact hc2.2 (by rw [show toOf l i = s from h1]; exact hs) a2
    | false =>
      rw [hb2] at a2 h1
      simp only [Bool.false_eq_true, if_false] at a2 h1 ⊢
      exact hc2.1 (by rw [show frOf l i = s from h1]; exact hs) (by show rd f (i : Int) < (rd_T79 l (i : Int)).f2; omega)
theorem way_in {u : Nat} {d : Int → Int} {way : List Stp} (hn : NetOk M l) (hN : N < M) (ht : Top l.length (frOf l) (toOf l) M N N1 (capOf l) (dOf f) S) (hL : StP l f l.length L) (h : WayP l L N u d way) : InAll l M N N1 u := fun f2 S2 b1 b2 =>
  chain_in (top_closed (ends_ok hn) ⟨by omega, by omega⟩ ht b2) hL way N u (fun x hx => (h.1 x hx).1) h.2 b2.2.2.2.1
theorem noway_in {u : Nat} (hf : FlowOk l f) (ht : Top l.length (frOf l) (toOf l) M N N1 (capOf l) (dOf f) S) (hL : StP l f l.length L) (h : NoWay l L M N u) : ¬ InAll l M N N1 u := fun hA => by
  obtain ⟨T, h1, h2, h3⟩ := nw_closed hL h
  have hx := hA f (fun v => T v && S v) hf ⟨ht.1, ht.2.1, fun i hi => ⟨fun g1 g2 => ?_, fun g1 g2 => ?_⟩, ?_, ?_⟩
  · rw [h3] at hx
    cases hx
  · have g3 := Bool.and_eq_true_iff.1 g1
    exact Bool.and_eq_true_iff.2 ⟨(h1 i hi).1 g3.1 g2, (ht.2.2.1 i hi).1 g3.2 g2⟩
  · have g3 := Bool.and_eq_true_iff.1 g1
    exact Bool.and_eq_true_iff.2 ⟨(h1 i hi).2 g3.1 g2, (ht.2.2.1 i hi).2 g3.2 g2⟩
  · show (T N && S N) = true
    rw [h2, ht.2.2.2.1]
    rfl
  · show (T N1 && S N1) = false
    rw [ht.2.2.2.2, Bool.and_false]
end
end Go.Proofs.Ytcgdloldkcmhnaa.H
end
