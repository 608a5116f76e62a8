/- Texts of this proof, joined; what the statement doesn't need is left out. -/
import Derived.Test.YtcgdloldkcmhnaaB4
section
namespace Go.Proofs.Ytcgdloldkcmhnaa.H
open Go Go.RowKit Go.Proofs.Ytcgdloldkcmhnaa.PrintC Go.Proofs.Ytcgdloldkcmhnaa.PrintE Go.Proofs.YtcgdloldkcmhnaaW.PrintWords Go.Proofs.YtcgdloldkcmhnaaW.PrintLast Go.Proofs.YtcgdloldkcmhnaaW.PrintMore Go.Proofs.Ytcgdloldkcmhnaa.Flow
set_option linter.unusedVariables false
set_option linter.unusedSimpArgs false
def Read12At (m : Nat) (b : Bool) (w : World) (e : Ending) (w' : World) : Prop :=
 ∃ (n : Int) (l : List Arc) (s t h : Int) (A : Option Addr) (c : Nat), e = .returned (.tuple #[.agg #[.int .i64 n, .bool b, .slice A l.length c], .int .i64 s, .int .i64 t, .int .i64 h]) ∧ Kd.R kArc 79 w' w.heap.size (fun _ => True) (.slice A l.length c) l ∧ NetSm m n l ∧ (0 ≤ s ∧ s < n) ∧ (0 ≤ t ∧ t < n) ∧ s ≠ t ∧ (0 ≤ h ∧ h ≤ 7) ∧ Below w.heap.size w w'
theorem tmi_bd {x n : Int} (h0 : 0 ≤ x) (h1 : x < 4611686018427387904) (hn : 0 < n) : 0 ≤ (IntKind.i64.wrap x).tmod n ∧ (IntKind.i64.wrap x).tmod n < n := by
 rw [IntWalk.i64_in x (by omega), Int.tmod_eq_emod_of_nonneg h0]
 exact ⟨Int.emod_nonneg _ (by omega), Int.emod_lt_of_pos _ hn⟩
theorem st_ok {n a3 a4 : Int} (n2 : 2 ≤ n) (n5 : n ≤ 5) (h3 : 0 ≤ a3) (h4 : 0 ≤ a4) (g4 : a4 ≤ 255) : (0 ≤ a3 % n ∧ a3 % n < n) ∧ (0 ≤ (IntKind.i64.wrap (IntKind.i64.wrap (a3 % n + 1) + (IntKind.i64.wrap a4).tmod (IntKind.i64.wrap (n - 1)))).tmod n ∧ (IntKind.i64.wrap (IntKind.i64.wrap (a3 % n + 1) + (IntKind.i64.wrap a4).tmod (IntKind.i64.wrap (n - 1)))).tmod n < n) ∧
  a3 % n ≠ (IntKind.i64.wrap (IntKind.i64.wrap (a3 % n + 1) + (IntKind.i64.wrap a4).tmod (IntKind.i64.wrap (n - 1)))).tmod n := by
 have s0 := Int.emod_nonneg a3 (show n ≠ 0 by omega)
 have s1 := Int.emod_lt_of_pos a3 (show 0 < n by omega)
 generalize a3 % n = s at s0 s1
 rw [IntWalk.i64_in (n - 1) (by omega)]
 have r1 := tmi_bd (x := a4) (n := n - 1) h4 (by omega) (by omega)
 generalize (IntKind.i64.wrap a4).tmod (n - 1) = r at r1
 rw [IntWalk.i64_in (s + 1) (by omega), IntWalk.i64_in (s + 1 + r) (by omega), Int.tmod_eq_emod_of_nonneg (by omega)]
 refine ⟨⟨s0, s1⟩, ⟨Int.emod_nonneg _ (by omega), Int.emod_lt_of_pos _ (by omega)⟩, ?_⟩
 have : n = 2 ∨ n = 3 ∨ n = 4 ∨ n = 5 := by omega
 rcases this with rfl | rfl | rfl | rfl <;> omega
def ArcsSm (n : Int) (l : List Arc) : Prop := ∀ x, x ∈ l → (0 ≤ x.f0 ∧ x.f0 < n) ∧ (0 ≤ x.f1 ∧ x.f1 < n) ∧ (0 ≤ x.f2 ∧ x.f2 ≤ 5) ∧ 0 ≤ x.f3 ∧ x.f3 ≤ 3
set_option maxHeartbeats 4000000 in
set_option maxRecDepth 100000 in
theorem read12_walk (m : Nat) (hm : m ≤ 1000) (i : Int) (hi : i = m) (a0 : Int) (a1 : Bool) (A2 : Option Addr) (c2 : Nat) (l2 : List CBit) (a3 a4 a5 : Int) (w : World) (hr : Kd.C k77 w A2 l2.length l2) (h0 : U8 a0) (hb : U8s l2) (h3 : U8 a3) (h4 : U8 a4) (h5 : U8 a5) :
  Calls Try.prog 16 #[.agg #[.int .u8 a0, .bool a1, .slice A2 l2.length c2, .int .u8 a3, .int .u8 a4, .int .u8 a5], .int .i64 i] w (Read12At m a1 w) := by
 have HR := Lib.hid hr
 have HU := Lib.hid hb
 have hu := Try.underlying32
 have hu2 := Try.underlying24
 have b0 : 0 ≤ a0 := h0.1
 have b1 : a0 ≤ 255 := h0.2
 have b3 : 0 ≤ a3 := h3.1
 have b4 : a3 ≤ 255 := h3.2
 have b5 : 0 ≤ a4 := h4.1
 have b6 : a4 ≤ 255 := h4.2
 have b7 : 0 ≤ a5 := h5.1
 have b8 : a5 ≤ 255 := h5.2
 clear hr hb h0 h3 h4 h5
 go_enter Try.func16, Try.ntmps16
 go_wp2
 obtain ⟨n, hn⟩ : ∃ n, n = 2 + a0 % 4 := ⟨_, rfl⟩
 have n2 : 2 ≤ n := by omega
 have n5 : n ≤ 5 := by omega
 rw [← hn]
 clear hn b0 b1
 obtain ⟨w3, hw3⟩ : ∃ w3, w3 = ((w.alloc (.cells #[.int .u8 a0, .bool a1, .slice A2 l2.length c2, .int .u8 a3, .int .u8 a4, .int .u8 a5] 24)).alloc (.cells #[.int .i64 0, .bool false, .slice none 0 0] 32)).alloc (.cells #[.int .i64 n, .bool a1, .slice none 0 0] 32) := ⟨_, rfl⟩
 have HX2 : Hid (w3.heap[w.heap.size]? = some (.cells #[.int .u8 a0, .bool a1, .slice A2 l2.length c2, .int .u8 a3, .int .u8 a4, .int .u8 a5] 24 (0, 0))) := Lib.hid (by rw [hw3]; exact blk_alloc (blk_alloc (heap_alloc_new _ _) _) _)
 have HX4 : Hid (w3.heap[w.heap.size + 1]? = some (.cells #[.int .i64 0, .bool false, .slice none 0 0] 32 (0, 0))) := Lib.hid (by rw [hw3]; exact blk_alloc (alloc_at (by simp)) _)
 have HX8 : Hid (w3.heap[w.heap.size + 1 + 1]? = some (.cells #[.int .i64 n, .bool a1, .slice none 0 0] 32 (0, 0))) := Lib.hid (by rw [hw3]; exact alloc_at (by simp))
 have HB3 : Hid (Below w.heap.size w w3) := Lib.hid (by rw [hw3]; exact below_alloc (below_alloc (below_alloc (Below.refl _ _) _) _) _)
 rw [← hw3]
 clear hw3
 obtain ⟨base, hbase⟩ : ∃ base, base = w.heap.size := ⟨_, rfl⟩
 obtain ⟨g4, hg4⟩ : ∃ g4, g4 = w.heap.size + 1 := ⟨_, rfl⟩
 obtain ⟨g8, hg8⟩ : ∃ g8, g8 = w.heap.size + 1 + 1 := ⟨_, rfl⟩
 rw [← hg4] at HX4
 rw [← hg8] at HX8
 rw [← hg8, ← hg4]
 have GE4 : Hid (w.heap.size ≤ g4) := Lib.hid (by omega)
 have GE8 : Hid (w.heap.size ≤ g8) := Lib.hid (by omega)
 have N84 : Hid (g8 ≠ g4) := Lib.hid (by omega)
 have N28 : Hid (w.heap.size ≠ g8) := Lib.hid (by omega)
 have N48 : Hid (g4 ≠ g8) := Lib.hid (by omega)
 have N24 : Hid (w.heap.size ≠ g4) := Lib.hid (by omega)
 clear hg4 hg8 hbase base
 have HI := Lib.hid hi
 clear hi
 go_loopg [9] (m + 1) (fun k iv W => ∃ (j : Nat) (acc : List Arc) (Av : Option Addr) (cv : Nat), j ≤ m ∧ iv = .int .i64 j ∧ acc.length = j ∧ k = m + 1 - j ∧ Hid (ArcsSm n acc ∧ Kd.R kArc 79 W w.heap.size (fun _ => True) (.slice Av acc.length cv) acc ∧ W.heap[w.heap.size]? = some (.cells #[.int .u8 a0, .bool a1, .slice A2 l2.length c2, .int .u8 a3, .int .u8 a4, .int .u8 a5] 24 (0, 0)) ∧ W.heap[g4]? = some (.cells #[.int .i64 0, .bool false, .slice none 0 0] 32 (0, 0)) ∧ W.heap[g8]? = some (.cells #[.int .i64 n, .bool a1, .slice Av acc.length cv] 32 (0, 0)) ∧ Below w.heap.size w W))
 case atStart => exact ⟨0, [], none, 0, Nat.zero_le _, rfl, rfl, rfl, Lib.hid ⟨fun x hx => (nomatch hx), Kd.R_nil _ _ _ _ _, HX2.out, HX4.out, HX8.out, HB3.out⟩⟩
 case round =>
  obtain ⟨j, acc, Av, cv, hj, rfl, hacc, rfl, HL⟩ := hrel
  clear HX2 HX4 HX8 HB3
  have x2 : wr.cell? ⟨w.heap.size, 2, none⟩ = some (.slice A2 l2.length c2) := (blk_cell HL.out.2.2.1 2).trans rfl
  have i0 : (0 : Int) ≤ (j : Int) := by omega
  by_cases c1 : j < l2.length
  ·have c1' : (j : Int) < (l2.length : Int) := by omega
   by_cases c2' : j < m
   ·have c3 : (j : Int) < i := by rw [HI.out]; omega
    obtain ⟨ad, ea, y0, y1, y2, y3⟩ := at_T77 (Kd.C_below HR.out HL.out.2.2.2.2.2) (j : Int) i0 c1'
    subst ea
    rw [Int.toNat_natCast] at y0 y1 y2 y3
    have hx := HU.out _ (rd_mem77 c1)
    obtain ⟨e0, he0⟩ : ∃ e0, e0 = (rd_T77 l2 (j : Int)).f0 := ⟨_, rfl⟩
    obtain ⟨e1, he1⟩ : ∃ e1, e1 = (rd_T77 l2 (j : Int)).f1 := ⟨_, rfl⟩
    obtain ⟨e2, he2⟩ : ∃ e2, e2 = (rd_T77 l2 (j : Int)).f2 := ⟨_, rfl⟩
    obtain ⟨e3, he3⟩ : ∃ e3, e3 = (rd_T77 l2 (j : Int)).f3 := ⟨_, rfl⟩
    rw [← he0] at y0 hx
    rw [← he1] at y1 hx
    rw [← he2] at y2 hx
    rw [← he3] at y3 hx
    obtain ⟨⟨u0, v0⟩, ⟨u1, v1⟩, ⟨u2, v2⟩, ⟨u3, v3⟩⟩ := hx
    clear he0 he1 he2 he3
    go_wp2
    obtain ⟨wq, hwq⟩ : ∃ wq, wq = wr.alloc (.cells #[.int .u8 e0, .int .u8 e1, .int .u8 e2, .int .u8 e3] 77) := ⟨_, rfl⟩
    have HQ : Hid (Kd.R kArc 79 wq w.heap.size (fun _ => True) (.slice Av acc.length cv) acc ∧ wq.heap[w.heap.size]? = some (.cells #[.int .u8 a0, .bool a1, .slice (some ad) l2.length c2, .int .u8 a3, .int .u8 a4, .int .u8 a5] 24 (0, 0)) ∧ wq.heap[g4]? = some (.cells #[.int .i64 0, .bool false, .slice none 0 0] 32 (0, 0)) ∧ wq.heap[g8]? = some (.cells #[.int .i64 n, .bool a1, .slice Av acc.length cv] 32 (0, 0)) ∧ Below w.heap.size w wq) := Lib.hid (by rw [hwq]; exact ⟨Kd.R_below HL.out.2.1 (below_alloc (Below.refl _ _) _), blk_alloc HL.out.2.2.1 _, blk_alloc HL.out.2.2.2.1 _, blk_alloc HL.out.2.2.2.2.1 _, below_alloc HL.out.2.2.2.2.2 _⟩)
    have HX10 : Hid (wq.heap[wr.heap.size]? = some (.cells #[.int .u8 e0, .int .u8 e1, .int .u8 e2, .int .u8 e3] 77 (0, 0))) := Lib.hid (by rw [hwq]; exact heap_alloc_new _ _)
    rw [← hwq]
    clear hwq x2 y0 y1 y2 y3
    have HA := Lib.hid HL.out.1
    clear HL
    generalize wr.heap.size = go at *
    have x0 : wq.cell? ⟨g8, 0, none⟩ = some (.int .i64 n) := (blk_cell HQ.out.2.2.2.1 0).trans rfl
    have x2 : wq.cell? ⟨g8, 2, none⟩ = some (.slice Av acc.length cv) := (blk_cell HQ.out.2.2.2.1 2).trans rfl
    have y0 : wq.cell? ⟨go, 0, none⟩ = some (.int .u8 e0) := (blk_cell HX10.out 0).trans rfl
    have y1 : wq.cell? ⟨go, 1, none⟩ = some (.int .u8 e1) := (blk_cell HX10.out 1).trans rfl
    have y2 : wq.cell? ⟨go, 2, none⟩ = some (.int .u8 e2) := (blk_cell HX10.out 2).trans rfl
    have y3 : wq.cell? ⟨go, 3, none⟩ = some (.int .u8 e3) := (blk_cell HX10.out 3).trans rfl
    have hn0 : ¬ n = 0 := by omega
    have hal : acc.length ≤ 1000 := by omega
    have HAC := Lib.hid hacc
    clear hacc
    refine stepS (S := fun w' => w'.cell? ⟨g8, 0, none⟩ = some (.int .i64 n) ∧ w'.cell? ⟨g8, 2, none⟩ = some (.slice Av acc.length cv) ∧ w'.cell? ⟨go, 0, none⟩ = some (.int .u8 e0) ∧ w'.cell? ⟨go, 1, none⟩ = some (.int .u8 e1) ∧ w'.cell? ⟨go, 2, none⟩ = some (.int .u8 e2) ∧ w'.cell? ⟨go, 3, none⟩ = some (.int .u8 e3)) (ds := [26]) 27 (by kernel_rfl) rfl ⟨x0, x2, y0, y1, y2, y3⟩ (fun hHeld => ?_)
    repeat (first | refine rP 27 ?_ | refine rT 27 hHeld ?_)
    refine stepE 27 (N := some 61) rfl rfl (by kernel_rfl) (by decide) (fun K hK => ?_)
    refine value_ (w1 := ?_) (v := ?_) (by rfl) rfl ?_ ?_
    rotate_left 2
    ·go_simp
     constructor
     ·rfl
     ·rfl
    refine hK.out _ _ ⟨(blk_cell (blk_alloc (blk_drew HQ.out.2.2.2.1) _) 0).trans rfl, (blk_cell (blk_alloc (blk_drew HQ.out.2.2.2.1) _) 2).trans rfl, (blk_cell (blk_alloc (blk_drew HX10.out) _) 0).trans rfl, (blk_cell (blk_alloc (blk_drew HX10.out) _) 1).trans rfl, (blk_cell (blk_alloc (blk_drew HX10.out) _) 2).trans rfl, (blk_cell (blk_alloc (blk_drew HX10.out) _) 3).trans rfl⟩ (fun hHeld => ?_)
    clear hK K
    refine sN ?_
    refine stepE 27 (N := some 62) rfl rfl (by kernel_rfl) (by decide) (fun K hK => ?_)
    (repeat rw [drew_of_alloc])
    refine Kd.R_append_step kArc (w0 := w) w.heap.size (by rfl) (.tmp 39) (.tmp 61) 30 79 (.agg #[.int .i64 0, .int .i64 0, .int .i64 0, .int .i64 0]) 32 (by rfl) Try.underlying30 infoArc rfl (by decide) (by decide) (.slice Av acc.length cv) acc ⟨(IntKind.i64.wrap e0).tmod n, (IntKind.i64.wrap e1).tmod n, (IntKind.i64.wrap e2).tmod 6, (IntKind.i64.wrap e3).tmod 4⟩ [.int .i64 ((IntKind.i64.wrap e0).tmod n), .int .i64 ((IntKind.i64.wrap e1).tmod n), .int .i64 ((IntKind.i64.wrap e2).tmod 6), .int .i64 ((IntKind.i64.wrap e3).tmod 4)] (fun _ => True) (fun _ => False) (by rfl) (by rfl) (k79_mkM _ _ _ (⟨(IntKind.i64.wrap e0).tmod n, (IntKind.i64.wrap e1).tmod n, (IntKind.i64.wrap e2).tmod 6, (IntKind.i64.wrap e3).tmod 4⟩ : Arc)) (fun _ hk => hk.elim) (fun _ _ => trivial) ?aO ?aB ?aS (by omega) ?_; (case aO => exact Kd.R_drew HQ.out.1); (case aB => exact below_drew1 HQ.out.2.2.2.2); (case aS => exact HQ.out.2.2.2.2.size); intro v1 w9 ho hb hg hat; obtain ⟨A1, c1, rfl⟩ := Kd.R_slice ho; have HS9 := Lib.hid (And.intro ho (And.intro (blk_grown (blk_drew HQ.out.2.1) hg (Kd.R_ne HQ.out.1 HQ.out.2.1 (by decide))) (And.intro (blk_grown (blk_drew HQ.out.2.2.1) hg (Kd.R_ne HQ.out.1 HQ.out.2.2.1 (by decide))) (And.intro (blk_grown (blk_drew HQ.out.2.2.2.1) hg (Kd.R_ne HQ.out.1 HQ.out.2.2.2.1 (by decide))) (And.intro (blk_grown (blk_drew HX10.out) hg (Kd.R_ne HQ.out.1 HX10.out (by decide))) hb))))); clear ho hb hg hat
    refine hK.out _ _ ⟨(blk_cell HS9.out.2.2.2.1 0).trans rfl, (blk_cell HS9.out.2.2.2.1 2).trans rfl, (blk_cell HS9.out.2.2.2.2.1 0).trans rfl, (blk_cell HS9.out.2.2.2.2.1 1).trans rfl, (blk_cell HS9.out.2.2.2.2.1 2).trans rfl, (blk_cell HS9.out.2.2.2.2.1 3).trans rfl⟩ (fun hHeld => ?_)
    clear hK K
    refine sN ?_
    refine rP 27 ?_
    refine stepL 27 (N := none) rfl rfl (by kernel_rfl) (by decide) (fun K hK => ?_)
    have z2 : w9.cell? ⟨g8, 2, none⟩ = some (.slice Av acc.length cv) := (blk_cell HS9.out.2.2.2.1 2).trans rfl
    have f2 : w9.frozen? ⟨g8, 2, none⟩ = false := blk_frozen HS9.out.2.2.2.1 2
    refine skip_ (w1 := ?_) (by rfl) rfl ?_ ?_
    rotate_left
    ·go_simp
     rfl
    refine hK.out _ _ ?_
    clear hK K
    refine done_ (by kernel_rfl) ?_
    go_wp2
    have el : (acc ++ [(⟨(IntKind.i64.wrap e0).tmod n, (IntKind.i64.wrap e1).tmod n, (IntKind.i64.wrap e2).tmod 6, (IntKind.i64.wrap e3).tmod 4⟩ : Arc)]).length = acc.length + 1 := by rw [List.length_append]; rfl
    have hs := HS9.out
    rw [el] at hs
    have q0 := tmi_bd (x := e0) (n := n) u0 (by omega) (by omega)
    have q1 := tmi_bd (x := e1) (n := n) u1 (by omega) (by omega)
    have q2 := tmi_bd (x := e2) (n := 6) u2 (by omega) (by omega)
    have q3 := tmi_bd (x := e3) (n := 4) u3 (by omega) (by omega)
    have har : ArcsSm n (acc ++ [(⟨(IntKind.i64.wrap e0).tmod n, (IntKind.i64.wrap e1).tmod n, (IntKind.i64.wrap e2).tmod 6, (IntKind.i64.wrap e3).tmod 4⟩ : Arc)]) := fun x hx => by
     rcases List.mem_append.1 hx with hx | hx
     ·exact HA.out x hx
     ·obtain rfl := List.mem_singleton.1 hx
      exact ⟨q0, q1, ⟨q2.1, Int.le_of_lt_add_one q2.2⟩, q3.1, Int.le_of_lt_add_one q3.2⟩
    have hac := HAC.out
    go_roundg (m - j)
    case measure => omega
    case rel => exact ⟨j + 1, _, A1, c1, by omega, by go_num, by rw [el, hac], by omega, Lib.hid ⟨har, by rw [el]; exact Kd.R_mono (Kd.R_far (p := ⟨g8, 2, none⟩) (Kd.R_types hs.1 hs.2.2.2.1 (by decide)) (fun _ hk => hk.2) (.slice A1 (acc.length + 1) c1)) (fun _ hk => trivial), blk_far hs.2.1 N28.out _, blk_far hs.2.2.1 N48.out _, by rw [el]; exact blk_put (cs := #[.int .i64 n, .bool a1, .slice Av acc.length cv]) hs.2.2.2.1 2 _ rfl, below_set hs.2.2.2.2.2 GE8.out⟩⟩
   ·have c3 : ¬ (j : Int) < i := by rw [HI.out]; omega
    have x3 : wr.cell? ⟨w.heap.size, 3, none⟩ = some (.int .u8 a3) := (blk_cell HL.out.2.2.1 3).trans rfl
    have x4 : wr.cell? ⟨w.heap.size, 4, none⟩ = some (.int .u8 a4) := (blk_cell HL.out.2.2.1 4).trans rfl
    have x5 : wr.cell? ⟨w.heap.size, 5, none⟩ = some (.int .u8 a5) := (blk_cell HL.out.2.2.1 5).trans rfl
    have y0 : wr.cell? ⟨g8, 0, none⟩ = some (.int .i64 n) := (blk_cell HL.out.2.2.2.2.1 0).trans rfl
    have y1 : wr.cell? ⟨g8, 1, none⟩ = some (.bool a1) := (blk_cell HL.out.2.2.2.2.1 1).trans rfl
    have y2 : wr.cell? ⟨g8, 2, none⟩ = some (.slice Av acc.length cv) := (blk_cell HL.out.2.2.2.2.1 2).trans rfl
    have hn0 : ¬ n = 0 := by omega
    have hn1 : ¬ IntKind.i64.wrap (n - 1) = 0 := by rw [IntWalk.i64_in _ (by omega)]; omega
    have HAC := Lib.hid hacc
    clear hacc
    go_wp2
    refine stepS (S := fun w' => w'.cell? ⟨w.heap.size, 4, none⟩ = some (.int .u8 a4) ∧ w'.cell? ⟨w.heap.size, 5, none⟩ = some (.int .u8 a5) ∧ w'.cell? ⟨g8, 0, none⟩ = some (.int .i64 n) ∧ w'.cell? ⟨g8, 1, none⟩ = some (.bool a1) ∧ w'.cell? ⟨g8, 2, none⟩ = some (.slice Av acc.length cv)) (ds := []) 14 (by kernel_rfl) rfl ⟨x4, x5, y0, y1, y2⟩ (fun hHeld => ?_)
    repeat (first | refine rP 14 ?_ | refine rT 14 hHeld ?_)
    refine done_ (by kernel_rfl) ?_
    go_wp2
    have r4 := blk_drew (blk_drew HL.out.2.2.2.1)
    refine stepS (S := fun w' => w'.cell? ⟨w.heap.size, 4, none⟩ = some (.int .u8 a4) ∧ w'.cell? ⟨w.heap.size, 5, none⟩ = some (.int .u8 a5) ∧ w'.cell? ⟨g8, 0, none⟩ = some (.int .i64 n) ∧ w'.cell? ⟨g8, 1, none⟩ = some (.bool a1) ∧ w'.cell? ⟨g8, 2, none⟩ = some (.slice Av acc.length cv)) (ds := []) 11 (by kernel_rfl) rfl ⟨x4, x5, y0, y1, y2⟩ (fun hHeld => ?_)
    repeat (first | refine rP 11 ?_ | refine rT 11 hHeld ?_)
    refine stepE 11 (N := none) rfl rfl (by kernel_rfl) (by decide) (fun K hK => ?_)
    have HZ := Lib.hid (And.intro (Kd.R_drew (Kd.R_drew HL.out.2.1)) (And.intro r4 (And.intro (blk_drew (blk_drew HL.out.2.2.2.2.1)) (below_drew1 (below_drew1 HL.out.2.2.2.2.2)))))
    generalize wr.drew.drew = wz at hHeld r4 HZ ⊢
    have z0 : wz.cell? ⟨g4, 0, none⟩ = some (.int .i64 0) := (blk_cell r4 0).trans rfl
    have z1 : wz.cell? ⟨g4, 1, none⟩ = some (.bool false) := (blk_cell r4 1).trans rfl
    have z2 : wz.cell? ⟨g4, 2, none⟩ = some (.slice none 0 0) := (blk_cell r4 2).trans rfl
    have f0 := blk_frozen r4 0
    have f1 := blk_frozen r4 1
    have f2 := blk_frozen r4 2
    refine skip_ (w1 := ?_) (by rfl) rfl ?_ ?_
    rotate_left
    ·go_simp
     rfl
    refine hK.out _ _ ⟨((cell_far (p := ⟨g4, _, none⟩) N24.out _).trans (((cell_far (p := ⟨g4, _, none⟩) N24.out _).trans (((cell_far (p := ⟨g4, _, none⟩) N24.out _).trans hHeld.1))))), ((cell_far (p := ⟨g4, _, none⟩) N24.out _).trans (((cell_far (p := ⟨g4, _, none⟩) N24.out _).trans (((cell_far (p := ⟨g4, _, none⟩) N24.out _).trans hHeld.2.1))))), ((cell_far (p := ⟨g4, _, none⟩) N84.out _).trans (((cell_far (p := ⟨g4, _, none⟩) N84.out _).trans (((cell_far (p := ⟨g4, _, none⟩) N84.out _).trans hHeld.2.2.1))))), ((cell_far (p := ⟨g4, _, none⟩) N84.out _).trans (((cell_far (p := ⟨g4, _, none⟩) N84.out _).trans (((cell_far (p := ⟨g4, _, none⟩) N84.out _).trans hHeld.2.2.2.1))))), ((cell_far (p := ⟨g4, _, none⟩) N84.out _).trans (((cell_far (p := ⟨g4, _, none⟩) N84.out _).trans (((cell_far (p := ⟨g4, _, none⟩) N84.out _).trans hHeld.2.2.2.2)))))⟩ (fun hHeld => ?_)
    clear hK K
    repeat (first | refine rP 11 ?_ | refine rT 11 hHeld ?_)
    refine done_ (by kernel_rfl) ?_
    go_wp2
    refine bodyPost_ret (results_list (rs := [.cell 4 32, .tmp 5, .tmp 6, .tmp 7]) rfl (by simp) (.cell g4 32 #[.int .i64 n, .bool a1, .slice Av acc.length cv] (0, 0) _ rfl (blk_put (cs := #[.int .i64 n, .bool a1, .slice none 0 0]) (blk_put (cs := #[.int .i64 n, .bool false, .slice none 0 0]) (blk_put (cs := #[.int .i64 0, .bool false, .slice none 0 0]) r4 0 _ rfl) 1 _ rfl) 2 _ rfl) hu rfl (by kernel_rfl) (.tmp (.tmp (.tmp .nil))))) rfl ?_
    have st := st_ok (n := n) (a3 := a3) (a4 := a4) n2 n5 b3 b5 b6
    have q8 := tmi_bd (x := a5) (n := 8) b7 (by omega) (by decide)
    have hac := HAC.out
    exact ⟨n, acc, _, _, _, Av, cv, rfl, Kd.R_mono (Kd.R_far (p := ⟨g4, 2, none⟩) (Kd.R_far (p := ⟨g4, 1, none⟩) (Kd.R_far (p := ⟨g4, 0, none⟩) (Kd.R_types HZ.out.1 HZ.out.2.1 (by decide)) (fun _ hk => hk.2) (.int .i64 n)) (fun _ hk => hk.2) (.bool a1)) (fun _ hk => hk.2) (.slice Av acc.length cv)) (fun _ hk => trivial), ⟨n2, n5, by omega, HL.out.1⟩, st.1, st.2.1, st.2.2, ⟨q8.1, Int.le_of_lt_add_one q8.2⟩, below_set (below_set (below_set HZ.out.2.2.2 GE4.out) GE4.out) GE4.out⟩
  ·have c3 : ¬ (j : Int) < (l2.length : Int) := by omega
   have x3 : wr.cell? ⟨w.heap.size, 3, none⟩ = some (.int .u8 a3) := (blk_cell HL.out.2.2.1 3).trans rfl
   have x4 : wr.cell? ⟨w.heap.size, 4, none⟩ = some (.int .u8 a4) := (blk_cell HL.out.2.2.1 4).trans rfl
   have x5 : wr.cell? ⟨w.heap.size, 5, none⟩ = some (.int .u8 a5) := (blk_cell HL.out.2.2.1 5).trans rfl
   have y0 : wr.cell? ⟨g8, 0, none⟩ = some (.int .i64 n) := (blk_cell HL.out.2.2.2.2.1 0).trans rfl
   have y1 : wr.cell? ⟨g8, 1, none⟩ = some (.bool a1) := (blk_cell HL.out.2.2.2.2.1 1).trans rfl
   have y2 : wr.cell? ⟨g8, 2, none⟩ = some (.slice Av acc.length cv) := (blk_cell HL.out.2.2.2.2.1 2).trans rfl
   have hn0 : ¬ n = 0 := by omega
   have hn1 : ¬ IntKind.i64.wrap (n - 1) = 0 := by rw [IntWalk.i64_in _ (by omega)]; omega
   have HAC := Lib.hid hacc
   clear hacc
   go_wp2
   refine stepS (S := fun w' => w'.cell? ⟨w.heap.size, 4, none⟩ = some (.int .u8 a4) ∧ w'.cell? ⟨w.heap.size, 5, none⟩ = some (.int .u8 a5) ∧ w'.cell? ⟨g8, 0, none⟩ = some (.int .i64 n) ∧ w'.cell? ⟨g8, 1, none⟩ = some (.bool a1) ∧ w'.cell? ⟨g8, 2, none⟩ = some (.slice Av acc.length cv)) (ds := []) 14 (by kernel_rfl) rfl ⟨x4, x5, y0, y1, y2⟩ (fun hHeld => ?_)
   repeat (first | refine rP 14 ?_ | refine rT 14 hHeld ?_)
   refine done_ (by kernel_rfl) ?_
   go_wp2
   have r4 := blk_drew (blk_drew HL.out.2.2.2.1)
   refine stepS (S := fun w' => w'.cell? ⟨w.heap.size, 4, none⟩ = some (.int .u8 a4) ∧ w'.cell? ⟨w.heap.size, 5, none⟩ = some (.int .u8 a5) ∧ w'.cell? ⟨g8, 0, none⟩ = some (.int .i64 n) ∧ w'.cell? ⟨g8, 1, none⟩ = some (.bool a1) ∧ w'.cell? ⟨g8, 2, none⟩ = some (.slice Av acc.length cv)) (ds := []) 11 (by kernel_rfl) rfl ⟨x4, x5, y0, y1, y2⟩ (fun hHeld => ?_)
   repeat (first | refine rP 11 ?_ | refine rT 11 hHeld ?_)
   refine stepE 11 (N := none) rfl rfl (by kernel_rfl) (by decide) (fun K hK => ?_)
   have HZ := Lib.hid (And.intro (Kd.R_drew (Kd.R_drew HL.out.2.1)) (And.intro r4 (And.intro (blk_drew (blk_drew HL.out.2.2.2.2.1)) (below_drew1 (below_drew1 HL.out.2.2.2.2.2)))))
   generalize wr.drew.drew = wz at hHeld r4 HZ ⊢
   have z0 : wz.cell? ⟨g4, 0, none⟩ = some (.int .i64 0) := (blk_cell r4 0).trans rfl
   have z1 : wz.cell? ⟨g4, 1, none⟩ = some (.bool false) := (blk_cell r4 1).trans rfl
   have z2 : wz.cell? ⟨g4, 2, none⟩ = some (.slice none 0 0) := (blk_cell r4 2).trans rfl
   have f0 := blk_frozen r4 0
   have f1 := blk_frozen r4 1
   have f2 := blk_frozen r4 2
   refine skip_ (w1 := ?_) (by rfl) rfl ?_ ?_
   rotate_left
   ·go_simp
    rfl
   refine hK.out _ _ ⟨((cell_far (p := ⟨g4, _, none⟩) N24.out _).trans (((cell_far (p := ⟨g4, _, none⟩) N24.out _).trans (((cell_far (p := ⟨g4, _, none⟩) N24.out _).trans hHeld.1))))), ((cell_far (p := ⟨g4, _, none⟩) N24.out _).trans (((cell_far (p := ⟨g4, _, none⟩) N24.out _).trans (((cell_far (p := ⟨g4, _, none⟩) N24.out _).trans hHeld.2.1))))), ((cell_far (p := ⟨g4, _, none⟩) N84.out _).trans (((cell_far (p := ⟨g4, _, none⟩) N84.out _).trans (((cell_far (p := ⟨g4, _, none⟩) N84.out _).trans hHeld.2.2.1))))), ((cell_far (p := ⟨g4, _, none⟩) N84.out _).trans (((cell_far (p := ⟨g4, _, none⟩) N84.out _).trans (((cell_far (p := ⟨g4, _, none⟩) N84.out _).trans hHeld.2.2.2.1))))), ((cell_far (p := ⟨g4, _, none⟩) N84.out _).trans (((cell_far (p := ⟨g4, _, none⟩) N84.out _).trans (((cell_far (p := ⟨g4, _, none⟩) N84.out _).trans hHeld.2.2.2.2)))))⟩ (fun hHeld => ?_)
   clear hK K
   repeat (first | refine rP 11 ?_ | refine rT 11 hHeld ?_)
   refine done_ (by kernel_rfl) ?_
   go_wp2
   refine bodyPost_ret (results_list (rs := [.cell 4 32, .tmp 5, .tmp 6, .tmp 7]) rfl (by simp) (.cell g4 32 #[.int .i64 n, .bool a1, .slice Av acc.length cv] (0, 0) _ rfl (blk_put (cs := #[.int .i64 n, .bool a1, .slice none 0 0]) (blk_put (cs := #[.int .i64 n, .bool false, .slice none 0 0]) (blk_put (cs := #[.int .i64 0, .bool false, .slice none 0 0]) r4 0 _ rfl) 1 _ rfl) 2 _ rfl) hu rfl (by kernel_rfl) (.tmp (.tmp (.tmp .nil))))) rfl ?_
   have st := st_ok (n := n) (a3 := a3) (a4 := a4) n2 n5 b3 b5 b6
   have q8 := tmi_bd (x := a5) (n := 8) b7 (by omega) (by decide)
   have hac := HAC.out
   exact ⟨n, acc, _, _, _, Av, cv, rfl, Kd.R_mono (Kd.R_far (p := ⟨g4, 2, none⟩) (Kd.R_far (p := ⟨g4, 1, none⟩) (Kd.R_far (p := ⟨g4, 0, none⟩) (Kd.R_types HZ.out.1 HZ.out.2.1 (by decide)) (fun _ hk => hk.2) (.int .i64 n)) (fun _ hk => hk.2) (.bool a1)) (fun _ hk => hk.2) (.slice Av acc.length cv)) (fun _ hk => trivial), ⟨n2, n5, by omega, HL.out.1⟩, st.1, st.2.1, st.2.2, ⟨q8.1, Int.le_of_lt_add_one q8.2⟩, below_set (below_set (below_set HZ.out.2.2.2 GE4.out) GE4.out) GE4.out⟩
end Go.Proofs.Ytcgdloldkcmhnaa.H
end
section
namespace Go.Proofs.Ytcgdloldkcmhnaa.H
open Go Go.RowKit Go.Proofs.Ytcgdloldkcmhnaa.PrintC Go.Proofs.Ytcgdloldkcmhnaa.PrintE Go.Proofs.YtcgdloldkcmhnaaW.PrintWords Go.Proofs.YtcgdloldkcmhnaaW.PrintLast Go.Proofs.YtcgdloldkcmhnaaW.PrintMore Go.Proofs.Ytcgdloldkcmhnaa.Flow
set_option linter.unusedVariables false
set_option linter.unusedSimpArgs false
def gOf (v : Int) : List Grp → Int
 | [] => -1
 | g :: l => if g.f0 = v then g.f1 else gOf v l
theorem gOf_drop {l : List Grp} (v : Int) {i : Nat} (hi : i < l.length) : gOf v (l.drop i) = if (rd_T44 l (i : Int)).f0 = v then (rd_T44 l (i : Int)).f1 else gOf v (l.drop (i + 1)) := by
 have e : rd_T44 l (i : Int) = l[i] := by
  unfold rd_T44
  rw [Int.toNat_natCast, List.getD_eq_getElem?_getD, List.getElem?_eq_getElem hi]
  rfl
 rw [List.drop_eq_getElem_cons hi, e]
 rfl
theorem gOf_neg (v : Int) : ∀ {l : List Grp}, (∀ g, g ∈ l → 0 ≤ g.f1) → (gOf v l < 0 ↔ hasK (putGs l) v = false) := by
 intro l
 rw [hasK_putGs]
 induction l with
 | nil => intro _; exact ⟨fun _ => rfl, fun _ => by unfold gOf; decide⟩
 | cons g l ih =>
  intro h
  have h0 := h g (List.mem_cons_self ..)
  have h1 := ih (fun x hx => h x (List.mem_cons_of_mem _ hx))
  unfold gOf
  rw [List.any_cons]
  by_cases e : g.f0 = v
  ·rw [if_pos e, decide_eq_true e]
   exact ⟨fun h => by omega, fun h => by cases h⟩
  ·rw [if_neg e, decide_eq_false e, Bool.false_or]
   exact h1
set_option maxHeartbeats 4000000 in
set_option maxRecDepth 100000 in
theorem rof_walk (m : Nat) (A : Option Addr) (c : Nat) (l : List Grp) (v : Int) (w : World) (hm : l.length = m) (hr : Kd.C kGrp w A l.length l) (hl : m ≤ 1000000) :
  Calls Try.prog 27 #[.slice A m c, .int .i64 v] w fun e w' => e = .returned (.int .i64 (gOf v l)) ∧ Below w.heap.size w w' := by
 subst hm
 have HR := Lib.hid hr
 clear hr
 go_enter Try.func27, Try.ntmps27
 go_wp2
 go_loopg [5] l.length (fun k iv W => ∃ i : Nat, i ≤ l.length ∧ iv = .int .i64 i ∧ k = l.length - i ∧ Hid (gOf v (l.drop i) = gOf v l ∧ Below w.heap.size w W))
 case atStart => exact ⟨0, Nat.zero_le _, rfl, rfl, Lib.hid ⟨rfl, by first | exact Below.refl _ _ | exact pw_below_drewN (Below.refl _ _) _⟩⟩
 case round =>
  obtain ⟨i, hi, rfl, rfl, HL⟩ := hrel
  by_cases d1 : i < l.length
  ·have i0 : (0 : Int) ≤ (i : Int) := by omega
   have i1 : (i : Int) < (l.length : Int) := by omega
   obtain ⟨ad, ea, y0, y1⟩ := at_T44 (Kd.C_below HR.out HL.out.2) (i : Int) i0 i1
   subst ea
   rw [Int.toNat_natCast] at y0 y1
   have HD := Lib.hid (gOf_drop v d1)
   obtain ⟨g, hg⟩ : ∃ g, g = rd_T44 l (i : Int) := ⟨_, rfl⟩
   rw [← hg] at HD y0 y1
   clear hg
   by_cases d2 : g.f0 = v
   ·have d3 : (g.f0 == v) = true := by simpa using d2
    have d4 : (g.f0 != v) = false := by simpa using d2
    have HD2 : Hid (gOf v (l.drop i) = g.f1) := Lib.hid (by rw [HD.out, if_pos d2])
    clear d2
    go_wp2
    go_ret
    refine ⟨?_, HL.out.2⟩
    rw [← HL.out.1, HD2.out]
    rfl
   ·have d3 : (g.f0 == v) = false := by simpa using d2
    have d4 : (g.f0 != v) = true := by simpa using d2
    have HD2 : Hid (gOf v (l.drop i) = gOf v (l.drop (i + 1))) := Lib.hid (by rw [HD.out, if_neg d2])
    clear d2
    go_wp2
    go_roundg (l.length - (i + 1))
    case measure => omega
    case rel => exact ⟨i + 1, by omega, by go_num, by omega, Lib.hid ⟨by rw [← HL.out.1, HD2.out], HL.out.2⟩⟩
  ·have d2 : ¬ (i : Int) < (l.length : Int) := by omega
   have HE : Hid (l.drop i = []) := Lib.hid (List.drop_of_length_le (by omega))
   go_wp2
   go_ret
   refine ⟨?_, HL.out.2⟩
   rw [← HL.out.1, HE.out]
   rfl
set_option maxHeartbeats 4000000 in
set_option maxRecDepth 100000 in
theorem rkeeps_walk (n : Int) (b : Bool) (vl : Value) (Ap : Option Addr) (cp : Nat) (p : List Grp) (Aq : Option Addr) (cq : Nat) (q : List Grp) (v : Int) (w : World) (hp : Kd.C kGrp w Ap p.length p) (hq : Kd.C kGrp w Aq q.length q) (lp : p.length ≤ 1000000) (lq : q.length ≤ 1000000) (gp : ∀ g, g ∈ p → 0 ≤ g.f1) (gq : ∀ g, g ∈ q → 0 ≤ g.f1) :
  Calls Try.prog 44 #[.agg #[.int .i64 n, .bool b, vl], .slice Ap p.length cp, .slice Aq q.length cq, .int .i64 v] w fun e w' => e = .returned (.bool (b || (hasK (putGs p) v || hasK (putGs q) v))) ∧ Below w.heap.size w w' := by
 have hu := Try.underlying32
 have HP := Lib.hid hp
 have HQ := Lib.hid hq
 have HGP := Lib.hid (gOf_neg v gp)
 have HGQ := Lib.hid (gOf_neg v gq)
 clear hp hq gp gq
 obtain ⟨x, hx⟩ : ∃ x, x = gOf v p := ⟨_, rfl⟩
 obtain ⟨y, hy⟩ : ∃ y, y = gOf v q := ⟨_, rfl⟩
 have HX := Lib.hid hx
 have HY := Lib.hid hy
 clear hx hy
 cases b with
 | true =>
  go_enter Try.func44, Try.ntmps44
  go_wp2
  go_ret
  exact ⟨rfl, below_alloc (Below.refl _ _) _⟩
 | false =>
  by_cases c1 : x < 0
  ·have c2 : ¬ 0 ≤ x := by omega
   by_cases c3 : y < 0
   ·have c4 : ¬ 0 ≤ y := by omega
    go_enter Try.func44, Try.ntmps44
    go_wp2_with (go_at_call 27; go_loud (first | ((with_reducible refine (rof_walk p.length Ap cp p v _ ?s1 ?s2 ?s3).mono ?_); (case s1 => rfl); (case s2 => exact Kd.C_below HP.out (below_alloc (Below.refl _ _) _)); (case s3 => exact lp); rintro e w1 ⟨rfl, hb⟩; rw [← HX.out]; have HB := Lib.hid (below_step (below_alloc (Below.refl _ _) _) hb); clear hb) | ((with_reducible refine (rof_walk q.length Aq cq q v _ ?s1 ?s2 ?s3).mono ?_); (case s1 => rfl); (case s2 => exact Kd.C_below HQ.out HB.out); (case s3 => exact lq); rintro e w2 ⟨rfl, hb⟩; rw [← HY.out]; have HB2 := Lib.hid (below_step HB.out hb); clear hb)))
    go_ret
    refine ⟨?_, HB2.out⟩
    rw [HGP.out.1 (by rw [← HX.out]; exact c1), HGQ.out.1 (by rw [← HY.out]; exact c3)]
    first | rfl | (simp; exact ⟨c1, c3⟩)
   ·have c4 : 0 ≤ y := by omega
    go_enter Try.func44, Try.ntmps44
    go_wp2_with (go_at_call 27; go_loud (first | ((with_reducible refine (rof_walk p.length Ap cp p v _ ?s1 ?s2 ?s3).mono ?_); (case s1 => rfl); (case s2 => exact Kd.C_below HP.out (below_alloc (Below.refl _ _) _)); (case s3 => exact lp); rintro e w1 ⟨rfl, hb⟩; rw [← HX.out]; have HB := Lib.hid (below_step (below_alloc (Below.refl _ _) _) hb); clear hb) | ((with_reducible refine (rof_walk q.length Aq cq q v _ ?s1 ?s2 ?s3).mono ?_); (case s1 => rfl); (case s2 => exact Kd.C_below HQ.out HB.out); (case s3 => exact lq); rintro e w2 ⟨rfl, hb⟩; rw [← HY.out]; have HB2 := Lib.hid (below_step HB.out hb); clear hb)))
    go_ret
    refine ⟨?_, HB2.out⟩
    have : hasK (putGs q) v = true := by
     cases h : hasK (putGs q) v
     ·have := HGQ.out.2 h; rw [← HY.out] at this; omega
     ·rfl
    rw [this, Bool.or_true, Bool.or_true]
    rfl
  ·have c2 : 0 ≤ x := by omega
   go_enter Try.func44, Try.ntmps44
   go_wp2_with (go_at_call 27; go_loud ((with_reducible refine (rof_walk p.length Ap cp p v _ ?s1 ?s2 ?s3).mono ?_); (case s1 => rfl); (case s2 => exact Kd.C_below HP.out (below_alloc (Below.refl _ _) _)); (case s3 => exact lp); rintro e w1 ⟨rfl, hb⟩; rw [← HX.out]; have HB := Lib.hid (below_step (below_alloc (Below.refl _ _) _) hb); clear hb))
   go_ret
   refine ⟨?_, HB.out⟩
   have : hasK (putGs p) v = true := by
    cases h : hasK (putGs p) v
    ·have := HGP.out.2 h; rw [← HX.out] at this; omega
    ·rfl
   rw [this, Bool.true_or, Bool.or_true]
   rfl
end Go.Proofs.Ytcgdloldkcmhnaa.H
end
section
namespace Go.Proofs.Ytcgdloldkcmhnaa.H
open Go Go.RowKit Go.Proofs.Ytcgdloldkcmhnaa.PrintC Go.Proofs.Ytcgdloldkcmhnaa.PrintE Go.Proofs.YtcgdloldkcmhnaaW.PrintWords Go.Proofs.YtcgdloldkcmhnaaW.PrintLast Go.Proofs.YtcgdloldkcmhnaaW.PrintMore Go.Proofs.Ytcgdloldkcmhnaa.Flow
set_option linter.unusedVariables false
set_option linter.unusedSimpArgs false
theorem grp_one {W : World} {g base : Nat} {a b : Int} {ok : Nat → Prop} (hok : ok g) (hb : W.heap[g]? = some (.cells #[.int .i64 a, .int .i64 b] 44 (0, 0))) (hg : base ≤ g) : Kd.R kGrp 44 W base ok (.slice (some ⟨g, 0, none⟩) 1 1) [⟨a, b⟩] := by
 refine ⟨fun k hk => ?_, [.int .i64 a, .int .i64 b], ⟨rfl, .inr ⟨g, 1, #[.int .i64 a, .int .i64 b], rfl, hg, hb, Nat.le_refl _, by decide, rfl, rfl⟩⟩, ⟨rfl, fun j p hj => ?_⟩⟩
 ·have : g = k := by simpa [Value.ownBlock] using hk
  subst this
  exact hok
 ·have hj0 : j = 0 := by have := (List.getElem?_eq_some_iff.1 hj).1; simpa using this
  subst hj0
  have e : (⟨a, b⟩ : Grp) = p := by simpa using hj
  subst e
  exact k44_mkM _ _ _ ⟨a, b⟩
theorem infoGrp : (Try.prog.info? 44).map (fun i => (i.zero, i.size, i.bytes)) = some (some (.agg #[.int .i64 0, .int .i64 0]), 2, 16) := by kernel_rfl
structure RdI (w : World) (xs ys : Array Value) (g4 g8 : Nat) (vl : Value) (l : List Arc) (vp : Value) (p : List Grp) (vq : Value) (q : List Grp) (W : World) : Prop where
 rp : Kd.R kGrp 44 W w.heap.size (fun k => some k ≠ vq.ownBlock) vp p
 rq : Kd.R kGrp 44 W w.heap.size (fun k => some k ≠ vp.ownBlock) vq q
 rl : Kd.R kArc 79 W w.heap.size (fun _ => True) vl l
 bx : W.heap[w.heap.size]? = some (.cells xs 29 (0, 0))
 b4 : W.heap[g4]? = some (.cells #[.int .i64 0, .bool false, .slice none 0 0] 32 (0, 0))
 b8 : W.heap[g8]? = some (.cells ys 32 (0, 0))
 low : Below w.heap.size w W
section
variable {w : World} {xs ys : Array Value} {g4 g8 : Nat} {vl vp vq vp2 : Value} {l : List Arc} {p q p2 : List Grp} {W W1 : World}
theorem RdI.swap (h : RdI w xs ys g4 g8 vl l vp p vq q W) : RdI w xs ys g4 g8 vl l vq q vp p W := ⟨h.rq, h.rp, h.rl, h.bx, h.b4, h.b8, h.low⟩
theorem RdI.below (h : RdI w xs ys g4 g8 vl l vp p vq q W) (hb : Below W.heap.size W W1) : RdI w xs ys g4 g8 vl l vp p vq q W1 :=
 ⟨Kd.R_below h.rp hb, Kd.R_below h.rq hb, Kd.R_below h.rl hb, blk_below h.bx hb, blk_below h.b4 hb, blk_below h.b8 hb, below_step h.low hb⟩
theorem RdI.grow (h : RdI w xs ys g4 g8 vl l vp p vq q W) (hg : W.grownBy W1 vp.ownBlock) (ho : Kd.R kGrp 44 W1 w.heap.size (fun k => some k ≠ vq.ownBlock) vp2 p2) (hat : vp2.ownBlock = vp.ownBlock ∨ ∃ b, vp2.ownBlock = some b ∧ W.heap.size ≤ b) (hb : Below w.heap.size w W1) : RdI w xs ys g4 g8 vl l vp2 p2 vq q W1 :=
 ⟨ho, Kd.R_mono (Kd.R_after (v := vp) (ok := (fun _ => True)) (Kd.R_mono h.rq (fun _ hk => ⟨trivial, hk⟩)) hg hat) (fun _ hk => hk.2), Kd.R_over' h.rl (Kd.R_typed h.rp) (by decide) hg, blk_grown h.bx hg (Kd.R_ne h.rp h.bx (by decide)), blk_grown h.b4 hg (Kd.R_ne h.rp h.b4 (by decide)), blk_grown h.b8 hg (Kd.R_ne h.rp h.b8 (by decide)), hb⟩
theorem RdI.fresh (h : RdI w xs ys g4 g8 vl l vp p vq q W) (k : Nat) (hk : W.heap.size ≤ k) : some k ≠ vq.ownBlock := fun e => absurd (Kd.R_lt h.rq k e.symm) (by omega)
theorem RdI.first (h : RdI w xs ys g4 g8 vl l vp p vq q W) (hp : p ≠ []) : ∃ gm cm, vp = .slice (some ⟨gm, 0, none⟩) p.length cm ∧ W.cell? ⟨gm, 1, none⟩ = some (.int .i64 (rd_T44 p 0).f1) ∧ W.frozen? ⟨gm, 1, none⟩ = false ∧
  ∀ k : Int, RdI w xs ys g4 g8 vl l vp (p.set (0 : Int).toNat ⟨(rd_T44 p 0).f0, k⟩) vq q (W.setCell ⟨gm, 1, none⟩ (.int .i64 k)) := by
 obtain ⟨gm, cm, rfl, gm0, gm1, gmB⟩ := Kd.R_form h.rp (List.length_pos_iff.mpr hp)
 have i1 : (0 : Int) < (p.length : Int) := by have := List.length_pos_iff.mpr hp; omega
 obtain ⟨ce, hcl, hM, hcc, hfr⟩ := Kd.R_elem h.rp z44 0 (Int.le_refl _) i1
 obtain rfl := k44_openM hM
 refine ⟨gm, cm, rfl, hcc 1 _ rfl, hfr 1, fun k => ?_⟩
 have hs := Kd.R_seg h.rp 0 (Int.le_refl _) i1 (seg := [.int .i64 k]) (j := 1) hcl hcc (show 2 ≤ 2 from by decide) (x' := ⟨(p.getD (0 : Int).toNat z44).f0, k⟩) (k44_mkM _ _ _ _) (fun _ hk => hk)
 simp only [World.setCells, show kGrp.sz = 2 from rfl] at hs
 exact h.grow hs.2 hs.1 (.inl rfl) (below_set h.low gm0)
end
theorem gOf_all (v : Int) {l : List Grp} (h : ∀ g, g ∈ l → 0 ≤ g.f1) (hn : gOf v l < 0) : ∀ g, g ∈ l → g.f0 ≠ v := fun g hg e => by
 have h1 := (gOf_neg v h).1 hn
 rw [hasK_putGs, List.any_eq_false] at h1
 exact h1 g hg (decide_eq_true e)
theorem snoc_g (p : List Grp) (g : Grp) : (p ++ [g]).length = p.length + 1 := by rw [List.length_append]; rfl
def ReadAt (m : Nat) (w : World) (e : Ending) (w' : World) : Prop :=
 ∃ (n h : Nat) (b : Bool) (l : List Arc) (p q : List Grp) (A : Option Addr) (c : Nat) (Ap : Option Addr) (cp : Nat) (Aq : Option Addr) (cq : Nat),
  e = .returned (.tuple #[.agg #[.int .i64 n, .bool b, .slice A l.length c], .slice Ap p.length cp, .slice Aq q.length cq, .int .i64 h]) ∧ Kd.C kArc w' A l.length l ∧ l.length ≤ c ∧ Kd.C kGrp w' Ap p.length p ∧ p.length ≤ cp ∧ Kd.C kGrp w' Aq q.length q ∧ q.length ≤ cq ∧
   NetSm m n l ∧ GI n p q ∧ h ≤ 7 ∧ Below w.heap.size w w'
abbrev caseCells (a0 : Int) (a1 : Bool) (l2 : List CBit) (a3 a4 a5 : Int) (l6 l7 : List Int) (l8 : List CBit3) (l9 : List Int) (A2 : Option Addr) (c2 : Nat) (A6 : Option Addr) (c6 : Nat) (A7 : Option Addr) (c7 : Nat) (A8 : Option Addr) (c8 : Nat) (A9 : Option Addr) (c9 : Nat) : Array Value :=
 #[.int .u8 a0, .bool a1, .slice A2 l2.length c2, .int .u8 a3, .int .u8 a4, .int .u8 a5, .slice A6 l6.length c6, .slice A7 l7.length c7, .slice A8 l8.length c8, .slice A9 l9.length c9]
section
variable {a0 : Int} {a1 : Bool} {l2 : List CBit} {a3 a4 a5 : Int} {l6 l7 : List Int} {l8 : List CBit3} {l9 : List Int} {A2 : Option Addr} {c2 : Nat} {A6 : Option Addr} {c6 : Nat} {A7 : Option Addr} {c7 : Nat} {A8 : Option Addr} {c8 : Nat} {A9 : Option Addr} {c9 : Nat} {w : World} {v : Value}
theorem CaseAt.below (o : CaseAt w v a0 a1 l2 a3 a4 a5 l6 l7 l8 l9 A2 c2 A6 c6 A7 c7 A8 c8 A9 c9) {w' : World} (hb : Below w.heap.size w w') : CaseAt w' v a0 a1 l2 a3 a4 a5 l6 l7 l8 l9 A2 c2 A6 c6 A7 c7 A8 c8 A9 c9 :=
 ⟨o.is, o.u0, o.u3, o.u4, o.u5, Kd.C_below o.r2 hb, Kd.C_below o.r6 hb, Kd.C_below o.r7 hb, Kd.C_below o.r8 hb, Kd.C_below o.r9 hb, o.h2, o.h6, o.h7, o.h8, o.h9, o.u2, o.u6, o.u7, o.u8, o.u9⟩
set_option maxHeartbeats 4000000 in
set_option maxRecDepth 100000 in
theorem read_at (m : Nat) (i : Int) (hi : i = m) (hm : m ≤ 40) (o : CaseAt w v a0 a1 l2 a3 a4 a5 l6 l7 l8 l9 A2 c2 A6 c6 A7 c7 A8 c8 A9 c9) :
  Calls Try.prog 10 #[.agg #[.int .u8 a0, .bool a1, .slice A2 l2.length c2, .int .u8 a3, .int .u8 a4, .int .u8 a5, .slice A6 l6.length c6, .slice A7 l7.length c7, .slice A8 l8.length c8, .slice A9 l9.length c9], .int .i64 i] w (ReadAt m w) := by
 have HO := Lib.hid o
 have HI := Lib.hid hi
 have hu := Try.underlying32
 have hu2 := Try.underlying29
 have hu3 := Try.underlying44
 have hu4 := Try.underlying24
 clear o hi
 go_enter Try.func10, Try.ntmps10
 go_wp2_with (go_at_call 16; fail)
 obtain ⟨w1, hw1⟩ : ∃ w1, w1 = (w.alloc (.cells #[.int .u8 a0, .bool a1, .slice A2 l2.length c2, .int .u8 a3, .int .u8 a4, .int .u8 a5, .slice A6 l6.length c6, .slice A7 l7.length c7, .slice A8 l8.length c8, .slice A9 l9.length c9] 29)).alloc (.cells #[.int .i64 0, .bool false, .slice none 0 0] 32) := ⟨_, rfl⟩
 have HX2 : Hid (w1.heap[w.heap.size]? = some (.cells #[.int .u8 a0, .bool a1, .slice A2 l2.length c2, .int .u8 a3, .int .u8 a4, .int .u8 a5, .slice A6 l6.length c6, .slice A7 l7.length c7, .slice A8 l8.length c8, .slice A9 l9.length c9] 29 (0, 0))) := Lib.hid (by rw [hw1]; exact blk_alloc (heap_alloc_new _ _) _)
 have HX4 : Hid (w1.heap[w.heap.size + 1]? = some (.cells #[.int .i64 0, .bool false, .slice none 0 0] 32 (0, 0))) := Lib.hid (by rw [hw1]; exact alloc_at (by simp))
 have HB1 : Hid (Below w.heap.size w w1) := Lib.hid (by rw [hw1]; exact below_alloc (below_alloc (Below.refl _ _) _) _)
 have HS1 : Hid (w1.heap.size = w.heap.size + 1 + 1) := Lib.hid (by rw [hw1]; simp)
 rw [← hw1]
 clear hw1
 go_upto_block 0 with (go_at_call 16; (with_reducible refine (read12_walk m (by omega) i HI.out a0 a1 A2 c2 l2 a3 a4 a5 _ ?s1 HO.out.u0 HO.out.u2 HO.out.u3 HO.out.u4 HO.out.u5).mono ?_); (case s1 => exact Kd.C_below HO.out.r2 HB1.out); rintro e w2 ⟨n, l, s, t, h, A, c, rfl, hR, hN, hs, ht, hst, hh, hb⟩; have HR := Lib.hid hR; have HN := Lib.hid hN; have HB2 := Lib.hid hb; have HST := Lib.hid hst; have HH := Lib.hid hh; have HSS := Lib.hid (And.intro hs ht); clear hR hN hs ht hst hh hb)
 obtain ⟨w3, hw3⟩ : ∃ w3, w3 = ((w2.alloc (.cells #[.int .i64 n, .bool a1, .slice A l.length c] 32)).alloc (.cells #[.int .i64 s, .int .i64 0] 44)).alloc (.cells #[.int .i64 t, .int .i64 0] 44) := ⟨_, rfl⟩
 obtain ⟨g8, hg8⟩ : ∃ g8, g8 = w2.heap.size := ⟨_, rfl⟩
 obtain ⟨g4, hg4⟩ : ∃ g4, g4 = w.heap.size + 1 := ⟨_, rfl⟩
 obtain ⟨gp, hgp⟩ : ∃ gp, gp = w2.heap.size + 1 := ⟨_, rfl⟩
 obtain ⟨gq, hgq⟩ : ∃ gq, gq = w2.heap.size + 1 + 1 := ⟨_, rfl⟩
 have hsz : w.heap.size + 1 + 1 ≤ w2.heap.size := by have := HS1.out; have := HB2.out.size; omega
 have HW3 : Hid (Below w2.heap.size w2 w3) := Lib.hid (by rw [hw3]; exact below_alloc (below_alloc (below_alloc (Below.refl _ _) _) _) _)
 have HR3 : Hid (Kd.R kArc 79 w3 w.heap.size (fun _ => True) (.slice A l.length c) l) := Lib.hid (Kd.R_below (Kd.R_lower HR.out (by have := HS1.out; omega)) HW3.out)
 have HP3 : Hid (Kd.R kGrp 44 w3 w.heap.size (fun k => some k ≠ (Value.slice (some ⟨gq, 0, none⟩) 1 1).ownBlock) (.slice (some ⟨gp, 0, none⟩) 1 1) [⟨s, 0⟩]) := Lib.hid (grp_one (by simp [Value.ownBlock]; omega) (by rw [hw3]; exact blk_alloc (alloc_at (by rw [hgp]; simp)) _) (by omega))
 have HQ3 : Hid (Kd.R kGrp 44 w3 w.heap.size (fun k => some k ≠ (Value.slice (some ⟨gp, 0, none⟩) 1 1).ownBlock) (.slice (some ⟨gq, 0, none⟩) 1 1) [⟨t, 0⟩]) := Lib.hid (grp_one (by simp [Value.ownBlock]; omega) (by rw [hw3]; exact alloc_at (by rw [hgq]; simp)) (by omega))
 have HX3 : Hid (w3.heap[w.heap.size]? = some (.cells #[.int .u8 a0, .bool a1, .slice A2 l2.length c2, .int .u8 a3, .int .u8 a4, .int .u8 a5, .slice A6 l6.length c6, .slice A7 l7.length c7, .slice A8 l8.length c8, .slice A9 l9.length c9] 29 (0, 0))) := Lib.hid (blk_below (blk_below HX2.out HB2.out) HW3.out)
 have HX43 : Hid (w3.heap[g4]? = some (.cells #[.int .i64 0, .bool false, .slice none 0 0] 32 (0, 0))) := Lib.hid (by rw [hg4]; exact blk_below (blk_below HX4.out HB2.out) HW3.out)
 have HX83 : Hid (w3.heap[g8]? = some (.cells #[.int .i64 n, .bool a1, .slice A l.length c] 32 (0, 0))) := Lib.hid (by rw [hw3]; exact blk_alloc (blk_alloc (alloc_at hg8) _) _)
 have HB3 : Hid (Below w.heap.size w w3) := Lib.hid (below_step (below_step HB1.out HB2.out) HW3.out)
 have GE4 : Hid (w.heap.size ≤ g4) := Lib.hid (by omega)
 have N48 : Hid (g4 ≠ g8) := Lib.hid (by omega)
 have N24 : Hid (w.heap.size ≠ g4) := Lib.hid (by omega)
 rw [← hw3, ← hgq, ← hgp, ← hg8, ← hg4]
 clear hw3 hg8 hg4 hgp hgq hsz HW3 HR HX2 HX4 HB1 HB2 HS1
 have HI3 : Hid (RdI w #[.int .u8 a0, .bool a1, .slice A2 l2.length c2, .int .u8 a3, .int .u8 a4, .int .u8 a5, .slice A6 l6.length c6, .slice A7 l7.length c7, .slice A8 l8.length c8, .slice A9 l9.length c9] #[.int .i64 n, .bool a1, .slice A l.length c] g4 g8 (.slice A l.length c) l (.slice (some ⟨gp, 0, none⟩) 1 1) [⟨s, 0⟩] (.slice (some ⟨gq, 0, none⟩) 1 1) [⟨t, 0⟩] w3) := Lib.hid ⟨HP3.out, HQ3.out, HR3.out, HX3.out, HX43.out, HX83.out, HB3.out⟩
 have HG0 : Hid (GI n [⟨s, 0⟩] [⟨t, 0⟩]) := Lib.hid ⟨by simp, by simp, fun g hg => by
   obtain rfl := List.mem_singleton.1 hg
   exact ⟨HSS.out.1, Int.le_refl _, by show (0 : Int) ≤ 8; decide⟩, fun g hg => by
   obtain rfl := List.mem_singleton.1 hg
   exact ⟨HSS.out.2, Int.le_refl _, by show (0 : Int) ≤ 8; decide⟩, by simp, by simp, fun g hg x hx => by
   obtain rfl := List.mem_singleton.1 hg
   obtain rfl := List.mem_singleton.1 hx
   exact HST.out⟩
 have hs0 : 0 ≤ s := HSS.out.1.1
 have hs1 : s < n := HSS.out.1.2
 have ht0 : 0 ≤ t := HSS.out.2.1
 have ht1 : t < n := HSS.out.2.2
 have n2 : 2 ≤ n := HN.out.n2
 have n5 : n ≤ 5 := HN.out.n5
 have hn0 : ¬ n = 0 := by omega
 clear HP3 HQ3 HR3 HX3 HX43 HX83 HB3
 obtain ⟨q, hq0⟩ : ∃ q : List Grp, q = [⟨t, 0⟩] := ⟨_, rfl⟩
 obtain ⟨p0, hp0⟩ : ∃ p : List Grp, p = [⟨s, 0⟩] := ⟨_, rfl⟩
 have hql : q.length = 1 := by rw [hq0]; rfl
 have hpl : p0.length = 1 := by rw [hp0]; rfl
 obtain ⟨Aq, hAq⟩ : ∃ Aq : Option Addr, Aq = some ⟨gq, 0, none⟩ := ⟨_, rfl⟩
 obtain ⟨Ap, hAp⟩ : ∃ Ap : Option Addr, Ap = some ⟨gp, 0, none⟩ := ⟨_, rfl⟩
 rw [← hq0, ← hp0] at HI3 HG0
 rw [← hAq, ← hAp] at HI3 ⊢
 have HPL : Hid (p0.length = 1 ∧ q.length = 1) := Lib.hid ⟨hpl, hql⟩
 clear hql hpl hAq hAp hq0 hp0
 go_cut [12] from 14 (fun pv W => ∃ (X : List Grp) (AX : Option Addr) (cX : Nat), pv = .slice AX X.length cX ∧ Hid (GI n X q ∧ X.length ≤ 5 ∧ RdI w #[.int .u8 a0, .bool a1, .slice A2 l2.length c2, .int .u8 a3, .int .u8 a4, .int .u8 a5, .slice A6 l6.length c6, .slice A7 l7.length c7, .slice A8 l8.length c8, .slice A9 l9.length c9] #[.int .i64 n, .bool a1, .slice A l.length c] g4 g8 (.slice A l.length c) l (.slice AX X.length cX) X (.slice Aq 1 1) q W))
 case first =>
  go_wp2
  go_loopg [12, 14] 5 (fun k pv iv W => ∃ (j : Nat) (X : List Grp) (AX : Option Addr) (cX : Nat), j ≤ 4 ∧ pv = .slice AX X.length cX ∧ iv = .int .i64 j ∧ k = 5 - j ∧ Hid (GI n X q ∧ X.length ≤ j + 1 ∧ RdI w #[.int .u8 a0, .bool a1, .slice A2 l2.length c2, .int .u8 a3, .int .u8 a4, .int .u8 a5, .slice A6 l6.length c6, .slice A7 l7.length c7, .slice A8 l8.length c8, .slice A9 l9.length c9] #[.int .i64 n, .bool a1, .slice A l.length c] g4 g8 (.slice A l.length c) l (.slice AX X.length cX) X (.slice Aq 1 1) q W))
  case atStart => exact ⟨0, p0, Ap, 1, Nat.zero_le _, by rw [HPL.out.1], rfl, rfl, Lib.hid ⟨HG0.out, by rw [HPL.out.1]; decide, by rw [HPL.out.1]; exact HI3.out⟩⟩
  case round =>
   obtain ⟨j, X, AX, cX, hj, rfl, rfl, rfl, HL⟩ := hrel
   have x6 : wr.cell? ⟨w.heap.size, 6, none⟩ = some (.slice A6 l6.length c6) := (blk_cell HL.out.2.2.bx 6).trans rfl
   have y0 : wr.cell? ⟨g8, 0, none⟩ = some (.int .i64 n) := (blk_cell HL.out.2.2.b8 0).trans rfl
   have i0 : (0 : Int) ≤ (j : Int) := by omega
   by_cases c1 : (j : Int) < (l6.length : Int)
   ·by_cases c3 : (j : Int) < 4
    ·obtain ⟨ad, ea, z0⟩ := Kd.at_int (Kd.C_below HO.out.r6 HL.out.2.2.low) (j : Int) i0 c1
     subst ea
     rw [Int.toNat_natCast] at z0
     have hu8 := rd_u8 HO.out.u6 (i := j) (by omega)
     obtain ⟨e0, he0⟩ : ∃ e0, e0 = rd l6 (j : Int) := ⟨_, rfl⟩
     rw [← he0] at z0 hu8
     obtain ⟨u0, u1⟩ : 0 ≤ e0 ∧ e0 ≤ 255 := hu8
     clear he0
     by_cases cj : (j : Int) = 0
     ·obtain ⟨gm, cm, e9, s0, s1, hset⟩ := HL.out.2.2.first HL.out.1.p0
      injection e9 with e1 e2 e3
      have hlen : 0 < X.length := List.length_pos_iff.mpr HL.out.1.p0
      have hlen2 : (0 : Int) < (X.length : Int) := by omega
      have HSET := Lib.hid hset
      have cj1 : ((j : Int) == 0) = true := by simpa using cj
      have cj2 : ((j : Int) != 0) = false := by simpa using cj
      clear hset cj e2 e3 hlen
      subst e1
      go_wp2
      go_roundg (4 - j)
      case measure => omega
      case rel => exact ⟨j + 1, X.set (0 : Int).toNat ⟨(rd_T44 X 0).f0, e0 % 7⟩, some ⟨gm, 0, none⟩, cX, by omega, by rw [List.length_set], by go_num, by omega, Lib.hid ⟨HL.out.1.amend0 ⟨by omega, by omega⟩, by rw [List.length_set]; have := HL.out.2.1; omega, by rw [List.length_set]; exact HSET.out _⟩⟩
     ·have cj1 : ((j : Int) == 0) = false := by simpa using cj
      have cj2 : ((j : Int) != 0) = true := by simpa using cj
      clear cj
      obtain ⟨r1, hr1⟩ : ∃ r1, r1 = gOf ((s + 2 * (j : Int)) % n) X := ⟨_, rfl⟩
      obtain ⟨r2, hr2⟩ : ∃ r2, r2 = gOf ((s + 2 * (j : Int)) % n) q := ⟨_, rfl⟩
      have O1 := Lib.hid hr1
      have O2 := Lib.hid hr2
      clear hr1 hr2
      have HC1 := Lib.hid (Kd.R_reads' HL.out.2.2.rp).2.2
      have HC2 : Hid (Kd.C kGrp wr Aq q.length q) := Lib.hid (Kd.R_reads' (show Kd.R kGrp 44 wr w.heap.size _ (.slice Aq q.length 1) q by rw [HPL.out.2]; exact HL.out.2.2.rq)).2.2
      have HLX : Hid (X.length ≤ 5) := Lib.hid (by have := HL.out.2.1; omega)
      by_cases h1 : r1 < 0
      ·by_cases h2 : r2 < 0
       ·have HV1 := Lib.hid (gOf_all ((s + 2 * (j : Int)) % n) (fun g hm => (HL.out.1.gp g hm).2.1) (by rw [← O1.out]; exact h1))
        have HV2 := Lib.hid (gOf_all ((s + 2 * (j : Int)) % n) (fun g hm => (HL.out.1.gq g hm).2.1) (by rw [← O2.out]; exact h2))
        go_wp2_with (first
         |(go_at_call 27; (with_reducible refine (rof_walk X.length AX cX X _ _ ?s1 ?s2 ?s3).mono ?_); go_loud ((case s1 => rfl); (case s2 => exact HC1.out); (case s3 => have := HLX.out; omega); rintro e w4 ⟨rfl, hb⟩; rw [← O1.out]; have HI1 := Lib.hid (HL.out.2.2.below hb); have hb9 := hb; clear hb))
         |(go_at_call 27; (with_reducible refine (rof_walk 1 Aq 1 q _ _ ?s1 ?s2 ?s3).mono ?_); go_loud ((case s1 => exact HPL.out.2); (case s2 => exact Kd.C_below HC2.out hb9); (case s3 => decide); rintro e w5 ⟨rfl, hb⟩; rw [← O2.out]; have HI2 := Lib.hid (HI1.out.below hb); clear hb))
         |((with_reducible refine gate_dst (N := 81) rfl ?_); go_loud (refine Kd.R_append kGrp (w0 := w) w.heap.size rfl (.tmp 76) (.tmp 80) 33 44 (.agg #[.int .i64 0, .int .i64 0]) 16 rfl Try.underlying33 infoGrp rfl (by decide) (by decide) (.slice AX X.length cX) X ⟨(s + 2 * (j : Int)) % n, e0 % 7⟩ [.int .i64 ((s + 2 * (j : Int)) % n), .int .i64 (e0 % 7)] (fun k => some k ≠ (Value.ownBlock (.slice Aq 1 1))) (fun _ => False) rfl ?aX ?aP (fun _ hk => hk.elim) ?aF ?aO ?aB ?aS ?aL ?_; (case aX => first | rfl | (simp; done) | (simp; rfl)); (case aP => exact k44_mkM _ _ _ (⟨(s + 2 * (j : Int)) % n, e0 % 7⟩ : Grp)); (case aO => exact HI2.out.rp); (case aB => exact HI2.out.low); (case aS => exact HI2.out.low.size); (case aL => have := HLX.out; omega); (case aF => exact HI2.out.fresh); intro v1 w9 ho hb hg hat; obtain ⟨A1, cc1, e9⟩ := Kd.R_slice ho; rw [snoc_g] at e9; subst e9; have HS9 := Lib.hid (HI2.out.grow hg ho hat hb); clear ho hb hg hat)))
        have q8 : 0 ≤ (s + 2 * (j : Int)) % n ∧ (s + 2 * (j : Int)) % n < n := ⟨Int.emod_nonneg _ (by omega), Int.emod_lt_of_pos _ (by omega)⟩
        have q9 : 0 ≤ e0 % 7 ∧ e0 % 7 ≤ 8 := by omega
        go_roundg (4 - j)
        case measure => omega
        case rel => exact ⟨j + 1, X ++ [(⟨(s + 2 * (j : Int)) % n, e0 % 7⟩ : Grp)], A1, cc1, by omega, by rw [snoc_g], by first | rfl | go_num, by omega, Lib.hid ⟨HL.out.1.snoc (g := ⟨(s + 2 * (j : Int)) % n, e0 % 7⟩) ⟨q8, q9⟩ HV1.out HV2.out, by rw [snoc_g]; have := HL.out.2.1; omega, by rw [snoc_g]; exact HS9.out⟩⟩
       ·go_wp2_with (first
         |(go_at_call 27; (with_reducible refine (rof_walk X.length AX cX X _ _ ?s1 ?s2 ?s3).mono ?_); go_loud ((case s1 => rfl); (case s2 => exact HC1.out); (case s3 => have := HLX.out; omega); rintro e w4 ⟨rfl, hb⟩; rw [← O1.out]; have HI1 := Lib.hid (HL.out.2.2.below hb); have hb9 := hb; clear hb))
         |(go_at_call 27; (with_reducible refine (rof_walk 1 Aq 1 q _ _ ?s1 ?s2 ?s3).mono ?_); go_loud ((case s1 => exact HPL.out.2); (case s2 => exact Kd.C_below HC2.out hb9); (case s3 => decide); rintro e w5 ⟨rfl, hb⟩; rw [← O2.out]; have HI2 := Lib.hid (HI1.out.below hb); clear hb)))
        go_roundg (4 - j)
        case measure => omega
        case rel => exact ⟨j + 1, X, AX, cX, by omega, rfl, by first | rfl | go_num, by omega, Lib.hid ⟨HL.out.1, by have := HL.out.2.1; omega, HI2.out⟩⟩
      ·go_wp2_with (go_at_call 27; (with_reducible refine (rof_walk X.length AX cX X _ _ ?s1 ?s2 ?s3).mono ?_); go_loud ((case s1 => rfl); (case s2 => exact HC1.out); (case s3 => have := HLX.out; omega); rintro e w4 ⟨rfl, hb⟩; rw [← O1.out]; have HI1 := Lib.hid (HL.out.2.2.below hb); have hb9 := hb; clear hb))
       go_roundg (4 - j)
       case measure => omega
       case rel => exact ⟨j + 1, X, AX, cX, by omega, rfl, by first | rfl | go_num, by omega, Lib.hid ⟨HL.out.1, by have := HL.out.2.1; omega, HI1.out⟩⟩
    ·go_wp2
     go_meet
     case rel => exact ⟨X, AX, cX, rfl, Lib.hid ⟨HL.out.1, by have := HL.out.2.1; omega, HL.out.2.2⟩⟩
   ·go_wp2
    go_meet
    case rel => exact ⟨X, AX, cX, rfl, Lib.hid ⟨HL.out.1, by have := HL.out.2.1; omega, HL.out.2.2⟩⟩
 case rest =>
 obtain ⟨p, Ap, cp, rfl, HP1⟩ := hcut
 clear HI3 HG0
 go_upto_block 2 with (fail)
 go_cut [13] from 17 (fun pv W => ∃ (X : List Grp) (AX : Option Addr) (cX : Nat), pv = .slice AX X.length cX ∧ Hid (GI n X p ∧ X.length ≤ 5 ∧ RdI w #[.int .u8 a0, .bool a1, .slice A2 l2.length c2, .int .u8 a3, .int .u8 a4, .int .u8 a5, .slice A6 l6.length c6, .slice A7 l7.length c7, .slice A8 l8.length c8, .slice A9 l9.length c9] #[.int .i64 n, .bool a1, .slice A l.length c] g4 g8 (.slice A l.length c) l (.slice AX X.length cX) X (.slice Ap p.length cp) p W))
 case first =>
  go_wp2
  go_loopg [13, 17] 5 (fun k pv iv W => ∃ (j : Nat) (X : List Grp) (AX : Option Addr) (cX : Nat), j ≤ 4 ∧ pv = .slice AX X.length cX ∧ iv = .int .i64 j ∧ k = 5 - j ∧ Hid (GI n X p ∧ X.length ≤ j + 1 ∧ RdI w #[.int .u8 a0, .bool a1, .slice A2 l2.length c2, .int .u8 a3, .int .u8 a4, .int .u8 a5, .slice A6 l6.length c6, .slice A7 l7.length c7, .slice A8 l8.length c8, .slice A9 l9.length c9] #[.int .i64 n, .bool a1, .slice A l.length c] g4 g8 (.slice A l.length c) l (.slice AX X.length cX) X (.slice Ap p.length cp) p W))
  case atStart => exact ⟨0, q, Aq, 1, Nat.zero_le _, by rw [HPL.out.2], rfl, rfl, Lib.hid ⟨HP1.out.1.swap, by rw [HPL.out.2]; decide, by rw [HPL.out.2]; exact HP1.out.2.2.swap⟩⟩
  case round =>
   obtain ⟨j, X, AX, cX, hj, rfl, rfl, rfl, HL⟩ := hrel
   have x6 : wr.cell? ⟨w.heap.size, 7, none⟩ = some (.slice A7 l7.length c7) := (blk_cell HL.out.2.2.bx 7).trans rfl
   have y0 : wr.cell? ⟨g8, 0, none⟩ = some (.int .i64 n) := (blk_cell HL.out.2.2.b8 0).trans rfl
   have i0 : (0 : Int) ≤ (j : Int) := by omega
   by_cases c1 : (j : Int) < (l7.length : Int)
   ·by_cases c3 : (j : Int) < 4
    ·obtain ⟨ad, ea, z0⟩ := Kd.at_int (Kd.C_below HO.out.r7 HL.out.2.2.low) (j : Int) i0 c1
     subst ea
     rw [Int.toNat_natCast] at z0
     have hu8 := rd_u8 HO.out.u7 (i := j) (by omega)
     obtain ⟨e0, he0⟩ : ∃ e0, e0 = rd l7 (j : Int) := ⟨_, rfl⟩
     rw [← he0] at z0 hu8
     obtain ⟨u0, u1⟩ : 0 ≤ e0 ∧ e0 ≤ 255 := hu8
     clear he0
     by_cases cj : (j : Int) = 0
     ·obtain ⟨gm, cm, e9, s0, s1, hset⟩ := HL.out.2.2.first HL.out.1.p0
      injection e9 with e1 e2 e3
      have hlen : 0 < X.length := List.length_pos_iff.mpr HL.out.1.p0
      have hlen2 : (0 : Int) < (X.length : Int) := by omega
      have HSET := Lib.hid hset
      have cj1 : ((j : Int) == 0) = true := by simpa using cj
      have cj2 : ((j : Int) != 0) = false := by simpa using cj
      clear hset cj e2 e3 hlen
      subst e1
      go_wp2
      go_roundg (4 - j)
      case measure => omega
      case rel => exact ⟨j + 1, X.set (0 : Int).toNat ⟨(rd_T44 X 0).f0, e0 % 9⟩, some ⟨gm, 0, none⟩, cX, by omega, by rw [List.length_set], by go_num, by omega, Lib.hid ⟨HL.out.1.amend0 ⟨by omega, by omega⟩, by rw [List.length_set]; have := HL.out.2.1; omega, by rw [List.length_set]; exact HSET.out _⟩⟩
     ·have cj1 : ((j : Int) == 0) = false := by simpa using cj
      have cj2 : ((j : Int) != 0) = true := by simpa using cj
      clear cj
      obtain ⟨r1, hr1⟩ : ∃ r1, r1 = gOf ((t + (j : Int)) % n) p := ⟨_, rfl⟩
      obtain ⟨r2, hr2⟩ : ∃ r2, r2 = gOf ((t + (j : Int)) % n) X := ⟨_, rfl⟩
      have O1 := Lib.hid hr1
      have O2 := Lib.hid hr2
      clear hr1 hr2
      have HC1 := Lib.hid (Kd.R_reads' HL.out.2.2.rp).2.2
      have HC2 : Hid (Kd.C kGrp wr Ap p.length p) := Lib.hid (Kd.R_reads' (show Kd.R kGrp 44 wr w.heap.size _ (.slice Ap p.length cp) p by  exact HL.out.2.2.rq)).2.2
      have HLX : Hid (X.length ≤ 5) := Lib.hid (by have := HL.out.2.1; omega)
      by_cases h1 : r1 < 0
      ·by_cases h2 : r2 < 0
       ·have HV1 := Lib.hid (gOf_all ((t + (j : Int)) % n) (fun g hm => (HL.out.1.gq g hm).2.1) (by rw [← O1.out]; exact h1))
        have HV2 := Lib.hid (gOf_all ((t + (j : Int)) % n) (fun g hm => (HL.out.1.gp g hm).2.1) (by rw [← O2.out]; exact h2))
        go_wp2_with (first
         |(go_at_call 27; (with_reducible refine (rof_walk p.length Ap cp p _ _ ?s1 ?s2 ?s3).mono ?_); go_loud ((case s1 => exact rfl); (case s2 => exact HC2.out); (case s3 => have := HP1.out.2.1; omega); rintro e w4 ⟨rfl, hb⟩; rw [← O1.out]; have HI1 := Lib.hid (HL.out.2.2.below hb); have hb9 := hb; clear hb))
         |(go_at_call 27; (with_reducible refine (rof_walk X.length AX cX X _ _ ?s1 ?s2 ?s3).mono ?_); go_loud ((case s1 => rfl); (case s2 => exact Kd.C_below HC1.out hb9); (case s3 => have := HLX.out; omega); rintro e w5 ⟨rfl, hb⟩; rw [← O2.out]; have HI2 := Lib.hid (HI1.out.below hb); clear hb))
         |((with_reducible refine gate_dst (N := 127) rfl ?_); go_loud (refine Kd.R_append kGrp (w0 := w) w.heap.size rfl (.tmp 122) (.tmp 126) 33 44 (.agg #[.int .i64 0, .int .i64 0]) 16 rfl Try.underlying33 infoGrp rfl (by decide) (by decide) (.slice AX X.length cX) X ⟨(t + (j : Int)) % n, e0 % 9⟩ [.int .i64 ((t + (j : Int)) % n), .int .i64 (e0 % 9)] (fun k => some k ≠ (Value.ownBlock (.slice Ap p.length cp))) (fun _ => False) rfl ?aX ?aP (fun _ hk => hk.elim) ?aF ?aO ?aB ?aS ?aL ?_; (case aX => first | rfl | (simp; done) | (simp; rfl)); (case aP => exact k44_mkM _ _ _ (⟨(t + (j : Int)) % n, e0 % 9⟩ : Grp)); (case aO => exact HI2.out.rp); (case aB => exact HI2.out.low); (case aS => exact HI2.out.low.size); (case aL => have := HLX.out; omega); (case aF => exact HI2.out.fresh); intro v1 w9 ho hb hg hat; obtain ⟨A1, cc1, e9⟩ := Kd.R_slice ho; rw [snoc_g] at e9; subst e9; have HS9 := Lib.hid (HI2.out.grow hg ho hat hb); clear ho hb hg hat)))
        have q8 : 0 ≤ (t + (j : Int)) % n ∧ (t + (j : Int)) % n < n := ⟨Int.emod_nonneg _ (by omega), Int.emod_lt_of_pos _ (by omega)⟩
        have q9 : 0 ≤ e0 % 9 ∧ e0 % 9 ≤ 8 := by omega
        go_roundg (4 - j)
        case measure => omega
        case rel => exact ⟨j + 1, X ++ [(⟨(t + (j : Int)) % n, e0 % 9⟩ : Grp)], A1, cc1, by omega, by rw [snoc_g], by first | rfl | go_num, by omega, Lib.hid ⟨HL.out.1.snoc (g := ⟨(t + (j : Int)) % n, e0 % 9⟩) ⟨q8, q9⟩ HV2.out HV1.out, by rw [snoc_g]; have := HL.out.2.1; omega, by rw [snoc_g]; exact HS9.out⟩⟩
       ·go_wp2_with (first
         |(go_at_call 27; (with_reducible refine (rof_walk p.length Ap cp p _ _ ?s1 ?s2 ?s3).mono ?_); go_loud ((case s1 => exact rfl); (case s2 => exact HC2.out); (case s3 => have := HP1.out.2.1; omega); rintro e w4 ⟨rfl, hb⟩; rw [← O1.out]; have HI1 := Lib.hid (HL.out.2.2.below hb); have hb9 := hb; clear hb))
         |(go_at_call 27; (with_reducible refine (rof_walk X.length AX cX X _ _ ?s1 ?s2 ?s3).mono ?_); go_loud ((case s1 => rfl); (case s2 => exact Kd.C_below HC1.out hb9); (case s3 => have := HLX.out; omega); rintro e w5 ⟨rfl, hb⟩; rw [← O2.out]; have HI2 := Lib.hid (HI1.out.below hb); clear hb)))
        go_roundg (4 - j)
        case measure => omega
        case rel => exact ⟨j + 1, X, AX, cX, by omega, rfl, by first | rfl | go_num, by omega, Lib.hid ⟨HL.out.1, by have := HL.out.2.1; omega, HI2.out⟩⟩
      ·go_wp2_with (go_at_call 27; (with_reducible refine (rof_walk p.length Ap cp p _ _ ?s1 ?s2 ?s3).mono ?_); go_loud ((case s1 => exact rfl); (case s2 => exact HC2.out); (case s3 => have := HP1.out.2.1; omega); rintro e w4 ⟨rfl, hb⟩; rw [← O1.out]; have HI1 := Lib.hid (HL.out.2.2.below hb); have hb9 := hb; clear hb))
       go_roundg (4 - j)
       case measure => omega
       case rel => exact ⟨j + 1, X, AX, cX, by omega, rfl, by first | rfl | go_num, by omega, Lib.hid ⟨HL.out.1, by have := HL.out.2.1; omega, HI1.out⟩⟩
    ·go_wp2
     go_meet
     case rel => exact ⟨X, AX, cX, rfl, Lib.hid ⟨HL.out.1, by have := HL.out.2.1; omega, HL.out.2.2⟩⟩
   ·go_wp2
    go_meet
    case rel => exact ⟨X, AX, cX, rfl, Lib.hid ⟨HL.out.1, by have := HL.out.2.1; omega, HL.out.2.2⟩⟩
 case rest =>
 obtain ⟨q, Aq, cq, rfl, HQ1⟩ := hcut
 clear HP1
 have y0 : wc.cell? ⟨g8, 0, none⟩ = some (.int .i64 n) := (blk_cell HQ1.out.2.2.b8 0).trans rfl
 have y1 : wc.cell? ⟨g8, 1, none⟩ = some (.bool a1) := (blk_cell HQ1.out.2.2.b8 1).trans rfl
 have y2 : wc.cell? ⟨g8, 2, none⟩ = some (.slice A l.length c) := (blk_cell HQ1.out.2.2.b8 2).trans rfl
 have b4 := HQ1.out.2.2.b4
 have z0 : wc.cell? ⟨g4, 0, none⟩ = some (.int .i64 0) := (blk_cell b4 0).trans rfl
 have z1 : wc.cell? ⟨g4, 1, none⟩ = some (.bool false) := (blk_cell b4 1).trans rfl
 have z2 : wc.cell? ⟨g4, 2, none⟩ = some (.slice none 0 0) := (blk_cell b4 2).trans rfl
 have fz0 := blk_frozen b4 0
 have fz1 := blk_frozen b4 1
 have fz2 := blk_frozen b4 2
 go_wp2
 have r0 := blk_put (cs := #[.int .i64 0, .bool false, .slice none 0 0]) b4 0 (.int .i64 n) rfl
 have r1 := blk_put (cs := #[.int .i64 n, .bool false, .slice none 0 0]) r0 1 (.bool a1) rfl
 have r2 := blk_put (cs := #[.int .i64 n, .bool a1, .slice none 0 0]) r1 2 (.slice A l.length c) rfl
 refine bodyPost_ret (results_list (rs := [.cell 4 32, .tmp 5, .tmp 6, .tmp 7]) rfl (by simp) (.cell g4 32 #[.int .i64 n, .bool a1, .slice A l.length c] (0, 0) _ rfl r2 hu rfl (by kernel_rfl) (.tmp (.tmp (.tmp .nil))))) rfl ?_
 have hL := Kd.R_reads' (Kd.R_set (Kd.R_set (Kd.R_set HQ1.out.2.2.rl b4 (by decide) 0 (.int .i64 n)) r0 (by decide) 1 (.bool a1)) r1 (by decide) 2 (.slice A l.length c))
 have hP := Kd.R_reads' (Kd.R_set (Kd.R_set (Kd.R_set HQ1.out.2.2.rq b4 (by decide) 0 (.int .i64 n)) r0 (by decide) 1 (.bool a1)) r1 (by decide) 2 (.slice A l.length c))
 have hQ := Kd.R_reads' (Kd.R_set (Kd.R_set (Kd.R_set HQ1.out.2.2.rp b4 (by decide) 0 (.int .i64 n)) r0 (by decide) 1 (.bool a1)) r1 (by decide) 2 (.slice A l.length c))
 obtain ⟨nn, hnn⟩ := Int.eq_ofNat_of_zero_le (show 0 ≤ n by omega)
 have hh := HH.out
 obtain ⟨hn, hhn⟩ := Int.eq_ofNat_of_zero_le hh.1
 subst hnn hhn
 exact ⟨nn, hn, a1, l, p, q, A, c, Ap, cp, Aq, cq, rfl, hL.2.2, hL.2.1, hP.2.2, hP.2.1, hQ.2.2, hQ.2.1, HN.out, HQ1.out.1.swap, by have := hh.2; omega, below_set (below_set (below_set HQ1.out.2.2.low GE4.out) GE4.out) GE4.out⟩
end
end Go.Proofs.Ytcgdloldkcmhnaa.H
end
section
namespace Go.Proofs.Ytcgdloldkcmhnaa.H
open Go Go.RowKit Go.Proofs.Ytcgdloldkcmhnaa.PrintC Go.Proofs.YtcgdloldkcmhnaaW.PrintWords Go.Proofs.YtcgdloldkcmhnaaW.PrintLast Go.Proofs.YtcgdloldkcmhnaaW.PrintMore
set_option linter.unusedVariables false
set_option linter.unusedSimpArgs false
theorem mask32 (x : Int) : Go.bits .and .i64 x 4294967295 = x % 4294967296 := by
 have e : (BitVec.ofInt 64 4294967295).toNat = 2 ^ 32 - 1 := by decide
 show IntKind.i64.wrap (((BitVec.ofInt 64 x) &&& (BitVec.ofInt 64 4294967295)).toNat : Int) = _
 rw [BitVec.toNat_and, e, Nat.and_two_pow_sub_one_eq_mod, BitVec.toNat_ofInt]
 have h1 : ((x % (2 ^ 64 : Nat)).toNat % 2 ^ 32 : Nat) < 2 ^ 32 := Nat.mod_lt _ (by decide)
 have h2 : (((x % ((2 ^ 64 : Nat) : Int)).toNat % 2 ^ 32 : Nat) : Int) = x % 4294967296 := by
  rw [Int.natCast_emod, Int.toNat_of_nonneg (Int.emod_nonneg _ (by decide))]
  show x % 18446744073709551616 % 4294967296 = x % 4294967296
  omega
 rw [h2]
 exact IntWalk.i64_in _ (by omega)
def sumL : List Int → Int
 | [] => 0
 | x :: l => x + sumL l
theorem sumL_append : ∀ a b : List Int, sumL (a ++ b) = sumL a + sumL b
 | [], b => by rw [List.nil_append, sumL]; omega
 | x :: a, b => by rw [List.cons_append, sumL, sumL, sumL_append a b]; omega
theorem sumL_snoc (a : List Int) (x : Int) : sumL (a ++ [x]) = sumL a + x := by rw [sumL_append, sumL, sumL]; omega
def I64s (l : List Int) : Prop := ∀ x, x ∈ l → -9223372036854775808 ≤ x ∧ x ≤ 9223372036854775807
def halfH (l : List Int) : Int := sumL (l.map (· / 4294967296))
def halfL (l : List Int) : Int := sumL (l.map (· % 4294967296))
theorem half_snoc (a : List Int) (x : Int) : halfH (a ++ [x]) = halfH a + x / 4294967296 ∧ halfL (a ++ [x]) = halfL a + x % 4294967296 := by
 unfold halfH halfL
 rw [List.map_append, List.map_append]
 exact ⟨sumL_snoc _ _, sumL_snoc _ _⟩
theorem half_sum : ∀ l : List Int, halfH l * 4294967296 + halfL l = sumL l
 | [] => rfl
 | x :: l => by
  have := half_sum l
  unfold halfH halfL at this ⊢
  rw [List.map_cons, List.map_cons, sumL, sumL, sumL]
  omega
theorem half_bd : ∀ l : List Int, I64s l → -(l.length * 2147483648 : Int) ≤ halfH l ∧ halfH l ≤ l.length * 2147483648 ∧ 0 ≤ halfL l ∧ halfL l ≤ l.length * 4294967296
 | [], _ => by decide
 | x :: l, h => by
  have h1 := half_bd l (fun y hy => h y (List.mem_cons_of_mem _ hy))
  have h2 := h x (List.mem_cons_self ..)
  unfold halfH halfL at h1 ⊢
  rw [List.map_cons, List.map_cons, sumL, sumL, List.length_cons]
  omega
def fits (x : Int) : Bool := decide (-9223372036854775808 ≤ x ∧ x ≤ 9223372036854775807)
theorem take_snoc {l : List Int} {i : Nat} (h : i < l.length) : l.take (i + 1) = l.take i ++ [rd l (i : Int)] := by
 have e : rd l (i : Int) = l[i] := by
  unfold rd
  rw [Int.toNat_natCast, List.getD_eq_getElem?_getD, List.getElem?_eq_getElem h]
  rfl
 rw [List.take_add_one, List.getElem?_eq_getElem h, e]
 rfl
theorem rd_i64 {l : List Int} (h : I64s l) {i : Nat} (hi : i < l.length) : -9223372036854775808 ≤ rd l (i : Int) ∧ rd l (i : Int) ≤ 9223372036854775807 := by
 unfold rd
 rw [Int.toNat_natCast, List.getD_eq_getElem?_getD, List.getElem?_eq_getElem hi]
 exact h _ (List.getElem_mem hi)
def SumAt (l : List Int) (w : World) (e : Ending) (w' : World) : Prop := e = .returned (.tuple #[.int .i64 (if fits (sumL l) = true then sumL l else 0), .bool (fits (sumL l))]) ∧ Below w.heap.size w w'
set_option maxHeartbeats 4000000 in
set_option maxRecDepth 100000 in
theorem rsum_walk (A : Option Addr) (c : Nat) (l : List Int) (w : World) (hr : Kd.C (Kd.int .i64) w A l.length l) (hi : I64s l) (hl : l.length ≤ 1000000) :
  Calls Try.prog 100 #[.slice A l.length c] w (SumAt l w) := by
 have HR := Lib.hid hr
 have HI := Lib.hid hi
 clear hr hi
 go_enter Try.func100, Try.ntmps100
 go_wp2
 go_loopg [4, 5, 6] (l.length + 1) (fun k hv lv iv W => ∃ i : Nat, i ≤ l.length ∧ hv = .int .i64 (halfH (l.take i)) ∧ lv = .int .i64 (halfL (l.take i)) ∧ iv = .int .i64 i ∧ k = l.length + 1 - i ∧ Hid (Below w.heap.size w W))
 case atStart => exact ⟨0, Nat.zero_le _, rfl, rfl, rfl, rfl, Lib.hid (Below.refl _ _)⟩
 case round =>
  obtain ⟨i, hi, rfl, rfl, rfl, rfl, HB⟩ := hrel
  have hbd := half_bd (l.take i) (fun x hx => HI.out x (List.mem_of_mem_take hx))
  rw [List.length_take, Nat.min_eq_left hi] at hbd
  by_cases hlt : i < l.length
  ·have i0 : (0 : Int) ≤ (i : Int) := by omega
   have i1 : (i : Int) < (l.length : Int) := by omega
   obtain ⟨ae, eb, z0⟩ := Kd.at_int (Kd.C_below HR.out HB.out) (i : Int) i0 i1
   subst eb
   rw [Int.toNat_natCast] at z0
   have hx := rd_i64 HI.out hlt
   have hsn := half_snoc (l.take i) (rd l (i : Int))
   rw [← take_snoc hlt] at hsn
   have HSN := Lib.hid hsn
   clear hsn
   obtain ⟨x, hxe⟩ : ∃ x, x = rd l (i : Int) := ⟨_, rfl⟩
   rw [← hxe] at z0 hx
   have HXE := Lib.hid hxe
   clear hxe
   obtain ⟨H, hH⟩ : ∃ H, H = halfH (l.take i) := ⟨_, rfl⟩
   obtain ⟨L, hL⟩ : ∃ L, L = halfL (l.take i) := ⟨_, rfl⟩
   rw [← hH, ← hL] at hbd ⊢
   have HH := Lib.hid hH
   have HL := Lib.hid hL
   clear hH hL
   have e1 : x.fdiv 4294967296 = x / 4294967296 := Int.fdiv_eq_ediv_of_nonneg _ (by decide)
   have e2 : Go.bits .and .i64 x 4294967295 = x % 4294967296 := mask32 x
   have e3 : IntKind.i64.wrap (H + x / 4294967296) = H + x / 4294967296 := IntWalk.i64_in _ (by omega)
   have e4 : IntKind.i64.wrap (L + x % 4294967296) = L + x % 4294967296 := IntWalk.i64_in _ (by omega)
   go_wp2
   go_roundg (l.length - i)
   case measure => omega
   case rel => exact ⟨i + 1, by omega, by rw [HSN.out.1, ← HH.out, ← HXE.out], by rw [HSN.out.2, ← HL.out, ← HXE.out], by go_num, by omega, HB⟩
  ·have e : i = l.length := by omega
   subst e
   rw [List.take_length] at hbd ⊢
   have hs := half_sum l
   obtain ⟨T, hT⟩ : ∃ T, T = sumL l := ⟨_, rfl⟩
   rw [← hT] at hs
   have HTE := Lib.hid hT
   obtain ⟨H, hH⟩ : ∃ H, H = halfH l := ⟨_, rfl⟩
   obtain ⟨L, hL⟩ : ∃ L, L = halfL l := ⟨_, rfl⟩
   rw [← hH, ← hL] at hbd hs ⊢
   clear hH hL hT
   have e1 : L.fdiv 4294967296 = L / 4294967296 := Int.fdiv_eq_ediv_of_nonneg _ (by decide)
   have e2 : Go.bits .and .i64 L 4294967295 = L % 4294967296 := mask32 L
   have e3 : IntKind.i64.wrap (H + L / 4294967296) = H + L / 4294967296 := IntWalk.i64_in _ (by omega)
   obtain ⟨G, hG⟩ : ∃ G, G = H + L / 4294967296 := ⟨_, rfl⟩
   rw [← hG] at e3
   by_cases c1 : G < -2147483648
   ·have HF : Hid (fits T = false) := Lib.hid (by unfold fits; rw [decide_eq_false_iff_not]; omega)
    rw [hG] at e3 c1
    clear hs hbd
    go_wp2
    go_ret2
    unfold SumAt
    rw [← HTE.out, HF.out]
    exact ⟨rfl, HB.out⟩
   ·by_cases c2 : 2147483648 ≤ G
    ·have HF : Hid (fits T = false) := Lib.hid (by unfold fits; rw [decide_eq_false_iff_not]; omega)
     rw [hG] at e3 c1 c2
     clear hs hbd
     go_wp2
     go_ret2
     unfold SumAt
     rw [← HTE.out, HF.out]
     exact ⟨rfl, HB.out⟩
    ·have HF : Hid (fits T = true) := Lib.hid (by unfold fits; rw [decide_eq_true_eq]; omega)
     have e4 : IntKind.i64.wrap ((H + L / 4294967296) * 4294967296) = (H + L / 4294967296) * 4294967296 := IntWalk.i64_in _ (by omega)
     have e5 : IntKind.i64.wrap ((H + L / 4294967296) * 4294967296 + L % 4294967296) = T := by
      rw [show (H + L / 4294967296) * 4294967296 + L % 4294967296 = T by omega]
      exact IntWalk.i64_in _ (by omega)
     rw [hG] at e3 c1 c2
     clear hs hbd
     go_wp2
     go_ret2
     unfold SumAt
     rw [← HTE.out, HF.out]
     exact ⟨rfl, HB.out⟩
end Go.Proofs.Ytcgdloldkcmhnaa.H
end
section
namespace Go.Proofs.Ytcgdloldkcmhnaa.H
open Go Go.RowKit Go.Proofs.Ytcgdloldkcmhnaa.PrintC Go.Proofs.Ytcgdloldkcmhnaa.PrintE
abbrev Mv := S103
abbrev kMv := k103
def sameK (a b : Mv) : Bool := decide (a.f0 = b.f0 ∧ a.f1 = b.f1)
theorem sameK_iff {a b : Mv} : sameK a b = true ↔ a.f0 = b.f0 ∧ a.f1 = b.f1 := decide_eq_true_iff
theorem sameK_sym {a b : Mv} (h : sameK a b = true) : sameK b a = true := by rw [sameK_iff] at h ⊢; exact ⟨h.1.symm, h.2.symm⟩
def amt (l : List Mv) (x : Mv) : Int := sumL ((l.filter (sameK x)).map (·.f2))
theorem amt_same {l : List Mv} {x y : Mv} (h : sameK x y = true) : amt l x = amt l y := by
 have e : sameK x = sameK y := by
  rw [sameK_iff] at h
  funext z
  unfold sameK
  rw [h.1, h.2]
 unfold amt
 rw [e]
def mlt (a b : Mv) : Prop := a.f1 < b.f1 ∨ a.f1 = b.f1 ∧ a.f0 < b.f0
theorem mlt_trans {a b c : Mv} (h : mlt a b) (k : mlt b c) : mlt a c := by
 unfold mlt at *
 omega
theorem mlt_of {a b : Mv} (h : ¬ mlt a b) (k : sameK b a = false) : mlt b a := by
 unfold sameK at k
 rw [decide_eq_false_iff_not] at k
 unfold mlt at *
 omega
def mvAt (l : List Mv) (i : Nat) : Mv := rd_T103 l (i : Int)
theorem mvAt_mem {l : List Mv} {i : Nat} (h : i < l.length) : mvAt l i ∈ l := by
 unfold mvAt rd_T103
 rw [Int.toNat_natCast, List.getD_eq_getElem?_getD, List.getElem?_eq_getElem h]
 exact List.getElem_mem h
theorem mvAt_take {l : List Mv} {i : Nat} (h : i < l.length) : l.take (i + 1) = l.take i ++ [mvAt l i] := by
 have e : mvAt l i = l[i] := by
  unfold mvAt rd_T103
  rw [Int.toNat_natCast, List.getD_eq_getElem?_getD, List.getElem?_eq_getElem h]
  rfl
 rw [List.take_add_one, List.getElem?_eq_getElem h, e]
 rfl
theorem mem_take_at {l : List Mv} {x : Mv} : ∀ {i : Nat}, i ≤ l.length → x ∈ l.take i → ∃ k, k < i ∧ x = mvAt l k
 | 0, _, h => by simp at h
 | i + 1, hi, h => by
  rw [mvAt_take (by omega), List.mem_append, List.mem_singleton] at h
  rcases h with h | h
  ·obtain ⟨k, hk, e⟩ := mem_take_at (by omega) h
   exact ⟨k, by omega, e⟩
  ·exact ⟨i, by omega, h⟩
theorem at_mem_take {l : List Mv} : ∀ {i k : Nat}, i ≤ l.length → k < i → mvAt l k ∈ l.take i
 | i + 1, k, hi, hk => by
  rw [mvAt_take (by omega), List.mem_append, List.mem_singleton]
  by_cases e : k = i
  ·rw [e]
   exact .inr rfl
  ·exact .inl (at_mem_take (by omega) (by omega))
structure MgI (l : List Mv) (i : Nat) (m : List Mv) : Prop where
 srt : m.Pairwise mlt
 am : ∀ y, y ∈ m → y.f2 = amt l y ∧ y.f2 ≠ 0 ∧ ∃ x, x ∈ l.take i ∧ sameK x y = true
 all : ∀ x, x ∈ l.take i → fits (amt l x) = true ∧ (amt l x ≠ 0 → ∃ y, y ∈ m ∧ sameK x y = true)
abbrev MgOf (l m : List Mv) : Prop := MgI l l.length m
theorem MgI.zero (l : List Mv) : MgI l 0 [] := ⟨List.Pairwise.nil, fun _ h => (nomatch h), fun _ h => by simp at h⟩
section
variable {l m : List Mv} {i : Nat}
theorem MgI.had (h : MgI l i m) (hi : i < l.length) {k : Nat} (hk : k < i) (e : sameK (mvAt l k) (mvAt l i) = true) : MgI l (i + 1) m where
 srt := h.srt
 am y hy := by
  obtain ⟨a, b, x, hx, c⟩ := h.am y hy
  exact ⟨a, b, x, by rw [mvAt_take hi]; exact List.mem_append_left _ hx, c⟩
 all x hx := by
  rw [mvAt_take hi, List.mem_append, List.mem_singleton] at hx
  rcases hx with hx | rfl
  ·exact h.all x hx
  ·obtain ⟨a, b⟩ := h.all (mvAt l k) (at_mem_take (by omega) hk)
   rw [amt_same e] at a b
   refine ⟨a, fun g => ?_⟩
   obtain ⟨y, hy, c⟩ := b g
   rw [sameK_iff] at e c
   exact ⟨y, hy, by rw [sameK_iff]; exact ⟨e.1.symm.trans c.1, e.2.symm.trans c.2⟩⟩
theorem MgI.none (h : MgI l i m) (hi : i < l.length) (e : amt l (mvAt l i) = 0) : MgI l (i + 1) m where
 srt := h.srt
 am y hy := by
  obtain ⟨a, b, x, hx, c⟩ := h.am y hy
  exact ⟨a, b, x, by rw [mvAt_take hi]; exact List.mem_append_left _ hx, c⟩
 all x hx := by
  rw [mvAt_take hi, List.mem_append, List.mem_singleton] at hx
  rcases hx with hx | rfl
  ·exact h.all x hx
  ·rw [e]
   exact ⟨rfl, fun g => absurd rfl g⟩
theorem MgI.ins {a b : List Mv} {X : Mv} (h : MgI l i (a ++ b)) (hi : i < l.length) (hn : ∀ k, k < i → sameK (mvAt l k) (mvAt l i) = false) (hX : X = ⟨(mvAt l i).f0, (mvAt l i).f1, amt l (mvAt l i)⟩) (hf : fits (amt l (mvAt l i)) = true) (h0 : amt l (mvAt l i) ≠ 0) (hb : ∀ y, y ∈ b → mlt X y) (ha : ∀ (a' : List Mv) (y : Mv), a = a' ++ [y] → ¬ mlt X y) : MgI l (i + 1) (a ++ X :: b) where
 srt := by
  have hd : ∀ y, y ∈ a ++ b → sameK y X = false := fun y hy => by
   obtain ⟨_, _, x, hx, c⟩ := h.am y hy
   obtain ⟨k, hk, rfl⟩ := mem_take_at (by omega) hx
   have := hn k hk
   cases e : sameK y X with
   | false => rfl
   | true =>
    rw [sameK_iff] at c e
    rw [hX] at e
    have : sameK (mvAt l k) (mvAt l i) = true := sameK_iff.2 ⟨c.1.trans e.1, c.2.trans e.2⟩
    rw [hn k hk] at this
    cases this
  have hs := List.pairwise_append.1 h.srt
  have hal : ∀ y, y ∈ a → mlt y X := by
   rcases List.eq_nil_or_concat a with rfl | ⟨a', z, e⟩
   ·exact fun y hy => nomatch hy
   ·rw [List.concat_eq_append] at e
    subst e
    have hz := mlt_of (ha a' z rfl) (hd z (by simp))
    intro y hy
    rw [List.mem_append, List.mem_singleton] at hy
    rcases hy with hy | rfl
    ·exact mlt_trans ((List.pairwise_append.1 hs.1).2.2 y hy z (List.mem_singleton.2 rfl)) hz
    ·exact hz
  refine List.pairwise_append.2 ⟨hs.1, List.pairwise_cons.2 ⟨hb, hs.2.1⟩, fun y hy z hz => ?_⟩
  rcases List.mem_cons.1 hz with rfl | hz
  ·exact hal y hy
  ·exact hs.2.2 y hy z hz
 am y hy := by
  have hy2 : y = X ∨ y ∈ a ++ b := by
   rw [List.mem_append, List.mem_cons] at hy
   rw [List.mem_append]
   rcases hy with hy | rfl | hy
   ·exact .inr (.inl hy)
   ·exact .inl rfl
   ·exact .inr (.inr hy)
  rcases hy2 with rfl | hy2
  ·have e : sameK (mvAt l i) y = true := by rw [hX]; exact sameK_iff.2 ⟨rfl, rfl⟩
   refine ⟨?_, ?_, mvAt l i, by rw [mvAt_take hi]; simp, e⟩
   ·rw [← amt_same e, hX]
   ·rw [hX]
    exact h0
  ·obtain ⟨p, q, x, hx, c⟩ := h.am y hy2
   exact ⟨p, q, x, by rw [mvAt_take hi]; exact List.mem_append_left _ hx, c⟩
 all x hx := by
  rw [mvAt_take hi, List.mem_append, List.mem_singleton] at hx
  rcases hx with hx | rfl
  ·obtain ⟨p, q⟩ := h.all x hx
   refine ⟨p, fun g => ?_⟩
   obtain ⟨y, hy, c⟩ := q g
   refine ⟨y, ?_, c⟩
   rw [List.mem_append] at hy
   rw [List.mem_append, List.mem_cons]
   rcases hy with hy | hy
   ·exact .inl hy
   ·exact .inr (.inr hy)
  ·exact ⟨hf, fun _ => ⟨X, by simp, by rw [hX]; exact sameK_iff.2 ⟨rfl, rfl⟩⟩⟩
end
end Go.Proofs.Ytcgdloldkcmhnaa.H
end
section
namespace Go.Proofs.Ytcgdloldkcmhnaa.H
open Go Go.RowKit Go.Proofs.YtcgdloldkcmhnaaW.PrintWords Go.Proofs.YtcgdloldkcmhnaaW.PrintLast Go.Proofs.YtcgdloldkcmhnaaW.PrintMore
section
variable {P : Program} {md : Region.Mode} {ops : Array Oper} {Q : Exit → Act → World → Prop} {S : World → Prop} {ds : List Nat}
theorem sS (i : Nat) {oi : Oper} {fuel : Nat} {l : Array Bool} {a : Act} {w w1 : World} (h : wpAnyLast P md ops Q S ds fuel (l.setIfInBounds i true) a w1)
  (hi : ops[i]? = some oi := by exact rfl) (hN : oi.dst = none := by exact rfl) (hr : readyB md ops l (l.setIfInBounds i true) i = true := by kernel_rfl) (hd : i ∈ ds := by decide) (hw : Region.wanted oi (yielded ops a.tmps) = true := by rfl)
  (hrun : (execOp a.eval oi).run P w = .ok .skip w1 := by (go_simp; rfl)) : wpAnyLast P md ops Q S ds (fuel + 1) l a w :=
 last_ _ hi hN hr hd fun _ hK => skip_ hw hN hrun (hK.out _ _ h)
theorem wT {fuel : Nat} {l : Array Bool} {a : Act} {w : World} (T : Bool × List (List Nat × List Nat)) (h : Hid (rtab md ops = T) → wpAnyLast P md ops Q S ds fuel l a w) (hT : rtab md ops = T := by kernel_rfl) : wpAnyLast P md ops Q S ds fuel l a w := h (Lib.hid hT)
theorem qP (n : Nat) {t : Tmp} {oi : Oper} {v : Value} {fuel : Nat} {l : Array Bool} {a a' : Act} {w : World} {T : Bool × List (List Nat × List Nat)} (hT : Hid (rtab md ops = T)) (h : wpAnyLast P md ops Q S ds fuel (l.setIfInBounds (n - (fuel + 1)) true) a' w) (hi : ops[n - (fuel + 1)]? = some oi := by exact rfl) (hN : oi.dst = some t := by exact rfl) (hc : anyT T l.toList (l.setIfInBounds (n - (fuel + 1)) true).toList (n - (fuel + 1)) = true := by kernel_rfl)
  (hQ : ∀ c a w, Q (.panic c) (a.put oi.dst v) w → Q (.panic c) a w := by exact fun _ _ _ h => h) (hy : Yields P ops oi v a := by first | (refine Or.inl ⟨by rfl, ?_⟩; intro w'; go_simp; with_reducible rfl) | exact Or.inr ⟨by rfl, rfl⟩)
  (ha : a.put (some t) v = a' := by (simp only [Act.put, List.setIfInBounds_toArray, List.set_cons_zero, List.set_cons_succ]; rfl)) : wpAnyLast P md ops Q S ds (fuel + 1) l a w := pure_ _ hi hN (any_of hT.out hc) hQ hy ha h
theorem qT (n : Nat) {t : Tmp} {oi : Oper} {v : Value} {fuel : Nat} {l : Array Bool} {a a' : Act} {w : World} {T : Bool × List (List Nat × List Nat)} (hT : Hid (rtab md ops = T)) (hS : S w) (h : wpAnyLast P md ops Q S ds fuel (l.setIfInBounds (n - (fuel + 1)) true) a' w) (hi : ops[n - (fuel + 1)]? = some oi := by exact rfl) (hN : oi.dst = some t := by exact rfl) (hc : takeT T ds l.toList (l.setIfInBounds (n - (fuel + 1)) true).toList (n - (fuel + 1)) = true := by kernel_rfl)
  (hQ : ∀ c a w, Q (.panic c) (a.put oi.dst v) w → Q (.panic c) a w := by exact fun _ _ _ h => h) (hy : YieldsIf P ops S oi v a := by (refine Or.inl ⟨by rfl, ?_⟩; intro w' hs'; (repeat (rcases hs' with ⟨_, hs'⟩)); go_simp; with_reducible rfl))
  (ha : a.put (some t) v = a' := by (simp only [Act.put, List.setIfInBounds_toArray, List.set_cons_zero, List.set_cons_succ]; rfl)) : wpAnyLast P md ops Q S ds (fuel + 1) l a w := take_ _ hi hN (take_of hT.out hc) hQ hy hS ha h
end
section
variable {P : Program} {ops : Array Oper} {Q : Exit → Act → World → Prop}
theorem gA {o : Oper} {rest : List Oper} {a : Act} {w0 W : World} {base : Nat} {α : Type} {d : Kd α} {T t : TypeId} {cs : α → List Value} (hk : AppK P d T t cs) {s x : Operand} {Ao : Option Addr} {co : Nat} (xs : List α) (p : α)
  (HO : d.R t W base (fun _ => True) (.slice Ao xs.length co) xs) (HB : Below base w0 W) (hbase : base ≤ W.heap.size) (hl : xs.length ≤ 1000000)
  (h : ∀ A1 c1 w1, d.R t w1 base (fun _ => True) (.slice A1 (xs.length + 1) c1) (xs ++ [p]) → Below base w0 w1 → W.grownBy w1 (Value.slice Ao xs.length co).ownBlock → wpList P ops Q rest (a.put o.dst (.slice A1 (xs.length + 1) c1)) w1)
  (hgd : o.guard = none := by exact rfl) (ho : o.op = .call { callee := .builtin .append, args := #[s, x], argTypes := #[T, T] } := by exact rfl) (hs : a.eval s = .slice Ao xs.length co := by exact rfl) (hx : a.eval x = .slice (some ⟨W.heap.size, 0, none⟩) 1 1 := by first | exact rfl | (simp; done) | (simp; rfl)) :
  wpList P ops Q (o :: rest) a (W.alloc (.cells (cs p).toArray t)) := by
 obtain ⟨z, bytes, h1, h2, h3, h4⟩ := hk.info
 refine Kd.R_append d (w0 := w0) base hgd s x T t z bytes ho hk.und h1 h2 hk.pos h3 _ xs p (cs p) (fun _ => True) (fun _ => False) hs hx (hk.made _ _ _ p) (fun _ hk => hk.elim) (fun _ _ => trivial) HO HB hbase (Nat.le_trans (Nat.mul_le_mul (Nat.succ_le_succ hl) h4) (by decide)) ?_
 intro v1 w1 o1 b1 g1 _
 obtain ⟨A1, c1, e1⟩ := Kd.R_slice o1
 rw [List.length_append] at e1
 subst e1
 exact h A1 c1 w1 o1 b1 g1
end
end Go.Proofs.Ytcgdloldkcmhnaa.H
end
section
namespace Go.Proofs.Ytcgdloldkcmhnaa.H
open Go Go.RowKit Go.Proofs.Ytcgdloldkcmhnaa.PrintC Go.Proofs.Ytcgdloldkcmhnaa.PrintE Go.Proofs.YtcgdloldkcmhnaaW.PrintWords Go.Proofs.YtcgdloldkcmhnaaW.PrintLast Go.Proofs.YtcgdloldkcmhnaaW.PrintMore
set_option linter.unusedVariables false
set_option linter.unusedSimpArgs false
theorem appMv : AppK Try.prog kMv 55 103 (fun x => [.int .i64 x.f0, .int .i64 x.f1, .int .i64 x.f2]) := ⟨Try.underlying55, ⟨_, 24, info103, rfl, by decide, by decide⟩, by decide, k103_mkM⟩
theorem mv_swap {W : World} {base g n c : Nat} {a b : List Mv} {X Y : Mv} (h2 : Kd.R kMv 103 W base (fun _ => True) (.slice (some ⟨g, 0, none⟩) n c) (a ++ Y :: X :: b)) {j q : Nat} (hj : j = a.length + 1) (hq : q = a.length) :
  (W.cell? ⟨g, q * 3, none⟩ = some (.int .i64 Y.f0) ∧ W.cell? ⟨g, q * 3 + 1, none⟩ = some (.int .i64 Y.f1) ∧ W.cell? ⟨g, q * 3 + 2, none⟩ = some (.int .i64 Y.f2) ∧
   W.cell? ⟨g, j * 3, none⟩ = some (.int .i64 X.f0) ∧ W.cell? ⟨g, j * 3 + 1, none⟩ = some (.int .i64 X.f1) ∧ W.cell? ⟨g, j * 3 + 2, none⟩ = some (.int .i64 X.f2)) ∧
  (W.frozen? ⟨g, j * 3, none⟩ = false ∧ W.frozen? ⟨g, j * 3 + 1, none⟩ = false ∧ W.frozen? ⟨g, j * 3 + 2, none⟩ = false) ∧
  ∃ W1, W1 = ((W.setCell ⟨g, j * 3, none⟩ (.int .i64 Y.f0)).setCell ⟨g, j * 3 + 1, none⟩ (.int .i64 Y.f1)).setCell ⟨g, j * 3 + 2, none⟩ (.int .i64 Y.f2) ∧
  (∃ u0 u1 u2, W1.cell? ⟨g, q * 3, none⟩ = some u0 ∧ W1.cell? ⟨g, q * 3 + 1, none⟩ = some u1 ∧ W1.cell? ⟨g, q * 3 + 2, none⟩ = some u2) ∧ (W1.frozen? ⟨g, q * 3, none⟩ = false ∧ W1.frozen? ⟨g, q * 3 + 1, none⟩ = false ∧ W1.frozen? ⟨g, q * 3 + 2, none⟩ = false) ∧
  Kd.R kMv 103 (((W1.setCell ⟨g, q * 3, none⟩ (.int .i64 X.f0)).setCell ⟨g, q * 3 + 1, none⟩ (.int .i64 X.f1)).setCell ⟨g, q * 3 + 2, none⟩ (.int .i64 X.f2)) base (fun _ => True) (.slice (some ⟨g, 0, none⟩) n c) (a ++ X :: Y :: b) ∧
  (∀ w0 : World, Below base w0 W → Below base w0 (((W1.setCell ⟨g, q * 3, none⟩ (.int .i64 X.f0)).setCell ⟨g, q * 3 + 1, none⟩ (.int .i64 X.f1)).setCell ⟨g, q * 3 + 2, none⟩ (.int .i64 X.f2))) := by
 have hn : n = (a ++ Y :: X :: b).length := (Kd.R_reads' h2).1
 have hl : (a ++ Y :: X :: b).length = a.length + (b.length + 2) := by rw [List.length_append]; rfl
 have eY : (a ++ Y :: X :: b).getD q z103 = Y := by
  rw [hq, List.getD_eq_getElem?_getD, List.getElem?_append_right (Nat.le_refl _), Nat.sub_self]
  rfl
 have eX : (a ++ Y :: X :: b).getD j z103 = X := by
  rw [hj, List.getD_eq_getElem?_getD, List.getElem?_append_right (by omega), show a.length + 1 - a.length = 1 by omega]
  rfl
 have i0 : (0 : Int) ≤ (j : Int) := by omega
 have i1 : (j : Int) < n := by omega
 have k0 : (0 : Int) ≤ (q : Int) := by omega
 have k1 : (q : Int) < n := by omega
 obtain ⟨ce, hcl, hM, hcc, hfr⟩ := Kd.R_elem h2 z103 (j : Int) i0 i1
 obtain rfl := k103_openM hM
 obtain ⟨ce, hcl', hM', hcc', hfr'⟩ := Kd.R_elem h2 z103 (q : Int) k0 k1
 obtain rfl := k103_openM hM'
 have hg := Kd.R_base h2 g rfl
 have s1 := (Kd.R_seg h2 (j : Int) i0 i1 (seg := [.int .i64 Y.f0, .int .i64 Y.f1, .int .i64 Y.f2]) (j := 0) hcl hcc (show 3 ≤ 3 from by decide) (x' := Y) (k103_mkM _ _ _ _) (fun _ hk => hk)).1
 obtain ⟨ce, hcl2, hM2, hcc2, hfr2⟩ := Kd.R_elem s1 z103 (q : Int) k0 k1
 obtain rfl := k103_openM hM2
 have s2 := (Kd.R_seg s1 (q : Int) k0 k1 (seg := [.int .i64 X.f0, .int .i64 X.f1, .int .i64 X.f2]) (j := 0) hcl2 hcc2 (show 3 ≤ 3 from by decide) (x' := X) (k103_mkM _ _ _ _) (fun _ hk => hk)).1
 have es : ((a ++ Y :: X :: b).set j Y).set q X = a ++ X :: Y :: b := by
  rw [hj, hq, List.set_append_right _ _ (by omega), show a.length + 1 - a.length = 1 by omega, List.set_append_right _ _ (by omega), Nat.sub_self]
  rfl
 simp only [World.setCells, show k103.sz = 3 from rfl, Nat.add_zero, Int.toNat_natCast, eX, eY] at hcc hcc' hfr hfr' hcc2 hfr2 s1 s2
 rw [es] at s2
 refine ⟨⟨hcc' 0 _ rfl, hcc' 1 _ rfl, hcc' 2 _ rfl, hcc 0 _ rfl, hcc 1 _ rfl, hcc 2 _ rfl⟩, ⟨hfr 0, hfr 1, hfr 2⟩, _, rfl, ⟨_, _, _, hcc2 0 _ rfl, hcc2 1 _ rfl, hcc2 2 _ rfl⟩, ⟨hfr2 0, hfr2 1, hfr2 2⟩, s2, fun w0 hw => ?_⟩
 exact (((((hw.setCell hg _).setCell hg _).setCell hg _).setCell hg _).setCell hg _).setCell hg _
def alls (l : List Mv) (i j : Nat) : List Int := ((l.take j).filter (sameK (mvAt l i))).map (·.f2)
theorem alls_next {l : List Mv} {i j : Nat} (hj : j < l.length) : alls l i (j + 1) = alls l i j ++ (if sameK (mvAt l i) (mvAt l j) = true then [(mvAt l j).f2] else []) := by
 unfold alls
 rw [mvAt_take hj, List.filter_append, List.map_append]
 congr 1
 by_cases e : sameK (mvAt l i) (mvAt l j) = true
 ·rw [if_pos e, List.filter_cons_of_pos e]
  rfl
 ·rw [if_neg e, List.filter_cons_of_neg e]
  rfl
theorem alls_first {l : List Mv} {i : Nat} (hi : i ≤ l.length) (h : ∀ k, k < i → sameK (mvAt l k) (mvAt l i) = false) : alls l i i = [] := by
 unfold alls
 rw [List.filter_eq_nil_iff.2 fun x hx e => ?_]
 ·rfl
 ·obtain ⟨k, hk, rfl⟩ := mem_take_at hi hx
  exact absurd (sameK_sym e) (by rw [h k hk]; decide)
theorem alls_len (l : List Mv) (i j : Nat) : (alls l i j).length ≤ l.length := by
 unfold alls
 rw [List.length_map]
 exact Nat.le_trans (List.length_filter_le _ _) (by rw [List.length_take]; omega)
theorem alls_i64 {l : List Mv} (h : ∀ x, x ∈ l → -9223372036854775808 ≤ x.f2 ∧ x.f2 ≤ 9223372036854775807) (i j : Nat) : I64s (alls l i j) := fun y hy => by
 unfold alls at hy
 obtain ⟨x, hx, rfl⟩ := List.mem_map.1 hy
 exact h x (List.mem_of_mem_take (List.mem_filter.1 hx).1)
theorem SumAt.yes {l : List Int} {T : Int} {w w' : World} {e : Ending} (h : SumAt l w e w') (hT : sumL l = T) (hf : fits T = true) : e = .returned (.tuple #[.int .i64 T, .bool true]) ∧ Below w.heap.size w w' := by
 unfold SumAt at h
 rw [hT, hf] at h
 exact h
theorem SumAt.no {l : List Int} {T : Int} {w w' : World} {e : Ending} (h : SumAt l w e w') (hT : sumL l = T) (hf : fits T = false) : e = .returned (.tuple #[.int .i64 0, .bool false]) ∧ Below w.heap.size w w' := by
 unfold SumAt at h
 rw [hT, hf] at h
 exact h
theorem appInt : AppK Try.prog (Kd.int .i64) 69 3 (fun x => [.int .i64 x]) := ⟨Try.underlying69, ⟨_, 8, info3, rfl, by decide, by decide⟩, by decide, fun _ _ _ _ => rfl⟩
def mvT9 : Bool × List (List Nat × List Nat) := (true, [([], []), ([0], [0]), ([1], [1]), ([1], [1]), ([2, 3, 1], [1, 2, 3]), ([4, 1], [1, 4]), ([5, 1], [1, 5]), ([1], [1]), ([1], [1]), ([7, 8, 1], [1, 7, 8]), ([9, 1], [1, 9]), ([10, 1], [1, 10]), ([6, 11, 1], [1, 6, 11]), ([12, 1, 1], [1, 12]), ([13], [13]), ([13], [13]), ([14, 15, 13], [13, 14, 15]), ([16, 13], [13, 16]), ([17, 13], [13, 17]), ([13], [13]), ([13], [13]), ([19, 20, 13], [13, 19, 20]), ([21, 13], [13, 21]), ([22, 13], [13, 22]), ([18, 23, 13], [13, 18, 23]), ([13, 24, 1], [1, 13, 24]), ([1, 25], [1, 25]), ([26, 13, 0, 1, 2, 3, 4, 5, 6, 7, 8, 9, 10, 11, 12, 13, 14, 15, 16, 17, 18, 19, 20, 21, 22, 23, 24, 25, 26], [0, 26])])
def mvT15 : Bool × List (List Nat × List Nat) := (true, [([], []), ([], []), ([0, 1], [0, 1]), ([2], [2]), ([3], [3]), ([], []), ([], []), ([5, 6], [5, 6]), ([7], [7]), ([8], [8]), ([4, 9], [4, 9]), ([10], [10]), ([11], [11]), ([11], [11]), ([12, 13, 11], [11, 12, 13]), ([14, 11], [11, 14]), ([15, 11], [11, 15]), ([11], [11]), ([11], [11]), ([17, 18, 11], [11, 17, 18]), ([19, 11], [11, 19]), ([20, 11], [11, 20]), ([16, 21, 11], [11, 16, 21]), ([11, 22], [11, 22])])
def mvT23 : Bool × List (List Nat × List Nat) := (true, [([], []), ([0], [0]), ([1], [1]), ([2], [2]), ([2], [2]), ([3, 4, 2], [2, 3, 4]), ([5, 2], [2, 5]), ([6, 2], [2, 6]), ([2], [2]), ([2], [2]), ([9, 2], [2, 9]), ([8, 10, 2], [2, 8, 10]), ([11, 2], [2, 11]), ([12, 2], [2, 12]), ([7, 13, 2], [2, 7, 13]), ([14, 2, 2], [2, 14]), ([15], [15]), ([15], [15]), ([16, 17, 15], [15, 16, 17]), ([18, 15], [15, 18]), ([19, 15], [15, 19]), ([15], [15]), ([15], [15]), ([22, 15], [15, 22]), ([21, 23, 15], [15, 21, 23]), ([24, 15], [15, 24]), ([25, 15], [15, 25]), ([20, 26, 15], [15, 20, 26]), ([27, 15, 15], [15, 27]), ([28], [28]), ([28], [28]), ([29, 30, 28], [28, 29, 30]), ([31, 28], [28, 31]), ([32, 28], [28, 32]), ([28], [28]), ([28], [28]), ([35, 28], [28, 35]), ([34, 36, 28], [28, 34, 36]), ([37, 28], [28, 37]), ([38, 28], [28, 38]), ([33, 39, 28], [28, 33, 39]), ([28, 40, 15], [15, 28, 40]), ([15, 41, 2], [2, 15, 41]), ([2, 42], [2, 42])])
def MovesAt (l : List Mv) (w : World) (e : Ending) (w' : World) : Prop := Below w.heap.size w w' ∧ ((e = .returned (.tuple #[.slice none 0 0, .int .i64 10]) ∧ ∃ x, x ∈ l ∧ fits (amt l x) = false) ∨
 ∃ (m : List Mv) (A1 : Option Addr) (c1 : Nat), e = .returned (.tuple #[.slice A1 m.length c1, .int .i64 0]) ∧ Kd.R kMv 103 w' w.heap.size (fun _ => True) (.slice A1 m.length c1) m ∧ MgOf l m ∧ m.length ≤ l.length)
set_option maxHeartbeats 8000000 in
set_option maxRecDepth 100000 in
theorem rmoves_walk (A : Option Addr) (c : Nat) (l : List Mv) (w : World) (hr : Kd.C kMv w A l.length l) (hi : ∀ x, x ∈ l → -9223372036854775808 ≤ x.f2 ∧ x.f2 ≤ 9223372036854775807) (hl : l.length ≤ 100000) :
  Calls Try.prog 76 #[.slice A l.length c] w (MovesAt l w) := by
 have HR := Lib.hid hr
 have HI := Lib.hid hi
 have hu2 := Try.underlying103
 clear hr hi
 go_enter Try.func76, Try.ntmps76
 go_wp2
 go_loopg [4, 5] (l.length + 1) (fun k ov iv W => ∃ (i : Nat) (m : List Mv) (Ao : Option Addr) (co : Nat), i ≤ l.length ∧ ov = .slice Ao m.length co ∧ iv = .int .i64 i ∧ k = l.length + 1 - i ∧ Hid (Kd.R kMv 103 W w.heap.size (fun _ => True) (.slice Ao m.length co) m ∧ Below w.heap.size w W ∧ MgI l i m ∧ m.length ≤ i))
 case atStart => exact ⟨0, [], none, 0, Nat.zero_le _, rfl, rfl, rfl, Lib.hid ⟨Kd.R_nil _ _ _ _ _, Below.refl _ _, MgI.zero l, Nat.le_refl _⟩⟩
 case round =>
  obtain ⟨i, m, Ao, co, hi, rfl, rfl, rfl, HL⟩ := hrel
  by_cases hlt : i < l.length
  ·have i0 : (0 : Int) ≤ (i : Int) := by omega
   have i1 : (i : Int) < (l.length : Int) := by omega
   obtain ⟨ad, ea, -⟩ := at_T103 HR.out (i : Int) i0 i1
   subst ea
   obtain ⟨X, hX⟩ : ∃ X, X = mvAt l i := ⟨_, rfl⟩
   have CI : Hid (∀ W, Below w.heap.size w W → W.cell? (ad.add (i * 3)) = some (.int .i64 X.f0) ∧ W.cell? ⟨(ad.add (i * 3)).block, (ad.add (i * 3)).off + 1, none⟩ = some (.int .i64 X.f1) ∧ W.cell? ⟨(ad.add (i * 3)).block, (ad.add (i * 3)).off + 2, none⟩ = some (.int .i64 X.f2)) := Lib.hid (fun W hW => by
    obtain ⟨ad2, e2, z0, z1, z2⟩ := at_T103 (Kd.C_below HR.out hW) (i : Int) i0 i1
    injection e2 with e2
    subst e2
    rw [Int.toNat_natCast] at z0 z1 z2
    rw [hX]
    exact ⟨z0, z1, z2⟩)
   have HX := Lib.hid hX
   clear hX
   go_wp2
   go_loopg [6, 7] (i + 1) (fun k fv jv W => ∃ (j : Nat) (fb : Bool), j ≤ i ∧ fv = .bool fb ∧ jv = .int .i64 j ∧ k = i + 1 - j ∧ Hid ((fb = true ↔ ∀ t, t < j → sameK (mvAt l t) X = false) ∧ Kd.R kMv 103 W w.heap.size (fun _ => True) (.slice Ao m.length co) m ∧ Below w.heap.size w W))
   case atStart => exact ⟨0, true, Nat.zero_le _, rfl, rfl, rfl, Lib.hid ⟨⟨fun _ t ht => absurd ht (Nat.not_lt_zero _), fun _ => rfl⟩, HL.out.1, HL.out.2.1⟩⟩
   case round =>
    obtain ⟨j, fb, hj, rfl, rfl, rfl, HJ⟩ := hrel
    by_cases hjt : j < i
    ·have j0 : (0 : Int) ≤ (j : Int) := by omega
     have j1 : (j : Int) < (l.length : Int) := by omega
     have hji : (j : Int) < (i : Int) := by omega
     obtain ⟨ad2, e2, y0, y1, -⟩ := at_T103 (Kd.C_drew (Kd.C_below HR.out HJ.out.2.2)) (j : Int) j0 j1
     injection e2 with e2
     subst e2
     rw [Int.toNat_natCast] at y0 y1
     obtain ⟨Y, hY⟩ : ∃ Y, Y = mvAt l j := ⟨_, rfl⟩
     have hY2 : rd_T103 l (j : Int) = Y := by rw [hY]; rfl
     rw [hY2] at y0 y1
     have HY := Lib.hid hY
     clear hY hY2
     obtain ⟨x0, x1, -⟩ := CI.out _ (below_drew1 HJ.out.2.2)
     have HO := Lib.hid (And.intro (Kd.R_drew HJ.out.2.1) (below_drew1 HJ.out.2.2))
     obtain ⟨nf, hnf, HN⟩ : ∃ nf : Bool, nf = (fb && (decide (Y.f0 ≠ X.f0) || decide (Y.f1 ≠ X.f1))) ∧ Hid (nf = true ↔ ∀ t, t < j + 1 → sameK (mvAt l t) X = false) := by
      refine ⟨_, rfl, Lib.hid ?_⟩
      have hs : sameK Y X = false ↔ (Y.f0 ≠ X.f0 ∨ Y.f1 ≠ X.f1) := by
       unfold sameK
       rw [decide_eq_false_iff_not]
       omega
      rw [Bool.and_eq_true, Bool.or_eq_true, decide_eq_true_iff, decide_eq_true_iff, ← hs, HJ.out.1, HY.out]
      constructor
      ·rintro ⟨h1, h2⟩ t ht
       by_cases e : t = j
       ·rw [e]; exact h2
       ·exact h1 t (by omega)
      ·exact fun h => ⟨fun t ht => h t (by omega), h j (by omega)⟩
     have HJ2 := Lib.hid HJ.out.1
     clear HL HJ
     go_wp2
     refine stepS (S := fun w' => w'.cell? (ad.add (j * 3)) = some (.int .i64 Y.f0) ∧ w'.cell? ⟨(ad.add (j * 3)).block, (ad.add (j * 3)).off + 1, none⟩ = some (.int .i64 Y.f1) ∧ w'.cell? (ad.add (i * 3)) = some (.int .i64 X.f0) ∧ w'.cell? ⟨(ad.add (i * 3)).block, (ad.add (i * 3)).off + 1, none⟩ = some (.int .i64 X.f1)) (ds := []) 28 (by kernel_rfl) rfl ⟨y0, y1, x0, x1⟩ (fun hHeld => ?_)
     generalize wr.drew = wd at HO hHeld ⊢
     refine wT mvT9 (fun hT => ?_)
     clear y0 y1 x0 x1
     cases fb with
     | false =>
      have hn2 : nf = false := by rw [hnf]; rfl
      subst hn2
      clear hnf
      as_aux_lemma =>
       repeat (first | refine qP 28 hT ?_ | refine qT 28 hT hHeld ?_)
       refine done_ (by kernel_rfl) ?_
       go_wp2
       go_roundg (i - j)
       case measure => omega
       case rel => exact ⟨j + 1, false, by omega, rfl, by go_num, by omega, Lib.hid ⟨by simpa using HN.out, HO.out.1, HO.out.2⟩⟩
     | true =>
      by_cases c0 : Y.f0 = X.f0
      ·have d0 : (Y.f0 != X.f0) = false := bne_eq_false_iff_eq.2 c0
       have d1 : (Y.f0 == X.f0) = true := beq_iff_eq.2 c0
       by_cases c1 : Y.f1 = X.f1
       ·have d2 : (Y.f1 != X.f1) = false := bne_eq_false_iff_eq.2 c1
        have d3 : (Y.f1 == X.f1) = true := beq_iff_eq.2 c1
        have hn2 : nf = false := by rw [hnf, c0, c1]; simp
        subst hn2
        have HC := Lib.hid (And.intro c0 c1)
        clear hnf c0 c1
        as_aux_lemma =>
         repeat (first | refine qP 28 hT ?_ | refine qT 28 hT hHeld ?_)
         refine done_ (by kernel_rfl) ?_
         go_wp2
         go_roundg (i - j)
         case measure => omega
         case rel => exact ⟨j + 1, false, by omega, rfl, by go_num, by omega, Lib.hid ⟨by simpa using HN.out, HO.out.1, HO.out.2⟩⟩
       ·have d2 : (Y.f1 != X.f1) = true := bne_iff_ne.2 c1
        have d3 : (Y.f1 == X.f1) = false := beq_eq_false_iff_ne.2 c1
        have hn2 : nf = true := by rw [hnf]; simp [c1]
        subst hn2
        have HC := Lib.hid (And.intro c0 c1)
        clear hnf c0 c1
        as_aux_lemma =>
         repeat (first | refine qP 28 hT ?_ | refine qT 28 hT hHeld ?_)
         refine done_ (by kernel_rfl) ?_
         go_wp2
         go_roundg (i - j)
         case measure => omega
         case rel => exact ⟨j + 1, true, by omega, rfl, by go_num, by omega, Lib.hid ⟨by simpa using HN.out, HO.out.1, HO.out.2⟩⟩
      ·have d0 : (Y.f0 != X.f0) = true := bne_iff_ne.2 c0
       have d1 : (Y.f0 == X.f0) = false := beq_eq_false_iff_ne.2 c0
       have hn2 : nf = true := by rw [hnf]; simp [c0]
       subst hn2
       have HC := Lib.hid c0
       clear hnf c0
       as_aux_lemma =>
        repeat (first | refine qP 28 hT ?_ | refine qT 28 hT hHeld ?_)
        refine done_ (by kernel_rfl) ?_
        go_wp2
        go_roundg (i - j)
        case measure => omega
        case rel => exact ⟨j + 1, true, by omega, rfl, by go_num, by omega, Lib.hid ⟨by simpa using HN.out, HO.out.1, HO.out.2⟩⟩
    ·have e : j = i := by omega
     subst e
     cases fb with
     | false =>
      have HH : Hid (∃ t, t < j ∧ sameK (mvAt l t) X = true) := Lib.hid (by
       apply Classical.byContradiction
       intro h
       have := HJ.out.1.2 (fun t ht => by
        cases e : sameK (mvAt l t) X with
        | false => rfl
        | true => exact absurd ⟨t, ht, e⟩ h)
       cases this)
      go_wp2
      go_roundg (l.length - j)
      case measure => omega
      case rel =>
       refine ⟨j + 1, m, Ao, co, by omega, rfl, by go_num, by omega, Lib.hid ⟨HJ.out.2.1, HJ.out.2.2, ?_, by have := HL.out.2.2.2; omega⟩⟩
       obtain ⟨t, ht, e⟩ := HH.out
       rw [HX.out] at e
       exact HL.out.2.2.1.had hlt ht e
     | true =>
      have HNH : Hid (∀ t, t < j → sameK (mvAt l t) (mvAt l j) = false) := Lib.hid (fun t ht => by have := HJ.out.1.1 rfl t ht; rw [HX.out] at this; exact this)
      have HA0 : Hid (alls l j j = []) := Lib.hid (alls_first (by omega) HNH.out)
      have HO := Lib.hid (And.intro HJ.out.2.1 HJ.out.2.2)
      have HM := Lib.hid HL.out.2.2
      have hmj : m.length ≤ j := HL.out.2.2.2
      clear HL HJ
      go_wp2
      obtain ⟨W2, hW2⟩ : ∃ W2, W2 = wr := ⟨_, rfl⟩
      rw [← hW2] at HO ⊢
      clear hW2
      go_loopg [8, 9] (l.length + 1 - j) (fun k av tv W => ∃ (t : Nat) (Aa : Option Addr) (ca : Nat), j ≤ t ∧ t ≤ l.length ∧ av = .slice Aa (alls l j t).length ca ∧ tv = .int .i64 t ∧ k = l.length + 1 - t ∧ Hid (Kd.R (Kd.int .i64) 3 W W2.heap.size (fun _ => True) (.slice Aa (alls l j t).length ca) (alls l j t) ∧ Below W2.heap.size W2 W))
      case atStart => exact ⟨j, none, 0, Nat.le_refl _, by omega, by rw [HA0.out]; rfl, rfl, rfl, Lib.hid ⟨by rw [HA0.out]; exact Kd.R_nil _ _ _ _ _, Below.refl _ _⟩⟩
      case round =>
       obtain ⟨t, Aa, ca, ht1, ht, rfl, rfl, rfl, HT⟩ := hrel
       have HB := Lib.hid (below_step HO.out.2 HT.out.2)
       by_cases htl : t < l.length
       ·have j0 : (0 : Int) ≤ (t : Int) := by omega
        have j1 : (t : Int) < (l.length : Int) := by omega
        obtain ⟨ad2, e2, y0, y1, y2⟩ := at_T103 (Kd.C_drew (Kd.C_below HR.out HB.out)) (t : Int) j0 j1
        injection e2 with e2
        subst e2
        rw [Int.toNat_natCast] at y0 y1 y2
        obtain ⟨Y, hY⟩ : ∃ Y, Y = mvAt l t := ⟨_, rfl⟩
        have hY2 : rd_T103 l (t : Int) = Y := by rw [hY]; rfl
        rw [hY2] at y0 y1 y2
        clear hY2
        obtain ⟨x0, x1, -⟩ := CI.out _ (below_drew1 HB.out)
        have HO2 := Lib.hid (And.intro (Kd.R_drew HT.out.1) (below_drew1 HT.out.2))
        have hnx := alls_next (i := j) htl
        rw [← hY, ← HX.out] at hnx
        go_wp2
        refine stepS (S := fun w' => w'.cell? (ad.add (t * 3)) = some (.int .i64 Y.f0) ∧ w'.cell? ⟨(ad.add (t * 3)).block, (ad.add (t * 3)).off + 1, none⟩ = some (.int .i64 Y.f1) ∧ w'.cell? (ad.add (j * 3)) = some (.int .i64 X.f0) ∧ w'.cell? ⟨(ad.add (j * 3)).block, (ad.add (j * 3)).off + 1, none⟩ = some (.int .i64 X.f1)) (ds := []) 24 (by kernel_rfl) rfl ⟨y0, y1, x0, x1⟩ (fun hHeld => ?_)
        generalize wr.drew = wd at HO2 hHeld y2 ⊢
        refine wT mvT15 (fun hT => ?_)
        clear y0 y1 x0 x1 HT HB
        by_cases c0 : Y.f0 = X.f0
        ·have d0 : (Y.f0 != X.f0) = false := bne_eq_false_iff_eq.2 c0
         have d1 : (Y.f0 == X.f0) = true := beq_iff_eq.2 c0
         by_cases c1 : Y.f1 = X.f1
         ·have d2 : (Y.f1 != X.f1) = false := bne_eq_false_iff_eq.2 c1
          have d3 : (Y.f1 == X.f1) = true := beq_iff_eq.2 c1
          rw [if_pos (sameK_iff.2 ⟨c0.symm, c1.symm⟩)] at hnx
          have HNX := Lib.hid hnx
          have HC := Lib.hid (And.intro c0 c1)
          clear hnx c0 c1 hY
          as_aux_lemma =>
           repeat (first | refine qP 24 hT ?_ | refine qT 24 hT hHeld ?_)
           refine done_ (by kernel_rfl) ?_
           clear hHeld
           go_wp2_with (first
            |((with_reducible refine gate_dst (N := 91) rfl ?_); (refine gA (w0 := W2) (base := W2.heap.size) appInt (alls l j t) Y.f2 ?aO ?aB ?aS ?aL ?_); (case aO => exact HO2.out.1); (case aB => exact HO2.out.2); (case aS => exact HO2.out.2.size); (case aL => have := alls_len l j t; omega); go_loud (intro A1 c1 w9 ho hb hg; have HO9 := Lib.hid (And.intro ho hb); clear ho hb hg HO2)))
           go_roundg (l.length - t)
           case measure => omega
           case rel => exact ⟨t + 1, A1, c1, by omega, by omega, by rw [HNX.out, List.length_append]; rfl, by go_num, by omega, Lib.hid ⟨by rw [HNX.out, List.length_append]; exact HO9.out.1, HO9.out.2⟩⟩
         ·have d2 : (Y.f1 != X.f1) = true := bne_iff_ne.2 c1
          have d3 : (Y.f1 == X.f1) = false := beq_eq_false_iff_ne.2 c1
          rw [if_neg (fun e => c1 (sameK_iff.1 e).2.symm), List.append_nil] at hnx
          have HNX := Lib.hid hnx
          have HC := Lib.hid (And.intro c0 c1)
          clear hnx c0 c1 hY
          as_aux_lemma =>
           repeat (first | refine qP 24 hT ?_ | refine qT 24 hT hHeld ?_)
           refine done_ (by kernel_rfl) ?_
           clear hHeld
           go_wp2
           go_roundg (l.length - t)
           case measure => omega
           case rel => exact ⟨t + 1, Aa, ca, by omega, by omega, by rw [HNX.out], by go_num, by omega, Lib.hid ⟨by rw [HNX.out]; exact HO2.out.1, HO2.out.2⟩⟩
        ·have d0 : (Y.f0 != X.f0) = true := bne_iff_ne.2 c0
         have d1 : (Y.f0 == X.f0) = false := beq_eq_false_iff_ne.2 c0
         rw [if_neg (fun e => c0 (sameK_iff.1 e).1.symm), List.append_nil] at hnx
         have HNX := Lib.hid hnx
         have HC := Lib.hid c0
         clear hnx c0 hY
         as_aux_lemma =>
          repeat (first | refine qP 24 hT ?_ | refine qT 24 hT hHeld ?_)
          refine done_ (by kernel_rfl) ?_
          clear hHeld
          go_wp2
          go_roundg (l.length - t)
          case measure => omega
          case rel => exact ⟨t + 1, Aa, ca, by omega, by omega, by rw [HNX.out], by go_num, by omega, Lib.hid ⟨by rw [HNX.out]; exact HO2.out.1, HO2.out.2⟩⟩
       ·have e : t = l.length := by omega
        subst e
        obtain ⟨T, hT⟩ : ∃ T, T = amt l X := ⟨_, rfl⟩
        have HSUM : Hid (sumL (alls l j l.length) = T) := Lib.hid (by rw [hT, HX.out]; unfold alls amt; rw [List.take_length])
        have HTE := Lib.hid hT
        have hal := alls_len l j l.length
        clear hT
        cases hf : fits T with
        | false =>
         have HF := Lib.hid hf
         clear hf
         go_wp2_with (go_at_call 100; go_loud ((with_reducible refine (rsum_walk Aa ca (alls l j l.length) _ ?s1 ?s2 ?s3).mono ?_); (case s1 => exact (Kd.R_reads' HT.out.1).2.2); (case s2 => exact alls_i64 HI.out j _); (case s3 => omega); rintro e w7 hs; obtain ⟨rfl, hb⟩ := hs.no HSUM.out HF.out; have HB7 := Lib.hid (below_step HB.out hb); clear hs hb))
         go_ret2
         refine ⟨HB7.out, .inl ⟨rfl, X, ?_, ?_⟩⟩
         ·rw [HX.out]
          exact mvAt_mem hlt
         ·rw [← HTE.out]
          exact HF.out
        | true =>
         have HF := Lib.hid hf
         clear hf
         by_cases c9 : T = 0
         ·have c1 : (T == 0) = true := beq_iff_eq.2 c9
          have c2 : (T != 0) = false := bne_eq_false_iff_eq.2 c9
          have HC9 := Lib.hid c9
          clear c9
          go_wp2_with (go_at_call 100; go_loud ((with_reducible refine (rsum_walk Aa ca (alls l j l.length) _ ?s1 ?s2 ?s3).mono ?_); (case s1 => exact (Kd.R_reads' HT.out.1).2.2); (case s2 => exact alls_i64 HI.out j _); (case s3 => omega); rintro e w7 hs; obtain ⟨rfl, hb⟩ := hs.yes HSUM.out HF.out; have HB7 := Lib.hid (And.intro (Kd.R_below (Kd.R_below HO.out.1 HT.out.2) hb) (below_step HB.out hb)); clear hs hb))
          go_roundg (l.length - j)
          case measure => omega
          case rel =>
           exact ⟨j + 1, m, Ao, co, by omega, rfl, by go_num, by omega, Lib.hid ⟨HB7.out.1, HB7.out.2, HM.out.1.none hlt (by rw [← HX.out, ← HTE.out]; exact HC9.out), by omega⟩⟩
         ·have c1 : (T == 0) = false := beq_eq_false_iff_ne.2 c9
          have c2 : (T != 0) = true := bne_iff_ne.2 c9
          have HC9 := Lib.hid c9
          clear c9
          go_wp2_with (go_at_call 100; go_loud ((with_reducible refine (rsum_walk Aa ca (alls l j l.length) _ ?s1 ?s2 ?s3).mono ?_); (case s1 => exact (Kd.R_reads' HT.out.1).2.2); (case s2 => exact alls_i64 HI.out j _); (case s3 => omega); rintro e w7 hs; obtain ⟨rfl, hb⟩ := hs.yes HSUM.out HF.out; have HB7 := Lib.hid (And.intro (Kd.R_below (Kd.R_below HO.out.1 HT.out.2) hb) (below_step HB.out hb)); clear hs hb))
          obtain ⟨x0, x1, -⟩ := CI.out _ (below_drew1 HB7.out.2)
          refine stepS (S := fun w' => w'.cell? (ad.add (j * 3)) = some (.int .i64 X.f0) ∧ w'.cell? ⟨(ad.add (j * 3)).block, (ad.add (j * 3)).off + 1, none⟩ = some (.int .i64 X.f1)) (ds := [14]) 16 (by kernel_rfl) rfl ⟨x0, x1⟩ (fun hHeld => ?_)
          have HO9 := Lib.hid (And.intro (Kd.R_drew HB7.out.1) (below_drew1 HB7.out.2))
          generalize w7.drew = wd at HO9 hHeld ⊢
          clear x0 x1 HB7 HO HB HT
          as_aux_lemma =>
           repeat (first | refine rP 16 ?_ | refine rT 16 hHeld ?_)
           refine sB 13 hHeld (fun hHeld => ?_)
           obtain ⟨XX, hXX⟩ : ∃ XX : Mv, XX = ⟨X.f0, X.f1, T⟩ := ⟨_, rfl⟩
           refine sA 14 appMv m ⟨X.f0, X.f1, T⟩ HO9.out.1 HO9.out.2 HO9.out.2.size (by omega) (fun A1 c1 w9 ho hb hg => ?_)
           refine sN ?_
           refine rP 16 ?_
           refine done_ (by kernel_rfl) ?_
           rw [← hXX] at ho
           have HXX := Lib.hid hXX
           obtain ⟨n1, hn1⟩ : ∃ n1, n1 = m.length + 1 := ⟨_, rfl⟩
           rw [← hn1] at ho ⊢
           obtain ⟨g, cap, ev, -⟩ := Kd.R_form ho (by simp)
           injection ev with ev1 ev2 ev3
           subst ev1
           clear ev2 ev3 hXX hg hHeld HO9
           have HO9 := Lib.hid (And.intro ho hb)
           clear ho hb
           have HM9 := Lib.hid HM.out
           have hn1b : 1 ≤ n1 ∧ n1 ≤ 100001 := by omega
           have HN1 := Lib.hid hn1
           clear hn1
           go_wp2
           go_loopg [12] n1 (fun k jv W => ∃ (J : Int) (a b : List Mv), jv = .int .i64 J ∧ J = (a.length : Int) ∧ k = J.toNat + 1 ∧ J ≤ 100000 ∧ Hid (a ++ b = m ∧ (∀ y, y ∈ b → mlt XX y) ∧ Kd.R kMv 103 W w.heap.size (fun _ => True) (.slice (some ⟨g, 0, none⟩) n1 c1) (a ++ XX :: b) ∧ Below w.heap.size w W))
           case atStart => exact ⟨(n1 : Int) - 1, m, [], rfl, by have := HN1.out; omega, by omega, by omega, Lib.hid ⟨List.append_nil m, fun _ h => (nomatch h), HO9.out.1, HO9.out.2⟩⟩
           case round =>
            obtain ⟨J, a, b, rfl, hJ, rfl, hJb, HK⟩ := hrel
            rcases List.eq_nil_or_concat a with rfl | ⟨a', Y, ha⟩
            ·have hJ0 : J = 0 := by rw [hJ]; rfl
             subst hJ0
             clear hJ
             go_wp2
             refine stepS (S := fun _ => True) (ds := []) 44 (by kernel_rfl) rfl trivial (fun hHeld => ?_)
             have HO9 := Lib.hid (And.intro (Kd.R_drew HK.out.2.2.1) (below_drew1 HK.out.2.2.2))
             generalize wr.drew = wd at HO9 ⊢
             refine wT mvT23 (fun hT => ?_)
             repeat refine qP 44 hT ?_
             refine done_ (by kernel_rfl) ?_
             go_wp2
             go_roundg (l.length - j)
             case measure => omega
             case rel => exact ⟨j + 1, XX :: b, some ⟨g, 0, none⟩, c1, by omega, by rw [List.length_cons, ← List.nil_append b, HK.out.1, ← HN1.out], by go_num, by omega, Lib.hid ⟨by rw [List.length_cons, ← List.nil_append b, HK.out.1, ← HN1.out, ← HK.out.1]; exact HO9.out.1, HO9.out.2, MgI.ins (a := []) (by rw [HK.out.1]; exact HM9.out.1) hlt HNH.out (by rw [HXX.out, HTE.out, HX.out]) (by rw [← HX.out, ← HTE.out]; exact HF.out) (by rw [← HX.out, ← HTE.out]; exact HC9.out) HK.out.2.1 (fun a' y e => by simp at e), by rw [List.length_cons, ← List.nil_append b, HK.out.1]; omega⟩⟩
            ·rw [List.concat_eq_append] at ha
             subst ha
             rw [List.length_append, List.length_singleton] at hJ
             obtain ⟨Z, hZ⟩ : ∃ Z : Int, Z = J - 1 := ⟨_, rfl⟩
             have eZ : IntKind.i64.wrap (J - 1) = Z := by rw [IntWalk.i64_in _ (by omega), hZ]
             have ep : J.toNat = a'.length + 1 := by omega
             have eq : Z.toNat = a'.length := by omega
             have hlen : n1 = a'.length + b.length + 2 := by
              have := (Kd.R_reads' HK.out.2.2.1).1
              rw [this]
              simp
              omega
             have z0 : 0 ≤ Z := by omega
             have z1 : Z < (n1 : Int) := by omega
             have J0 : 0 < J := by omega
             have J1 : J < (n1 : Int) := by omega
             have hR9 := HK.out.2.2.1
             rw [List.append_assoc] at hR9
             have HR9 := Lib.hid (show Kd.R kMv 103 wr w.heap.size (fun _ => True) (.slice (some ⟨g, 0, none⟩) n1 c1) (a' ++ Y :: XX :: b) from hR9)
             clear hR9
             obtain ⟨q0, q1, -, p0, p1, -⟩ := (mv_swap (Kd.R_drew HR9.out) ep eq).1
             have J00 : 0 ≤ J := by omega
             have HZ := Lib.hid (And.intro hZ (And.intro ep (And.intro eq (And.intro hlen hJ))))
             have HK2 := Lib.hid (And.intro HK.out.1 (And.intro HK.out.2.1 (below_drew1 (below_drew1 HK.out.2.2.2))))
             have HR10 := Lib.hid (Kd.R_drew HR9.out)
             clear hZ ep eq hlen hJ HO9
             go_wp2
             refine stepS (S := fun w' => w'.cell? ⟨g, Z.toNat * 3, none⟩ = some (.int .i64 Y.f0) ∧ w'.cell? ⟨g, Z.toNat * 3 + 1, none⟩ = some (.int .i64 Y.f1) ∧ w'.cell? ⟨g, J.toNat * 3, none⟩ = some (.int .i64 XX.f0) ∧ w'.cell? ⟨g, J.toNat * 3 + 1, none⟩ = some (.int .i64 XX.f1)) (ds := []) 44 (by kernel_rfl) rfl ⟨q0, q1, p0, p1⟩ (fun hHeld => ?_)
             have HB10 := Lib.hid (below_drew1 HK.out.2.2.2)
             generalize wr.drew = wd at hHeld HR10 HK2 HB10 ⊢
             refine wT mvT23 (fun hT => ?_)
             clear q0 q1 p0 p1 HR9 HK
             by_cases hm : mlt XX Y
             ·have go9 : XX.f1 < Y.f1 ∨ (¬ XX.f1 < Y.f1 ∧ (XX.f1 == Y.f1) = true ∧ XX.f0 < Y.f0) := by
               unfold mlt at hm
               by_cases h : XX.f1 < Y.f1
               ·exact .inl h
               ·exact .inr ⟨h, beq_iff_eq.2 (by omega), by omega⟩
              have HMT := Lib.hid hm
              clear hm
              rcases go9 with g1 | ⟨g1, g2, g3⟩
              all_goals
               repeat (first | refine qP 44 hT ?_ | refine qT 44 hT hHeld ?_)
               refine done_ (by kernel_rfl) ?_
               clear hHeld
               go_wp2
               obtain ⟨⟨q0, q1, q2, p0, p1, p2⟩, ⟨f0, f1, f2⟩, W1, hW1, ⟨u0, u1, u2, v0, v1, v2⟩, ⟨f3, f4, f5⟩, hR2, hB2⟩ := mv_swap (Kd.R_drew HR10.out) HZ.out.2.1 HZ.out.2.2.1
               refine stepS (S := fun w' => w'.cell? ⟨g, Z.toNat * 3, none⟩ = some (.int .i64 Y.f0) ∧ w'.cell? ⟨g, Z.toNat * 3 + 1, none⟩ = some (.int .i64 Y.f1) ∧ w'.cell? ⟨g, Z.toNat * 3 + 2, none⟩ = some (.int .i64 Y.f2) ∧ w'.cell? ⟨g, J.toNat * 3, none⟩ = some (.int .i64 XX.f0) ∧ w'.cell? ⟨g, J.toNat * 3 + 1, none⟩ = some (.int .i64 XX.f1) ∧ w'.cell? ⟨g, J.toNat * 3 + 2, none⟩ = some (.int .i64 XX.f2)) (ds := [15, 17]) 18 (by kernel_rfl) rfl ⟨q0, q1, q2, p0, p1, p2⟩ (fun hHeld => ?_)
               have HN := Lib.hid (And.intro hR2 (hB2 _ (below_drew1 HB10.out)))
               have HW1 := Lib.hid hW1
               generalize wd.drew = we at q0 q1 q2 p0 p1 p2 f0 f1 f2 HW1 hHeld ⊢
               clear hR2 hB2 hW1
               repeat (first | refine rP 18 ?_ | refine rT 18 hHeld ?_)
               refine sS 15 ?_
               clear hHeld q0 q1 q2 p0 p1 p2 f0 f1 f2
               rw [← HW1.out]
               refine rP 18 ?_
               refine sS 17 ?_
               refine done_ (by kernel_rfl) ?_
               clear u0 u1 u2 v0 v1 v2 f3 f4 f5
               go_wp2
               go_roundg (Z.toNat + 1)
               case measure => have := HZ.out.1; omega
               case rel => exact ⟨Z, a', Y :: b, by first | rfl | go_num, by have := HZ.out.1; have := HZ.out.2.2.2.2; omega, rfl, by have := HZ.out.1; omega, Lib.hid ⟨by have := HK2.out.1; rwa [List.append_assoc] at this, fun y hy => (List.mem_cons.1 hy).elim (fun e => e ▸ HMT.out) (HK2.out.2.1 y), HN.out.1, HN.out.2⟩⟩
             ·have go9 : ¬ XX.f1 < Y.f1 ∧ ((XX.f1 == Y.f1) = false ∨ ((XX.f1 == Y.f1) = true ∧ ¬ XX.f0 < Y.f0)) := by
               unfold mlt at hm
               refine ⟨by omega, ?_⟩
               by_cases h : XX.f1 = Y.f1
               ·exact .inr ⟨beq_iff_eq.2 h, by omega⟩
               ·exact .inl (beq_eq_false_iff_ne.2 h)
              have HMT := Lib.hid hm
              clear hm
              obtain ⟨g1, (g2 | ⟨g2, g3⟩)⟩ := go9
              all_goals
               repeat (first | refine qP 44 hT ?_ | refine qT 44 hT hHeld ?_)
               refine done_ (by kernel_rfl) ?_
               clear hHeld
               go_wp2
               have hm9 : (a' ++ [Y]).length + (b.length + 1) = n1 := by have := HZ.out.2.2.2.1; simp; omega
               have hmm : ((a' ++ [Y]) ++ XX :: b).length = n1 := by rw [List.length_append, List.length_cons]; exact hm9
               have HMM := Lib.hid hmm
               clear hm9 hmm
               go_roundg (l.length - j)
               case measure => omega
               case rel => exact ⟨j + 1, (a' ++ [Y]) ++ XX :: b, some ⟨g, 0, none⟩, c1, by omega, by rw [HMM.out], by go_num, by omega, Lib.hid ⟨by rw [HMM.out, List.append_assoc]; exact HR10.out, HB10.out, MgI.ins (by rw [HK2.out.1]; exact HM9.out.1) hlt HNH.out (by rw [HXX.out, HTE.out, HX.out]) (by rw [← HX.out, ← HTE.out]; exact HF.out) (by rw [← HX.out, ← HTE.out]; exact HC9.out) HK2.out.2.1 (fun a2 y e => by
                obtain ⟨_, e2⟩ := List.append_inj' e rfl
                injection e2 with e2
                rw [← e2]
                exact HMT.out), by rw [HMM.out]; have := HN1.out; omega⟩⟩
  ·have e : i = l.length := by omega
   subst e
   go_wp2
   go_ret2
   exact ⟨HL.out.2.1, .inr ⟨m, Ao, co, rfl, HL.out.1, HL.out.2.2.1, HL.out.2.2.2⟩⟩
end Go.Proofs.Ytcgdloldkcmhnaa.H
end
section
namespace Go.Proofs.Ytcgdloldkcmhnaa.H
open Go Go.RowKit Go.Proofs.Ytcgdloldkcmhnaa.PrintC Go.Proofs.YtcgdloldkcmhnaaW.PrintWords Go.Proofs.YtcgdloldkcmhnaaW.PrintLast Go.Proofs.YtcgdloldkcmhnaaW.PrintMore Go.Proofs.Ytcgdloldkcmhnaa.Flow
set_option linter.unusedVariables false
def stAt (B : List Stp) (j : Nat) : Stp := B.getD j ⟨0, false⟩
structure Sg (l : List Arc) (L : List Stp) (M : Nat) (s : Int) (N : List Int) (B : List Stp) : Prop where
 len : B.length = N.length
 pos : 0 < N.length
 hd : rd N 0 = s
 nd : N.Nodup
 rng : ∀ v, v ∈ N → 0 ≤ v ∧ v < M
 tree : ∃ d : Int → Int, d s = 0 ∧ ∀ j : Nat, 0 < j → j < N.length → stAt B j ∈ L ∧ tgt l (stAt B j) = rd N (j : Int) ∧ ∃ i : Nat, i < j ∧ src l (stAt B j) = rd N (i : Int) ∧ d (rd N (j : Int)) = d (rd N (i : Int)) + 1
theorem rd_get {N : List Int} {j : Nat} (h : j < N.length) : rd N (j : Int) = N[j] := by
 unfold rd
 rw [Int.toNat_natCast, List.getD_eq_getElem?_getD, List.getElem?_eq_getElem h]
 rfl
theorem mem_rd {N : List Int} {v : Int} (h : v ∈ N) : ∃ j : Nat, j < N.length ∧ rd N (j : Int) = v := by
 obtain ⟨j, hj, e⟩ := List.mem_iff_getElem.1 h
 exact ⟨j, hj, by rw [rd_get hj, e]⟩
theorem rd_app {N M : List Int} {j : Nat} (h : j < N.length) : rd (N ++ M) (j : Int) = rd N (j : Int) := by
 rw [rd_get h, rd_get (by rw [List.length_append]; omega), List.getElem_append_left h]
theorem rd_last (N : List Int) (v : Int) : rd (N ++ [v]) (N.length : Int) = v := by
 rw [rd_get (by rw [List.length_append]; exact Nat.lt_succ_self _), List.getElem_append_right (Nat.le_refl _)]
 simp
theorem stAt_app {B C : List Stp} {j : Nat} (h : j < B.length) : stAt (B ++ C) j = stAt B j := by
 unfold stAt
 rw [List.getD_eq_getElem?_getD, List.getD_eq_getElem?_getD, List.getElem?_append_left h]
theorem stAt_last (B : List Stp) (x : Stp) : stAt (B ++ [x]) B.length = x := by
 unfold stAt
 simp
theorem nodup_int {M : Nat} {N : List Int} (h : N.Nodup) (hr : ∀ v, v ∈ N → 0 ≤ v ∧ v < M) : N.length ≤ M := by
 have h1 : (N.map Int.toNat).Nodup := by
  refine List.pairwise_map.2 (List.Pairwise.imp_of_mem (R := fun a b => a ≠ b) (fun {a b} ha hb hab e => hab ?_) h)
  have := hr a ha
  have := hr b hb
  omega
 have h2 := Flow.nodup_le h1 (n := M) (fun a ha => by
  obtain ⟨v, hv, rfl⟩ := List.mem_map.1 ha
  have := hr v hv
  omega)
 rwa [List.length_map] at h2
section
variable {l : List Arc} {L : List Stp} {M : Nat} {s : Int} {N : List Int} {B : List Stp}
theorem Sg.le (h : Sg l L M s N B) : N.length ≤ M := nodup_int h.nd h.rng
theorem Sg.start (h0 : 0 ≤ s) (h1 : s < M) (x : Stp) : Sg l L M s [s] [x] where
 len := rfl
 pos := Nat.one_pos
 hd := rfl
 nd := by simp
 rng := fun v hv => by
  obtain rfl := List.mem_singleton.1 hv
  exact ⟨h0, h1⟩
 tree := ⟨fun _ => 0, rfl, fun j h2 h3 => by
  have : j < 1 := h3
  omega⟩
theorem Sg.snoc (h : Sg l L M s N B) {x : Stp} (hx : x ∈ L) {i : Nat} (hi : i < N.length) (hs : src l x = rd N (i : Int)) (ht : ∀ j : Nat, j < N.length → rd N (j : Int) ≠ tgt l x) (hr : 0 ≤ tgt l x ∧ tgt l x < M) : Sg l L M s (N ++ [tgt l x]) (B ++ [x]) where
 len := by rw [List.length_append, List.length_append, h.len]; rfl
 pos := by rw [List.length_append]; exact Nat.lt_of_lt_of_le h.pos (Nat.le_add_right _ _)
 hd := (rd_app (j := 0) h.pos).trans h.hd
 nd := by
  refine List.nodup_append.2 ⟨h.nd, by simp, fun a ha b hb e => ?_⟩
  obtain ⟨j, hj, e2⟩ := mem_rd ha
  obtain rfl := List.mem_singleton.1 hb
  exact ht j hj (e2.trans e)
 rng := fun v hv => by
  rcases List.mem_append.1 hv with hv | hv
  ·exact h.rng v hv
  ·obtain rfl := List.mem_singleton.1 hv
   exact hr
 tree := by
  obtain ⟨d, d0, hd⟩ := h.tree
  have hst : s ≠ tgt l x := fun e => ht 0 h.pos (h.hd.trans e)
  obtain ⟨D, hD⟩ : ∃ D : Int → Int, ∀ v, D v = if v = tgt l x then d (rd N (i : Int)) + 1 else d v := ⟨_, fun _ => rfl⟩
  refine ⟨D, by rw [hD, if_neg hst]; exact d0, fun j h0 h1 => ?_⟩
  rw [List.length_append] at h1
  by_cases hj : j < N.length
  ·obtain ⟨h2, h3, i', h4, h5, h6⟩ := hd j h0 hj
   rw [stAt_app (by rw [h.len]; exact hj), rd_app hj]
   refine ⟨h2, h3, i', h4, by rw [rd_app (by omega)]; exact h5, ?_⟩
   rw [rd_app (by omega), hD, hD, if_neg (ht j hj), if_neg (ht i' (by omega))]
   exact h6
  ·have e : j = N.length := by
    have : j < N.length + 1 := h1
    omega
   subst e
   rw [← h.len, stAt_last, h.len, rd_last]
   exact ⟨hx, rfl, i, hi, by rw [rd_app hi]; exact hs, by rw [rd_app hi, hD, hD, if_pos rfl, if_neg (ht i hi)]⟩
end
def Cl (l : List Arc) (L : List Stp) (N : List Int) (i k : Nat) : Prop := (∀ a : Nat, a < i → ∀ x, x ∈ L → src l x = rd N (a : Int) → tgt l x ∈ N) ∧ ∀ b : Nat, b < k → src l (stAt L b) = rd N (i : Int) → tgt l (stAt L b) ∈ N
section
variable {l : List Arc} {L : List Stp} {N : List Int} {i k : Nat}
theorem Cl.zero : Cl l L N 0 0 := ⟨fun a h => absurd h (Nat.not_lt_zero _), fun b h => absurd h (Nat.not_lt_zero _)⟩
theorem Cl.next (h : Cl l L N i L.length) : Cl l L N (i + 1) 0 := ⟨fun a ha x hx e => by
 rcases Nat.lt_or_eq_of_le (Nat.le_of_lt_succ ha) with h1 | rfl
 ·exact h.1 a h1 x hx e
 ·obtain ⟨b, hb, e2⟩ := List.mem_iff_getElem.1 hx
  have e3 : stAt L b = x := by
   unfold stAt
   rw [List.getD_eq_getElem?_getD, List.getElem?_eq_getElem hb, e2]
   rfl
  have := h.2 b hb
  rw [e3] at this
  exact this e, fun b h => absurd h (Nat.not_lt_zero _)⟩
theorem Cl.skip (h : Cl l L N i k) (hc : src l (stAt L k) = rd N (i : Int) → tgt l (stAt L k) ∈ N) : Cl l L N i (k + 1) := ⟨h.1, fun b hb e => by
 rcases Nat.lt_or_eq_of_le (Nat.le_of_lt_succ hb) with h1 | rfl
 ·exact h.2 b h1 e
 ·exact hc e⟩
theorem Cl.grow (h : Cl l L N i k) (hi : i < N.length) (t : Int) : Cl l L (N ++ [t]) i k := ⟨fun a ha x hx e => by
 rw [rd_app (by omega)] at e
 exact List.mem_append_left _ (h.1 a ha x hx e), fun b hb e => by
 rw [rd_app hi] at e
 exact List.mem_append_left _ (h.2 b hb e)⟩
end
structure SoI (w : World) (gx : Nat) (cn : Array Value) (N : List Int) (B : List Stp) (v1 v2 : Value) (W : World) : Prop where
 bx : W.heap[gx]? = some (.cells #[v1, v2] 154 (0, 0))
 r1 : Kd.R (Kd.int .i64) 3 W w.heap.size (fun _ => True) v1 N
 r2 : Kd.R kStep 158 W w.heap.size (fun _ => True) v2 B
 bn : W.heap[w.heap.size]? = some (.cells cn 32 (0, 0))
 br : W.heap[w.heap.size + 1]? = some (.cells #[.slice none 0 0, .slice none 0 0] 154 (0, 0))
 ge : w.heap.size + 1 < gx
 low : Below w.heap.size w W
section
variable {w W W1 : World} {gx : Nat} {cn : Array Value} {N : List Int} {B : List Stp} {v1 v2 : Value}
theorem SoI.below (h : SoI w gx cn N B v1 v2 W) (hb : Below W.heap.size W W1) : SoI w gx cn N B v1 v2 W1 := ⟨blk_below h.bx hb, Kd.R_below h.r1 hb, Kd.R_below h.r2 hb, blk_below h.bn hb, blk_below h.br hb, h.ge, below_step h.low hb⟩
theorem SoI.drew (h : SoI w gx cn N B v1 v2 W) : SoI w gx cn N B v1 v2 W.drew := ⟨blk_drew h.bx, Kd.R_drew h.r1, Kd.R_drew h.r2, blk_drew h.bn, blk_drew h.br, h.ge, below_drew1 h.low⟩
end
end Go.Proofs.Ytcgdloldkcmhnaa.H
end
section
namespace Go.Proofs.Ytcgdloldkcmhnaa.H
open Go Go.RowKit Go.Proofs.Ytcgdloldkcmhnaa.PrintC Go.Proofs.YtcgdloldkcmhnaaW.PrintWords Go.Proofs.YtcgdloldkcmhnaaW.PrintLast Go.Proofs.YtcgdloldkcmhnaaW.PrintMore Go.Proofs.Ytcgdloldkcmhnaa.Flow
set_option linter.unusedVariables false
set_option linter.unusedSimpArgs false
def StP (l : List Arc) (f : List Int) (i : Nat) (L : List Stp) : Prop := (∀ x : Stp, x ∈ L ↔ (0 ≤ x.f0 ∧ x.f0 < (i : Int)) ∧ 0 < rmv l f x) ∧ L.length ≤ 2 * i
theorem StP.zero {l : List Arc} {f : List Int} : StP l f 0 [] := ⟨fun x => ⟨fun h => (nomatch h), fun h => absurd h.1 (fun h2 => by have := h2.1; have := h2.2; omega)⟩, Nat.zero_le _⟩
theorem StP.next {l : List Arc} {f : List Int} {i : Nat} {L : List Stp} (h : StP l f i L) {a b : List Stp} (ha : a = if 0 < rmv l f ⟨i, false⟩ then [⟨i, false⟩] else []) (hb : b = if 0 < rmv l f ⟨i, true⟩ then [⟨i, true⟩] else []) : StP l f (i + 1) (L ++ a ++ b) := by
 refine ⟨fun x => ?_, ?_⟩
 ·have hma : x ∈ a ↔ x = ⟨i, false⟩ ∧ 0 < rmv l f ⟨i, false⟩ := by
   rw [ha]
   split <;> simp_all
  have hmb : x ∈ b ↔ x = ⟨i, true⟩ ∧ 0 < rmv l f ⟨i, true⟩ := by
   rw [hb]
   split <;> simp_all
  rw [List.mem_append, List.mem_append, h.1 x, hma, hmb]
  obtain ⟨y, d⟩ := x
  constructor
  ·rintro ((⟨h1, h2⟩ | ⟨h1, h2⟩) | ⟨h1, h2⟩)
   ·exact ⟨⟨h1.1, by have := h1.2; show y < ((i + 1 : Nat) : Int); have : y < (i : Int) := this; omega⟩, h2⟩
   ·injection h1 with e1 e2
    subst e1 e2
    exact ⟨⟨by show (0 : Int) ≤ (i : Int); omega, by show (i : Int) < ((i + 1 : Nat) : Int); omega⟩, h2⟩
   ·injection h1 with e1 e2
    subst e1 e2
    exact ⟨⟨by show (0 : Int) ≤ (i : Int); omega, by show (i : Int) < ((i + 1 : Nat) : Int); omega⟩, h2⟩
  ·rintro ⟨⟨h1, h2⟩, h3⟩
   have h1 : 0 ≤ y := h1
   have h2 : y < ((i + 1 : Nat) : Int) := h2
   by_cases e : y = (i : Int)
   ·subst e
    cases d
    ·exact .inl (.inr ⟨rfl, h3⟩)
    ·exact .inr ⟨rfl, h3⟩
   ·exact .inl (.inl ⟨⟨h1, by show y < (i : Int); omega⟩, h3⟩)
 ·have la : a.length ≤ 1 := by rw [ha]; split <;> simp
  have lb : b.length ≤ 1 := by rw [hb]; split <;> simp
  rw [List.length_append, List.length_append]
  have := h.2
  omega
end Go.Proofs.Ytcgdloldkcmhnaa.H
end
section
namespace Go.Proofs.Ytcgdloldkcmhnaa.H
open Go Go.RowKit Go.Proofs.Ytcgdloldkcmhnaa.PrintC Go.Proofs.YtcgdloldkcmhnaaW.PrintWords Go.Proofs.YtcgdloldkcmhnaaW.PrintLast Go.Proofs.YtcgdloldkcmhnaaW.PrintMore Go.Proofs.Ytcgdloldkcmhnaa.Flow
set_option linter.unusedVariables false
set_option linter.unusedSimpArgs false
structure WaI (w : World) (gf : Nat) (cn : Array Value) (N : List Int) (B : List Stp) (A1 : Option Addr) (c1 : Nat) (A2 : Option Addr) (c2 : Nat) (W : World) : Prop where
 bn : W.heap[w.heap.size]? = some (.cells cn 32 (0, 0))
 bf : W.heap[gf]? = some (.cells #[.slice A1 N.length c1, .slice A2 B.length c2] 154 (0, 0))
 r1 : Kd.R (Kd.int .i64) 3 W w.heap.size (fun k => k < gf) (.slice A1 N.length c1) N
 r2 : Kd.R kStep 158 W w.heap.size (fun k => k < gf) (.slice A2 B.length c2) B
 ge : w.heap.size < gf
 low : Below w.heap.size w W
 lt : gf < W.heap.size
section
variable {w W W1 : World} {gf : Nat} {cn : Array Value} {N : List Int} {B : List Stp} {A1 : Option Addr} {c1 : Nat} {A2 : Option Addr} {c2 : Nat}
theorem WaI.below (h : WaI w gf cn N B A1 c1 A2 c2 W) (hb : Below W.heap.size W W1) : WaI w gf cn N B A1 c1 A2 c2 W1 := ⟨blk_below h.bn hb, blk_below h.bf hb, Kd.R_below h.r1 hb, Kd.R_below h.r2 hb, h.ge, below_step h.low hb, Nat.lt_of_lt_of_le h.lt hb.size⟩
theorem WaI.start {w1 w2 : World} (hx : w1.heap[w.heap.size]? = some (.cells cn 32 (0, 0))) (hb1 : Below w.heap.size w w1) (hr1 : Kd.R (Kd.int .i64) 3 w2 w1.heap.size (fun _ => True) (.slice A1 N.length c1) N) (hr2 : Kd.R kStep 158 w2 w1.heap.size (fun _ => True) (.slice A2 B.length c2) B) (hb : Below w1.heap.size w1 w2) :
  WaI w w2.heap.size cn N B A1 c1 A2 c2 (w2.alloc (.cells #[.slice A1 N.length c1, .slice A2 B.length c2] 154)) where
 bn := blk_alloc (blk_below hx hb) _
 bf := heap_alloc_new _ _
 r1 := Kd.R_alloc (Kd.R_lower (Kd.R_mono (Kd.R_bound hr1) (fun k hk => hk.2.2.1)) hb1.size) _
 r2 := Kd.R_alloc (Kd.R_lower (Kd.R_mono (Kd.R_bound hr2) (fun k hk => hk.2.2.1)) hb1.size) _
 ge := Nat.lt_of_lt_of_le (blk_lt hx) hb.size
 low := below_alloc (below_step hb1 hb) _
 lt := by rw [alloc_size]; omega
theorem WaI.drew (h : WaI w gf cn N B A1 c1 A2 c2 W) : WaI w gf cn N B A1 c1 A2 c2 W.drew := ⟨blk_drew h.bn, blk_drew h.bf, Kd.R_drew h.r1, Kd.R_drew h.r2, h.ge, below_drew1 h.low, h.lt⟩
theorem WaI.grown (h : WaI w gf cn N B A1 c1 A2 c2 W) {row : Option Nat} (hg : W.grownBy W1 row) (hr : ∀ k, row = some k → gf < k) (hb : Below w.heap.size w W1) : WaI w gf cn N B A1 c1 A2 c2 W1 :=
 ⟨blk_grown h.bn hg (fun e => by have := hr _ e.symm; have := h.ge; omega), blk_grown h.bf hg (fun e => by have := hr _ e.symm; omega), Kd.R_grown h.r1 hg (fun k hk e => by have := hr _ e.symm; omega), Kd.R_grown h.r2 hg (fun k hk e => by have := hr _ e.symm; omega), h.ge, hb, Nat.lt_of_lt_of_le h.lt hg.size⟩
theorem WaI.set (h : WaI w gf cn N B A1 c1 A2 c2 W) {p : Addr} (hp : gf < p.block) (v : Value) : WaI w gf cn N B A1 c1 A2 c2 (W.setCell p v) :=
 ⟨blk_far h.bn (by have := h.ge; omega) v, blk_far h.bf (by omega) v, Kd.R_far h.r1 (fun k hk => by omega) v, Kd.R_far h.r2 (fun k hk => by omega) v, h.ge, h.low.setCell (by have := h.ge; omega) v, by rw [show (W.setCell p v).heap.size = W.heap.size from by simp]; exact h.lt⟩
end
end Go.Proofs.Ytcgdloldkcmhnaa.H
end
section
namespace Go.Proofs.Ytcgdloldkcmhnaa.H
open Go Go.RowKit Go.Proofs.Ytcgdloldkcmhnaa.PrintC Go.Proofs.YtcgdloldkcmhnaaW.PrintWords Go.Proofs.YtcgdloldkcmhnaaW.PrintLast Go.Proofs.YtcgdloldkcmhnaaW.PrintMore Go.Proofs.Ytcgdloldkcmhnaa.Flow
attribute [local go_sem] min2_int
set_option linter.unusedVariables false
set_option linter.unusedSimpArgs false
end Go.Proofs.Ytcgdloldkcmhnaa.H
end
section
namespace Go.Proofs.Ytcgdloldkcmhnaa.H
open Go Go.RowKit Go.Proofs.Ytcgdloldkcmhnaa.PrintC Go.Proofs.Ytcgdloldkcmhnaa.PrintE Go.Proofs.YtcgdloldkcmhnaaW.PrintWords Go.Proofs.YtcgdloldkcmhnaaW.PrintLast Go.Proofs.YtcgdloldkcmhnaaW.PrintMore Go.Proofs.Ytcgdloldkcmhnaa.Flow
set_option linter.unusedVariables false
set_option linter.unusedSimpArgs false
abbrev OkAt (w : World) (e : Ending) (w' : World) : Prop := e = .returned (.int .i64 0) ∧ Below w.heap.size w w'
theorem rspan_walk (h : Nat) (w : World) (hh : h ≤ 1024) : Calls Try.prog 66 #[.int .i64 h] w (OkAt w) := by
 have d1 : ¬ (h : Int) < 0 := by omega
 have d2 : (h : Int) ≤ 1024 := by omega
 go_enter Try.func66, Try.ntmps66
 go_wp2
 go_ret
 exact ⟨rfl, Below.refl _ _⟩
set_option maxRecDepth 100000 in
set_option maxHeartbeats 4000000 in
theorem rarc_walk (n : Int) (x : Arc) (w : World) (h : (0 ≤ x.f0 ∧ x.f0 < n) ∧ (0 ≤ x.f1 ∧ x.f1 < n) ∧ (0 ≤ x.f2 ∧ x.f2 ≤ 1048576) ∧ 0 ≤ x.f3 ∧ x.f3 ≤ 1048576) :
  Calls Try.prog 86 #[.int .i64 n, .agg #[.int .i64 x.f0, .int .i64 x.f1, .int .i64 x.f2, .int .i64 x.f3]] w (OkAt w) := by
 have d1 : decide (x.f0 < 0) = false := decide_eq_false (by omega)
 have d2 : decide (n ≤ x.f0) = false := decide_eq_false (by omega)
 have d3 : decide (x.f1 < 0) = false := decide_eq_false (by omega)
 have d4 : decide (n ≤ x.f1) = false := decide_eq_false (by omega)
 have d5 : decide (x.f2 < 0) = false := decide_eq_false (by omega)
 have d6 : decide (x.f3 < 0) = false := decide_eq_false (by omega)
 have d7 : decide (1048576 < x.f2) = false := decide_eq_false (by omega)
 have d8 : decide (1048576 < x.f3) = false := decide_eq_false (by omega)
 clear h
 have hu2 := Try.underlying79
 go_enter Try.func86, Try.ntmps86
 go_wp2
 go_ret
 exact ⟨rfl, below_alloc (Below.refl _ _) _⟩
set_option maxRecDepth 100000 in
set_option maxHeartbeats 4000000 in
theorem rcheck_walk (n : Nat) (b : Bool) (A : Option Addr) (c : Nat) (l : List Arc) (w : World) (hg : NetGood n l) (hr : Kd.C kArc w A l.length l) :
  Calls Try.prog 64 #[.agg #[.int .i64 n, .bool b, .slice A l.length c]] w (OkAt w) := by
 have hu := Try.underlying32
 have hu2 := Try.underlying79
 have HR := Lib.hid hr
 have HG := Lib.hid hg.arc
 have d1 : ¬ (n : Int) < 1 := by have := hg.n0; omega
 have d2 : ¬ 50 < (n : Int) := by have := hg.n1; omega
 have d3 : ¬ 200 < (l.length : Int) := by have := hg.ll; omega
 have hll := hg.ll
 clear hg hr
 go_enter Try.func64, Try.ntmps64
 obtain ⟨w1, hw1⟩ : ∃ w1, w1 = w.alloc (.cells #[.int .i64 n, .bool b, .slice A l.length c] 32) := ⟨_, rfl⟩
 have HX : Hid (w1.heap[w.heap.size]? = some (.cells #[.int .i64 n, .bool b, .slice A l.length c] 32 (0, 0)) ∧ Below w.heap.size w w1) := Lib.hid (by rw [hw1]; exact ⟨heap_alloc_new _ _, below_alloc (Below.refl _ _) _⟩)
 go_wp2
 rw [← hw1]
 clear hw1
 go_loopg [4] (l.length + 1) (fun k iv W => ∃ i : Nat, i ≤ l.length ∧ iv = .int .i64 i ∧ k = l.length + 1 - i ∧ Hid (W.heap[w.heap.size]? = some (.cells #[.int .i64 n, .bool b, .slice A l.length c] 32 (0, 0)) ∧ Below w.heap.size w W))
 case atStart => exact ⟨0, Nat.zero_le _, rfl, rfl, HX⟩
 case round =>
  obtain ⟨i, hi, rfl, rfl, HL⟩ := hrel
  clear HX
  have q2 : wr.cell? ⟨w.heap.size, 2, none⟩ = some (.slice A l.length c) := (blk_cell HL.out.1 2).trans rfl
  by_cases d4 : i < l.length
  ·have i0 : (0 : Int) ≤ (i : Int) := by omega
   have i1 : (i : Int) < (l.length : Int) := by omega
   have HXG := Lib.hid (HG.out i d4)
   go_wp2
   clear q2
   obtain ⟨ad, ea, y0, y1, y2, y3⟩ := at_T79 (Kd.C_drew (Kd.C_below HR.out HL.out.2)) (i : Int) i0 i1
   subst ea
   rw [Int.toNat_natCast] at y0 y1 y2 y3
   obtain ⟨x, hx⟩ : ∃ x, x = arcAt l i := ⟨_, rfl⟩
   have hx2 : rd_T79 l (i : Int) = x := by rw [hx]; rfl
   rw [hx2] at y0 y1 y2 y3
   rw [← hx] at HXG
   clear hx hx2
   have x0 : wr.drew.cell? ⟨w.heap.size, 0, none⟩ = some (.int .i64 n) := (blk_cell (blk_drew HL.out.1) 0).trans rfl
   have x2 : wr.drew.cell? ⟨w.heap.size, 2, none⟩ = some (.slice (some ad) l.length c) := (blk_cell (blk_drew HL.out.1) 2).trans rfl
   have HX1 := Lib.hid (And.intro (blk_drew HL.out.1) (below_drew1 HL.out.2))
   refine stepS (S := fun w' => w'.cell? ⟨w.heap.size, 0, none⟩ = some (.int .i64 n) ∧ w'.cell? ⟨w.heap.size, 2, none⟩ = some (.slice (some ad) l.length c) ∧ w'.cell? (ad.add (i * 4)) = some (.int .i64 x.f0) ∧ w'.cell? ⟨(ad.add (i * 4)).block, (ad.add (i * 4)).off + 1, none⟩ = some (.int .i64 x.f1) ∧ w'.cell? ⟨(ad.add (i * 4)).block, (ad.add (i * 4)).off + 2, none⟩ = some (.int .i64 x.f2) ∧ w'.cell? ⟨(ad.add (i * 4)).block, (ad.add (i * 4)).off + 3, none⟩ = some (.int .i64 x.f3)) (ds := [7]) 9 (by kernel_rfl) rfl ⟨x0, x2, y0, y1, y2, y3⟩ (fun hHeld => ?_)
   generalize wr.drew = wd at HX1 hHeld x0 x2 y0 y1 y2 y3 ⊢
   repeat (first | refine rP 9 ?_ | refine rT 9 hHeld ?_)
   refine stepL 9 (N := some 30) rfl rfl (by kernel_rfl) (by decide) (fun K hK => ?_)
   refine goes_ Try.func86 (by kernel_rfl) rfl #[.int .i64 n, .agg #[.int .i64 x.f0, .int .i64 x.f1, .int .i64 x.f2, .int .i64 x.f3]] (by rfl) rfl rfl (by (try simp only [List.map_toArray, List.map_cons, List.map_nil]); rfl) ?_
   refine (rarc_walk n x _ HXG.out).mono ?_
   rintro e w5 ⟨rfl, hb⟩
   refine ⟨_, rfl, ?_⟩
   have HX2 := Lib.hid (And.intro (blk_below HX1.out.1 hb) (below_step HX1.out.2 hb))
   refine hK.out _ _ ?_
   clear hK K hHeld hb HX1 x0 x2 y0 y1 y2 y3
   refine sN ?_
   refine rP 9 ?_
   refine done_ (by kernel_rfl) ?_
   go_wp2
   go_roundg (l.length - i)
   case measure => omega
   case rel => exact ⟨i + 1, by omega, by go_num, by omega, HX2⟩
  ·have d5 : ¬ (i : Int) < (l.length : Int) := by omega
   go_wp2
   go_ret
   exact ⟨rfl, HL.out.2⟩
set_option maxRecDepth 100000 in
theorem rnode_walk (n : Int) (b : Bool) (vl : Value) (v : Int) (w : World) (h : 0 ≤ v ∧ v < n) :
  Calls Try.prog 102 #[.agg #[.int .i64 n, .bool b, vl], .int .i64 v] w fun e w' => e = .returned (.bool true) ∧ Below w.heap.size w w' := by
 have hu := Try.underlying32
 have d1 : decide (0 ≤ v) = true := decide_eq_true h.1
 have d2 : decide (v < n) = true := decide_eq_true h.2
 clear h
 go_enter Try.func102, Try.ntmps102
 go_wp2
 go_ret
 exact ⟨rfl, below_alloc (Below.refl _ _) _⟩
set_option maxRecDepth 100000 in
set_option maxHeartbeats 4000000 in
theorem rgroup_walk (n : Int) (b : Bool) (vl : Value) (A : Option Addr) (c : Nat) (L : List Grp) (m : Nat) (hm : L.length = m) (g : Grp) (w : World) (hr : Kd.C kGrp w A L.length L) (hl : m ≤ 1000000) (h1 : 0 ≤ g.f0 ∧ g.f0 < n) (h2 : 0 ≤ g.f1 ∧ g.f1 ≤ 1048576) (h3 : gOf g.f0 L < 0) :
  Calls Try.prog 87 #[.agg #[.int .i64 n, .bool b, vl], .slice A m c, .agg #[.int .i64 g.f0, .int .i64 g.f1]] w (OkAt w) := by
 have hu := Try.underlying32
 have hu3 := Try.underlying44
 have HR := Lib.hid hr
 obtain ⟨y, hy⟩ : ∃ y, y = gOf g.f0 L := ⟨_, rfl⟩
 rw [← hy] at h3
 have HY := Lib.hid hy
 have d1 : decide (0 ≤ g.f0) = true := decide_eq_true h1.1
 have d2 : decide (g.f0 < n) = true := decide_eq_true h1.2
 have d3 : decide (g.f1 < 0) = false := decide_eq_false (by omega)
 have d4 : decide (0 ≤ y) = false := decide_eq_false (by omega)
 have d5 : ¬ 1048576 < g.f1 := by omega
 have HM := Lib.hid hm
 clear hr hy h1 h2 hm
 go_enter Try.func87, Try.ntmps87
 obtain ⟨w1, hw1⟩ : ∃ w1, w1 = (w.alloc (.cells #[.int .i64 n, .bool b, vl] 32)).alloc (.cells #[.int .i64 g.f0, .int .i64 g.f1] 44) := ⟨_, rfl⟩
 have HB0 : Hid (Below w.heap.size w w1) := Lib.hid (by rw [hw1]; exact below_alloc (below_alloc (Below.refl _ _) _) _)
 have v0 : w1.cell? ⟨w.heap.size + 1, 0, none⟩ = some (.int .i64 g.f0) := by rw [hw1]; exact (blk_cell (alloc_at (by rw [alloc_size])) 0).trans rfl
 have v1 : w1.cell? ⟨w.heap.size + 1, 1, none⟩ = some (.int .i64 g.f1) := by rw [hw1]; exact (blk_cell (alloc_at (by rw [alloc_size])) 1).trans rfl
 go_wp2_with (first
  |(go_at_call 102; rw [← hw1]; go_loud ((with_reducible refine (rnode_walk n b vl _ _ ?s1).mono ?_); (case s1 => exact ⟨of_decide_eq_true d1, of_decide_eq_true d2⟩); rintro e w2 ⟨rfl, hb⟩; have HB1 := Lib.hid (below_step HB0.out hb); have u0 := pw_cell_below hb v0; have u1 := pw_cell_below hb v1; clear hb))
  |(go_at_call 27; go_loud ((with_reducible refine (rof_walk m A c L _ _ ?s1 ?s2 ?s3).mono ?_); (case s1 => exact HM.out); (case s2 => exact Kd.C_below HR.out HB1.out); (case s3 => exact hl); rintro e w3 ⟨rfl, hb⟩; rw [← HY.out]; have HB2 := Lib.hid (below_step HB1.out hb); have t1 := pw_cell_below hb u1; clear hb)))
 go_ret
 exact ⟨rfl, HB2.out⟩
theorem infoGp : (Try.prog.info? 44).map (fun i => (i.zero, i.size, i.bytes)) = some (some (.agg #[.int .i64 0, .int .i64 0]), 2, 16) := by kernel_rfl
theorem take_sn {l : List Grp} {i : Nat} (h : i < l.length) : l.take (i + 1) = l.take i ++ [rd_T44 l (i : Int)] := by
 have e : rd_T44 l (i : Int) = l[i] := by
  unfold rd_T44
  rw [Int.toNat_natCast, List.getD_eq_getElem?_getD, List.getElem?_eq_getElem h]
  rfl
 rw [List.take_add_one, List.getElem?_eq_getElem h, e]
 rfl
theorem snoc_tk {l : List Grp} {g : Grp} {i m : Nat} (hm : l.length = m) (h : i < m) : (l.take i ++ [g]).length = i + 1 := by
 rw [List.length_append, List.length_take, List.length_singleton]
 omega
theorem gOf_none (v : Int) : ∀ {l : List Grp}, (∀ g, g ∈ l → g.f0 ≠ v) → gOf v l < 0
 | [], _ => by unfold gOf; decide
 | g :: l, h => by
  unfold gOf
  rw [if_neg (h g (List.mem_cons_self ..))]
  exact gOf_none v (fun x hx => h x (List.mem_cons_of_mem _ hx))
theorem grp_ahead {n : Int} {p q : List Grp} (h : GroupsOk n p q) {i : Nat} (hi : i < (p ++ q).length) : ((0 ≤ (rd_T44 (p ++ q) (i : Int)).f0 ∧ (rd_T44 (p ++ q) (i : Int)).f0 < n) ∧ 0 ≤ (rd_T44 (p ++ q) (i : Int)).f1 ∧ (rd_T44 (p ++ q) (i : Int)).f1 ≤ 1048576) ∧ gOf (rd_T44 (p ++ q) (i : Int)).f0 ((p ++ q).take i) < 0 := by
 have e : rd_T44 (p ++ q) (i : Int) = (p ++ q)[i] := by
  unfold rd_T44
  rw [Int.toNat_natCast, List.getD_eq_getElem?_getD, List.getElem?_eq_getElem hi]
  rfl
 rw [e]
 have hm := List.getElem_mem hi
 refine ⟨(List.mem_append.1 hm).elim (h.gp _) (h.gq _), gOf_none _ (fun g hg e2 => ?_)⟩
 have hnd : ((p ++ q).map fun g => g.f0).Nodup := by
  rw [List.map_append, List.nodup_append]
  refine ⟨h.dp, h.dq, fun a ha c hc => ?_⟩
  obtain ⟨x, hx, rfl⟩ := List.mem_map.1 ha
  obtain ⟨y, hy, rfl⟩ := List.mem_map.1 hc
  exact h.apart y hy x hx
 obtain ⟨j, hj, rfl⟩ := List.getElem_of_mem hg
 rw [List.length_take] at hj
 rw [List.getElem_take] at e2
 have h1 : ((p ++ q).map fun g => g.f0)[j]'(by rw [List.length_map]; omega) = ((p ++ q).map fun g => g.f0)[i]'(by rw [List.length_map]; omega) := by rw [List.getElem_map, List.getElem_map, e2]
 have h2 := (List.getElem_inj hnd).1 h1
 omega
set_option maxRecDepth 100000 in
set_option maxHeartbeats 4000000 in
theorem rgroups_walk (n : Int) (b : Bool) (vl : Value) (Ap : Option Addr) (cp : Nat) (p : List Grp) (Aq : Option Addr) (cq : Nat) (q : List Grp) (w : World) (h : GroupsOk n p q) (hp : Kd.C kGrp w Ap p.length p) (hq : Kd.C kGrp w Aq q.length q) (lp : p.length ≤ 1000) (lq : q.length ≤ 1000) :
  Calls Try.prog 65 #[.agg #[.int .i64 n, .bool b, vl], .slice Ap p.length cp, .slice Aq q.length cq] w (OkAt w) := by
 have hu := Try.underlying32
 have hu3 := Try.underlying44
 have HP := Lib.hid hp
 have HQ := Lib.hid hq
 have HG := Lib.hid h
 have p1 : p.length ≠ 0 := fun e => h.p0 (List.length_eq_zero_iff.1 e)
 have q1 : q.length ≠ 0 := fun e => h.q0 (List.length_eq_zero_iff.1 e)
 have p0 : ((p.length : Int) == 0) = false := by rw [beq_eq_false_iff_ne]; omega
 have q0 : ((q.length : Int) == 0) = false := by rw [beq_eq_false_iff_ne]; omega
 clear hp hq h p1 q1
 go_enter Try.func65, Try.ntmps65
 obtain ⟨w1, hw1⟩ : ∃ w1, w1 = w.alloc (.cells #[.int .i64 n, .bool b, vl] 32) := ⟨_, rfl⟩
 have HX : Hid (w1.heap[w.heap.size]? = some (.cells #[.int .i64 n, .bool b, vl] 32 (0, 0)) ∧ Below w.heap.size w w1) := Lib.hid (by rw [hw1]; exact ⟨heap_alloc_new _ _, below_alloc (Below.refl _ _) _⟩)
 go_wp2_with (first
  |((with_reducible refine gate_builtin (b := .append) (xs := #[.tmp 19, .tmp 20]) rfl ?_); (try (refine gate_guard (by rfl) ?_; dsimp only)); at_builtin; rw [← hw1]; go_loud (refine Kd.R_append_rows kGrp (w0 := w) w.heap.size rfl (.tmp 19) (.tmp 20) 33 44 (.agg #[.int .i64 0, .int .i64 0]) 16 rfl Try.underlying33 infoGp rfl (by decide) (by decide) (.slice none 0 0) ([] : List Grp) p _ _ _ (fun _ => True) (fun _ => False) rfl rfl ?aO ?aR (fun _ _ h => h) (fun _ h => h.elim) ?aF ?aB ?aS ?aL ?_); (case aR => exact Kd.C_below HP.out HX.out.2); (case aB => exact HX.out.2); (case aF => exact fun _ _ => trivial); (case aO => exact Kd.R_nil _ _ _ _ _); (case aS => exact (HX.out.2).size); (case aL => show (0 + p.length) * 16 ≤ 140737488355328; omega); go_loud ((intro v1 w2 ho hb hg hat; rw [List.nil_append] at ho; have HX2 := Lib.hid (And.intro (blk_grown HX.out.1 hg (Kd.R_ne (Kd.R_nil kGrp 44 _ w.heap.size (fun _ => True)) HX.out.1 (by decide))) (And.intro hb ho)); obtain ⟨A1, c1, rfl⟩ := Kd.R_slice ho; clear ho hb hg hat)))
  |((with_reducible refine gate_builtin (b := .append) (xs := #[.tmp 22, .tmp 23]) rfl ?_); (try (refine gate_guard (by rfl) ?_; dsimp only)); at_builtin; go_loud (refine Kd.R_append_rows kGrp (w0 := w) w.heap.size rfl (.tmp 22) (.tmp 23) 33 44 (.agg #[.int .i64 0, .int .i64 0]) 16 rfl Try.underlying33 infoGp rfl (by decide) (by decide) (.slice A1 p.length c1) (p) q _ _ _ (fun _ => True) (fun _ => False) rfl rfl ?aO ?aR (fun _ _ h => h) (fun _ h => h.elim) ?aF ?aB ?aS ?aL ?_); (case aR => exact Kd.C_below HQ.out HX2.out.2.1); (case aB => exact HX2.out.2.1); (case aF => exact fun _ _ => trivial); (case aO => exact HX2.out.2.2); (case aS => exact (HX2.out.2.1).size); (case aL => show (p.length + q.length) * 16 ≤ 140737488355328; omega); go_loud ((intro v1 w3 ho hb hg hat; have HX3 := Lib.hid (And.intro (blk_grown HX2.out.1 hg (Kd.R_ne HX2.out.2.2 HX2.out.1 (by decide))) (And.intro hb ho)); obtain ⟨A2, c2, rfl⟩ := Kd.R_slice ho; clear ho hb hg hat))))
 obtain ⟨L, hL⟩ : ∃ L, L = p ++ q := ⟨_, rfl⟩
 obtain ⟨m, hm⟩ : ∃ m : Nat, m = p.length + q.length := ⟨_, rfl⟩
 have hLm : L.length = m := by rw [hL, hm, List.length_append]
 have HGA : Hid (∀ i : Nat, i < L.length → ((0 ≤ (rd_T44 L (i : Int)).f0 ∧ (rd_T44 L (i : Int)).f0 < n) ∧ 0 ≤ (rd_T44 L (i : Int)).f1 ∧ (rd_T44 L (i : Int)).f1 ≤ 1048576) ∧ gOf (rd_T44 L (i : Int)).f0 (L.take i) < 0) := Lib.hid (by rw [hL]; exact fun i hi => grp_ahead HG.out hi)
 have HX4 : Hid (w3.heap[w.heap.size]? = some (.cells #[.int .i64 n, .bool b, vl] 32 (0, 0)) ∧ Below w.heap.size w w3 ∧ Kd.C kGrp w3 A2 L.length L) := Lib.hid ⟨HX3.out.1, HX3.out.2.1, by rw [hL]; exact (Kd.R_reads' HX3.out.2.2).2.2⟩
 have hmb : m ≤ 2000 := by omega
 have HLM := Lib.hid hLm
 rw [← hm]
 clear hL hm hLm HX HX2 HX3 HG HP HQ hw1 p0 q0 lp lq w1 w2
 go_loopg [7, 9] (m + 1) (fun k ov iv W => ∃ (i : Nat) (A3 : Option Addr) (c3 : Nat), i ≤ m ∧ ov = .slice A3 i c3 ∧ iv = .int .i64 i ∧ k = m + 1 - i ∧ Hid (Kd.R kGrp 44 W w3.heap.size (fun _ => True) (.slice A3 i c3) (L.take i) ∧ Below w3.heap.size w3 W))
 case atStart => exact ⟨0, none, 0, Nat.zero_le _, rfl, rfl, rfl, Lib.hid ⟨Kd.R_nil _ _ _ _ _, Below.refl _ _⟩⟩
 case round =>
  obtain ⟨i, A3, c3, hi, rfl, rfl, rfl, HL⟩ := hrel
  by_cases d4 : i < m
  ·have i0 : (0 : Int) ≤ (i : Int) := by omega
   have i1 : (i : Int) < (m : Int) := by omega
   have HXG := Lib.hid (HGA.out i (by rw [HLM.out]; exact d4))
   have HTK := Lib.hid (take_sn (l := L) (i := i) (by rw [HLM.out]; exact d4))
   go_wp2
   obtain ⟨ad, ea, y0, y1⟩ := at_T44 (Kd.C_drew (Kd.C_below HX4.out.2.2 HL.out.2)) (i : Int) i0 (by rw [HLM.out]; exact i1)
   obtain ⟨g, hg⟩ : ∃ g, g = rd_T44 L (i : Int) := ⟨_, rfl⟩
   have ZF : Hid (∀ W, Below w3.heap.size w3 W → W.cell? (ad.add (i * 2)) = some (.int .i64 g.f0) ∧ W.cell? ⟨(ad.add (i * 2)).block, (ad.add (i * 2)).off + 1, none⟩ = some (.int .i64 g.f1)) := Lib.hid (fun W hW => by
    obtain ⟨ad2, ea2, z0, z1⟩ := at_T44 (Kd.C_below HX4.out.2.2 hW) (i : Int) i0 (by rw [HLM.out]; exact i1)
    rw [ea] at ea2
    injection ea2 with ea2
    subst ea2
    rw [Int.toNat_natCast, ← hg] at z0 z1
    exact ⟨z0, z1⟩)
   subst ea
   rw [Int.toNat_natCast] at y0 y1
   rw [← hg] at y0 y1 HXG HTK
   clear hg
   have hbx := blk_drew (blk_below HX4.out.1 HL.out.2)
   have x0 : wr.drew.cell? ⟨w.heap.size, 0, none⟩ = some (.int .i64 n) := (blk_cell hbx 0).trans rfl
   have x1 : wr.drew.cell? ⟨w.heap.size, 1, none⟩ = some (.bool b) := (blk_cell hbx 1).trans rfl
   have x2 : wr.drew.cell? ⟨w.heap.size, 2, none⟩ = some vl := (blk_cell hbx 2).trans rfl
   have HX1 := Lib.hid (And.intro (Kd.R_drew HL.out.1) (below_drew1 HL.out.2))
   clear hbx
   refine stepS (S := fun w' => w'.cell? ⟨w.heap.size, 0, none⟩ = some (.int .i64 n) ∧ w'.cell? ⟨w.heap.size, 1, none⟩ = some (.bool b) ∧ w'.cell? ⟨w.heap.size, 2, none⟩ = some vl ∧ w'.cell? (ad.add (i * 2)) = some (.int .i64 g.f0) ∧ w'.cell? ⟨(ad.add (i * 2)).block, (ad.add (i * 2)).off + 1, none⟩ = some (.int .i64 g.f1)) (ds := [6]) 8 (by kernel_rfl) rfl ⟨x0, x1, x2, y0, y1⟩ (fun hHeld => ?_)
   generalize wr.drew = wd at HX1 hHeld x0 x1 x2 y0 y1 ⊢
   repeat (first | refine rP 8 ?_ | refine rT 8 hHeld ?_)
   refine stepL 8 (N := some 37) rfl rfl (by kernel_rfl) (by decide) (fun K hK => ?_)
   refine goes_ Try.func87 (by kernel_rfl) rfl #[.agg #[.int .i64 n, .bool b, vl], .slice A3 i c3, .agg #[.int .i64 g.f0, .int .i64 g.f1]] (by rfl) rfl rfl (by (try simp only [List.map_toArray, List.map_cons, List.map_nil]); rfl) ?_
   have hti : (L.take i).length = i := by rw [List.length_take, HLM.out]; omega
   have hrc := (Kd.R_reads' (show Kd.R kGrp 44 wd w3.heap.size (fun _ => True) (.slice A3 (L.take i).length c3) (L.take i) by rw [hti]; exact HX1.out.1)).2.2
   refine (rgroup_walk n b vl A3 c3 (L.take i) i hti g _ hrc (by omega) HXG.out.1.1 HXG.out.1.2 HXG.out.2).mono ?_
   rintro e w5 ⟨rfl, hb⟩
   refine ⟨_, rfl, ?_⟩
   have HX5 := Lib.hid (And.intro (Kd.R_below HX1.out.1 hb) (below_step HX1.out.2 hb))
   have z0 := (ZF.out _ HX5.out.2).1
   have z1 := (ZF.out _ HX5.out.2).2
   refine hK.out _ _ ?_
   clear hK K hHeld hb HX1 x0 x1 x2 y0 y1 hrc hti
   refine sN ?_
   refine rP 8 ?_
   refine done_ (by kernel_rfl) ?_
   go_wp2_with ((with_reducible refine gate_dst (N := 47) rfl ?_); go_loud (refine Kd.R_append kGrp (w0 := w3) w3.heap.size rfl (.tmp 41) (.tmp 46) 33 44 (.agg #[.int .i64 0, .int .i64 0]) 16 rfl Try.underlying33 infoGp rfl (by decide) (by decide) (.slice A3 i c3) (L.take i) g [.int .i64 g.f0, .int .i64 g.f1] (fun _ => True) (fun _ => False) rfl ?aX ?aP (fun _ hk => hk.elim) ?aF ?aO ?aB ?aS ?aL ?_); (case aX => first | rfl | (simp; done) | (simp; rfl)); (case aP => exact k44_mkM _ _ _ g); (case aF => exact fun _ _ => trivial); (case aO => exact HX5.out.1); (case aB => exact HX5.out.2); (case aS => exact HX5.out.2.size); (case aL => rw [List.length_take]; omega); go_loud ((intro v1 w9 ho hb hg hat; obtain ⟨A9, c9, e9⟩ := Kd.R_slice ho; rw [snoc_tk (l := L) (i := i) HLM.out d4] at e9; subst e9; have HX9 := Lib.hid (And.intro ho hb); clear ho hb hg hat)))
   go_roundg (m - i)
   case measure => omega
   case rel => exact ⟨i + 1, A9, c9, by omega, rfl, by go_num, by omega, Lib.hid ⟨by rw [HTK.out]; exact HX9.out.1, HX9.out.2⟩⟩
  ·have d5 : ¬ (i : Int) < (m : Int) := by omega
   go_wp2
   go_ret
   exact ⟨rfl, below_step HX4.out.2.1 HL.out.2⟩
set_option maxRecDepth 100000 in
set_option maxHeartbeats 4000000 in
theorem rfits_walk (n h : Nat) (b : Bool) (A : Option Addr) (c : Nat) (l : List Arc) (w : World) (hg : NetGood n l) (hr : Kd.C kArc w A l.length l) (hh : h ≤ 1024) (h1 : (h + 1) * n ≤ 4000) (h2 : (h + 1) * l.length ≤ 10000) :
  Calls Try.prog 67 #[.agg #[.int .i64 n, .bool b, .slice A l.length c], .int .i64 h] w fun e w' => e = .returned (.bool true) ∧ Below w.heap.size w w' := by
 have hu := Try.underlying32
 have HR := Lib.hid hr
 have HG := Lib.hid hg
 have hll := hg.ll
 have hn1 := hg.n1
 obtain ⟨x, hx⟩ : ∃ x : Nat, x = (h + 1) * n := ⟨_, rfl⟩
 obtain ⟨y, hy⟩ : ∃ y : Nat, y = (h + 1) * l.length := ⟨_, rfl⟩
 rw [← hx] at h1
 rw [← hy] at h2
 have e0 : IntKind.i64.wrap ((h : Int) + 1) = (h : Int) + 1 := IntWalk.i64_in _ (by omega)
 have e1 : IntKind.i64.wrap (((h : Int) + 1) * (n : Int)) = (x : Int) := by
  have h8 : ((h : Int) + 1) * (n : Int) = (x : Int) := by rw [hx, Int.natCast_mul]; rfl
  rw [h8]
  exact IntWalk.i64_in _ (by omega)
 have e2 : IntKind.i64.wrap (((h : Int) + 1) * (l.length : Int)) = (y : Int) := by
  have h8 : ((h : Int) + 1) * (l.length : Int) = (y : Int) := by rw [hy, Int.natCast_mul]; rfl
  rw [h8]
  exact IntWalk.i64_in _ (by omega)
 have d1 : decide ((x : Int) ≤ 4000) = true := decide_eq_true (by omega)
 have d2 : decide ((y : Int) ≤ 10000) = true := decide_eq_true (by omega)
 clear hr hg hx hy h1 h2
 go_enter Try.func67, Try.ntmps67
 obtain ⟨w1, hw1⟩ : ∃ w1, w1 = w.alloc (.cells #[.int .i64 n, .bool b, .slice A l.length c] 32) := ⟨_, rfl⟩
 have HX : Hid (w1.heap[w.heap.size]? = some (.cells #[.int .i64 n, .bool b, .slice A l.length c] 32 (0, 0)) ∧ Below w.heap.size w w1) := Lib.hid (by rw [hw1]; exact ⟨heap_alloc_new _ _, below_alloc (Below.refl _ _) _⟩)
 go_wp2_with (first
  |(go_at_call 64; rw [← hw1]; go_loud ((with_reducible refine (rcheck_walk n b A c l _ ?s1 ?s2).mono ?_); (case s1 => exact HG.out); (case s2 => exact Kd.C_below HR.out HX.out.2); rintro e w2 ⟨rfl, hb⟩; have HX2 := Lib.hid (And.intro (blk_below HX.out.1 hb) (below_step HX.out.2 hb)); clear hb))
  |(go_at_call 66; go_loud ((with_reducible refine (rspan_walk h _ ?s1).mono ?_); (case s1 => exact hh); rintro e w3 ⟨rfl, hb⟩; have HX3 := Lib.hid (And.intro (blk_below HX2.out.1 hb) (below_step HX2.out.2 hb)); have x0 : w3.cell? ⟨w.heap.size, 0, none⟩ = some (.int .i64 n) := (blk_cell HX3.out.1 0).trans rfl; have x2 : w3.cell? ⟨w.heap.size, 2, none⟩ = some (.slice A l.length c) := (blk_cell HX3.out.1 2).trans rfl; clear hb)))
 go_ret
 exact ⟨rfl, HX3.out.2⟩
set_option maxRecDepth 100000 in
set_option maxHeartbeats 4000000 in
theorem rasked_walk (n h : Nat) (b : Bool) (A : Option Addr) (c : Nat) (l : List Arc) (Ap : Option Addr) (cp : Nat) (p : List Grp) (Aq : Option Addr) (cq : Nat) (q : List Grp) (w : World) (a : AskOk n h l p q) (hr : Kd.C kArc w A l.length l) (hp : Kd.C kGrp w Ap p.length p) (hq : Kd.C kGrp w Aq q.length q) :
  Calls Try.prog 33 #[.agg #[.int .i64 n, .bool b, .slice A l.length c], .slice Ap p.length cp, .slice Aq q.length cq, .int .i64 h] w (OkAt w) := by
 have hu := Try.underlying32
 have HA := Lib.hid a
 have HR := Lib.hid hr
 have HP := Lib.hid hp
 have HQ := Lib.hid hq
 clear a hr hp hq
 go_enter Try.func33, Try.ntmps33
 obtain ⟨w1, hw1⟩ : ∃ w1, w1 = w.alloc (.cells #[.int .i64 n, .bool b, .slice A l.length c] 32) := ⟨_, rfl⟩
 have HX : Hid (w1.heap[w.heap.size]? = some (.cells #[.int .i64 n, .bool b, .slice A l.length c] 32 (0, 0)) ∧ Below w.heap.size w w1) := Lib.hid (by rw [hw1]; exact ⟨heap_alloc_new _ _, below_alloc (Below.refl _ _) _⟩)
 go_wp2_with (first
  |(go_at_call 64; rw [← hw1]; go_loud ((with_reducible refine (rcheck_walk n b A c l _ ?s1 ?s2).mono ?_); (case s1 => exact HA.out.net); (case s2 => exact Kd.C_below HR.out HX.out.2); rintro e w2 ⟨rfl, hb⟩; have HX2 := Lib.hid (And.intro (blk_below HX.out.1 hb) (below_step HX.out.2 hb)); have x0 : w2.cell? ⟨w.heap.size, 0, none⟩ = some (.int .i64 n) := (blk_cell HX2.out.1 0).trans rfl; have x1 : w2.cell? ⟨w.heap.size, 1, none⟩ = some (.bool b) := (blk_cell HX2.out.1 1).trans rfl; have x2 : w2.cell? ⟨w.heap.size, 2, none⟩ = some (.slice A l.length c) := (blk_cell HX2.out.1 2).trans rfl; clear hb))
  |(go_at_call 65; go_loud ((with_reducible refine (rgroups_walk n b (.slice A l.length c) Ap cp p Aq cq q _ ?s1 ?s2 ?s3 ?s4 ?s5).mono ?_); (case s1 => exact HA.out.grp); (case s2 => exact Kd.C_below HP.out HX2.out.2); (case s3 => exact Kd.C_below HQ.out HX2.out.2); (case s4 => exact HA.out.place.lp); (case s5 => exact HA.out.place.lq); rintro e w3 ⟨rfl, hb⟩; have HX3 := Lib.hid (And.intro (blk_below HX2.out.1 hb) (below_step HX2.out.2 hb)); clear hb))
  |(go_at_call 66; go_loud ((with_reducible refine (rspan_walk h _ ?s1).mono ?_); (case s1 => exact HA.out.hh); rintro e w4 ⟨rfl, hb⟩; have HX4 := Lib.hid (And.intro (blk_below HX3.out.1 hb) (below_step HX3.out.2 hb)); have z0 : w4.cell? ⟨w.heap.size, 0, none⟩ = some (.int .i64 n) := (blk_cell HX4.out.1 0).trans rfl; have z1 : w4.cell? ⟨w.heap.size, 1, none⟩ = some (.bool b) := (blk_cell HX4.out.1 1).trans rfl; have z2 : w4.cell? ⟨w.heap.size, 2, none⟩ = some (.slice A l.length c) := (blk_cell HX4.out.1 2).trans rfl; clear hb))
  |(go_at_call 67; go_loud ((with_reducible refine (rfits_walk n h b A c l _ ?s1 ?s2 ?s3 ?s4 ?s5).mono ?_); (case s1 => exact HA.out.net); (case s2 => exact Kd.C_below HR.out HX4.out.2); (case s3 => exact HA.out.hh); (case s4 => exact HA.out.hn); (case s5 => exact HA.out.hl); rintro e w5 ⟨rfl, hb⟩; have HX5 := Lib.hid (below_step HX4.out.2 hb); clear hb)))
 go_ret
 exact ⟨rfl, HX5.out⟩
end Go.Proofs.Ytcgdloldkcmhnaa.H
end
section
namespace Go.Proofs.Ytcgdloldkcmhnaa.H
open Go Go.RowKit Go.Proofs.Ytcgdloldkcmhnaa.PrintC Go.Proofs.Ytcgdloldkcmhnaa.PrintE Go.Proofs.YtcgdloldkcmhnaaW.PrintWords Go.Proofs.YtcgdloldkcmhnaaW.PrintLast Go.Proofs.YtcgdloldkcmhnaaW.PrintMore Go.Proofs.Ytcgdloldkcmhnaa.Flow
set_option linter.unusedVariables false
set_option linter.unusedSimpArgs false
structure BdI (w : World) (xs : Array Value) (v : Value) (L : List Arc) (W : World) : Prop where
 bx : W.heap[w.heap.size]? = some (.cells xs 32 (0, 0))
 rx : W.heap[w.heap.size + 1]? = some (.cells #[.int .i64 0, .bool false, .slice none 0 0] 32 (0, 0))
 ar : Kd.R kArc 79 W w.heap.size (fun _ => True) v L
 low : Below w.heap.size w W
section
variable {w W W1 : World} {xs : Array Value} {v v2 : Value} {L L2 : List Arc}
theorem BdI.below (h : BdI w xs v L W) (hb : Below W.heap.size W W1) : BdI w xs v L W1 := ⟨blk_below h.bx hb, blk_below h.rx hb, Kd.R_below h.ar hb, below_step h.low hb⟩
theorem BdI.grow (h : BdI w xs v L W) (hg : W.grownBy W1 v.ownBlock) (ho : Kd.R kArc 79 W1 w.heap.size (fun _ => True) v2 L2) (hb : Below w.heap.size w W1) : BdI w xs v2 L2 W1 :=
 ⟨blk_grown h.bx hg (Kd.R_ne h.ar h.bx (by decide)), blk_grown h.rx hg (Kd.R_ne h.ar h.rx (by decide)), ho, hb⟩
end
theorem drop_take (p : List Grp) {i : Nat} (h : i < p.length) : p.take (i + 1) = p.take i ++ [rd_T44 p (i : Int)] := by
 have e : rd_T44 p (i : Int) = p[i] := by
  unfold rd_T44
  rw [Int.toNat_natCast, List.getD_eq_getElem?_getD, List.getElem?_eq_getElem h]
  rfl
 rw [List.take_add_one, List.getElem?_eq_getElem h, e]
 rfl
end Go.Proofs.Ytcgdloldkcmhnaa.H
end
section
namespace Go.Proofs.Ytcgdloldkcmhnaa.H
open Go Go.RowKit Go.Proofs.Ytcgdloldkcmhnaa.PrintC Go.Proofs.Ytcgdloldkcmhnaa.PrintE Go.Proofs.YtcgdloldkcmhnaaW.PrintWords Go.Proofs.YtcgdloldkcmhnaaW.PrintLast Go.Proofs.YtcgdloldkcmhnaaW.PrintMore Go.Proofs.Ytcgdloldkcmhnaa.Flow
set_option linter.unusedVariables false
set_option linter.unusedSimpArgs false
theorem appSlot : AppK Try.prog kSlot 51 88 (fun x => [.int .i64 x.f0, .int .i64 x.f1]) := ⟨Try.underlying51, ⟨_, 16, infoSlot, rfl, by decide, by decide⟩, by decide, k88_mkM⟩
end Go.Proofs.Ytcgdloldkcmhnaa.H
end
section
namespace Go.Proofs.Ytcgdloldkcmhnaa.H
open Go Go.RowKit Go.Proofs.Ytcgdloldkcmhnaa.PrintC Go.Proofs.Ytcgdloldkcmhnaa.PrintE Go.Proofs.YtcgdloldkcmhnaaW.PrintWords Go.Proofs.YtcgdloldkcmhnaaW.PrintLast Go.Proofs.YtcgdloldkcmhnaaW.PrintMore Go.Proofs.Ytcgdloldkcmhnaa.Flow
set_option linter.unusedVariables false
set_option linter.unusedSimpArgs false
abbrev SetAs (W : World) (b c : Nat) (D : DataW Unit) : Prop := W.ownsMap Try.prog 88 unitElem b c D
def hasS (D : DataW Unit) (v z : Int) : Bool := Maps.has D (slotKey v z)
def putS (D : DataW Unit) (s : Slot) : DataW Unit := D.put (slotKey s.f0 s.f1) (.agg [])
def setD (X : List Slot) : DataW Unit := X.foldl putS (.map [])
def hasL (X : List Slot) (v z : Int) : Bool := X.any fun s => decide (s.f0 = v ∧ s.f1 = z)
abbrev Wf (x : Int) : Prop := (Lit.int .i64 x).wf = true
theorem slotKey_inj {a b c d : Int} (ha : Wf a) (hb : Wf b) (hc : Wf c) (hd : Wf d) (e : slotKey a b = slotKey c d) : a = c ∧ b = d := by
 have h1 := slotKeyOf a b ha hb
 rw [e] at h1
 have h2 := slotLaw.inj h1 (slotKeyOf c d hc hd)
 injection h2 with h2
 injection h2 with h2
 injection h2 with h3 h4
 injection h3 with _ h3
 injection h4 with h4 _
 injection h4 with _ h4
 exact ⟨h3, h4⟩
theorem hasS_put {D : DataW Unit} (hD : Maps.IsMap D) (s : Slot) {v z : Int} (h0 : Wf s.f0) (h1 : Wf s.f1) (hv : Wf v) (hz : Wf z) : hasS (putS D s) v z = (decide (s.f0 = v ∧ s.f1 = z) || hasS D v z) := by
 unfold hasS putS
 by_cases e : s.f0 = v ∧ s.f1 = z
 ·rw [e.1, e.2, Maps.has_put_same hD (slotLaw.key (slotKeyOf v z hv hz))]
  simp
 ·rw [Maps.has_put_other (fun e2 => e ((slotKey_inj h0 h1 hv hz e2.symm)))]
  simp [e]
theorem isMap_putS {D : DataW Unit} (hD : Maps.IsMap D) (s : Slot) : Maps.IsMap (putS D s) := by
 obtain ⟨es, rfl⟩ := hD
 exact ⟨_, rfl⟩
def SlotsWf (X : List Slot) : Prop := ∀ s, s ∈ X → Wf s.f0 ∧ Wf s.f1
theorem hasS_setD {X : List Slot} (hX : SlotsWf X) {v z : Int} (hv : Wf v) (hz : Wf z) : hasS (setD X) v z = hasL X v z := by
 have h : ∀ (X : List Slot) (D : DataW Unit), SlotsWf X → Maps.IsMap D → hasS (X.foldl putS D) v z = (hasS D v z || hasL X v z) := fun X => by
  induction X with
  | nil => intro D _ _; simp [hasL]
  | cons s X ih =>
   intro D hX h
   have hs := hX s (List.mem_cons_self ..)
   rw [List.foldl_cons, ih _ (fun y hy => hX y (List.mem_cons_of_mem _ hy)) (isMap_putS h s), hasS_put h s hs.1 hs.2 hv hz]
   unfold hasL
   rw [List.any_cons]
   cases decide (s.f0 = v ∧ s.f1 = z) <;> cases hasS D v z <;> simp
 unfold setD
 rw [h X _ hX ⟨_, rfl⟩]
 rfl
theorem infoUnit : (Try.prog.info? 139).map (fun i => (i.zero, i.size, i.bytes)) = some (some (.agg #[]), 0, 0) := by kernel_rfl
theorem unit_zero : ∀ w : World, (zeroValue 139).run Try.prog w = .ok (.agg #[]) w := by
 obtain ⟨i0, hi, hz0, -, -⟩ := info_parts infoUnit
 intro w
 simp [zeroValue, typeInfo, hi, hz0]
theorem look_set {W : World} {b c : Nat} {D : DataW Unit} (h : SetAs W b c D) {v z : Int} (hv : Wf v) (hz : Wf z) :
  (Instr.lookup 94 (.map (some b)) (.agg #[.int .i64 v, .int .i64 z]) true).run Try.prog W = .ok (.tuple #[.agg #[], .bool (hasS D v z)]) W := by
 obtain ⟨u, ps, hrun, hR⟩ := h.look_ok slotLaw Try.underlying94 (unit_zero W) unitElem_mk (slotKeyOf v z hv hz)
 obtain ⟨rfl, -⟩ := unitElem_inv hR
 exact hrun
theorem setAs_eq {W W1 : World} {b c : Nat} {D : DataW Unit} (h : SetAs W b c D) (e : W1.heap[b]? = W.heap[b]?) : SetAs W1 b c D := by
 obtain ⟨es, clock, hb, F, hs, hD⟩ := h
 exact ⟨es, clock, e.trans hb, F, hs, hD⟩
theorem setAs_below {W W1 : World} {b c : Nat} {D : DataW Unit} (h : SetAs W b c D) (hb : Below W.heap.size W W1) : SetAs W1 b c D := setAs_eq h (hb.block _ h.lt)
theorem min2_min (k k' : IntKind) (x y : Int) : Builtin.min2 (.int k x) (.int k' y) = pure (.int k (min x y)) := by
 rw [min2_int]
 have e : (if y < x then y else x) = min x y := by split <;> omega
 rw [e]
set_option maxHeartbeats 4000000 in
set_option maxRecDepth 100000 in
theorem has_walk (b c : Nat) (D : DataW Unit) (v z : Int) (R : Bool) (w : World) (h : SetAs w b c D) (hv : Wf v) (hz : Wf z) (hR : R = hasS D v z) :
  Calls Try.prog 50 #[.map (some b), .int .i64 v, .int .i64 z] w fun e w' => e = .returned (.bool R) ∧ Below w.heap.size w w' := by
 have hl := look_set h hv hz
 rw [← hR] at hl
 clear hR h
 go_enter Try.func50, Try.ntmps50
 go_wp2
 go_ret
 exact ⟨rfl, by repeat (first | exact Below.refl _ _ | apply below_alloc)⟩
theorem slot_take {X : List Slot} {i : Nat} (h : i < X.length) : X.take (i + 1) = X.take i ++ [rd_T88 X (i : Int)] := by
 have e : rd_T88 X (i : Int) = X[i] := by
  unfold rd_T88
  rw [Int.toNat_natCast, List.getD_eq_getElem?_getD, List.getElem?_eq_getElem h]
  rfl
 rw [List.take_add_one, List.getElem?_eq_getElem h, e]
 rfl
theorem setD_snoc (X : List Slot) (s : Slot) : setD (X ++ [s]) = putS (setD X) s := by
 unfold setD
 rw [List.foldl_append]
 rfl
def slotOk (n h : Int) (s : Slot) : Prop := 0 ≤ s.f0 ∧ 0 ≤ s.f1 ∧ s.f0 < n ∧ s.f1 ≤ h
attribute [local go_sem] min2_min min_two
def SetOfAt (n h : Int) (X : List Slot) (w : World) (e : Ending) (w' : World) : Prop := Below w.heap.size w w' ∧
 ((e = .returned (.tuple #[.map none, .bool false]) ∧ ∃ s, s ∈ X ∧ ¬ slotOk n h s) ∨ (∃ b : Nat, e = .returned (.tuple #[.map (some b), .bool true]) ∧ SetAs w' b X.length (setD X) ∧ ∀ s, s ∈ X → slotOk n h s))
set_option maxHeartbeats 4000000 in
set_option maxRecDepth 100000 in
theorem setof_walk (n h : Int) (A : Option Addr) (c : Nat) (X : List Slot) (w : World) (hr : Kd.C kSlot w A X.length X) (hl : X.length ≤ 1000000) (hn : n ≤ 1000000) (hh : h ≤ 1000000) :
  Calls Try.prog 45 #[.slice A X.length c, .int .i64 n, .int .i64 h] w (SetOfAt n h X w) := by
 have HR := Lib.hid hr
 have hu := Try.underlying88
 have hmm := @run_makeMap Try.prog
 clear hr
 go_enter Try.func45, Try.ntmps45
 go_wp2
 obtain ⟨w1, hw1⟩ : ∃ w1, w1 = w.alloc (.map #[] 0) := ⟨_, rfl⟩
 have HX : Hid (SetAs w1 w.heap.size 0 (setD []) ∧ Below w.heap.size w w1) := Lib.hid (by rw [hw1]; exact ⟨World.ownsMap_made _ _ _ _, below_alloc (Below.refl _ _) _⟩)
 rw [← hw1]
 clear hw1 hmm
 go_loopg [14] (X.length + 1) (fun k iv W => ∃ i : Nat, i ≤ X.length ∧ iv = .int .i64 i ∧ k = X.length + 1 - i ∧ Hid (SetAs W w.heap.size i (setD (X.take i)) ∧ Below w.heap.size w W ∧ ∀ s, s ∈ X.take i → slotOk n h s))
 case atStart => exact ⟨0, Nat.zero_le _, rfl, rfl, Lib.hid ⟨HX.out.1, HX.out.2, fun s hs => by simp at hs⟩⟩
 case round =>
  obtain ⟨i, hi, rfl, rfl, HL⟩ := hrel
  clear HX
  by_cases hlt : i < X.length
  ·have i0 : (0 : Int) ≤ (i : Int) := by omega
   have i1 : (i : Int) < (X.length : Int) := by omega
   obtain ⟨ad, ea, y0, y1⟩ := at_T88 (Kd.C_below HR.out HL.out.2.1) (i : Int) i0 i1
   subst ea
   rw [Int.toNat_natCast] at y0 y1
   have hst := slot_take hlt
   obtain ⟨s, hs⟩ : ∃ s, s = rd_T88 X (i : Int) := ⟨_, rfl⟩
   rw [← hs] at y0 y1 hst
   have HST := Lib.hid hst
   have HSM : Hid (s ∈ X) := Lib.hid (List.mem_of_mem_take (i := i + 1) (by rw [hst]; simp))
   clear hs hst
   obtain ⟨mn, hmn⟩ : ∃ mn, min s.f0 s.f1 = mn := ⟨_, rfl⟩
   have hc : (mn < 0 ∧ Hid (¬ slotOk n h s)) ∨ (¬ mn < 0 ∧ n ≤ s.f0 ∧ Hid (¬ slotOk n h s)) ∨ (¬ mn < 0 ∧ ¬ n ≤ s.f0 ∧ h < s.f1 ∧ Hid (¬ slotOk n h s)) ∨ (¬ mn < 0 ∧ ¬ n ≤ s.f0 ∧ ¬ h < s.f1 ∧ Hid (slotOk n h s)) := by
    unfold slotOk
    by_cases c1 : mn < 0
    ·exact .inl ⟨c1, Lib.hid (by omega)⟩
    ·by_cases c2 : n ≤ s.f0
     ·exact .inr (.inl ⟨c1, c2, Lib.hid (by omega)⟩)
     ·by_cases c3 : h < s.f1
      ·exact .inr (.inr (.inl ⟨c1, c2, c3, Lib.hid (by omega)⟩))
      ·exact .inr (.inr (.inr ⟨c1, c2, c3, Lib.hid (by omega)⟩))
   rcases hc with ⟨c1, HBD⟩ | ⟨c1, c2, HBD⟩ | ⟨c1, c2, c3, HBD⟩ | ⟨c1, c2, c3, HOK⟩
   iterate 3
    ·go_wp2
     go_ret2
     exact ⟨below_alloc HL.out.2.1 _, .inl ⟨rfl, s, HSM.out, HBD.out⟩⟩
   ·have HW : Hid (Wf s.f0 ∧ Wf s.f1) := Lib.hid (by
     have h9 := HOK.out
     unfold slotOk at h9
     exact ⟨Go.WalkArith.wf_i64 (by omega), Go.WalkArith.wf_i64 (by omega)⟩)
    go_wp2_with (at_mapUpdate; refine wpList_mapUpdate_own _ rfl _ _ _ 94 rfl 88 139 slotLaw Try.underlying94 _ w.heap.size i (setD (X.take i)) rfl (setAs_below HL.out.1 (by repeat (first | exact Below.refl _ _ | apply below_alloc))) (by unfold maxLen; omega) _ _ (slotKey s.f0 s.f1) rfl rfl (slotKeyOf s.f0 s.f1 HW.out.1 HW.out.2) _ [] unitElem_mk ?_; intro w2 ho hg; have HF := Lib.hid (And.intro ho (pw_below_grown (below_alloc HL.out.2.1 _) _ (below_alloc HL.out.2.1 _).size hg (fun k e => by injection e with e; omega))); clear ho hg)
    go_roundg (X.length - i)
    case measure => omega
    case rel => exact ⟨i + 1, by omega, by go_num, by omega, Lib.hid ⟨by rw [HST.out, setD_snoc]; exact HF.out.1, HF.out.2, fun s9 hs9 => by
     rw [HST.out, List.mem_append, List.mem_singleton] at hs9
     rcases hs9 with hs9 | rfl
     ·exact HL.out.2.2 s9 hs9
     ·exact HOK.out⟩⟩
  ·have e : i = X.length := by omega
   subst e
   have HF := HL.out
   rw [List.take_length] at HF
   have HF := Lib.hid HF
   go_wp2
   go_ret2
   exact ⟨HF.out.2.1, .inr ⟨_, rfl, HF.out.1, HF.out.2.2⟩⟩
end Go.Proofs.Ytcgdloldkcmhnaa.H
end
section
namespace Go.Proofs.Ytcgdloldkcmhnaa.H
open Go Go.RowKit Go.Proofs.Ytcgdloldkcmhnaa.PrintC Go.Proofs.Ytcgdloldkcmhnaa.PrintE Go.Proofs.YtcgdloldkcmhnaaW.PrintWords Go.Proofs.YtcgdloldkcmhnaaW.PrintLast Go.Proofs.YtcgdloldkcmhnaaW.PrintMore Go.Proofs.Ytcgdloldkcmhnaa.Flow
set_option linter.unusedVariables false
set_option linter.unusedSimpArgs false
theorem wf_in {x : Int} (h : -9223372036854775808 ≤ x ∧ x ≤ 9223372036854775807) : Wf x := WalkArith.wf_i64 h
def RisesAt (D : DataW Unit) (v : Int) (h : Nat) (w : World) (e : Ending) (w' : World) : Prop := Below w.heap.size w w' ∧ ((e = .returned (.bool true) ∧ ∀ z : Nat, z < h → hasS D v z = true → hasS D v ((z : Int) + 1) = true) ∨ (e = .returned (.bool false) ∧ ∃ z : Nat, z < h ∧ hasS D v z = true ∧ hasS D v ((z : Int) + 1) = false))
set_option maxHeartbeats 4000000 in
set_option maxRecDepth 100000 in
theorem rises_walk (b c : Nat) (D : DataW Unit) (v : Int) (h : Nat) (w : World) (hs : SetAs w b c D) (hv : Wf v) (hh : h ≤ 100000) :
  Calls Try.prog 47 #[.map (some b), .int .i64 v, .int .i64 h] w (RisesAt D v h w) := by
 have HS := Lib.hid hs
 have HV := Lib.hid hv
 clear hs hv
 go_enter Try.func47, Try.ntmps47
 go_wp2
 go_loopg [9] (h + 1) (fun k iv W => ∃ z : Nat, z ≤ h ∧ iv = .int .i64 z ∧ k = h + 1 - z ∧ Hid (Below w.heap.size w W ∧ ∀ z' : Nat, z' < z → hasS D v z' = true → hasS D v ((z' : Int) + 1) = true))
 case atStart => exact ⟨0, Nat.zero_le _, rfl, rfl, Lib.hid ⟨Below.refl _ _, fun z' hz => absurd hz (Nat.not_lt_zero _)⟩⟩
 case round =>
  obtain ⟨z, hz, rfl, rfl, HL⟩ := hrel
  by_cases hlt : z < h
  ·have hlt2 : (z : Int) < (h : Int) := by omega
   cases h1 : hasS D v z with
   | false =>
    have H1 := Lib.hid h1
    clear h1
    go_wp2_with (go_at_call 50; (with_reducible refine (has_walk b c D v z false _ ?s1 ?s2 ?s3 ?s4).mono ?_); (case s1 => exact setAs_below HS.out HL.out.1); (case s2 => exact HV.out); (case s3 => exact wf_in (by omega)); (case s4 => exact H1.out.symm); rintro e w2 ⟨rfl, hb⟩; have HB := Lib.hid (below_step HL.out.1 hb); clear hb)
    go_roundg (h - z)
    case measure => omega
    case rel => exact ⟨z + 1, by omega, by go_num, by omega, Lib.hid ⟨HB.out, fun z' hz' h9 => by
     rcases Nat.lt_or_eq_of_le (Nat.le_of_lt_succ hz') with g | rfl
     ·exact HL.out.2 z' g h9
     ·rw [H1.out] at h9
      cases h9⟩⟩
   | true =>
    cases h2 : hasS D v ((z : Int) + 1) with
    | true =>
     have H1 := Lib.hid (And.intro h1 h2)
     clear h1 h2
     go_wp2_with (first
      |(go_at_call 50; (with_reducible refine (has_walk b c D v z true _ ?s1 ?s2 ?s3 ?s4).mono ?_); (case s1 => exact setAs_below HS.out HL.out.1); (case s2 => exact HV.out); (case s3 => exact wf_in (by omega)); (case s4 => exact H1.out.1.symm); rintro e w2 ⟨rfl, hb⟩; have HB := Lib.hid (below_step HL.out.1 hb); clear hb)
      |(go_at_call 50; (with_reducible refine (has_walk b c D v ((z : Int) + 1) true _ ?s1 ?s2 ?s3 ?s4).mono ?_); (case s1 => exact setAs_below HS.out HB.out); (case s2 => exact HV.out); (case s3 => exact wf_in (by omega)); (case s4 => exact H1.out.2.symm); rintro e w3 ⟨rfl, hb⟩; have HB3 := Lib.hid (below_step HB.out hb); clear hb))
     go_roundg (h - z)
     case measure => omega
     case rel => exact ⟨z + 1, by omega, by go_num, by omega, Lib.hid ⟨HB3.out, fun z' hz' h9 => by
      rcases Nat.lt_or_eq_of_le (Nat.le_of_lt_succ hz') with g | rfl
      ·exact HL.out.2 z' g h9
      ·exact H1.out.2⟩⟩
    | false =>
     have H1 := Lib.hid (And.intro h1 h2)
     clear h1 h2
     go_wp2_with (first
      |(go_at_call 50; (with_reducible refine (has_walk b c D v z true _ ?s1 ?s2 ?s3 ?s4).mono ?_); (case s1 => exact setAs_below HS.out HL.out.1); (case s2 => exact HV.out); (case s3 => exact wf_in (by omega)); (case s4 => exact H1.out.1.symm); rintro e w2 ⟨rfl, hb⟩; have HB := Lib.hid (below_step HL.out.1 hb); clear hb)
      |(go_at_call 50; (with_reducible refine (has_walk b c D v ((z : Int) + 1) false _ ?s1 ?s2 ?s3 ?s4).mono ?_); (case s1 => exact setAs_below HS.out HB.out); (case s2 => exact HV.out); (case s3 => exact wf_in (by omega)); (case s4 => exact H1.out.2.symm); rintro e w3 ⟨rfl, hb⟩; have HB3 := Lib.hid (below_step HB.out hb); clear hb))
     go_ret
     exact ⟨HB3.out, .inr ⟨rfl, z, hlt, H1.out.1, H1.out.2⟩⟩
  ·have e : z = h := by omega
   subst e
   go_wp2
   go_ret
   exact ⟨HL.out.1, .inl ⟨rfl, HL.out.2⟩⟩
def tk1 (H : Int → Int → Bool) (x : Arc) (z : Nat) : Int := if H x.f0 z = true ∧ H x.f1 ((z : Int) + x.f3) = false then x.f2 else 0
def tkA (use : Arc → Bool) (H : Int → Int → Bool) (h : Nat) (x : Arc) : Int := if use x = true then sumN ((h : Int) + 1 - x.f3).toNat (tk1 H x) else 0
def takesV (use : Arc → Bool) (H : Int → Int → Bool) (h : Nat) (l : List Arc) : Int := sumN l.length (fun j => tkA use H h (arcAt l j))
def TakesAt (V : Int) (w : World) (e : Ending) (w' : World) : Prop := e = .returned (.int .i64 V) ∧ Below w.heap.size w w'
set_option maxHeartbeats 8000000 in
set_option maxRecDepth 100000 in
theorem takes_walk (n h : Nat) (bb : Bool) (A : Option Addr) (c : Nat) (l : List Arc) (gp : Nat) (use : Arc → Bool) (b cc : Nat) (D : DataW Unit) (w : World) (hn : NetIn n h l) (hc : ∀ i : Nat, i < l.length → 0 ≤ (arcAt l i).f2 ∧ (arcAt l i).f2 ≤ 1048576) (hh : h ≤ 1024) (hs : SetAs w b cc D) (hr : Kd.C kArc w A l.length l)
  (hU : ∀ x W, x ∈ l → Below w.heap.size w W → Calls Try.prog 49 #[.pointer (some ⟨gp, 0, none⟩), .agg #[.int .i64 x.f0, .int .i64 x.f1, .int .i64 x.f2, .int .i64 x.f3]] W fun e w' => e = .returned (.bool (use x)) ∧ Below W.heap.size W w') :
  Calls Try.prog 48 #[.map (some b), .agg #[.int .i64 n, .bool bb, .slice A l.length c], .int .i64 h, .func (.func 49) #[.pointer (some ⟨gp, 0, none⟩)] #[]] w (TakesAt (takesV use (hasS D) h l) w) := by
 have hu := Try.underlying32
 have hu3 := Try.underlying79
 have HN := Lib.hid hn
 have HCP := Lib.hid hc
 have HS := Lib.hid hs
 have HR := Lib.hid hr
 have HU := Lib.hid hU
 have hll := hn.ll
 have hn1 := hn.n1
 clear hn hc hs hr hU
 go_enter Try.func48, Try.ntmps48
 go_wp2
 obtain ⟨w1, hw1⟩ : ∃ w1, w1 = w.alloc (.cells #[.int .i64 n, .bool bb, .slice A l.length c] 32) := ⟨_, rfl⟩
 have HX : Hid (Below w.heap.size w w1) := Lib.hid (by rw [hw1]; exact below_alloc (Below.refl _ _) _)
 rw [← hw1]
 clear hw1
 go_loopg [9, 16] (l.length + 1) (fun k sv jv W => ∃ (j : Nat) (S : Int), j ≤ l.length ∧ sv = .int .i64 S ∧ jv = .int .i64 j ∧ k = l.length + 1 - j ∧ 0 ≤ S ∧ S ≤ (j : Int) * 1100000000 ∧ Hid (S = sumN j (fun j => tkA use (hasS D) h (arcAt l j)) ∧ Below w.heap.size w W))
 case atStart => exact ⟨0, 0, Nat.zero_le _, rfl, rfl, rfl, Int.le_refl _, by omega, Lib.hid ⟨rfl, HX.out⟩⟩
 case round =>
  obtain ⟨j, S, hj, rfl, rfl, rfl, s0, s1, HL⟩ := hrel
  clear HX
  by_cases hjl : j < l.length
  ·have j0 : (0 : Int) ≤ (j : Int) := by omega
   have j1 : (j : Int) < (l.length : Int) := by omega
   obtain ⟨ad, ea, y0, y1, y2, y3⟩ := at_T79 (Kd.C_below HR.out HL.out.2) (j : Int) j0 j1
   subst ea
   rw [Int.toNat_natCast] at y0 y1 y2 y3
   obtain ⟨x, hx⟩ : ∃ x, x = arcAt l j := ⟨_, rfl⟩
   have hx2 : rd_T79 l (j : Int) = x := by rw [hx]; rfl
   rw [hx2] at y0 y1 y2 y3
   have hen := HN.out.ends j hjl
   have hti := HN.out.time j hjl
   have hcp := HCP.out j hjl
   rw [← hx] at hen hti hcp
   have f0 := hen.1.1
   have f1 := hen.1.2
   have f2 := hen.2.1
   have f3 := hen.2.2
   have t0 := hti.1
   have t1 := hti.2
   have c0 := hcp.1
   have c1 := hcp.2
   have HXM : Hid (x ∈ l) := Lib.hid (by rw [hx]; exact mem_arcAt hjl)
   have HXE := Lib.hid hx
   clear hx hx2 hen hti hcp
   obtain ⟨u, hu9⟩ : ∃ u, use x = u := ⟨_, rfl⟩
   have HUX := Lib.hid hu9
   clear hu9
   go_wp2
   obtain ⟨w4, hw4⟩ : ∃ w4, w4 = wr.alloc (.cells #[.int .i64 x.f0, .int .i64 x.f1, .int .i64 x.f2, .int .i64 x.f3] 79) := ⟨_, rfl⟩
   have HG4 : Hid (w4.heap[wr.heap.size]? = some (.cells #[.int .i64 x.f0, .int .i64 x.f1, .int .i64 x.f2, .int .i64 x.f3] 79 (0, 0)) ∧ Below w.heap.size w w4) := Lib.hid (by rw [hw4]; exact ⟨heap_alloc_new _ _, below_alloc HL.out.2 _⟩)
   rw [← hw4]
   clear hw4 y0 y1 y2 y3
   generalize wr.heap.size = g at HG4 ⊢
   go_loopg [9, 12] (h + 3) (fun k sv zv W => ∃ (z : Nat) (s : Int), z ≤ h + 1 ∧ sv = .int .i64 s ∧ zv = .int .i64 z ∧ k = h + 3 - z ∧ 0 ≤ s ∧ s ≤ S + (z : Int) * 1048576 ∧ (z = 0 ∨ (u = true ∧ (z : Int) + x.f3 ≤ (h : Int) + 1)) ∧ Hid (s = S + sumN z (tk1 (hasS D) x) ∧ W.heap[g]? = some (.cells #[.int .i64 x.f0, .int .i64 x.f1, .int .i64 x.f2, .int .i64 x.f3] 79 (0, 0)) ∧ Below w.heap.size w W))
   case atStart => exact ⟨0, S, by omega, rfl, rfl, rfl, s0, by omega, .inl rfl, Lib.hid ⟨by rw [sumN]; omega, HG4.out.1, HG4.out.2⟩⟩
   case round =>
    obtain ⟨z, s, hz, rfl, rfl, rfl, r0, r1, hzu, HZ⟩ := hrel
    have HG := Lib.hid (And.intro HZ.out.2.1 HZ.out.2.2)
    have y0 : wr.cell? ⟨g, 0, none⟩ = some (.int .i64 x.f0) := (blk_cell HG.out.1 0).trans rfl; have y1 : wr.cell? ⟨g, 1, none⟩ = some (.int .i64 x.f1) := (blk_cell HG.out.1 1).trans rfl; have y2 : wr.cell? ⟨g, 2, none⟩ = some (.int .i64 x.f2) := (blk_cell HG.out.1 2).trans rfl; have y3 : wr.cell? ⟨g, 3, none⟩ = some (.int .i64 x.f3) := (blk_cell HG.out.1 3).trans rfl
    have e5 : IntKind.i64.wrap ((z : Int) + x.f3) = (z : Int) + x.f3 := IntWalk.i64_in _ (by omega)
    have e6 : IntKind.i64.wrap (s + x.f2) = s + x.f2 := IntWalk.i64_in _ (by omega)
    by_cases hzt : (z : Int) + x.f3 ≤ (h : Int)
    ·cases u with
     | false =>
      have hz0 : z = 0 := by
       rcases hzu with h9 | h9
       ·exact h9
       ·cases h9.1
      clear hzu
      go_wp2_with (first
       |(go_at_call 49; refine (HU.out x _ ?s1 ?s2).mono ?_; (case s1 => exact HXM.out); (case s2 => exact HG.out.2); rintro e w1 ⟨rfl, hb⟩; rw [HUX.out]; have HN9 := Lib.hid (And.intro (blk_below HG.out.1 hb) (below_step HG.out.2 hb)); clear HG y0 y1 y2 y3 hb; have HG := HN9; clear HN9; have y0 : w1.cell? ⟨g, 0, none⟩ = some (.int .i64 x.f0) := (blk_cell HG.out.1 0).trans rfl; have y1 : w1.cell? ⟨g, 1, none⟩ = some (.int .i64 x.f1) := (blk_cell HG.out.1 1).trans rfl; have y2 : w1.cell? ⟨g, 2, none⟩ = some (.int .i64 x.f2) := (blk_cell HG.out.1 2).trans rfl; have y3 : w1.cell? ⟨g, 3, none⟩ = some (.int .i64 x.f3) := (blk_cell HG.out.1 3).trans rfl))
      go_roundg (l.length - j)
      case measure => omega
      case rel => exact ⟨j + 1, s, by omega, rfl, by go_num, by omega, r0, by omega, Lib.hid ⟨by
       rw [sumN, ← HL.out.1, ← HXE.out]
       unfold tkA
       rw [HUX.out, if_neg (by decide), HZ.out.1, hz0]
       rfl, HG.out.2⟩⟩
     | true =>
      have hzu2 : Hid ((z : Int) + 1 + x.f3 ≤ (h : Int) + 1) := Lib.hid (by omega)
      clear hzu
      cases ha : hasS D x.f0 z with
      | false =>
       have HA := Lib.hid ha
       clear ha
       go_wp2_with (first
        |(go_at_call 49; refine (HU.out x _ ?s1 ?s2).mono ?_; (case s1 => exact HXM.out); (case s2 => exact HG.out.2); rintro e w1 ⟨rfl, hb⟩; rw [HUX.out]; have HN9 := Lib.hid (And.intro (blk_below HG.out.1 hb) (below_step HG.out.2 hb)); clear HG y0 y1 y2 y3 hb; have HG := HN9; clear HN9; have y0 : w1.cell? ⟨g, 0, none⟩ = some (.int .i64 x.f0) := (blk_cell HG.out.1 0).trans rfl; have y1 : w1.cell? ⟨g, 1, none⟩ = some (.int .i64 x.f1) := (blk_cell HG.out.1 1).trans rfl; have y2 : w1.cell? ⟨g, 2, none⟩ = some (.int .i64 x.f2) := (blk_cell HG.out.1 2).trans rfl; have y3 : w1.cell? ⟨g, 3, none⟩ = some (.int .i64 x.f3) := (blk_cell HG.out.1 3).trans rfl)
        |(go_at_call 50; (with_reducible refine (has_walk b cc D x.f0 z false _ ?s1 ?s2 ?s3 ?s4).mono ?_); (case s1 => exact setAs_below HS.out HG.out.2); (case s2 => exact wf_in (by omega)); (case s3 => exact wf_in (by omega)); (case s4 => exact HA.out.symm); rintro e w2 ⟨rfl, hb⟩; have HN9 := Lib.hid (And.intro (blk_below HG.out.1 hb) (below_step HG.out.2 hb)); clear HG y0 y1 y2 y3 hb; have HG := HN9; clear HN9; have y0 : w2.cell? ⟨g, 0, none⟩ = some (.int .i64 x.f0) := (blk_cell HG.out.1 0).trans rfl; have y1 : w2.cell? ⟨g, 1, none⟩ = some (.int .i64 x.f1) := (blk_cell HG.out.1 1).trans rfl; have y2 : w2.cell? ⟨g, 2, none⟩ = some (.int .i64 x.f2) := (blk_cell HG.out.1 2).trans rfl; have y3 : w2.cell? ⟨g, 3, none⟩ = some (.int .i64 x.f3) := (blk_cell HG.out.1 3).trans rfl))
       go_roundg (h + 2 - z)
       case measure => omega
       case rel => exact ⟨z + 1, s, by omega, rfl, by go_num, by omega, r0, by omega, .inr ⟨by first | rfl | trivial, by have := hzu2.out; omega⟩, Lib.hid ⟨by
        rw [sumN, HZ.out.1]
        unfold tk1
        rw [if_neg (fun e => by rw [HA.out] at e; cases e.1)]
        omega, HG.out.1, HG.out.2⟩⟩
      | true =>
       cases hb9 : hasS D x.f1 ((z : Int) + x.f3) with
       | true =>
        have HA := Lib.hid (And.intro ha hb9)
        clear ha hb9
        go_wp2_with (first
         |(go_at_call 49; refine (HU.out x _ ?s1 ?s2).mono ?_; (case s1 => exact HXM.out); (case s2 => exact HG.out.2); rintro e w1 ⟨rfl, hb⟩; rw [HUX.out]; have HN9 := Lib.hid (And.intro (blk_below HG.out.1 hb) (below_step HG.out.2 hb)); clear HG y0 y1 y2 y3 hb; have HG := HN9; clear HN9; have y0 : w1.cell? ⟨g, 0, none⟩ = some (.int .i64 x.f0) := (blk_cell HG.out.1 0).trans rfl; have y1 : w1.cell? ⟨g, 1, none⟩ = some (.int .i64 x.f1) := (blk_cell HG.out.1 1).trans rfl; have y2 : w1.cell? ⟨g, 2, none⟩ = some (.int .i64 x.f2) := (blk_cell HG.out.1 2).trans rfl; have y3 : w1.cell? ⟨g, 3, none⟩ = some (.int .i64 x.f3) := (blk_cell HG.out.1 3).trans rfl)
         |(go_at_call 50; (with_reducible refine (has_walk b cc D x.f0 z true _ ?s1 ?s2 ?s3 ?s4).mono ?_); (case s1 => exact setAs_below HS.out HG.out.2); (case s2 => exact wf_in (by omega)); (case s3 => exact wf_in (by omega)); (case s4 => exact HA.out.1.symm); rintro e w2 ⟨rfl, hb⟩; have HN9 := Lib.hid (And.intro (blk_below HG.out.1 hb) (below_step HG.out.2 hb)); clear HG y0 y1 y2 y3 hb; have HG := HN9; clear HN9; have y0 : w2.cell? ⟨g, 0, none⟩ = some (.int .i64 x.f0) := (blk_cell HG.out.1 0).trans rfl; have y1 : w2.cell? ⟨g, 1, none⟩ = some (.int .i64 x.f1) := (blk_cell HG.out.1 1).trans rfl; have y2 : w2.cell? ⟨g, 2, none⟩ = some (.int .i64 x.f2) := (blk_cell HG.out.1 2).trans rfl; have y3 : w2.cell? ⟨g, 3, none⟩ = some (.int .i64 x.f3) := (blk_cell HG.out.1 3).trans rfl)
         |(go_at_call 50; (with_reducible refine (has_walk b cc D x.f1 ((z : Int) + x.f3) true _ ?s1 ?s2 ?s3 ?s4).mono ?_); (case s1 => exact setAs_below HS.out HG.out.2); (case s2 => exact wf_in (by omega)); (case s3 => exact wf_in (by omega)); (case s4 => exact HA.out.2.symm); rintro e w2 ⟨rfl, hb⟩; have HN9 := Lib.hid (And.intro (blk_below HG.out.1 hb) (below_step HG.out.2 hb)); clear HG y0 y1 y2 y3 hb; have HG := HN9; clear HN9; have y0 : w2.cell? ⟨g, 0, none⟩ = some (.int .i64 x.f0) := (blk_cell HG.out.1 0).trans rfl; have y1 : w2.cell? ⟨g, 1, none⟩ = some (.int .i64 x.f1) := (blk_cell HG.out.1 1).trans rfl; have y2 : w2.cell? ⟨g, 2, none⟩ = some (.int .i64 x.f2) := (blk_cell HG.out.1 2).trans rfl; have y3 : w2.cell? ⟨g, 3, none⟩ = some (.int .i64 x.f3) := (blk_cell HG.out.1 3).trans rfl))
        go_roundg (h + 2 - z)
        case measure => omega
        case rel => exact ⟨z + 1, s, by omega, rfl, by go_num, by omega, r0, by omega, .inr ⟨by first | rfl | trivial, by have := hzu2.out; omega⟩, Lib.hid ⟨by
         rw [sumN, HZ.out.1]
         unfold tk1
         rw [if_neg (fun e => by rw [HA.out.2] at e; cases e.2)]
         omega, HG.out.1, HG.out.2⟩⟩
       | false =>
        have HA := Lib.hid (And.intro ha hb9)
        clear ha hb9
        go_wp2_with (first
         |(go_at_call 49; refine (HU.out x _ ?s1 ?s2).mono ?_; (case s1 => exact HXM.out); (case s2 => exact HG.out.2); rintro e w1 ⟨rfl, hb⟩; rw [HUX.out]; have HN9 := Lib.hid (And.intro (blk_below HG.out.1 hb) (below_step HG.out.2 hb)); clear HG y0 y1 y2 y3 hb; have HG := HN9; clear HN9; have y0 : w1.cell? ⟨g, 0, none⟩ = some (.int .i64 x.f0) := (blk_cell HG.out.1 0).trans rfl; have y1 : w1.cell? ⟨g, 1, none⟩ = some (.int .i64 x.f1) := (blk_cell HG.out.1 1).trans rfl; have y2 : w1.cell? ⟨g, 2, none⟩ = some (.int .i64 x.f2) := (blk_cell HG.out.1 2).trans rfl; have y3 : w1.cell? ⟨g, 3, none⟩ = some (.int .i64 x.f3) := (blk_cell HG.out.1 3).trans rfl)
         |(go_at_call 50; (with_reducible refine (has_walk b cc D x.f0 z true _ ?s1 ?s2 ?s3 ?s4).mono ?_); (case s1 => exact setAs_below HS.out HG.out.2); (case s2 => exact wf_in (by omega)); (case s3 => exact wf_in (by omega)); (case s4 => exact HA.out.1.symm); rintro e w2 ⟨rfl, hb⟩; have HN9 := Lib.hid (And.intro (blk_below HG.out.1 hb) (below_step HG.out.2 hb)); clear HG y0 y1 y2 y3 hb; have HG := HN9; clear HN9; have y0 : w2.cell? ⟨g, 0, none⟩ = some (.int .i64 x.f0) := (blk_cell HG.out.1 0).trans rfl; have y1 : w2.cell? ⟨g, 1, none⟩ = some (.int .i64 x.f1) := (blk_cell HG.out.1 1).trans rfl; have y2 : w2.cell? ⟨g, 2, none⟩ = some (.int .i64 x.f2) := (blk_cell HG.out.1 2).trans rfl; have y3 : w2.cell? ⟨g, 3, none⟩ = some (.int .i64 x.f3) := (blk_cell HG.out.1 3).trans rfl)
         |(go_at_call 50; (with_reducible refine (has_walk b cc D x.f1 ((z : Int) + x.f3) false _ ?s1 ?s2 ?s3 ?s4).mono ?_); (case s1 => exact setAs_below HS.out HG.out.2); (case s2 => exact wf_in (by omega)); (case s3 => exact wf_in (by omega)); (case s4 => exact HA.out.2.symm); rintro e w2 ⟨rfl, hb⟩; have HN9 := Lib.hid (And.intro (blk_below HG.out.1 hb) (below_step HG.out.2 hb)); clear HG y0 y1 y2 y3 hb; have HG := HN9; clear HN9; have y0 : w2.cell? ⟨g, 0, none⟩ = some (.int .i64 x.f0) := (blk_cell HG.out.1 0).trans rfl; have y1 : w2.cell? ⟨g, 1, none⟩ = some (.int .i64 x.f1) := (blk_cell HG.out.1 1).trans rfl; have y2 : w2.cell? ⟨g, 2, none⟩ = some (.int .i64 x.f2) := (blk_cell HG.out.1 2).trans rfl; have y3 : w2.cell? ⟨g, 3, none⟩ = some (.int .i64 x.f3) := (blk_cell HG.out.1 3).trans rfl))
        go_roundg (h + 2 - z)
        case measure => omega
        case rel => exact ⟨z + 1, s + x.f2, by omega, rfl, by go_num, by omega, by omega, by omega, .inr ⟨by first | rfl | trivial, by have := hzu2.out; omega⟩, Lib.hid ⟨by
         rw [sumN, HZ.out.1]
         unfold tk1
         rw [if_pos HA.out]
         omega, HG.out.1, HG.out.2⟩⟩
    ·go_wp2
     go_roundg (l.length - j)
     case measure => omega
     case rel => exact ⟨j + 1, s, by omega, rfl, by go_num, by omega, r0, by omega, Lib.hid ⟨by
      rw [sumN, ← HL.out.1, ← HXE.out]
      unfold tkA
      rw [HUX.out, HZ.out.1]
      cases u with
      | false =>
       rcases hzu with h9 | h9
       ·rw [h9, if_neg (by decide)]
        rfl
       ·cases h9.1
      | true =>
       rw [if_pos rfl, show ((h : Int) + 1 - x.f3).toNat = z by rcases hzu with h9 | h9 <;> omega], HG.out.2⟩⟩
  ·have e : j = l.length := by omega
   subst e
   go_wp2
   go_ret
   refine ⟨?_, HL.out.2⟩
   unfold takesV
   rw [← HL.out.1]
   rfl
end Go.Proofs.Ytcgdloldkcmhnaa.H
end
section
namespace Go.Proofs.Ytcgdloldkcmhnaa.H
open Go Go.RowKit Go.Proofs.Ytcgdloldkcmhnaa.PrintC Go.Proofs.Ytcgdloldkcmhnaa.PrintE Go.Proofs.YtcgdloldkcmhnaaW.PrintWords Go.Proofs.YtcgdloldkcmhnaaW.PrintLast Go.Proofs.YtcgdloldkcmhnaaW.PrintMore Go.Proofs.Ytcgdloldkcmhnaa.Flow
set_option linter.unusedVariables false
set_option linter.unusedSimpArgs false
theorem gS_append (t : Grp → Bool) : ∀ a b : List Grp, gS t (a ++ b) = gS t a + gS t b
 | [], b => by rw [List.nil_append, gS]; omega
 | x :: a, b => by rw [List.cons_append, gS, gS, gS_append t a b]; omega
theorem gS_take (t : Grp → Bool) {p : List Grp} {i : Nat} (h : i < p.length) : gS t (p.take (i + 1)) = gS t (p.take i) + (if t (rd_T44 p (i : Int)) = true then (rd_T44 p (i : Int)).f1 else 0) := by
 have e : rd_T44 p (i : Int) = p[i] := by
  unfold rd_T44
  rw [Int.toNat_natCast, List.getD_eq_getElem?_getD, List.getElem?_eq_getElem h]
  rfl
 rw [List.take_add_one, List.getElem?_eq_getElem h, e]
 show gS t (p.take i ++ [p[i]]) = _
 rw [gS_append, gS, gS]
 omega
def capV (h : Nat) (l : List Arc) (p q : List Grp) (H : Int → Int → Bool) : Int := takesV (useOf q) H h l + gS (fun g => !H g.f0 0) p + gS (fun g => H g.f0 h) q
def CapAt (n h : Nat) (b : Bool) (l : List Arc) (p q : List Grp) (X : List Slot) (w : World) (e : Ending) (w' : World) : Prop := Below w.heap.size w w' ∧
 ((e = .returned (.tuple #[.int .i64 0, .int .i64 180]) ∧ ∃ s, s ∈ X ∧ ¬ slotOk n h s) ∨
  ((∀ s, s ∈ X → slotOk n h s) ∧ ((e = .returned (.tuple #[.int .i64 0, .int .i64 181]) ∧ ∃ v z : Nat, v < n ∧ keepsOf b p q v = true ∧ z < h ∧ hasS (setD X) v z = true ∧ hasS (setD X) v ((z : Int) + 1) = false) ∨
  (e = .returned (.tuple #[.int .i64 (capV h l p q (hasS (setD X))), .int .i64 0]) ∧ ∀ v : Nat, v < n → keepsOf b p q v = true → ∀ z : Nat, z < h → hasS (setD X) v z = true → hasS (setD X) v ((z : Int) + 1) = true))))
theorem takes_bd {use : Arc → Bool} {H : Int → Int → Bool} {n h : Nat} {l : List Arc} (hn : NetIn n h l) (hh : h ≤ 1024) (hc : ∀ i : Nat, i < l.length → 0 ≤ (arcAt l i).f2 ∧ (arcAt l i).f2 ≤ 1048576) : ∀ j, j ≤ l.length → 0 ≤ sumN j (fun j => tkA use H h (arcAt l j)) ∧ sumN j (fun j => tkA use H h (arcAt l j)) ≤ (j : Int) * 1100000000
 | 0, _ => by rw [sumN]; omega
 | j + 1, hj => by
  have ih := takes_bd (use := use) (H := H) hn hh hc j (by omega)
  rw [sumN]
  have h2 := hc j (by omega)
  have h3 := hn.time j (by omega)
  have h4 : ∀ z : Nat, 0 ≤ sumN z (tk1 H (arcAt l j)) ∧ sumN z (tk1 H (arcAt l j)) ≤ (z : Int) * 1048576 := fun z => by
   induction z with
   | zero => rw [sumN]; omega
   | succ z ih =>
    rw [sumN]
    have : 0 ≤ tk1 H (arcAt l j) z ∧ tk1 H (arcAt l j) z ≤ 1048576 := by
     unfold tk1
     split <;> omega
    omega
  have h5 : 0 ≤ tkA use H h (arcAt l j) ∧ tkA use H h (arcAt l j) ≤ 1100000000 := by
   unfold tkA
   split
   ·have := h4 ((h : Int) + 1 - (arcAt l j).f3).toNat
    omega
   ·omega
  omega
set_option maxHeartbeats 8000000 in
set_option maxRecDepth 100000 in
theorem cap_walk (n h : Nat) (b : Bool) (A : Option Addr) (c : Nat) (l : List Arc) (Ap : Option Addr) (cp : Nat) (p : List Grp) (Aq : Option Addr) (cq : Nat) (q : List Grp) (AX : Option Addr) (cX : Nat) (X : List Slot) (w : World) (hP : PlaceOk n h l p q) (hh : h ≤ 1024)
  (hBG : ∀ W, Below w.heap.size w W → Calls Try.prog 28 #[.agg #[.int .i64 n, .bool b, .slice A l.length c], .slice Ap p.length cp, .slice Aq q.length cq, .int .i64 h] W (BegunAt n b A c l Ap cp p Aq cq q 0 W))
  (hr : Kd.C kArc w A l.length l) (hp : Kd.C kGrp w Ap p.length p) (hq : Kd.C kGrp w Aq q.length q) (hX : Kd.C kSlot w AX X.length X) (hlX : X.length ≤ 1000000) :
  Calls Try.prog 23 #[.agg #[.int .i64 n, .bool b, .slice A l.length c], .slice Ap p.length cp, .slice Aq q.length cq, .int .i64 h, .slice AX X.length cX] w (CapAt n h b l p q X w) := by
 have HR := Lib.hid hr
 have HP := Lib.hid hp
 have HQ := Lib.hid hq
 have HXX := Lib.hid hX
 have HBG := Lib.hid hBG
 have HPO := Lib.hid hP
 have hn1 := hP.net.n1
 have hlp := hP.lp
 have hlq := hP.lq
 have hll := hP.net.ll
 have HW : Hid (∀ x, x ∈ l → Wf x.f0) := Lib.hid (fun x hx => by
  obtain ⟨i, hi, rfl⟩ := List.getElem_of_mem hx
  have h9 := (hP.net.ends i hi).1
  have h8 : arcAt l i = l[i] := by
   unfold arcAt rd_T79
   rw [Int.toNat_natCast, List.getD_eq_getElem?_getD, List.getElem?_eq_getElem hi]
   rfl
  rw [h8] at h9
  exact small_wf h9.1 (by omega))
 have hu := Try.underlying32
 have hu2 := Try.underlying44
 have hu3 := Try.underlying112
 clear hr hp hq hX hBG hP
 go_enter Try.func23, Try.ntmps23
 obtain ⟨w0, hw0⟩ : ∃ w0, w0 = w.alloc (.cells #[.int .i64 n, .bool b, .slice A l.length c] 32) := ⟨_, rfl⟩
 have HX0 : Hid (w0.heap[w.heap.size]? = some (.cells #[.int .i64 n, .bool b, .slice A l.length c] 32 (0, 0)) ∧ Below w.heap.size w w0) := Lib.hid (by rw [hw0]; exact ⟨heap_alloc_new _ _, below_alloc (Below.refl _ _) _⟩)
 go_wp2_with (first
  |(go_at_call 28; rw [← hw0]; (with_reducible refine (HBG.out _ ?s1).mono ?_); (case s1 => exact HX0.out.2); rintro e w1 ⟨hb, (⟨h9, _⟩ | ⟨_, gp, bh, br, rfl, hge, hPl⟩)⟩; (exact absurd rfl h9); have HM := Lib.hid (And.intro (blk_below HX0.out.1 hb) (below_step HX0.out.2 hb)); have HPL := Lib.hid hPl; have x0 : w1.cell? ⟨w.heap.size, 0, none⟩ = some (.int .i64 n) := (blk_cell HM.out.1 0).trans rfl; clear hb hge hPl HX0)
  |(go_at_call 45; go_loud ((with_reducible refine (setof_walk n h AX cX X _ ?s1 ?s2 ?s3 ?s4).mono ?_); (case s1 => exact Kd.C_below HXX.out HM.out.2); (case s2 => exact hlX); (case s3 => omega); (case s4 => omega); rintro e w3 ⟨hb, (⟨rfl, hbad⟩ | ⟨b9, rfl, hset, hok⟩)⟩; all_goals (have HM3 := Lib.hid (And.intro (blk_below HM.out.1 hb) (And.intro (below_step HM.out.2 hb) (HPL.out.below hb))); clear HM x0 hb; have x0 : w3.cell? ⟨w.heap.size, 0, none⟩ = some (.int .i64 n) := (blk_cell HM3.out.1 0).trans rfl))))
 ·go_ret2
  exact ⟨HM3.out.2.1, .inl ⟨rfl, hbad⟩⟩
 have HS := Lib.hid hset
 have HOK := Lib.hid hok
 clear hset hok HPL
 obtain ⟨D, hD⟩ : ∃ D, D = setD X := ⟨_, rfl⟩
 rw [← hD] at HS
 have HD := Lib.hid hD
 clear hD
 go_loopg [45] (n + 1) (fun k iv W => ∃ v : Nat, v ≤ n ∧ iv = .int .i64 v ∧ k = n + 1 - v ∧ Hid (Below w3.heap.size w3 W ∧ ∀ v' : Nat, v' < v → keepsOf b p q v' = true → ∀ z : Nat, z < h → hasS D v' z = true → hasS D v' ((z : Int) + 1) = true))
 case atStart => exact ⟨0, Nat.zero_le _, rfl, rfl, Lib.hid ⟨Below.refl _ _, fun v' hv => absurd hv (Nat.not_lt_zero _)⟩⟩
 case round =>
  obtain ⟨v, hv, rfl, rfl, HL⟩ := hrel
  clear x0
  by_cases hlt : v < n
  ·have hlt2 : (v : Int) < (n : Int) := by omega
   cases hkb : keepsOf b p q v with
   | false =>
    have HKB := Lib.hid hkb
    clear hkb
    go_wp2_with (go_at_call 46; (with_reducible refine (keeps_walk gp n b A l.length c Ap p.length cp Aq q.length cq bh br p.length q.length (putGs p) (putGs q) v _ ?s1 ?s2).mono ?_); (case s1 => exact HM3.out.2.2.below HL.out.1); (case s2 => exact small_wf (by omega) (by omega)); rintro e w4 ⟨rfl, rfl⟩; rw [show (b || (hasK (putGs p) (v : Int) || hasK (putGs q) (v : Int))) = false from HKB.out])
    go_roundg (n - v)
    case measure => omega
    case rel => exact ⟨v + 1, by omega, by go_num, by omega, Lib.hid ⟨HL.out.1, fun v' hv' hk' => by
     rcases Nat.lt_or_eq_of_le (Nat.le_of_lt_succ hv') with g | rfl
     ·exact HL.out.2 v' g hk'
     ·rw [HKB.out] at hk'
      cases hk'⟩⟩
   | true =>
    have HKB := Lib.hid hkb
    clear hkb
    go_wp2_with (first
     |(go_at_call 46; (with_reducible refine (keeps_walk gp n b A l.length c Ap p.length cp Aq q.length cq bh br p.length q.length (putGs p) (putGs q) v _ ?s1 ?s2).mono ?_); (case s1 => exact HM3.out.2.2.below HL.out.1); (case s2 => exact small_wf (by omega) (by omega)); rintro e w4 ⟨rfl, rfl⟩; rw [show (b || (hasK (putGs p) (v : Int) || hasK (putGs q) (v : Int))) = true from HKB.out])
     |(go_at_call 47; go_loud ((with_reducible refine (rises_walk b9 X.length D v h _ ?s1 ?s2 ?s3).mono ?_); (case s1 => exact setAs_below HS.out HL.out.1); (case s2 => exact small_wf (by omega) (by omega)); (case s3 => omega); rintro e w5 ⟨hb, (⟨rfl, hris⟩ | ⟨rfl, hris⟩)⟩; all_goals (have HB5 := Lib.hid (below_step HL.out.1 hb); have HRI := Lib.hid hris; clear hb hris))))
    ·go_roundg (n - v)
     case measure => omega
     case rel => exact ⟨v + 1, by omega, by go_num, by omega, Lib.hid ⟨HB5.out, fun v' hv' hk' => by
      rcases Nat.lt_or_eq_of_le (Nat.le_of_lt_succ hv') with g | rfl
      ·exact HL.out.2 v' g hk'
      ·exact HRI.out⟩⟩
    ·go_ret2
     obtain ⟨z, hz, hz1, hz2⟩ := HRI.out
     exact ⟨below_step HM3.out.2.1 HB5.out, .inr ⟨HOK.out, .inl ⟨rfl, v, z, hlt, HKB.out, hz, by rw [← HD.out]; exact hz1, by rw [← HD.out]; exact hz2⟩⟩⟩
  ·have e : v = n := by omega
   subst e
   have HKR := Lib.hid HL.out.2
   have HB := Lib.hid (And.intro HL.out.1 (below_step HM3.out.2.1 HL.out.1))
   clear HL
   have x0 : wr.cell? ⟨w.heap.size, 0, none⟩ = some (.int .i64 v) := (blk_cell (blk_below HM3.out.1 HB.out.1) 0).trans rfl
   have x1 : wr.cell? ⟨w.heap.size, 1, none⟩ = some (.bool b) := (blk_cell (blk_below HM3.out.1 HB.out.1) 1).trans rfl
   have x2 : wr.cell? ⟨w.heap.size, 2, none⟩ = some (.slice A l.length c) := (blk_cell (blk_below HM3.out.1 HB.out.1) 2).trans rfl
   obtain ⟨T, hT⟩ : ∃ T, T = takesV (useOf q) (hasS D) h l := ⟨_, rfl⟩
   have hTb : 0 ≤ T ∧ T ≤ 11000000000000 := by
    have := takes_bd (use := useOf q) (H := hasS D) HPO.out.net hh HPO.out.caps l.length (Nat.le_refl _)
    unfold takesV at hT
    rw [← hT] at this
    omega
   have HT := Lib.hid hT
   clear hT
   go_wp2_with (go_at_call 48; go_loud ((with_reducible refine (takes_walk v h b A c l gp (useOf q) b9 X.length D _ ?s1 ?s2 ?s3 ?s4 ?s5 ?s6).mono ?_); (case s1 => exact HPO.out.net); (case s2 => exact HPO.out.caps); (case s3 => exact hh); (case s4 => exact setAs_below HS.out HB.out.1); (case s5 => exact Kd.C_below HR.out HB.out.2); (case s6 => exact (fun x W hx hb => (use_walk gp v b A l.length c Ap p.length cp Aq q.length cq bh br p.length q.length (putGs p) (putGs q) x W ((HM3.out.2.2.below HB.out.1).below hb) (HW.out x hx)).mono (fun _ _ h9 => h9))); rintro e w6 ⟨rfl, hb⟩; rw [← HT.out]; have HB6 := Lib.hid (And.intro (below_step HB.out.1 hb) (below_step HB.out.2 hb)); clear HB x0 x1 x2 hb))
   go_loopg [17, 67] (p.length + 1) (fun k sv iv W => ∃ (i : Nat) (S : Int), i ≤ p.length ∧ sv = .int .i64 S ∧ iv = .int .i64 i ∧ k = p.length + 1 - i ∧ 0 ≤ S ∧ S ≤ 11000000000000 + (i : Int) * 1048576 ∧ Hid (S = T + gS (fun g => !hasS D g.f0 0) (p.take i) ∧ Below w3.heap.size w3 W ∧ Below w.heap.size w W))
   case atStart => exact ⟨0, T, Nat.zero_le _, rfl, rfl, rfl, hTb.1, by omega, Lib.hid ⟨by rw [List.take_zero, gS]; omega, HB6.out⟩⟩
   case round =>
    obtain ⟨i, S, hi, rfl, rfl, rfl, s0, s1, HL⟩ := hrel
    clear HB6
    by_cases hlt : i < p.length
    ·have i0 : (0 : Int) ≤ (i : Int) := by omega
     have i1 : (i : Int) < (p.length : Int) := by omega
     obtain ⟨ad, ea, y0, y1⟩ := at_T44 (Kd.C_below HP.out HL.out.2.2) (i : Int) i0 i1
     subst ea
     rw [Int.toNat_natCast] at y0 y1
     have hgt := gS_take (fun g => !hasS D g.f0 0) hlt
     obtain ⟨G, hG⟩ : ∃ G, G = rd_T44 p (i : Int) := ⟨_, rfl⟩
     have hgi := HPO.out.gp G (by rw [hG]; exact grp_mem hlt)
     rw [← hG] at y0 y1 hgt
     have g0 := hgi.1.1
     have g1 := hgi.1.2
     have g2 := hgi.2.1
     have g3 := hgi.2.2
     have HGT := Lib.hid hgt
     clear hG hgi hgt
     have e6 : IntKind.i64.wrap (S + G.f1) = S + G.f1 := IntWalk.i64_in _ (by omega)
     obtain ⟨R, hR⟩ : ∃ R, hasS D G.f0 0 = R := ⟨_, rfl⟩
     have HRR := Lib.hid hR
     clear hR
     have HH : Hid (∀ W, Below w3.heap.size w3 W → Calls Try.prog 50 #[.map (some b9), .int .i64 G.f0, .int .i64 0] W fun e w' => e = .returned (.bool R) ∧ Below W.heap.size W w') := Lib.hid (fun W hW => has_walk b9 X.length D G.f0 0 R W (setAs_below HS.out hW) (small_wf (by omega) (by omega)) (by decide) HRR.out.symm)
     cases R with
     | true =>
      go_wp2_with (go_at_call 50; refine (HH.out _ ?s1).mono ?_; (case s1 => exact below_alloc HL.out.2.1 _); rintro e w7 ⟨rfl, hb⟩; have HB7 := Lib.hid (And.intro (below_step (below_alloc HL.out.2.1 _) hb) (below_step (below_alloc HL.out.2.2 _) hb)); clear hb)
      go_roundg (p.length - i)
      case measure => omega
      case rel => exact ⟨i + 1, S, by omega, rfl, by go_num, by omega, s0, by omega, Lib.hid ⟨by rw [HGT.out, HL.out.1, HRR.out, if_neg (by decide)]; omega, HB7.out⟩⟩
     | false =>
      go_wp2_with (go_at_call 50; refine (HH.out _ ?s1).mono ?_; (case s1 => exact below_alloc HL.out.2.1 _); rintro e w7 ⟨rfl, hb⟩; have HB7 := Lib.hid (And.intro (below_step (below_alloc HL.out.2.1 _) hb) (below_step (below_alloc HL.out.2.2 _) hb)); have y1 : w7.cell? ⟨wr.heap.size, 1, none⟩ = some (.int .i64 G.f1) := (blk_cell (blk_below (heap_alloc_new wr (.cells #[.int .i64 G.f0, .int .i64 G.f1] 44)) hb) 1).trans rfl; clear hb)
      go_roundg (p.length - i)
      case measure => omega
      case rel => exact ⟨i + 1, S + G.f1, by omega, rfl, by go_num, by omega, by omega, by omega, Lib.hid ⟨by rw [HGT.out, HL.out.1, HRR.out, if_pos (by decide)]; omega, HB7.out⟩⟩
    ·have e : i = p.length := by omega
     subst e
     have HT2 : Hid (S = T + gS (fun g => !hasS D g.f0 0) p) := Lib.hid (by have := HL.out.1; rwa [List.take_length] at this)
     have HB6 := Lib.hid HL.out.2
     clear HL
     go_wp2
     go_loopg [17, 83] (q.length + 1) (fun k sv iv W => ∃ (i : Nat) (s : Int), i ≤ q.length ∧ sv = .int .i64 s ∧ iv = .int .i64 i ∧ k = q.length + 1 - i ∧ 0 ≤ s ∧ s ≤ 12100000000000 + (i : Int) * 1048576 ∧ Hid (s = S + gS (fun g => hasS D g.f0 h) (q.take i) ∧ Below w3.heap.size w3 W ∧ Below w.heap.size w W))
     case atStart => exact ⟨0, S, Nat.zero_le _, rfl, rfl, rfl, s0, by omega, Lib.hid ⟨by rw [List.take_zero, gS]; omega, HB6.out⟩⟩
     case round =>
      obtain ⟨i, s, hi, rfl, rfl, rfl, s0, s1, HL⟩ := hrel
      clear HB6
      by_cases hlt : i < q.length
      ·have i0 : (0 : Int) ≤ (i : Int) := by omega
       have i1 : (i : Int) < (q.length : Int) := by omega
       obtain ⟨ad, ea, y0, y1⟩ := at_T44 (Kd.C_below HQ.out HL.out.2.2) (i : Int) i0 i1
       subst ea
       rw [Int.toNat_natCast] at y0 y1
       have hgt := gS_take (fun g => hasS D g.f0 h) hlt
       obtain ⟨G, hG⟩ : ∃ G, G = rd_T44 q (i : Int) := ⟨_, rfl⟩
       have hgi := HPO.out.gq G (by rw [hG]; exact grp_mem hlt)
       rw [← hG] at y0 y1 hgt
       have g0 := hgi.1.1
       have g1 := hgi.1.2
       have g2 := hgi.2.1
       have g3 := hgi.2.2
       have HGT := Lib.hid hgt
       clear hG hgi hgt
       have e6 : IntKind.i64.wrap (s + G.f1) = s + G.f1 := IntWalk.i64_in _ (by omega)
       obtain ⟨R, hR⟩ : ∃ R, hasS D G.f0 h = R := ⟨_, rfl⟩
       have HRR := Lib.hid hR
       clear hR
       have HH : Hid (∀ W, Below w3.heap.size w3 W → Calls Try.prog 50 #[.map (some b9), .int .i64 G.f0, .int .i64 h] W fun e w' => e = .returned (.bool R) ∧ Below W.heap.size W w') := Lib.hid (fun W hW => has_walk b9 X.length D G.f0 h R W (setAs_below HS.out hW) (small_wf (by omega) (by omega)) (small_wf (by omega) (by omega)) HRR.out.symm)
       cases R with
       | false =>
        go_wp2_with (go_at_call 50; refine (HH.out _ ?s1).mono ?_; (case s1 => exact below_alloc HL.out.2.1 _); rintro e w7 ⟨rfl, hb⟩; have HB7 := Lib.hid (And.intro (below_step (below_alloc HL.out.2.1 _) hb) (below_step (below_alloc HL.out.2.2 _) hb)); clear hb)
        go_roundg (q.length - i)
        case measure => omega
        case rel => exact ⟨i + 1, s, by omega, rfl, by go_num, by omega, s0, by omega, Lib.hid ⟨by rw [HGT.out, HL.out.1, HRR.out, if_neg (by decide)]; omega, HB7.out⟩⟩
       | true =>
        go_wp2_with (go_at_call 50; refine (HH.out _ ?s1).mono ?_; (case s1 => exact below_alloc HL.out.2.1 _); rintro e w7 ⟨rfl, hb⟩; have HB7 := Lib.hid (And.intro (below_step (below_alloc HL.out.2.1 _) hb) (below_step (below_alloc HL.out.2.2 _) hb)); have y1 : w7.cell? ⟨wr.heap.size, 1, none⟩ = some (.int .i64 G.f1) := (blk_cell (blk_below (heap_alloc_new wr (.cells #[.int .i64 G.f0, .int .i64 G.f1] 44)) hb) 1).trans rfl; clear hb)
        go_roundg (q.length - i)
        case measure => omega
        case rel => exact ⟨i + 1, s + G.f1, by omega, rfl, by go_num, by omega, by omega, by omega, Lib.hid ⟨by rw [HGT.out, HL.out.1, HRR.out, if_pos (by decide)]; omega, HB7.out⟩⟩
      ·have e : i = q.length := by omega
       subst e
       go_wp2
       go_ret2
       have h9 := HL.out.1
       rw [List.take_length, HT2.out, HT.out] at h9
       refine ⟨HL.out.2.2, .inr ⟨HOK.out, .inr ⟨?_, ?_⟩⟩⟩
       ·rw [← HD.out]
        unfold capV
        rw [← h9]
        rfl
       ·rw [← HD.out]
        exact HKR.out
end Go.Proofs.Ytcgdloldkcmhnaa.H
end
section
namespace Go.Proofs.Ytcgdloldkcmhnaa.H
open Go Go.RowKit Go.Proofs.Ytcgdloldkcmhnaa.PrintC Go.Proofs.Ytcgdloldkcmhnaa.PrintE Go.Proofs.YtcgdloldkcmhnaaW.PrintWords Go.Proofs.YtcgdloldkcmhnaaW.PrintLast Go.Proofs.YtcgdloldkcmhnaaW.PrintMore Go.Proofs.Ytcgdloldkcmhnaa.Flow
set_option linter.unusedVariables false
set_option linter.unusedSimpArgs false
theorem hasL_append (X Y : List Slot) (v z : Int) : hasL (X ++ Y) v z = (hasL X v z || hasL Y v z) := by
 unfold hasL
 rw [List.any_append]
set_option maxHeartbeats 4000000 in
set_option maxRecDepth 100000 in
theorem r18has_walk (A : Option Addr) (c : Nat) (X : List Slot) (v z : Int) (R : Bool) (w : World) (hr : Kd.C kSlot w A X.length X) (hlX : X.length ≤ 1000000) (hR : R = hasL X v z) :
  Calls Try.prog 54 #[.slice A X.length c, .int .i64 v, .int .i64 z] w fun e w' => e = .returned (.bool R) ∧ Below w.heap.size w w' := by
 have HR := Lib.hid hr
 have HRR := Lib.hid hR
 clear hr hR
 go_enter Try.func54, Try.ntmps54
 go_wp2
 go_loopg [7] (X.length + 1) (fun k iv W => ∃ i : Nat, i ≤ X.length ∧ iv = .int .i64 i ∧ k = X.length + 1 - i ∧ Hid (Below w.heap.size w W ∧ hasL (X.take i) v z = false))
 case atStart => exact ⟨0, Nat.zero_le _, rfl, rfl, Lib.hid ⟨Below.refl _ _, by rw [List.take_zero]; rfl⟩⟩
 case round =>
  obtain ⟨i, hi, rfl, rfl, HL⟩ := hrel
  by_cases hlt : i < X.length
  ·have i0 : (0 : Int) ≤ (i : Int) := by omega
   have i1 : (i : Int) < (X.length : Int) := by omega
   obtain ⟨ad, ea, y0, y1⟩ := at_T88 (Kd.C_below HR.out HL.out.1) (i : Int) i0 i1
   subst ea
   rw [Int.toNat_natCast] at y0 y1
   have hst := slot_take hlt
   obtain ⟨s, hs⟩ : ∃ s, s = rd_T88 X (i : Int) := ⟨_, rfl⟩
   rw [← hs] at y0 y1 hst
   have hc : ((s.f0 == v) = false ∧ Hid (hasL [s] v z = false)) ∨ ((s.f0 == v) = true ∧ (s.f1 == z) = false ∧ Hid (hasL [s] v z = false)) ∨ ((s.f0 == v) = true ∧ (s.f1 == z) = true ∧ Hid (hasL [s] v z = true)) := by
    have e : hasL [s] v z = decide (s.f0 = v ∧ s.f1 = z) := by simp [hasL]
    rw [e]
    by_cases c1 : s.f0 = v
    ·by_cases c2 : s.f1 = z
     ·exact .inr (.inr ⟨beq_iff_eq.2 c1, beq_iff_eq.2 c2, Lib.hid (decide_eq_true ⟨c1, c2⟩)⟩)
     ·exact .inr (.inl ⟨beq_iff_eq.2 c1, beq_eq_false_iff_ne.2 c2, Lib.hid (decide_eq_false (fun e => c2 e.2))⟩)
    ·exact .inl ⟨beq_eq_false_iff_ne.2 c1, Lib.hid (decide_eq_false (fun e => c1 e.1))⟩
   have HST := Lib.hid hst
   clear hs hst
   rcases hc with ⟨c1, HC⟩ | ⟨c1, c2, HC⟩ | ⟨c1, c2, HC⟩
   iterate 2
    ·go_wp2
     go_roundg (X.length - i)
     case measure => omega
     case rel => exact ⟨i + 1, by omega, by go_num, by omega, Lib.hid ⟨HL.out.1, by rw [HST.out, hasL_append, HL.out.2, HC.out]; rfl⟩⟩
   ·go_wp2
    go_ret
    refine ⟨?_, HL.out.1⟩
    have h9 : hasL X v z = true := by
     rw [← List.take_append_drop (i + 1) X, hasL_append, HST.out, hasL_append, HC.out]
     simp
    rw [HRR.out, h9]
    rfl
  ·have e : i = X.length := by omega
   subst e
   have h9 := HL.out.2
   rw [List.take_length] at h9
   have H9 := Lib.hid h9
   clear h9
   go_wp2
   go_ret
   refine ⟨?_, HL.out.1⟩
   rw [HRR.out, H9.out]
   rfl
def RRisesAt (H : Int → Int → Bool) (v : Int) (h : Nat) (w : World) (e : Ending) (w' : World) : Prop := Below w.heap.size w w' ∧ ((e = .returned (.bool true) ∧ ∀ z : Nat, z < h → H v z = true → H v ((z : Int) + 1) = true) ∨ (e = .returned (.bool false) ∧ ∃ z : Nat, z < h ∧ H v z = true ∧ H v ((z : Int) + 1) = false))
set_option maxHeartbeats 4000000 in
set_option maxRecDepth 100000 in
theorem rrises_walk (A : Option Addr) (c : Nat) (X : List Slot) (v : Int) (h : Nat) (w : World) (hr : Kd.C kSlot w A X.length X) (hlX : X.length ≤ 1000000) (hh : h ≤ 100000) :
  Calls Try.prog 52 #[.slice A X.length c, .int .i64 v, .int .i64 h] w (RRisesAt (hasL X) v h w) := by
 have HR := Lib.hid hr
 clear hr
 go_enter Try.func52, Try.ntmps52
 go_wp2
 go_loopg [7] (h + 1) (fun k iv W => ∃ z : Nat, z ≤ h ∧ iv = .int .i64 z ∧ k = h + 1 - z ∧ Hid (Below w.heap.size w W) ∧ Hid (∀ z' : Nat, z' < z → hasL X v z' = true → hasL X v ((z' : Int) + 1) = true))
 case atStart => exact ⟨0, Nat.zero_le _, rfl, rfl, Lib.hid (Below.refl _ _), Lib.hid (fun z' hz => absurd hz (Nat.not_lt_zero _))⟩
 case round =>
  obtain ⟨z, hz, rfl, rfl, HL, HA⟩ := hrel
  by_cases hlt : z < h
  ·have hlt2 : (z : Int) < (h : Int) := by omega
   cases h1 : hasL X v z with
   | false =>
    have H1 := Lib.hid h1
    clear h1
    go_wp2_with (go_at_call 54; (with_reducible refine (r18has_walk A c X v z false _ ?s1 ?s2 ?s3).mono ?_); (case s1 => exact Kd.C_below HR.out HL.out); (case s2 => exact hlX); (case s3 => exact H1.out.symm); rintro e w2 ⟨rfl, hb⟩; have HB := Lib.hid (below_step HL.out hb); clear hb)
    go_roundg (h - z)
    case measure => omega
    case rel => exact ⟨z + 1, by omega, by go_num, by omega, HB, Lib.hid (fun z' hz' h9 => by
     rcases Nat.lt_or_eq_of_le (Nat.le_of_lt_succ hz') with g | rfl
     ·exact HA.out z' g h9
     ·rw [H1.out] at h9
      cases h9)⟩
   | true =>
    cases h2 : hasL X v ((z : Int) + 1) with
    | true =>
     have H1 := Lib.hid h1
     have H2 := Lib.hid h2
     clear h1 h2
     go_wp2_with (first
      |(go_at_call 54; (with_reducible refine (r18has_walk A c X v z true _ ?s1 ?s2 ?s3).mono ?_); (case s1 => exact Kd.C_below HR.out HL.out); (case s2 => exact hlX); (case s3 => exact H1.out.symm); rintro e w2 ⟨rfl, hb⟩; have HB := Lib.hid (below_step HL.out hb); clear hb)
      |(go_at_call 54; (with_reducible refine (r18has_walk A c X v ((z : Int) + 1) true _ ?s1 ?s2 ?s3).mono ?_); (case s1 => exact Kd.C_below HR.out HB.out); (case s2 => exact hlX); (case s3 => exact H2.out.symm); rintro e w2 ⟨rfl, hb⟩; have HB3 := Lib.hid (below_step HB.out hb); clear hb))
     go_roundg (h - z)
     case measure => omega
     case rel => exact ⟨z + 1, by omega, by go_num, by omega, HB3, Lib.hid (fun z' hz' h9 => by
      rcases Nat.lt_or_eq_of_le (Nat.le_of_lt_succ hz') with g | rfl
      ·exact HA.out z' g h9
      ·exact H2.out)⟩
    | false =>
     have H1 := Lib.hid h1
     have H2 := Lib.hid h2
     clear h1 h2
     go_wp2_with (first
      |(go_at_call 54; (with_reducible refine (r18has_walk A c X v z true _ ?s1 ?s2 ?s3).mono ?_); (case s1 => exact Kd.C_below HR.out HL.out); (case s2 => exact hlX); (case s3 => exact H1.out.symm); rintro e w2 ⟨rfl, hb⟩; have HB := Lib.hid (below_step HL.out hb); clear hb)
      |(go_at_call 54; (with_reducible refine (r18has_walk A c X v ((z : Int) + 1) false _ ?s1 ?s2 ?s3).mono ?_); (case s1 => exact Kd.C_below HR.out HB.out); (case s2 => exact hlX); (case s3 => exact H2.out.symm); rintro e w2 ⟨rfl, hb⟩; have HB3 := Lib.hid (below_step HB.out hb); clear hb))
     go_ret
     exact ⟨HB3.out, .inr ⟨rfl, z, hlt, H1.out, H2.out⟩⟩
  ·have e : z = h := by omega
   subst e
   go_wp2
   go_ret
   exact ⟨HL.out, .inl ⟨rfl, HA.out⟩⟩
set_option maxHeartbeats 8000000 in
set_option maxRecDepth 100000 in
theorem rtakes_walk (n h : Nat) (bb : Bool) (A : Option Addr) (c : Nat) (l : List Arc) (AX : Option Addr) (cX : Nat) (X : List Slot) (AU : Option Addr) (cU : Nat) (U : List Bool) (use : Arc → Bool) (w : World) (hn : NetIn n h l) (hc : ∀ i : Nat, i < l.length → 0 ≤ (arcAt l i).f2 ∧ (arcAt l i).f2 ≤ 1048576) (hh : h ≤ 1024) (hX : Kd.C kSlot w AX X.length X) (hlX : X.length ≤ 1000000) (hr : Kd.C kArc w A l.length l)
  (hU : Kd.C Kd.bool w AU U.length U) (hUl : U.length = l.length) (hUU : ∀ j : Nat, j < l.length → rdOf false U (j : Int) = use (arcAt l j)) :
  Calls Try.prog 53 #[.agg #[.int .i64 n, .bool bb, .slice A l.length c], .int .i64 h, .slice AX X.length cX, .slice AU U.length cU] w (TakesAt (takesV use (hasL X) h l) w) := by
 have hu := Try.underlying32
 have hu3 := Try.underlying79
 have HN := Lib.hid hn
 have HCP := Lib.hid hc
 have HXX := Lib.hid hX
 have HR := Lib.hid hr
 have HUL := Lib.hid hU
 have HUU := Lib.hid hUU
 have hll := hn.ll
 have hn1 := hn.n1
 have HUE := Lib.hid hUl
 clear hn hc hX hr hU hUU hUl
 go_enter Try.func53, Try.ntmps53
 go_wp2
 obtain ⟨w1, hw1⟩ : ∃ w1, w1 = w.alloc (.cells #[.int .i64 n, .bool bb, .slice A l.length c] 32) := ⟨_, rfl⟩
 have HX : Hid (w1.heap[w.heap.size]? = some (.cells #[.int .i64 n, .bool bb, .slice A l.length c] 32 (0, 0)) ∧ Below w.heap.size w w1) := Lib.hid (by rw [hw1]; exact ⟨heap_alloc_new _ _, below_alloc (Below.refl _ _) _⟩)
 rw [← hw1]
 clear hw1
 go_loopg [9, 10] (l.length + 1) (fun k sv jv W => ∃ (j : Nat) (S : Int), j ≤ l.length ∧ sv = .int .i64 S ∧ jv = .int .i64 j ∧ k = l.length + 1 - j ∧ 0 ≤ S ∧ S ≤ (j : Int) * 1100000000 ∧ Hid (S = sumN j (fun j => tkA use (hasL X) h (arcAt l j)) ∧ W.heap[w.heap.size]? = some (.cells #[.int .i64 n, .bool bb, .slice A l.length c] 32 (0, 0)) ∧ Below w.heap.size w W))
 case atStart => exact ⟨0, 0, Nat.zero_le _, rfl, rfl, rfl, Int.le_refl _, by omega, Lib.hid ⟨rfl, HX.out.1, HX.out.2⟩⟩
 case round =>
  obtain ⟨j, S, hj, rfl, rfl, rfl, s0, s1, HL⟩ := hrel
  clear HX
  have x2 : wr.cell? ⟨w.heap.size, 2, none⟩ = some (.slice A l.length c) := (blk_cell HL.out.2.1 2).trans rfl
  by_cases hjl : j < l.length
  ·have j0 : (0 : Int) ≤ (j : Int) := by omega
   have j1 : (j : Int) < (l.length : Int) := by omega
   have j2 : (j : Int) < (U.length : Int) := by have := HUE.out; omega
   obtain ⟨ad, ea, y0, y1, y2, y3⟩ := at_T79 (Kd.C_below HR.out HL.out.2.2) (j : Int) j0 j1
   subst ea
   rw [Int.toNat_natCast] at y0 y1 y2 y3
   obtain ⟨x, hx⟩ : ∃ x, x = arcAt l j := ⟨_, rfl⟩
   have hx2 : rd_T79 l (j : Int) = x := by rw [hx]; rfl
   rw [hx2] at y0 y1 y2 y3
   have hen := HN.out.ends j hjl
   have hti := HN.out.time j hjl
   have hcp := HCP.out j hjl
   rw [← hx] at hen hti hcp
   have f0 := hen.1.1
   have f1 := hen.1.2
   have f2 := hen.2.1
   have f3 := hen.2.2
   have t0 := hti.1
   have t1 := hti.2
   have c0 := hcp.1
   have c1 := hcp.2
   obtain ⟨u, hu9⟩ : ∃ u, use x = u := ⟨_, rfl⟩
   obtain ⟨au, eau, -⟩ := Kd.at_bool HUL.out (j : Int) j0 j2
   subst eau
   have HUJ : Hid (∀ W, Below w.heap.size w W → W.cell? (au.add j) = some (.bool u)) := Lib.hid (fun W hW => by
    obtain ⟨au2, e2, z2⟩ := Kd.at_bool (Kd.C_below HUL.out hW) (j : Int) j0 j2
    injection e2 with e2
    subst e2
    rw [Int.toNat_natCast, HUU.out j hjl, ← hx, hu9] at z2
    exact z2)
   have HUX := Lib.hid hu9
   have HXE := Lib.hid hx
   clear hx hx2 hen hti hcp hu9
   go_wp2
   obtain ⟨w4, hw4⟩ : ∃ w4, w4 = wr.alloc (.cells #[.int .i64 x.f0, .int .i64 x.f1, .int .i64 x.f2, .int .i64 x.f3] 79) := ⟨_, rfl⟩
   have HG4 : Hid (w4.heap[wr.heap.size]? = some (.cells #[.int .i64 x.f0, .int .i64 x.f1, .int .i64 x.f2, .int .i64 x.f3] 79 (0, 0)) ∧ w4.heap[w.heap.size]? = some (.cells #[.int .i64 n, .bool bb, .slice (some ad) l.length c] 32 (0, 0)) ∧ Below w.heap.size w w4) := Lib.hid (by rw [hw4]; exact ⟨heap_alloc_new _ _, blk_alloc HL.out.2.1 _, below_alloc HL.out.2.2 _⟩)
   rw [← hw4]
   clear hw4 y0 y1 y2 y3 x2
   generalize wr.heap.size = g at HG4 ⊢
   go_loopg [9, 12] (h + 3) (fun k sv zv W => ∃ (z : Nat) (s : Int), z ≤ h + 1 ∧ sv = .int .i64 s ∧ zv = .int .i64 z ∧ k = h + 3 - z ∧ 0 ≤ s ∧ s ≤ S + (z : Int) * 1048576 ∧ (z = 0 ∨ (u = true ∧ (z : Int) + x.f3 ≤ (h : Int) + 1)) ∧ Hid (s = S + sumN z (tk1 (hasL X) x) ∧ W.heap[g]? = some (.cells #[.int .i64 x.f0, .int .i64 x.f1, .int .i64 x.f2, .int .i64 x.f3] 79 (0, 0)) ∧ W.heap[w.heap.size]? = some (.cells #[.int .i64 n, .bool bb, .slice (some ad) l.length c] 32 (0, 0)) ∧ Below w.heap.size w W))
   case atStart => exact ⟨0, S, by omega, rfl, rfl, rfl, s0, by omega, .inl rfl, Lib.hid ⟨by rw [sumN]; omega, HG4.out⟩⟩
   case round =>
    obtain ⟨z, s, hz, rfl, rfl, rfl, r0, r1, hzu, HZ⟩ := hrel
    have HG := Lib.hid HZ.out.2
    have y0 : wr.cell? ⟨g, 0, none⟩ = some (.int .i64 x.f0) := (blk_cell HG.out.1 0).trans rfl; have y1 : wr.cell? ⟨g, 1, none⟩ = some (.int .i64 x.f1) := (blk_cell HG.out.1 1).trans rfl; have y2 : wr.cell? ⟨g, 2, none⟩ = some (.int .i64 x.f2) := (blk_cell HG.out.1 2).trans rfl; have y3 : wr.cell? ⟨g, 3, none⟩ = some (.int .i64 x.f3) := (blk_cell HG.out.1 3).trans rfl
    have u0 : wr.cell? (au.add j) = some (.bool u) := HUJ.out _ HG.out.2.2
    have e5 : IntKind.i64.wrap ((z : Int) + x.f3) = (z : Int) + x.f3 := IntWalk.i64_in _ (by omega)
    have e6 : IntKind.i64.wrap (s + x.f2) = s + x.f2 := IntWalk.i64_in _ (by omega)
    by_cases hzt : (z : Int) + x.f3 ≤ (h : Int)
    ·cases u with
     | false =>
      have hz0 : z = 0 := by
       rcases hzu with h9 | h9
       ·exact h9
       ·cases h9.1
      clear hzu
      go_wp2
      go_roundg (l.length - j)
      case measure => omega
      case rel => exact ⟨j + 1, s, by omega, rfl, by go_num, by omega, r0, by omega, Lib.hid ⟨by
       rw [sumN, ← HL.out.1, ← HXE.out]
       unfold tkA
       rw [HUX.out, if_neg (by decide), HZ.out.1, hz0]
       rfl, HG.out.2⟩⟩
     | true =>
      have hzu2 : Hid ((z : Int) + 1 + x.f3 ≤ (h : Int) + 1) := Lib.hid (by omega)
      clear hzu
      cases ha : hasL X x.f0 z with
      | false =>
       have HA := Lib.hid ha
       clear ha
       go_wp2_with (first
        |(go_at_call 54; (with_reducible refine (r18has_walk AX cX X x.f0 z false _ ?s1 ?s2 ?s3).mono ?_); (case s1 => exact Kd.C_below HXX.out HG.out.2.2); (case s2 => exact hlX); (case s3 => exact HA.out.symm); rintro e w2 ⟨rfl, hb⟩; have HN9 := Lib.hid (And.intro (blk_below HG.out.1 hb) (And.intro (blk_below HG.out.2.1 hb) (below_step HG.out.2.2 hb))); clear HG y0 y1 y2 y3 hb; have HG := HN9; clear HN9; have y0 : w2.cell? ⟨g, 0, none⟩ = some (.int .i64 x.f0) := (blk_cell HG.out.1 0).trans rfl; have y1 : w2.cell? ⟨g, 1, none⟩ = some (.int .i64 x.f1) := (blk_cell HG.out.1 1).trans rfl; have y2 : w2.cell? ⟨g, 2, none⟩ = some (.int .i64 x.f2) := (blk_cell HG.out.1 2).trans rfl; have y3 : w2.cell? ⟨g, 3, none⟩ = some (.int .i64 x.f3) := (blk_cell HG.out.1 3).trans rfl))
       go_roundg (h + 2 - z)
       case measure => omega
       case rel => exact ⟨z + 1, s, by omega, rfl, by go_num, by omega, r0, by omega, .inr ⟨by first | rfl | trivial, by have := hzu2.out; omega⟩, Lib.hid ⟨by
        rw [sumN, HZ.out.1]
        unfold tk1
        rw [if_neg (fun e => by rw [HA.out] at e; cases e.1)]
        omega, HG.out⟩⟩
      | true =>
       cases hb9 : hasL X x.f1 ((z : Int) + x.f3) with
       | true =>
        have HA := Lib.hid (And.intro ha hb9)
        clear ha hb9
        go_wp2_with (first
         |(go_at_call 54; (with_reducible refine (r18has_walk AX cX X x.f0 z true _ ?s1 ?s2 ?s3).mono ?_); (case s1 => exact Kd.C_below HXX.out HG.out.2.2); (case s2 => exact hlX); (case s3 => exact HA.out.1.symm); rintro e w2 ⟨rfl, hb⟩; have HN9 := Lib.hid (And.intro (blk_below HG.out.1 hb) (And.intro (blk_below HG.out.2.1 hb) (below_step HG.out.2.2 hb))); clear HG y0 y1 y2 y3 hb; have HG := HN9; clear HN9; have y0 : w2.cell? ⟨g, 0, none⟩ = some (.int .i64 x.f0) := (blk_cell HG.out.1 0).trans rfl; have y1 : w2.cell? ⟨g, 1, none⟩ = some (.int .i64 x.f1) := (blk_cell HG.out.1 1).trans rfl; have y2 : w2.cell? ⟨g, 2, none⟩ = some (.int .i64 x.f2) := (blk_cell HG.out.1 2).trans rfl; have y3 : w2.cell? ⟨g, 3, none⟩ = some (.int .i64 x.f3) := (blk_cell HG.out.1 3).trans rfl)
         |(go_at_call 54; (with_reducible refine (r18has_walk AX cX X x.f1 ((z : Int) + x.f3) true _ ?s1 ?s2 ?s3).mono ?_); (case s1 => exact Kd.C_below HXX.out HG.out.2.2); (case s2 => exact hlX); (case s3 => exact HA.out.2.symm); rintro e w2 ⟨rfl, hb⟩; have HN9 := Lib.hid (And.intro (blk_below HG.out.1 hb) (And.intro (blk_below HG.out.2.1 hb) (below_step HG.out.2.2 hb))); clear HG y0 y1 y2 y3 hb; have HG := HN9; clear HN9; have y0 : w2.cell? ⟨g, 0, none⟩ = some (.int .i64 x.f0) := (blk_cell HG.out.1 0).trans rfl; have y1 : w2.cell? ⟨g, 1, none⟩ = some (.int .i64 x.f1) := (blk_cell HG.out.1 1).trans rfl; have y2 : w2.cell? ⟨g, 2, none⟩ = some (.int .i64 x.f2) := (blk_cell HG.out.1 2).trans rfl; have y3 : w2.cell? ⟨g, 3, none⟩ = some (.int .i64 x.f3) := (blk_cell HG.out.1 3).trans rfl))
        go_roundg (h + 2 - z)
        case measure => omega
        case rel => exact ⟨z + 1, s, by omega, rfl, by go_num, by omega, r0, by omega, .inr ⟨by first | rfl | trivial, by have := hzu2.out; omega⟩, Lib.hid ⟨by
         rw [sumN, HZ.out.1]
         unfold tk1
         rw [if_neg (fun e => by rw [HA.out.2] at e; cases e.2)]
         omega, HG.out⟩⟩
       | false =>
        have HA := Lib.hid (And.intro ha hb9)
        clear ha hb9
        go_wp2_with (first
         |(go_at_call 54; (with_reducible refine (r18has_walk AX cX X x.f0 z true _ ?s1 ?s2 ?s3).mono ?_); (case s1 => exact Kd.C_below HXX.out HG.out.2.2); (case s2 => exact hlX); (case s3 => exact HA.out.1.symm); rintro e w2 ⟨rfl, hb⟩; have HN9 := Lib.hid (And.intro (blk_below HG.out.1 hb) (And.intro (blk_below HG.out.2.1 hb) (below_step HG.out.2.2 hb))); clear HG y0 y1 y2 y3 hb; have HG := HN9; clear HN9; have y0 : w2.cell? ⟨g, 0, none⟩ = some (.int .i64 x.f0) := (blk_cell HG.out.1 0).trans rfl; have y1 : w2.cell? ⟨g, 1, none⟩ = some (.int .i64 x.f1) := (blk_cell HG.out.1 1).trans rfl; have y2 : w2.cell? ⟨g, 2, none⟩ = some (.int .i64 x.f2) := (blk_cell HG.out.1 2).trans rfl; have y3 : w2.cell? ⟨g, 3, none⟩ = some (.int .i64 x.f3) := (blk_cell HG.out.1 3).trans rfl)
         |(go_at_call 54; (with_reducible refine (r18has_walk AX cX X x.f1 ((z : Int) + x.f3) false _ ?s1 ?s2 ?s3).mono ?_); (case s1 => exact Kd.C_below HXX.out HG.out.2.2); (case s2 => exact hlX); (case s3 => exact HA.out.2.symm); rintro e w2 ⟨rfl, hb⟩; have HN9 := Lib.hid (And.intro (blk_below HG.out.1 hb) (And.intro (blk_below HG.out.2.1 hb) (below_step HG.out.2.2 hb))); clear HG y0 y1 y2 y3 hb; have HG := HN9; clear HN9; have y0 : w2.cell? ⟨g, 0, none⟩ = some (.int .i64 x.f0) := (blk_cell HG.out.1 0).trans rfl; have y1 : w2.cell? ⟨g, 1, none⟩ = some (.int .i64 x.f1) := (blk_cell HG.out.1 1).trans rfl; have y2 : w2.cell? ⟨g, 2, none⟩ = some (.int .i64 x.f2) := (blk_cell HG.out.1 2).trans rfl; have y3 : w2.cell? ⟨g, 3, none⟩ = some (.int .i64 x.f3) := (blk_cell HG.out.1 3).trans rfl))
        go_roundg (h + 2 - z)
        case measure => omega
        case rel => exact ⟨z + 1, s + x.f2, by omega, rfl, by go_num, by omega, by omega, by omega, .inr ⟨by first | rfl | trivial, by have := hzu2.out; omega⟩, Lib.hid ⟨by
         rw [sumN, HZ.out.1]
         unfold tk1
         rw [if_pos HA.out]
         omega, HG.out⟩⟩
    ·go_wp2
     go_roundg (l.length - j)
     case measure => omega
     case rel => exact ⟨j + 1, s, by omega, rfl, by go_num, by omega, r0, by omega, Lib.hid ⟨by
      rw [sumN, ← HL.out.1, ← HXE.out]
      unfold tkA
      rw [HUX.out, HZ.out.1]
      cases u with
      | false =>
       rcases hzu with h9 | h9
       ·rw [h9, if_neg (by decide)]
        rfl
       ·cases h9.1
      | true =>
       rw [if_pos rfl, show ((h : Int) + 1 - x.f3).toNat = z by rcases hzu with h9 | h9 <;> omega], HG.out.2⟩⟩
  ·have e : j = l.length := by omega
   subst e
   go_wp2
   go_ret
   refine ⟨?_, HL.out.2.2⟩
   unfold takesV
   rw [← HL.out.1]
   rfl
end Go.Proofs.Ytcgdloldkcmhnaa.H
end
section
namespace Go.Proofs.Ytcgdloldkcmhnaa.H
open Go Go.RowKit Go.Proofs.Ytcgdloldkcmhnaa.PrintC Go.Proofs.Ytcgdloldkcmhnaa.PrintE Go.Proofs.YtcgdloldkcmhnaaW.PrintWords Go.Proofs.YtcgdloldkcmhnaaW.PrintLast Go.Proofs.YtcgdloldkcmhnaaW.PrintMore
set_option linter.unusedVariables false
set_option linter.unusedSimpArgs false
def CMvAt (w : World) (e : Ending) (w' : World) : Prop := ∃ (L : List Mv) (A1 : Option Addr) (c1 : Nat), e = .returned (.slice A1 L.length c1) ∧ Kd.R kMv 103 w' w.heap.size (fun _ => True) (.slice A1 L.length c1) L ∧ L.length ≤ 20 ∧ (∀ x, x ∈ L → -9223372036854775808 ≤ x.f2 ∧ x.f2 ≤ 9223372036854775807) ∧ Below w.heap.size w w'
section
variable {a0 : Int} {a1 : Bool} {l2 : List CBit} {a3 a4 a5 : Int} {l6 l7 : List Int} {l8 : List CBit3} {l9 : List Int} {A2 : Option Addr} {c2 : Nat} {A6 : Option Addr} {c6 : Nat} {A7 : Option Addr} {c7 : Nat} {A8 : Option Addr} {c8 : Nat} {A9 : Option Addr} {c9 : Nat} {w : World} {v : Value}
set_option maxHeartbeats 8000000 in
set_option maxRecDepth 100000 in
theorem cmoves_walk (o : CaseAt w v a0 a1 l2 a3 a4 a5 l6 l7 l8 l9 A2 c2 A6 c6 A7 c7 A8 c8 A9 c9) (n : Int) (b : Bool) (A : Option Addr) (c k h : Nat) (hk : k ≤ 1000000) (hh : h ≤ 100000) :
  Calls Try.prog 24 #[.agg (caseCells a0 a1 l2 a3 a4 a5 l6 l7 l8 l9 A2 c2 A6 c6 A7 c7 A8 c8 A9 c9), .agg #[.int .i64 n, .bool b, .slice A k c], .int .i64 h] w (CMvAt w) := by
 have HC8 := Lib.hid o.r8
 have HU8 := Lib.hid o.u8
 have hu := Try.underlying32
 have hu2 := Try.underlying29
 have hu3 := Try.underlying101
 have hu4 := Try.underlying103
 clear o
 go_enter Try.func24, Try.ntmps24
 obtain ⟨w1, hw1⟩ : ∃ w1, w1 = (w.alloc (.cells (caseCells a0 a1 l2 a3 a4 a5 l6 l7 l8 l9 A2 c2 A6 c6 A7 c7 A8 c8 A9 c9) 29)).alloc (.cells #[.int .i64 n, .bool b, .slice A k c] 32) := ⟨_, rfl⟩
 have HX : Hid (w1.heap[w.heap.size]? = some (.cells (caseCells a0 a1 l2 a3 a4 a5 l6 l7 l8 l9 A2 c2 A6 c6 A7 c7 A8 c8 A9 c9) 29 (0, 0)) ∧ w1.heap[w.heap.size + 1]? = some (.cells #[.int .i64 n, .bool b, .slice A k c] 32 (0, 0)) ∧ Below w.heap.size w w1) := Lib.hid (by
  rw [hw1]
  exact ⟨blk_alloc (heap_alloc_new _ _) _, alloc_at (by rw [alloc_size]), below_alloc (below_alloc (Below.refl _ _) _) _⟩)
 go_wp2
 rw [← hw1]
 clear hw1
 have e1 : IntKind.i64.wrap ((h : Int) + 1) = (h : Int) + 1 := IntWalk.i64_in _ (by omega)
 go_loopg [7, 8] 21 (fun m ov iv W => ∃ (i : Nat) (L : List Mv) (Ao : Option Addr) (co : Nat), i ≤ 20 ∧ ov = .slice Ao L.length co ∧ iv = .int .i64 i ∧ m = 21 - i ∧ Hid (L.length = i ∧ Kd.R kMv 103 W w.heap.size (fun _ => True) (.slice Ao L.length co) L ∧ (∀ x, x ∈ L → -9223372036854775808 ≤ x.f2 ∧ x.f2 ≤ 9223372036854775807) ∧ W.heap[w.heap.size]? = some (.cells (caseCells a0 a1 l2 a3 a4 a5 l6 l7 l8 l9 A2 c2 A6 c6 A7 c7 A8 c8 A9 c9) 29 (0, 0)) ∧ W.heap[w.heap.size + 1]? = some (.cells #[.int .i64 n, .bool b, .slice A k c] 32 (0, 0)) ∧ Below w.heap.size w W))
 case atStart => exact ⟨0, [], none, 0, by omega, rfl, rfl, rfl, Lib.hid ⟨rfl, Kd.R_nil _ _ _ _ _, fun x hx => (nomatch hx), HX.out⟩⟩
 case round =>
  obtain ⟨i, L, Ao, co, hi, rfl, rfl, rfl, HL⟩ := hrel
  clear HX
  have x8 : wr.cell? ⟨w.heap.size, 8, none⟩ = some (.slice A8 l8.length c8) := (blk_cell HL.out.2.2.2.1 8).trans rfl
  have y2 : wr.cell? ⟨w.heap.size + 1, 2, none⟩ = some (.slice A k c) := (blk_cell HL.out.2.2.2.2.1 2).trans rfl
  have hc : (¬ (i : Int) < (l8.length : Int)) ∨ ((i : Int) < (l8.length : Int) ∧ ¬ (i : Int) < 20) ∨ ((i : Int) < (l8.length : Int) ∧ (i : Int) < 20 ∧ ¬ (0 : Int) < (k : Int)) ∨ ((i : Int) < (l8.length : Int) ∧ (i : Int) < 20 ∧ (0 : Int) < (k : Int)) := by omega
  rcases hc with c1 | ⟨c1, c2⟩ | ⟨c1, c2, c3⟩ | ⟨c1, c2, c3⟩
  iterate 2
   ·go_wp2
    go_ret
    exact ⟨L, Ao, co, rfl, HL.out.2.1, by have := HL.out.1; omega, HL.out.2.2.1, HL.out.2.2.2.2.2⟩
  ·have hk0 : k = 0 := by omega
   subst hk0
   go_wp2
   go_ret
   exact ⟨L, Ao, co, rfl, HL.out.2.1, by have := HL.out.1; omega, HL.out.2.2.1, HL.out.2.2.2.2.2⟩
  ·have i0 : (0 : Int) ≤ (i : Int) := by omega
   have hk1 : 0 < k := by omega
   obtain ⟨ad, ea, z0, z1, z2⟩ := at_T101 (Kd.C_drew (Kd.C_below HC8.out HL.out.2.2.2.2.2)) (i : Int) i0 c1
   subst ea
   rw [Int.toNat_natCast] at z0 z1 z2
   obtain ⟨s, hs⟩ : ∃ s, s = rd_T101 l8 (i : Int) := ⟨_, rfl⟩
   have hsu := HU8.out s (by
    rw [hs]
    unfold rd_T101
    rw [Int.toNat_natCast, List.getD_eq_getElem?_getD, List.getElem?_eq_getElem (by omega)]
    exact List.getElem_mem _)
   rw [← hs] at z0 z1 z2
   clear hs
   have u0 := hsu.1
   have u1 := hsu.2.1
   have u2 := hsu.2.2
   unfold U8 at u0 u1 u2
   clear hsu
   have e2 : IntKind.i64.wrap s.f0 = s.f0 := IntWalk.i64_in _ (by omega)
   have e3 : IntKind.i64.wrap s.f1 = s.f1 := IntWalk.i64_in _ (by omega)
   have e4 : IntKind.i64.wrap s.f2 = s.f2 := IntWalk.i64_in _ (by omega)
   obtain ⟨r0, h0⟩ : ∃ r0, s.f0.tmod (k : Int) = r0 := ⟨_, rfl⟩
   obtain ⟨r1, h1⟩ : ∃ r1, s.f1.tmod ((h : Int) + 1) = r1 := ⟨_, rfl⟩
   obtain ⟨r2, h2⟩ : ∃ r2, s.f2.tmod 4 = r2 := ⟨_, rfl⟩
   have hr2 : Hid (-4 < r2 ∧ r2 < 4) := Lib.hid (by
    rw [Int.tmod_eq_emod_of_nonneg (by omega)] at h2
    omega)
   have hnz : ¬ k = 0 := by omega
   have hnz2 : ¬ (h : Int) + 1 = 0 := by omega
   have x9 : wr.drew.cell? ⟨w.heap.size, 8, none⟩ = some (.slice (some ad) l8.length c8) := (blk_cell (blk_drew HL.out.2.2.2.1) 8).trans rfl
   have y9 : wr.drew.cell? ⟨w.heap.size + 1, 2, none⟩ = some (.slice A k c) := (blk_cell (blk_drew HL.out.2.2.2.2.1) 2).trans rfl
   have HB := Lib.hid (And.intro (Kd.R_drew HL.out.2.1) (And.intro (blk_drew HL.out.2.2.2.1) (And.intro (blk_drew HL.out.2.2.2.2.1) (below_drew1 HL.out.2.2.2.2.2))))
   have HLL := Lib.hid (And.intro HL.out.1 HL.out.2.2.1)
   clear HL
   go_wp2
   refine stepS (S := fun w' => w'.cell? ⟨w.heap.size, 8, none⟩ = some (.slice (some ad) l8.length c8) ∧ w'.cell? ⟨w.heap.size + 1, 2, none⟩ = some (.slice A k c) ∧ w'.cell? (ad.add (i * 3)) = some (.int .u8 s.f0) ∧ w'.cell? ⟨(ad.add (i * 3)).block, (ad.add (i * 3)).off + 1, none⟩ = some (.int .u8 s.f1) ∧ w'.cell? ⟨(ad.add (i * 3)).block, (ad.add (i * 3)).off + 2, none⟩ = some (.int .u8 s.f2)) (ds := [32]) 34 (by kernel_rfl) rfl ⟨x9, y9, z0, z1, z2⟩ (fun hHeld => ?_)
   generalize wr.drew = wd at HB hHeld ⊢
   clear x8 y2 x9 y9 z0 z1 z2
   repeat (first | refine rP 34 ?_ | refine rT 34 hHeld ?_)
   refine sB 31 hHeld (fun hHeld => ?_)
   refine sA 32 appMv L ⟨r0, r1, r2⟩ HB.out.1 HB.out.2.2.2 HB.out.2.2.2.size (by have := HLL.out.1; omega) (fun A1 c1 w9 ho hb hg => ?_)
   refine sN ?_
   refine rP 34 ?_
   refine done_ (by kernel_rfl) ?_
   have HF := Lib.hid (And.intro ho (And.intro hb (And.intro (blk_grown HB.out.2.1 hg (Kd.R_ne HB.out.1 HB.out.2.1 (by decide))) (blk_grown HB.out.2.2.1 hg (Kd.R_ne HB.out.1 HB.out.2.2.1 (by decide))))))
   clear ho hb hg hHeld HB
   go_wp2
   go_roundg (20 - i)
   case measure => omega
   case rel => exact ⟨i + 1, L ++ [⟨r0, r1, r2⟩], A1, c1, by omega, by rw [List.length_append]; rfl, by go_num, by omega, Lib.hid ⟨by rw [List.length_append, HLL.out.1]; rfl, by rw [List.length_append]; exact HF.out.1, fun x hx => by
    rcases List.mem_append.1 hx with hx | hx
    ·exact HLL.out.2 x hx
    ·rw [List.mem_singleton] at hx
     subst hx
     have := hr2.out
     exact ⟨by show (-9223372036854775808 : Int) ≤ r2; omega, by show r2 ≤ (9223372036854775807 : Int); omega⟩, HF.out.2.2.1, HF.out.2.2.2, HF.out.2.1⟩⟩
theorem u16_range {n : Int} (h : (Lit.int .u16 n).wf = true) : 0 ≤ n ∧ n ≤ 65535 := by
 simp [Lit.wf, IntKind.min, IntKind.max, IntKind.signed, IntKind.bits] at h
 omega
structure CSl (n h : Nat) (keeps : Nat → Bool) (tv : Nat → Int) (Z V : Nat) (X : List Slot) : Prop where
 ok : ∀ s, s ∈ X → slotOk n h s
 up : ∀ s, s ∈ X → s.f1 < Z ∨ (s.f1 = Z ∧ s.f0 < V)
 ke : ∀ v z : Nat, v < n → (z < Z ∨ (z = Z ∧ v < V)) → keeps v = true → hasL X v z = decide (tv v ≤ z)
 le : X.length ≤ Z * n + V
theorem CSl.zero (n h : Nat) (keeps : Nat → Bool) (tv : Nat → Int) : CSl n h keeps tv 0 0 [] :=
 ⟨fun _ h => (nomatch h), fun _ h => (nomatch h), fun v z _ h => absurd h (by omega), Nat.zero_le _⟩
theorem CSl.row {n h : Nat} {keeps : Nat → Bool} {tv : Nat → Int} {Z : Nat} {X : List Slot} (k : CSl n h keeps tv Z n X) : CSl n h keeps tv (Z + 1) 0 X where
 ok := k.ok
 up s hs := by
  have := k.up s hs
  have h2 := (k.ok s hs).2.2.1
  omega
 ke v z hv hz hk := k.ke v z hv (by omega) hk
 le := by
  have := k.le
  rw [Nat.succ_mul]
  omega
theorem hasL_up {X : List Slot} {Z V : Nat} (h : ∀ s, s ∈ X → s.f1 < Z ∨ (s.f1 = Z ∧ s.f0 < V)) : hasL X V Z = false := by
 unfold hasL
 rw [List.any_eq_false]
 intro s hs e
 have := h s hs
 have := of_decide_eq_true e
 omega
theorem CSl.no {n h : Nat} {keeps : Nat → Bool} {tv : Nat → Int} {Z V : Nat} {X : List Slot} (k : CSl n h keeps tv Z V X) (hk : keeps V = true → ¬ tv V ≤ Z) : CSl n h keeps tv Z (V + 1) X where
 ok := k.ok
 up s hs := by have := k.up s hs; omega
 ke v z hv hz hkv := by
  by_cases e : z = Z ∧ v = V
  ·rw [e.1, e.2, hasL_up k.up, decide_eq_false (hk (by rw [← e.2]; exact hkv))]
  ·exact k.ke v z hv (by omega) hkv
 le := by have := k.le; omega
theorem CSl.yes {n h : Nat} {keeps : Nat → Bool} {tv : Nat → Int} {Z V : Nat} {X : List Slot} (k : CSl n h keeps tv Z V X) (hV : V < n) (hZ : Z ≤ h) (hk : keeps V = true → tv V ≤ Z) : CSl n h keeps tv Z (V + 1) (X ++ [⟨(V : Int), (Z : Int)⟩]) where
 ok s hs := by
  rcases List.mem_append.1 hs with hs | hs
  ·exact k.ok s hs
  ·rw [List.mem_singleton] at hs
   subst hs
   exact ⟨by show (0 : Int) ≤ (V : Int); omega, by show (0 : Int) ≤ (Z : Int); omega, by show (V : Int) < (n : Int); omega, by show (Z : Int) ≤ (h : Int); omega⟩
 up s hs := by
  rcases List.mem_append.1 hs with hs | hs
  ·have := k.up s hs; omega
  ·rw [List.mem_singleton] at hs
   subst hs
   exact .inr ⟨rfl, by show (V : Int) < ((V + 1 : Nat) : Int); omega⟩
 ke v z hv hz hkv := by
  rw [hasL_append]
  have e1 : hasL [⟨(V : Int), (Z : Int)⟩] v z = decide (V = v ∧ Z = z) := by
   unfold hasL
   simp only [List.any_cons, List.any_nil, Bool.or_false]
   by_cases e : V = v ∧ Z = z
   ·rw [decide_eq_true e, decide_eq_true (by omega)]
   ·rw [decide_eq_false e, decide_eq_false (by omega)]
  rw [e1]
  by_cases e : z = Z ∧ v = V
  ·rw [e.1, e.2, hasL_up k.up, decide_eq_true (hk (by rw [← e.2]; exact hkv))]
   simp
  ·rw [k.ke v z hv (by omega) hkv, decide_eq_false (show ¬ (V = v ∧ Z = z) by omega), Bool.or_false]
 le := by
  have := k.le
  rw [List.length_append, List.length_singleton]
  omega
def CSlAt (n h : Nat) (keeps : Nat → Bool) (w : World) (e : Ending) (w' : World) : Prop := ∃ (X : List Slot) (tv : Nat → Int) (A1 : Option Addr) (c1 : Nat), e = .returned (.slice A1 X.length c1) ∧ Kd.R kSlot 88 w' w.heap.size (fun _ => True) (.slice A1 X.length c1) X ∧ CSl n h keeps tv (h + 1) 0 X ∧ Below w.heap.size w w'
set_option maxHeartbeats 8000000 in
set_option maxRecDepth 100000 in
theorem cslots_walk (o : CaseAt w v a0 a1 l2 a3 a4 a5 l6 l7 l8 l9 A2 c2 A6 c6 A7 c7 A8 c8 A9 c9) (n h : Nat) (b : Bool) (A : Option Addr) (c k : Nat) (Ap : Option Addr) (cp : Nat) (p : List Grp) (Aq : Option Addr) (cq : Nat) (q : List Grp) (hp : Kd.C kGrp w Ap p.length p) (hq : Kd.C kGrp w Aq q.length q) (gp : ∀ g, g ∈ p → 0 ≤ g.f1) (gq : ∀ g, g ∈ q → 0 ≤ g.f1) (lp : p.length ≤ 1000) (lq : q.length ≤ 1000) (hn : n ≤ 1000) (hh : h ≤ 4000) (hnh : (h + 1) * n ≤ 4000) :
  Calls Try.prog 25 #[.agg (caseCells a0 a1 l2 a3 a4 a5 l6 l7 l8 l9 A2 c2 A6 c6 A7 c7 A8 c8 A9 c9), .agg #[.int .i64 n, .bool b, .slice A k c], .slice Ap p.length cp, .slice Aq q.length cq, .int .i64 h] w (CSlAt n h (keepsOf b p q) w) := by
 have HC9 := Lib.hid o.r9
 have HU9 := Lib.hid o.u9
 have HP := Lib.hid hp
 have HQ := Lib.hid hq
 have HG0 := Lib.hid (And.intro gp gq)
 have hu := Try.underlying32
 have hu2 := Try.underlying29
 have hu4 := Try.underlying88
 obtain ⟨bv, hbv⟩ : ∃ bv : Nat → Int, bv = fun v => if v < l9.length then rd l9 (v : Int) else 0 := ⟨_, rfl⟩
 obtain ⟨tv, htv⟩ : ∃ tv : Nat → Int, tv = fun v => (bv v).tmod ((h : Int) + 2) := ⟨_, rfl⟩
 have HBV := Lib.hid hbv
 have HTV := Lib.hid htv
 have HNH := Lib.hid hnh
 clear o hp hq gp gq hbv htv hnh
 go_enter Try.func25, Try.ntmps25
 obtain ⟨w1, hw1⟩ : ∃ w1, w1 = (w.alloc (.cells (caseCells a0 a1 l2 a3 a4 a5 l6 l7 l8 l9 A2 c2 A6 c6 A7 c7 A8 c8 A9 c9) 29)).alloc (.cells #[.int .i64 n, .bool b, .slice A k c] 32) := ⟨_, rfl⟩
 have HX : Hid (w1.heap[w.heap.size]? = some (.cells (caseCells a0 a1 l2 a3 a4 a5 l6 l7 l8 l9 A2 c2 A6 c6 A7 c7 A8 c8 A9 c9) 29 (0, 0)) ∧ w1.heap[w.heap.size + 1]? = some (.cells #[.int .i64 n, .bool b, .slice A k c] 32 (0, 0)) ∧ Below w.heap.size w w1) := Lib.hid (by
  rw [hw1]
  exact ⟨blk_alloc (heap_alloc_new _ _) _, alloc_at (by rw [alloc_size]), below_alloc (below_alloc (Below.refl _ _) _) _⟩)
 go_wp2
 rw [← hw1]
 clear hw1
 go_loopg [11, 12] (h + 2) (fun m ov iv W => ∃ (z : Nat) (X : List Slot) (Ao : Option Addr) (co : Nat), z ≤ h + 1 ∧ ov = .slice Ao X.length co ∧ iv = .int .i64 z ∧ m = h + 2 - z ∧ Hid (CSl n h (keepsOf b p q) tv z 0 X ∧ Kd.R kSlot 88 W w.heap.size (fun _ => True) (.slice Ao X.length co) X ∧ W.heap[w.heap.size]? = some (.cells (caseCells a0 a1 l2 a3 a4 a5 l6 l7 l8 l9 A2 c2 A6 c6 A7 c7 A8 c8 A9 c9) 29 (0, 0)) ∧ W.heap[w.heap.size + 1]? = some (.cells #[.int .i64 n, .bool b, .slice A k c] 32 (0, 0)) ∧ Below w.heap.size w W))
 case atStart => exact ⟨0, [], none, 0, by omega, rfl, rfl, rfl, Lib.hid ⟨CSl.zero _ _ _ _, Kd.R_nil _ _ _ _ _, HX.out⟩⟩
 case round =>
  obtain ⟨z, X, Ao, co, hz, rfl, rfl, rfl, HL⟩ := hrel
  clear HX
  by_cases hzl : z ≤ h
  ·have hzl2 : (z : Int) ≤ (h : Int) := by omega
   go_wp2
   go_loopg [11, 13] (n + 1) (fun m ov iv W => ∃ (v : Nat) (X : List Slot) (Ao : Option Addr) (co : Nat), v ≤ n ∧ ov = .slice Ao X.length co ∧ iv = .int .i64 v ∧ m = n + 1 - v ∧ Hid (CSl n h (keepsOf b p q) tv z v X ∧ Kd.R kSlot 88 W w.heap.size (fun _ => True) (.slice Ao X.length co) X ∧ W.heap[w.heap.size]? = some (.cells (caseCells a0 a1 l2 a3 a4 a5 l6 l7 l8 l9 A2 c2 A6 c6 A7 c7 A8 c8 A9 c9) 29 (0, 0)) ∧ W.heap[w.heap.size + 1]? = some (.cells #[.int .i64 n, .bool b, .slice A k c] 32 (0, 0)) ∧ Below w.heap.size w W))
   case atStart => exact ⟨0, X, Ao, co, Nat.zero_le _, rfl, rfl, rfl, HL⟩
   case round =>
    clear HL
    obtain ⟨v, X, Ao, co, hv, rfl, rfl, rfl, HL⟩ := hrel
    have x9 : wr.cell? ⟨w.heap.size, 9, none⟩ = some (.slice A9 l9.length c9) := (blk_cell HL.out.2.2.1 9).trans rfl
    have y0 : wr.cell? ⟨w.heap.size + 1, 0, none⟩ = some (.int .i64 n) := (blk_cell HL.out.2.2.2.1 0).trans rfl
    have y1 : wr.cell? ⟨w.heap.size + 1, 1, none⟩ = some (.bool b) := (blk_cell HL.out.2.2.2.1 1).trans rfl
    have y2 : wr.cell? ⟨w.heap.size + 1, 2, none⟩ = some (.slice A k c) := (blk_cell HL.out.2.2.2.1 2).trans rfl
    by_cases hvl : v < n
    ·have hvl2 : (v : Int) < (n : Int) := by omega
     have hXl : X.length ≤ 1000000 := by
      have h8 := HL.out.1.le
      have h7 : z * n ≤ (h + 1) * n := Nat.mul_le_mul_right n (by omega)
      have h6 := HNH.out
      omega
     by_cases hbl : v < l9.length
     ·have v0 : (0 : Int) ≤ (v : Int) := by omega
      have hbl2 : (v : Int) < (l9.length : Int) := by omega
      obtain ⟨ae, eb, z0⟩ := Kd.at_int (Kd.C_below HC9.out HL.out.2.2.2.2) (v : Int) v0 hbl2
      subst eb
      obtain ⟨B, hB⟩ : ∃ B, B = rd l9 (v : Int) := ⟨_, rfl⟩
      have hBu := u16_range (HU9.out B (by
       rw [hB]
       unfold rd
       rw [Int.toNat_natCast, List.getD_eq_getElem?_getD, List.getElem?_eq_getElem hbl]
       exact List.getElem_mem _))
      rw [Int.toNat_natCast, ← hB] at z0
      obtain ⟨T, hT⟩ : ∃ T, B.tmod ((h : Int) + 2) = T := ⟨_, rfl⟩
      have HTE : Hid (tv v = T) := Lib.hid (by rw [HTV.out, HBV.out]; show (if v < l9.length then rd l9 (v : Int) else 0).tmod ((h : Int) + 2) = T; rw [if_pos hbl, ← hB]; exact hT)
      have e2 : IntKind.i64.wrap B = B := IntWalk.i64_in _ (by omega)
      have e1 : IntKind.i64.wrap ((h : Int) + 2) = (h : Int) + 2 := IntWalk.i64_in _ (by omega)
      have hnz : ¬ (h : Int) + 2 = 0 := by omega
      obtain ⟨ib, hib⟩ : ∃ ib, (Go.bits .and .u16 (B / 2 ^ min z 16) 1 == 1) = ib := ⟨_, rfl⟩
      clear hB
      cases hkb : keepsOf b p q v with
      | false =>
       have HKB := Lib.hid hkb
       clear hkb
       cases ib with
       | true =>
        go_wp2_with (first
         |(go_at_call 44; go_loud ((with_reducible refine (rkeeps_walk n b (.slice A k c) Ap cp p Aq cq q v _ ?s1 ?s2 ?s3 ?s4 ?s5 ?s6).mono ?_); (case s1 => exact Kd.C_below HP.out HL.out.2.2.2.2); (case s2 => exact Kd.C_below HQ.out HL.out.2.2.2.2); (case s3 => omega); (case s4 => omega); (case s5 => exact HG0.out.1); (case s6 => exact HG0.out.2); rintro e w6 ⟨rfl, hb⟩; rw [show (b || (hasK (putGs p) (v : Int) || hasK (putGs q) (v : Int))) = false from HKB.out]; have HM := Lib.hid (And.intro (Kd.R_below HL.out.2.1 hb) (And.intro (blk_below HL.out.2.2.1 hb) (And.intro (blk_below HL.out.2.2.2.1 hb) (below_step HL.out.2.2.2.2 hb)))); clear x9 y0 y1 y2 hb))
         |((with_reducible refine gate_dst (N := 60) rfl ?_); (refine gA (w0 := w) (base := w.heap.size) appSlot X ⟨(v : Int), (z : Int)⟩ ?aO ?aB ?aS ?aL ?_); (case aO => exact HM.out.1); (case aB => exact HM.out.2.2.2); (case aS => exact HM.out.2.2.2.size); (case aL => exact hXl); go_loud (intro A1 c1 w9 ho hb hg; have HF := Lib.hid (And.intro ho (And.intro (blk_grown HM.out.2.1 hg (Kd.R_ne HM.out.1 HM.out.2.1 (by decide))) (And.intro (blk_grown HM.out.2.2.1 hg (Kd.R_ne HM.out.1 HM.out.2.2.1 (by decide))) hb))); clear ho hb hg)))
        go_roundg (n - v)
        case measure => omega
        case rel => exact ⟨v + 1, X ++ [⟨(v : Int), (z : Int)⟩], A1, c1, by omega, by rw [List.length_append]; rfl, by go_num, by omega, Lib.hid ⟨CSl.yes HL.out.1 hvl hzl (fun e => by rw [HKB.out] at e; cases e), by rw [List.length_append]; exact HF.out.1, HF.out.2⟩⟩
       | false =>
        go_wp2_with (go_at_call 44; go_loud ((with_reducible refine (rkeeps_walk n b (.slice A k c) Ap cp p Aq cq q v _ ?s1 ?s2 ?s3 ?s4 ?s5 ?s6).mono ?_); (case s1 => exact Kd.C_below HP.out HL.out.2.2.2.2); (case s2 => exact Kd.C_below HQ.out HL.out.2.2.2.2); (case s3 => omega); (case s4 => omega); (case s5 => exact HG0.out.1); (case s6 => exact HG0.out.2); rintro e w6 ⟨rfl, hb⟩; rw [show (b || (hasK (putGs p) (v : Int) || hasK (putGs q) (v : Int))) = false from HKB.out]; have HM := Lib.hid (And.intro (Kd.R_below HL.out.2.1 hb) (And.intro (blk_below HL.out.2.2.1 hb) (And.intro (blk_below HL.out.2.2.2.1 hb) (below_step HL.out.2.2.2.2 hb)))); clear x9 y0 y1 y2 hb))
        go_roundg (n - v)
        case measure => omega
        case rel => exact ⟨v + 1, X, Ao, co, by omega, rfl, by go_num, by omega, Lib.hid ⟨CSl.no HL.out.1 (fun e => by rw [HKB.out] at e; cases e), HM.out⟩⟩
      | true =>
       have HKB := Lib.hid hkb
       clear hkb
       by_cases hTz : T ≤ (z : Int)
       ·have HTZ := Lib.hid hTz
        go_wp2_with (first
         |(go_at_call 44; go_loud ((with_reducible refine (rkeeps_walk n b (.slice A k c) Ap cp p Aq cq q v _ ?s1 ?s2 ?s3 ?s4 ?s5 ?s6).mono ?_); (case s1 => exact Kd.C_below HP.out HL.out.2.2.2.2); (case s2 => exact Kd.C_below HQ.out HL.out.2.2.2.2); (case s3 => omega); (case s4 => omega); (case s5 => exact HG0.out.1); (case s6 => exact HG0.out.2); rintro e w6 ⟨rfl, hb⟩; rw [show (b || (hasK (putGs p) (v : Int) || hasK (putGs q) (v : Int))) = true from HKB.out]; have HM := Lib.hid (And.intro (Kd.R_below HL.out.2.1 hb) (And.intro (blk_below HL.out.2.2.1 hb) (And.intro (blk_below HL.out.2.2.2.1 hb) (below_step HL.out.2.2.2.2 hb)))); clear x9 y0 y1 y2 hb))
         |((with_reducible refine gate_dst (N := 60) rfl ?_); (refine gA (w0 := w) (base := w.heap.size) appSlot X ⟨(v : Int), (z : Int)⟩ ?aO ?aB ?aS ?aL ?_); (case aO => exact HM.out.1); (case aB => exact HM.out.2.2.2); (case aS => exact HM.out.2.2.2.size); (case aL => exact hXl); go_loud (intro A1 c1 w9 ho hb hg; have HF := Lib.hid (And.intro ho (And.intro (blk_grown HM.out.2.1 hg (Kd.R_ne HM.out.1 HM.out.2.1 (by decide))) (And.intro (blk_grown HM.out.2.2.1 hg (Kd.R_ne HM.out.1 HM.out.2.2.1 (by decide))) hb))); clear ho hb hg)))
        go_roundg (n - v)
        case measure => omega
        case rel => exact ⟨v + 1, X ++ [⟨(v : Int), (z : Int)⟩], A1, c1, by omega, by rw [List.length_append]; rfl, by go_num, by omega, Lib.hid ⟨CSl.yes HL.out.1 hvl hzl (fun _ => by rw [HTE.out]; have := HTZ.out; omega), by rw [List.length_append]; exact HF.out.1, HF.out.2⟩⟩
       ·have HTZ := Lib.hid hTz
        go_wp2_with (go_at_call 44; go_loud ((with_reducible refine (rkeeps_walk n b (.slice A k c) Ap cp p Aq cq q v _ ?s1 ?s2 ?s3 ?s4 ?s5 ?s6).mono ?_); (case s1 => exact Kd.C_below HP.out HL.out.2.2.2.2); (case s2 => exact Kd.C_below HQ.out HL.out.2.2.2.2); (case s3 => omega); (case s4 => omega); (case s5 => exact HG0.out.1); (case s6 => exact HG0.out.2); rintro e w6 ⟨rfl, hb⟩; rw [show (b || (hasK (putGs p) (v : Int) || hasK (putGs q) (v : Int))) = true from HKB.out]; have HM := Lib.hid (And.intro (Kd.R_below HL.out.2.1 hb) (And.intro (blk_below HL.out.2.2.1 hb) (And.intro (blk_below HL.out.2.2.2.1 hb) (below_step HL.out.2.2.2.2 hb)))); clear x9 y0 y1 y2 hb))
        go_roundg (n - v)
        case measure => omega
        case rel => exact ⟨v + 1, X, Ao, co, by omega, rfl, by go_num, by omega, Lib.hid ⟨CSl.no HL.out.1 (fun _ => by rw [HTE.out]; have := HTZ.out; omega), HM.out⟩⟩
     ·have hbl2 : ¬ (v : Int) < (l9.length : Int) := by omega
      have HTE : Hid (tv v = 0) := Lib.hid (by rw [HTV.out, HBV.out]; show (if v < l9.length then rd l9 (v : Int) else 0).tmod ((h : Int) + 2) = 0; rw [if_neg hbl]; exact Int.zero_tmod _)
      have e1 : IntKind.i64.wrap ((h : Int) + 2) = (h : Int) + 2 := IntWalk.i64_in _ (by omega)
      have hnz : ¬ (h : Int) + 2 = 0 := by omega
      have hib : (Go.bits .and .u16 0 1 == 1) = false := by decide
      have hz0 : (0 : Int).tmod ((h : Int) + 2) = 0 := Int.zero_tmod _
      have hz1 : (0 : Int) ≤ (z : Int) := by omega
      cases hkb : keepsOf b p q v with
      | false =>
       have HKB := Lib.hid hkb
       clear hkb
       go_wp2_with (go_at_call 44; go_loud ((with_reducible refine (rkeeps_walk n b (.slice A k c) Ap cp p Aq cq q v _ ?s1 ?s2 ?s3 ?s4 ?s5 ?s6).mono ?_); (case s1 => exact Kd.C_below HP.out HL.out.2.2.2.2); (case s2 => exact Kd.C_below HQ.out HL.out.2.2.2.2); (case s3 => omega); (case s4 => omega); (case s5 => exact HG0.out.1); (case s6 => exact HG0.out.2); rintro e w6 ⟨rfl, hb⟩; rw [show (b || (hasK (putGs p) (v : Int) || hasK (putGs q) (v : Int))) = false from HKB.out]; have HM := Lib.hid (And.intro (Kd.R_below HL.out.2.1 hb) (And.intro (blk_below HL.out.2.2.1 hb) (And.intro (blk_below HL.out.2.2.2.1 hb) (below_step HL.out.2.2.2.2 hb)))); clear x9 y0 y1 y2 hb))
       go_roundg (n - v)
       case measure => omega
       case rel => exact ⟨v + 1, X, Ao, co, by omega, rfl, by go_num, by omega, Lib.hid ⟨CSl.no HL.out.1 (fun e => by rw [HKB.out] at e; cases e), HM.out⟩⟩
      | true =>
       have HKB := Lib.hid hkb
       clear hkb
       go_wp2_with (first
        |(go_at_call 44; go_loud ((with_reducible refine (rkeeps_walk n b (.slice A k c) Ap cp p Aq cq q v _ ?s1 ?s2 ?s3 ?s4 ?s5 ?s6).mono ?_); (case s1 => exact Kd.C_below HP.out HL.out.2.2.2.2); (case s2 => exact Kd.C_below HQ.out HL.out.2.2.2.2); (case s3 => omega); (case s4 => omega); (case s5 => exact HG0.out.1); (case s6 => exact HG0.out.2); rintro e w6 ⟨rfl, hb⟩; rw [show (b || (hasK (putGs p) (v : Int) || hasK (putGs q) (v : Int))) = true from HKB.out]; have HM := Lib.hid (And.intro (Kd.R_below HL.out.2.1 hb) (And.intro (blk_below HL.out.2.2.1 hb) (And.intro (blk_below HL.out.2.2.2.1 hb) (below_step HL.out.2.2.2.2 hb)))); clear x9 y0 y1 y2 hb))
        |((with_reducible refine gate_dst (N := 60) rfl ?_); (refine gA (w0 := w) (base := w.heap.size) appSlot X ⟨(v : Int), (z : Int)⟩ ?aO ?aB ?aS ?aL ?_); (case aO => exact HM.out.1); (case aB => exact HM.out.2.2.2); (case aS => exact HM.out.2.2.2.size); (case aL => exact hXl); go_loud (intro A1 c1 w9 ho hb hg; have HF := Lib.hid (And.intro ho (And.intro (blk_grown HM.out.2.1 hg (Kd.R_ne HM.out.1 HM.out.2.1 (by decide))) (And.intro (blk_grown HM.out.2.2.1 hg (Kd.R_ne HM.out.1 HM.out.2.2.1 (by decide))) hb))); clear ho hb hg)))
       go_roundg (n - v)
       case measure => omega
       case rel => exact ⟨v + 1, X ++ [⟨(v : Int), (z : Int)⟩], A1, c1, by omega, by rw [List.length_append]; rfl, by go_num, by omega, Lib.hid ⟨CSl.yes HL.out.1 hvl hzl (fun _ => by rw [HTE.out]; exact hz1), by rw [List.length_append]; exact HF.out.1, HF.out.2⟩⟩
    ·have e : v = n := by omega
     subst e
     go_wp2
     go_roundg (h + 1 - z)
     case measure => omega
     case rel => exact ⟨z + 1, X, Ao, co, by omega, rfl, by go_num, by omega, Lib.hid ⟨HL.out.1.row, HL.out.2⟩⟩
  ·have e : z = h + 1 := by omega
   have hzl2 : ¬ (z : Int) ≤ (h : Int) := by omega
   go_wp2
   go_ret
   exact ⟨X, tv, Ao, co, rfl, HL.out.2.1, by rw [← e]; exact HL.out.1, HL.out.2.2.2.2⟩
end
end Go.Proofs.Ytcgdloldkcmhnaa.H
end
section
namespace Go.Proofs.Ytcgdloldkcmhnaa.H
open Go Go.RowKit Go.Proofs.Ytcgdloldkcmhnaa.PrintC Go.Proofs.Ytcgdloldkcmhnaa.PrintE Go.Proofs.YtcgdloldkcmhnaaW.PrintWords Go.Proofs.YtcgdloldkcmhnaaW.PrintLast Go.Proofs.YtcgdloldkcmhnaaW.PrintMore Go.Proofs.Ytcgdloldkcmhnaa.Flow
abbrev lineL : List Arc := [⟨0, 1, 2, 1⟩, ⟨1, 2, 2, 1⟩]
abbrev pL : List Grp := [⟨0, 3⟩]
abbrev qL : List Grp := [⟨2, 5⟩]
theorem line_sm : NetSm 6 (3 : Nat) lineL where
 n2 := by decide
 n5 := by decide
 ll := by decide
 arc x hx := by
  simp only [lineL, List.mem_cons, List.not_mem_nil, or_false] at hx
  rcases hx with rfl | rfl <;> decide
theorem line_gi : GI (3 : Nat) pL qL where
 p0 := by simp
 q0 := by simp
 gp g hg := by
  obtain rfl := List.mem_singleton.1 hg
  decide
 gq g hg := by
  obtain rfl := List.mem_singleton.1 hg
  decide
 dp := by simp
 dq := by simp
 apart g hg x hx := by
  obtain rfl := List.mem_singleton.1 hg
  obtain rfl := List.mem_singleton.1 hx
  decide
theorem line_ask {h : Nat} (hh : h ≤ 16) : AskOk 3 h lineL pL qL := ask_of (m := 6) (by omega) line_sm line_gi hh
theorem useL (x : Arc) : useOf qL x = !decide (x.f0 = 2) := by
 unfold useOf
 rw [hasK_putGs]
 simp [eq_comm]
theorem keepsL (v : Nat) : keepsOf false pL qL v = (decide ((v : Int) = 0) || decide ((v : Int) = 2)) := by
 unfold keepsOf
 rw [hasK_putGs, hasK_putGs]
 simp [eq_comm]
theorem useL_is : useOf qL = fun x => !decide (x.f0 = 2) := funext useL
theorem keepsL_is : keepsOf false pL qL = fun v : Nat => (decide ((v : Int) = 0) || decide ((v : Int) = 2)) := funext keepsL
theorem line2 : evArcs lineL (useOf qL) (keepsOf false pL qL) 3 2 9 10 pL qL = [⟨0, 4, 2, 0⟩, ⟨1, 5, 2, 0⟩, ⟨0, 3, 1099511627776, 0⟩, ⟨2, 5, 1099511627776, 0⟩, ⟨3, 7, 2, 0⟩, ⟨4, 8, 2, 0⟩, ⟨3, 6, 1099511627776, 0⟩, ⟨5, 8, 1099511627776, 0⟩, ⟨9, 0, 3, 0⟩, ⟨8, 10, 5, 0⟩] := by
 rw [useL_is, keepsL_is]
 rfl
theorem line3 : evArcs lineL (useOf qL) (keepsOf false pL qL) 3 3 12 13 pL qL = [⟨0, 4, 2, 0⟩, ⟨1, 5, 2, 0⟩, ⟨0, 3, 1099511627776, 0⟩, ⟨2, 5, 1099511627776, 0⟩, ⟨3, 7, 2, 0⟩, ⟨4, 8, 2, 0⟩, ⟨3, 6, 1099511627776, 0⟩, ⟨5, 8, 1099511627776, 0⟩, ⟨6, 10, 2, 0⟩, ⟨7, 11, 2, 0⟩, ⟨6, 9, 1099511627776, 0⟩, ⟨8, 11, 1099511627776, 0⟩, ⟨12, 0, 3, 0⟩, ⟨11, 13, 5, 0⟩] := by
 rw [useL_is, keepsL_is]
 rfl
theorem line_two : mostV 3 2 false lineL pL qL = 2 := by
 obtain ⟨⟨S, h1, h2, h3⟩, h4⟩ := ((line_ask (h := 2) (by decide)).place).cut false
 have u := h4 (fun v => decide (v = 9) || decide (v = 0) || decide (v = 3) || decide (v = 6) || decide (v = 7)) (by decide) (by decide)
 unfold evCut at u h3
 rw [show evArcs lineL (useOf qL) (keepsOf false pL qL) 3 2 ((2 + 1) * 3) ((2 + 1) * 3 + 1) pL qL = _ from line2] at u h3
 have u2 : cutL (fun v => decide (v = 9) || decide (v = 0) || decide (v = 3) || decide (v = 6) || decide (v = 7)) [⟨0, 4, 2, 0⟩, ⟨1, 5, 2, 0⟩, ⟨0, 3, 1099511627776, 0⟩, ⟨2, 5, 1099511627776, 0⟩, ⟨3, 7, 2, 0⟩, ⟨4, 8, 2, 0⟩, ⟨3, 6, 1099511627776, 0⟩, ⟨5, 8, 1099511627776, 0⟩, ⟨9, 0, 3, 0⟩, ⟨8, 10, 5, 0⟩] = 2 := by decide +kernel
 rw [u2] at u
 have h1' : S 9 = true := h1
 have h2' : S 10 = false := h2
 have lo : 2 ≤ cutL S [⟨0, 4, 2, 0⟩, ⟨1, 5, 2, 0⟩, ⟨0, 3, 1099511627776, 0⟩, ⟨2, 5, 1099511627776, 0⟩, ⟨3, 7, 2, 0⟩, ⟨4, 8, 2, 0⟩, ⟨3, 6, 1099511627776, 0⟩, ⟨5, 8, 1099511627776, 0⟩, ⟨9, 0, 3, 0⟩, ⟨8, 10, 5, 0⟩] := by
  simp only [cutL, cutA, h1', h2']
  generalize S 0 = x0
  generalize S 1 = x1
  generalize S 2 = x2
  generalize S 3 = x3
  generalize S 4 = x4
  generalize S 5 = x5
  generalize S 6 = x6
  generalize S 7 = x7
  generalize S 8 = x8
  revert x0 x1 x2 x3 x4 x5 x6 x7 x8
  decide +kernel
 omega
theorem line_three : mostV 3 3 false lineL pL qL = 3 := by
 have hp := (line_ask (h := 3) (by decide)).place
 obtain ⟨⟨S, h1, h2, h3⟩, -⟩ := hp.cut false
 have u := hp.le_total false
 have ut : totalV pL = 3 := by decide
 rw [ut] at u
 unfold evCut at h3
 rw [show evArcs lineL (useOf qL) (keepsOf false pL qL) 3 3 ((3 + 1) * 3) ((3 + 1) * 3 + 1) pL qL = _ from line3] at h3
 have h1' : S 12 = true := h1
 have h2' : S 13 = false := h2
 have lo : 3 ≤ cutL S [⟨0, 4, 2, 0⟩, ⟨1, 5, 2, 0⟩, ⟨0, 3, 1099511627776, 0⟩, ⟨2, 5, 1099511627776, 0⟩, ⟨3, 7, 2, 0⟩, ⟨4, 8, 2, 0⟩, ⟨3, 6, 1099511627776, 0⟩, ⟨5, 8, 1099511627776, 0⟩, ⟨6, 10, 2, 0⟩, ⟨7, 11, 2, 0⟩, ⟨6, 9, 1099511627776, 0⟩, ⟨8, 11, 1099511627776, 0⟩, ⟨12, 0, 3, 0⟩, ⟨11, 13, 5, 0⟩] := by
  simp only [cutL, cutA, h1', h2']
  generalize S 0 = x0
  generalize S 1 = x1
  generalize S 2 = x2
  generalize S 3 = x3
  generalize S 4 = x4
  generalize S 5 = x5
  generalize S 6 = x6
  generalize S 7 = x7
  generalize S 8 = x8
  generalize S 9 = x9
  generalize S 10 = x10
  generalize S 11 = x11
  revert x0 x1 x2 x3 x4 x5 x6 x7 x8 x9 x10 x11
  decide +kernel
 omega
theorem line_bad {k : Nat} (hk : 300 ≤ k) : evac_Most.f k 3 false lineL pL pL 2 = some (0, 210) := by
 have c1 := check_good (b := false) (line_ask (h := 2) (by decide)).net hk
 have c2 : groupsC 3 pL pL = 210 := by decide +kernel
 have ok : okG pL = true ∧ okG pL = true := ⟨(line_ask (h := 2) (by decide)).okp.1, (line_ask (h := 2) (by decide)).okp.1⟩
 have hb : begunF k 3 false lineL pL pL 2 = some 210 := by
  unfold begunF
  rw [show netfmt_Check.f k 3 false lineL = some 0 from c1, Option.bind_some, if_pos rfl, c2, if_neg (by decide)]
 unfold evac_Most.f
 rw [if_pos ok, hb, Option.bind_some, if_neg (by decide)]
theorem line_most : evac_Most.f 300 3 false lineL pL qL 2 = some (2, 0) := by
 have h2 := (line_ask (h := 2) (by decide)).most false (k := 300) (by decide)
 rw [line_two] at h2
 exact h2
theorem line_least : evac_Least.f 300 3 false lineL pL qL 9 = some (3, true, 0) := by
 have h9 := (line_ask (h := 9) (by decide)).least false (k := 300) (by decide)
 have hp9 := (line_ask (h := 9) (by decide)).place
 have t3 : totalV pL = 3 := by decide
 have e9 : mostV 3 9 false lineL pL qL = totalV pL := by
  have m1 := PlaceOk.mono_le (m := 3) (h := 9) false hp9 (by decide)
  have m2 := hp9.le_total false
  rw [line_three] at m1
  omega
 obtain ⟨f1, f2, f3⟩ := (line_ask (h := 9) (by decide)).first false e9
 have hb : bsr (fun k => mostV 3 k false lineL pL qL == totalV pL) 0 9 = 3 := by
  generalize bsr (fun k => mostV 3 k false lineL pL qL == totalV pL) 0 9 = z at f1 f2 f3
  by_cases c : z < 3
  ·have m1 := PlaceOk.mono_le (m := z) (h := 2) false (hp9.le (by decide)) (by omega)
   rw [line_two] at m1
   omega
  ·by_cases c2 : 3 < z
   ·have := f2 3 c2
    rw [line_three] at this
    omega
   ·omega
 rw [hb, if_pos (by simpa using e9), e9] at h9
 rw [show (some (3, true, 0) : Option (Int × Bool × Int)) = some (((3 : Nat) : Int), totalV pL == totalV pL, 0) by simp]
 exact h9
end Go.Proofs.Ytcgdloldkcmhnaa.H
end
section
namespace Go.Proofs.Ytcgdloldkcmhnaa.H
open Go Go.RowKit Go.Proofs.Ytcgdloldkcmhnaa.PrintC Go.Proofs.Ytcgdloldkcmhnaa.PrintE Go.Proofs.YtcgdloldkcmhnaaW.PrintWords Go.Proofs.YtcgdloldkcmhnaaW.PrintLast Go.Proofs.YtcgdloldkcmhnaaW.PrintMore Go.Proofs.Ytcgdloldkcmhnaa.Flow
set_option linter.unusedVariables false
set_option linter.unusedSimpArgs false
theorem arcs_blk {W : World} {g : Nat} {l : List Arc} (hl : l.length ≤ 100000) (h : W.heap[g]? = some (.cells (arcCells l).toArray 79 (0, 0))) : Kd.C kArc W (some ⟨g, 0, none⟩) l.length l := by
 refine ⟨rfl, by omega, fun _ => ⟨_, rfl, fun j p hj => ⟨[.int .i64 p.f0, .int .i64 p.f1, .int .i64 p.f2, .int .i64 p.f3], rfl, k79_mk _ p, fun i u hu => ?_⟩⟩⟩
 have h1 := arcCells_get l j p hj i u hu
 have h2 : W.cell? ⟨g, j * 4 + i, none⟩ = some u := by
  refine (blk_cell h (j * 4 + i)).trans ?_
  rw [List.getElem?_toArray]
  exact h1
 have h3 : (Addr.add ⟨g, 0, none⟩ (j * kArc.sz + i)) = ⟨g, j * 4 + i, none⟩ := by
  have : kArc.sz = 4 := rfl
  rw [this]
  unfold Addr.add
  split
  ·rename_i h4
   rw [h4]
  ·simp
 rw [h3]
 exact h2
theorem grp_blk {W : World} {g : Nat} {a b : Int} (h : W.heap[g]? = some (.cells #[.int .i64 a, .int .i64 b] 44 (0, 0))) : Kd.C kGrp W (some ⟨g, 0, none⟩) 1 [⟨a, b⟩] := by
 refine ⟨rfl, by simp, fun _ => ⟨_, rfl, fun j p hj => ?_⟩⟩
 have hj0 : j = 0 := by have := (List.getElem?_eq_some_iff.1 hj).1; simpa using this
 subst hj0
 have e : (⟨a, b⟩ : Grp) = p := by simpa using hj
 subst e
 refine ⟨[.int .i64 a, .int .i64 b], rfl, k44_mk _ ⟨a, b⟩, fun i u hu => ?_⟩
 match i, hu with
 | 0, hu => exact (blk_cell h 0).trans hu
 | 1, hu => exact (blk_cell h 1).trans hu
 | i + 2, hu => simp at hu
set_option maxHeartbeats 4000000 in
set_option maxRecDepth 100000 in
theorem line_walk (b : Bool) (w : World) : Calls Try.prog 34 #[.bool b] w fun e w' => ∃ g, e = .returned (.agg #[.int .i64 3, .bool b, .slice (some ⟨g, 0, none⟩) 2 2]) ∧ Kd.C kArc w' (some ⟨g, 0, none⟩) 2 lineL ∧ Below w.heap.size w w' := by
 have hu := Try.underlying32
 go_enter Try.func34, Try.ntmps34
 go_wp2
 refine bodyPost_ret (results_cell_row rfl _ _ w.heap.size 32 #[.int .i64 3, .bool b, .slice (some ⟨w.heap.size + 1, 0, none⟩) 2 2] (0, 0) _ rfl (blk_alloc (heap_alloc_new w _) _) hu rfl (by kernel_rfl)) rfl ?_
 exact ⟨_, rfl, arcs_blk (l := lineL) (by decide) (alloc_at (by simp)), below_alloc (below_alloc (Below.refl _ _) _) _⟩
theorem most_line {A Ap Aq : Option Addr} {w : World} (hA : Kd.C kArc w A 2 lineL) (hp : Kd.C kGrp w Ap 1 pL) (hq : Kd.C kGrp w Aq 1 qL) :
  Calls Try.prog 14 #[.agg #[.int .i64 3, .bool false, .slice A 2 2], .slice Ap 1 1, .slice Aq 1 1, .int .i64 2] w fun e w' => e = .returned (.tuple #[.int .i64 2, .int .i64 0]) ∧ Below w.heap.size w w' :=
 evac_Most.calls 300 3 false A 2 lineL Ap 1 pL Aq 1 qL 2 2 0 w hA (Nat.le_refl _) hp (Nat.le_refl _) hq (Nat.le_refl _) line_most
theorem least_line {A Ap Aq : Option Addr} {w : World} (hA : Kd.C kArc w A 2 lineL) (hp : Kd.C kGrp w Ap 1 pL) (hq : Kd.C kGrp w Aq 1 qL) :
  Calls Try.prog 11 #[.agg #[.int .i64 3, .bool false, .slice A 2 2], .slice Ap 1 1, .slice Aq 1 1, .int .i64 9] w fun e w' => e = .returned (.tuple #[.int .i64 3, .bool true, .int .i64 0]) ∧ Below w.heap.size w w' :=
 evac_Least.calls 300 3 false A 2 lineL Ap 1 pL Aq 1 qL 9 3 true 0 w hA (Nat.le_refl _) hp (Nat.le_refl _) hq (Nat.le_refl _) line_least
theorem bad_line {A Ap : Option Addr} {w : World} (hA : Kd.C kArc w A 2 lineL) (hp : Kd.C kGrp w Ap 1 pL) :
  Calls Try.prog 14 #[.agg #[.int .i64 3, .bool false, .slice A 2 2], .slice Ap 1 1, .slice Ap 1 1, .int .i64 2] w fun e w' => e = .returned (.tuple #[.int .i64 0, .int .i64 210]) ∧ Below w.heap.size w w' :=
 evac_Most.calls 300 3 false A 2 lineL Ap 1 pL Ap 1 pL 2 0 210 w hA (Nat.le_refl _) hp (Nat.le_refl _) hp (Nat.le_refl _) (line_bad (k := 300) (Nat.le_refl _))
set_option maxHeartbeats 4000000 in
set_option maxRecDepth 100000 in
theorem awake_walk (w : World) : Calls Try.prog 13 #[] w fun e w' => e = .returned (.bool true) ∧ Below w.heap.size w w' := by
 have hu := Try.underlying44
 have hu2 := Try.underlying33
 go_enter Try.func13, Try.ntmps13
 go_wp2_with (go_at_call 34; fail)
 have HP := Lib.hid (grp_blk (blk_alloc (heap_alloc_new w (.cells #[.int .i64 0, .int .i64 3] 44)) (.cells #[.int .i64 2, .int .i64 5] 44)))
 have HQ := Lib.hid (grp_blk (g := w.heap.size + 1) (alloc_at (W := w.alloc (.cells #[.int .i64 0, .int .i64 3] 44)) (o := .cells #[.int .i64 2, .int .i64 5] 44) (by simp)))
 have HB0 := Lib.hid (below_alloc (below_alloc (Below.refl w.heap.size w) (.cells #[.int .i64 0, .int .i64 3] 44)) (.cells #[.int .i64 2, .int .i64 5] 44))
 generalize ((w.alloc (.cells #[.int .i64 0, .int .i64 3] 44)).alloc (.cells #[.int .i64 2, .int .i64 5] 44)) = w1 at HP HQ HB0 ⊢
 have HB := Lib.hid (Below.refl w1.heap.size w1)
 go_wp2_with (first
  |(go_at_call 34; (with_reducible refine (line_walk false _).mono ?_); rintro e w2 ⟨g, rfl, hA, hb⟩; (try clear HA); have HA := Lib.hid hA; have HN := Lib.hid (below_step HB.out hb); clear HB; have HB := HN; clear HN hb hA)
  |(go_at_call 14; (with_reducible refine (most_line HA.out (Kd.C_below HP.out HB.out) (Kd.C_below HQ.out HB.out)).mono ?_); rintro e w2 ⟨rfl, hb⟩; have HN := Lib.hid (below_step HB.out hb); clear HB; have HB := HN; clear HN hb)
  |(go_at_call 11; (with_reducible refine (least_line HA.out (Kd.C_below HP.out HB.out) (Kd.C_below HQ.out HB.out)).mono ?_); rintro e w2 ⟨rfl, hb⟩; have HN := Lib.hid (below_step HB.out hb); clear HB; have HB := HN; clear HN hb)
  |(go_at_call 14; (with_reducible refine (bad_line HA.out (Kd.C_below HP.out HB.out)).mono ?_); rintro e w2 ⟨rfl, hb⟩; have HN := Lib.hid (below_step HB.out hb); clear HB; have HB := HN; clear HN hb))
 go_ret
 exact ⟨rfl, below_step HB0.out HB.out⟩
end Go.Proofs.Ytcgdloldkcmhnaa.H
end
