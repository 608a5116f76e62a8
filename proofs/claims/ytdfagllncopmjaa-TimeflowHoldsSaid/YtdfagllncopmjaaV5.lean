/- Texts of this proof, joined; what the statement doesn't need is left out. -/
import Derived.Test.YtdfagllncopmjaaV4
section
namespace Go.Proofs.Ytdfagllncopmjaa.H
open Go Go.RowKit Go.Proofs.Ytdfagllncopmjaa.PrintC Go.Proofs.YtdfagllncopmjaaW.PrintWords Go.Proofs.YtdfagllncopmjaaW.PrintLast Go.Proofs.YtdfagllncopmjaaW.PrintMore Go.Proofs.Ytdfagllncopmjaa.Flow
set_option linter.unusedVariables false
set_option linter.unusedSimpArgs false
def StP (l : List Arc) (f : List Int) (i : Nat) (L : List Stp) : Prop := (∀ x : Stp, x ∈ L ↔ (0 ≤ x.f0 ∧ x.f0 < (i : Int)) ∧ 0 < rmv l f x) ∧ L.length ≤ 2 * i
theorem StP.zero {l : List Arc} {f : List Int} : StP l f 0 [] := ⟨fun x => ⟨fun h => (nomatch h), fun h => absurd h.1 (fun h2 => by have := h2.1; have := h2.2; omega)⟩, Nat.zero_le _⟩
theorem StP.next {l : List Arc} {f : List Int} {i : Nat} {L : List Stp} (h : StP l f i L) {a b : List Stp} (ha : a = if 0 < rmv l f ⟨i, false⟩ then [⟨i, false⟩] else []) (hb : b = if 0 < rmv l f ⟨i, true⟩ then [⟨i, true⟩] else []) : StP l f (i + 1) (L ++ a ++ b) := by
 refine ⟨fun x => ?_, ?_⟩
 ·have hma : x ∈ a ↔ x = ⟨i, false⟩ ∧ 0 < rmv l f ⟨i, false⟩ := by
   rw [ha]
   split <;> simp_all
  have hmb : x ∈ b ↔ x = ⟨i, true⟩ ∧ 0 < rmv l f ⟨i, true⟩ := by
   rw [hb]
   split <;> simp_all
  rw [List.mem_append, List.mem_append, h.1 x, hma, hmb]
  obtain ⟨y, d⟩ := x
  constructor
  ·rintro ((⟨h1, h2⟩ | ⟨h1, h2⟩) | ⟨h1, h2⟩)
   ·exact ⟨⟨h1.1, by have := h1.2; show y < ((i + 1 : Nat) : Int); have : y < (i : Int) := this; omega⟩, h2⟩
   ·injection h1 with e1 e2
    subst e1 e2
    exact ⟨⟨by show (0 : Int) ≤ (i : Int); omega, by show (i : Int) < ((i + 1 : Nat) : Int); omega⟩, h2⟩
   ·injection h1 with e1 e2
    subst e1 e2
    exact ⟨⟨by show (0 : Int) ≤ (i : Int); omega, by show (i : Int) < ((i + 1 : Nat) : Int); omega⟩, h2⟩
  ·rintro ⟨⟨h1, h2⟩, h3⟩
   have h1 : 0 ≤ y := h1
   have h2 : y < ((i + 1 : Nat) : Int) := h2
   by_cases e : y = (i : Int)
   ·subst e
    cases d
    ·exact .inl (.inr ⟨rfl, h3⟩)
    ·exact .inr ⟨rfl, h3⟩
   ·exact .inl (.inl ⟨⟨h1, by show y < (i : Int); omega⟩, h3⟩)
 ·have la : a.length ≤ 1 := by rw [ha]; split <;> simp
  have lb : b.length ≤ 1 := by rw [hb]; split <;> simp
  rw [List.length_append, List.length_append]
  have := h.2
  omega
end Go.Proofs.Ytdfagllncopmjaa.H
end
section
namespace Go.Proofs.Ytdfagllncopmjaa.H
open Go Go.RowKit Go.Proofs.Ytdfagllncopmjaa.PrintC Go.Proofs.Ytdfagllncopmjaa.PrintE Go.Proofs.YtdfagllncopmjaaW.PrintWords Go.Proofs.YtdfagllncopmjaaW.PrintLast Go.Proofs.YtdfagllncopmjaaW.PrintMore Go.Proofs.Ytdfagllncopmjaa.Flow
set_option linter.unusedVariables false
set_option linter.unusedSimpArgs false
set_option maxHeartbeats 4000000 in
set_option maxRecDepth 100000 in
theorem sameslots_walk (A1 A2 : Option Addr) (c1 c2 : Nat) (X : List Slot) (w : World) (h1 : Kd.C kSlot w A1 X.length X) (h2 : Kd.C kSlot w A2 X.length X) (hl : X.length ≤ 1000000) :
  Calls Try.prog 10 #[.slice A1 X.length c1, .slice A2 X.length c2] w fun e w' => e = .returned (.bool true) ∧ Below w.heap.size w w' := by
 have H1 := zh h1
 have H2 := zh h2
 have hu2 := Try.underlying44
 clear h1 h2
 go_enter Try.func10, Try.ntmps10
 go_wp2
 go_loopg [5] (X.length + 1) (fun k iv W => ∃ i : Nat, i ≤ X.length ∧ iv = .int .i64 i ∧ k = X.length + 1 - i ∧ Hid (Below w.heap.size w W))
 case atStart => exact ⟨0, Nat.zero_le _, rfl, rfl, zh (Below.refl _ _)⟩
 case round =>
  obtain ⟨i, hi, rfl, rfl, HB⟩ := hrel
  by_cases hlt : i < X.length
  ·have i0 : (0 : Int) ≤ (i : Int) := by omega
   have i1 : (i : Int) < (X.length : Int) := by omega
   obtain ⟨a1, e1, y0, y1⟩ := at_T44 (Kd.C_drew (Kd.C_below H1.out HB.out)) (i : Int) i0 i1
   obtain ⟨a2, e2, z0, z1⟩ := at_T44 (Kd.C_drew (Kd.C_below H2.out HB.out)) (i : Int) i0 i1
   subst e1 e2
   rw [Int.toNat_natCast] at y0 y1 z0 z1
   obtain ⟨s, hs⟩ : ∃ s, s = rd_T44 X (i : Int) := ⟨_, rfl⟩
   rw [← hs] at y0 y1 z0 z1
   clear hs
   go_wp2
   refine stepS (S := fun w' => w'.cell? (a1.add (i * 2)) = some (.int .i64 s.f0) ∧ w'.cell? ⟨(a1.add (i * 2)).block, (a1.add (i * 2)).off + 1, none⟩ = some (.int .i64 s.f1) ∧ w'.cell? (a2.add (i * 2)) = some (.int .i64 s.f0) ∧ w'.cell? ⟨(a2.add (i * 2)).block, (a2.add (i * 2)).off + 1, none⟩ = some (.int .i64 s.f1)) (ds := []) 9 (by kernel_rfl) rfl ⟨y0, y1, z0, z1⟩ (fun hHeld => ?_)
   have HB9 := zh (below_drew1 HB.out)
   generalize wr.drew = wd at HB9 hHeld ⊢
   repeat (first | refine rP 9 ?_ | refine rT 9 hHeld ?_)
   refine done_ (by kernel_rfl) ?_
   go_wp2
   go_roundg (X.length - i)
   case measure => omega
   case rel => exact ⟨i + 1, by omega, by go_num, by omega, HB9⟩
  ·have e : i = X.length := by omega
   subst e
   go_wp2
   go_ret
   exact ⟨rfl, HB.out⟩
def slotCells (l : List Slot) : List Value := l.flatMap fun x => [.int .i64 x.f0, .int .i64 x.f1]
theorem slotCells_get : ∀ (l : List Slot) (j : Nat) (x : Slot), l[j]? = some x → ∀ (i : Nat) (u : Value), ([.int .i64 x.f0, .int .i64 x.f1] : List Value)[i]? = some u → (slotCells l)[j * 2 + i]? = some u
 |[], j, x, h, _, _, _ => by simp at h
 |y :: l, 0, x, h, i, u, hu => by
  have e : y = x := by simpa using h
  subst e
  have hi : i < 2 := (List.getElem?_eq_some_iff.1 hu).1
  show ([Value.int .i64 y.f0, .int .i64 y.f1] ++ slotCells l)[0 * 2 + i]? = some u
  rw [Nat.zero_mul, Nat.zero_add, List.getElem?_append_left hi]
  exact hu
 |y :: l, j + 1, x, h, i, u, hu => by
  have h2 : l[j]? = some x := by simpa using h
  show ([Value.int .i64 y.f0, .int .i64 y.f1] ++ slotCells l)[(j + 1) * 2 + i]? = some u
  rw [show (j + 1) * 2 + i = 2 + (j * 2 + i) by omega, List.getElem?_append_right (by simp)]
  simp only [List.length_cons, List.length_nil, Nat.zero_add, Nat.reduceAdd, Nat.add_sub_cancel_left]
  exact slotCells_get l j x h2 i u hu
theorem slots_blk {W : World} {g : Nat} {l : List Slot} (hl : l.length ≤ 100000) (h : W.heap[g]? = some (.cells (slotCells l).toArray 44 (0, 0))) : Kd.C kSlot W (some ⟨g, 0, none⟩) l.length l := by
 refine ⟨rfl, by omega, fun _ => ⟨_, rfl, fun j p hj => ⟨[.int .i64 p.f0, .int .i64 p.f1], rfl, k44_mk _ p, fun i u hu => ?_⟩⟩⟩
 have h1 := slotCells_get l j p hj i u hu
 have h2 : W.cell? ⟨g, j * 2 + i, none⟩ = some u := by
  refine (blk_cell h (j * 2 + i)).trans ?_
  rw [List.getElem?_toArray]
  exact h1
 have h3 : (Addr.add ⟨g, 0, none⟩ (j * kSlot.sz + i)) = ⟨g, j * 2 + i, none⟩ := by
  have : kSlot.sz = 2 := rfl
  rw [this]
  unfold Addr.add
  split
  ·rename_i h4
   rw [h4]
  ·simp
 rw [h3]
 exact h2
abbrev sl3 : List Slot := [⟨0, 0⟩, ⟨0, 1⟩, ⟨1, 1⟩]
theorem five_line {A : Option Addr} {w : World} (hA : Kd.C kArc w A 2 lineL) :
  Calls Try.prog 6 #[.agg #[.int .i64 3, .bool false, .slice A 2 2], .int .i64 0, .int .i64 2, .int .i64 5] w fun e w' => e = .returned (.tuple #[.int .i64 8, .int .i64 0]) ∧ Below w.heap.size w w' := by
 have o := tf_sm (h := 5) (s := 0) (t := 2) (by decide) line_sm (by decide) (by decide) (by decide) (by decide)
 have h := most_walk (n := 3) (h := 5) (s := 0) (t := 2) (b := false) (A := A) (c := 2) (l := lineL) (w := w) o.1 o.2 (Nat.le_refl 2) hA
 rw [line_five] at h
 exact h.mono (fun e w' k => ⟨k.1, k.2.1⟩)
theorem one_line {A : Option Addr} {w : World} (hA : Kd.C kArc w A 2 lineL) :
  Calls Try.prog 8 #[.agg #[.int .i64 3, .bool true, .slice A 2 2], .int .i64 0, .int .i64 2, .int .i64 1] w fun e w' => ∃ (A1 : Option Addr) (c1 : Nat), e = .returned (.tuple #[.slice A1 3 c1, .int .i64 0]) ∧ Kd.C kSlot w' A1 3 sl3 ∧ Below w.heap.size w w' := by
 have o := tf_sm (h := 1) (s := 0) (t := 2) (by decide) line_sm (by decide) (by decide) (by decide) (by decide)
 have h := cut_walk (n := 3) (h := 1) (s := 0) (t := 2) (b := true) (A := A) (c := 2) (l := lineL) (w := w) o.1 o.2 (Nat.le_refl 2) hA
 rw [line_one] at h
 refine h.mono (fun e w' k => ?_)
 obtain ⟨v, k1, k2, k3⟩ := k
 obtain ⟨A1, c1, rfl⟩ := Kd.R_slice k2
 exact ⟨A1, c1, k1, (Kd.R_reads' k2).2.2, k3⟩
theorem neg_line {A : Option Addr} {w : World} (hA : Kd.C kArc w A 2 lineL) :
  Calls Try.prog 9 #[.agg #[.int .i64 3, .bool true, .slice A 2 2], .int .i64 0, .int .i64 2, .int .i64 (-1)] w (Bad3 1 w) :=
 max_bad (n := 3) (s := 0) (t := 2) (h := -1) (b := true) (A := A) (c := 2) (l := lineL) (line_ask (-1) (by decide)) (by decide) (Nat.le_refl 2) hA
theorem same_line {A1 A2 : Option Addr} {c1 : Nat} {w : World} (h1 : Kd.C kSlot w A1 3 sl3) (h2 : Kd.C kSlot w A2 3 sl3) :
  Calls Try.prog 10 #[.slice A1 3 c1, .slice A2 3 3] w fun e w' => e = .returned (.bool true) ∧ Below w.heap.size w w' :=
 sameslots_walk A1 A2 c1 3 sl3 w h1 h2 (by decide)
set_option maxHeartbeats 4000000 in
set_option maxRecDepth 100000 in
theorem awake_walk (w : World) : Calls Try.prog 4 #[] w fun e w' => e = .returned (.bool true) ∧ Below w.heap.size w w' := by
 have hu := Try.underlying44
 have HB := zh (Below.refl w.heap.size w)
 go_enter Try.func4, Try.ntmps4
 go_wp2_with (first
  |(go_at_call 7; have hC9 := HC.out; (with_reducible refine (line_walk _ _).mono ?_); rintro e wl ⟨gl, rfl, hA, hb⟩; have HL := zh hA; have HC8 := zh (Kd.C_below hC9 hb); have HN9 := zh (below_step HB.out hb); clear HB HC hb hA hC9; have HB := HN9; have HC := HC8; clear HN9 HC8)
  |(go_at_call 7; go_loud ((with_reducible refine (line_walk _ _).mono ?_); rintro e wl ⟨gl, rfl, hA, hb⟩; have HL := zh hA; have HN9 := zh (below_step HB.out hb); clear HB hb hA; have HB := HN9; clear HN9))
  |(go_at_call 6; go_loud ((with_reducible refine (five_line HL.out).mono ?_); rintro e w2 ⟨rfl, hb⟩; have HN9 := zh (below_step HB.out hb); clear HB hb HL; have HB := HN9; clear HN9))
  |(go_at_call 8; go_loud ((with_reducible refine (one_line HL.out).mono ?_); rintro e w4 ⟨A1, c1, rfl, hC, hb⟩; have HC := zh hC; have HN9 := zh (below_step HB.out hb); clear HB hb HL hC; have HB := HN9; clear HN9))
  |(go_at_call 9; go_loud ((with_reducible refine (neg_line HL.out).mono ?_); rintro e w6 ⟨rfl, hb⟩; have HN9 := zh (below_step HB.out hb); have HC8 := zh (Kd.C_below HC.out hb); clear HB HC hb; have HB := HN9; have HC := HC8; clear HN9 HC8))
  |(go_at_call 10; go_loud ((with_reducible refine (same_line ?s1 ?s2).mono ?_); (case s1 => exact Kd.C_below HC.out (below_alloc (Below.refl _ _) _)); (case s2 => exact slots_blk (l := sl3) (by decide) (alloc_at rfl)); rintro e w7 ⟨rfl, hb⟩; have HN9 := zh (below_step (below_alloc HB.out _) hb); clear HB hb; have HB := HN9; clear HN9)))
 go_ret
 exact ⟨rfl, HB.out⟩
abbrev CBit := S46
def U8s (l : List CBit) : Prop := ∀ x, x ∈ l → U8 x.f0 ∧ U8 x.f1 ∧ U8 x.f2 ∧ U8 x.f3
theorem rd_mem77 {l : List CBit} {i : Nat} (h : i < l.length) : rd_T46 l (i : Int) ∈ l := by
 unfold rd_T46
 rw [Int.toNat_natCast, List.getD_eq_getElem?_getD, List.getElem?_eq_getElem h]
 exact List.getElem_mem h
def Read12At (m : Nat) (b : Bool) (w : World) (e : Ending) (w' : World) : Prop :=
 ∃ (n : Int) (l : List Arc) (s t h : Int) (A : Option Addr) (c : Nat), e = .returned (.tuple #[.agg #[.int .i64 n, .bool b, .slice A l.length c], .int .i64 s, .int .i64 t, .int .i64 h]) ∧ Kd.R kArc 48 w' w.heap.size (fun _ => True) (.slice A l.length c) l ∧ NetSm m n l ∧ (0 ≤ s ∧ s < n) ∧ (0 ≤ t ∧ t < n) ∧ s ≠ t ∧ (0 ≤ h ∧ h ≤ 7) ∧ Below w.heap.size w w'
theorem tmi_bd {x n : Int} (h0 : 0 ≤ x) (h1 : x < 4611686018427387904) (hn : 0 < n) : 0 ≤ (IntKind.i64.wrap x).tmod n ∧ (IntKind.i64.wrap x).tmod n < n := by
 rw [IntWalk.i64_in x (by omega), Int.tmod_eq_emod_of_nonneg h0]
 exact ⟨Int.emod_nonneg _ (by omega), Int.emod_lt_of_pos _ hn⟩
theorem st_ok {n a3 a4 : Int} (n2 : 2 ≤ n) (n5 : n ≤ 5) (h3 : 0 ≤ a3) (h4 : 0 ≤ a4) (g4 : a4 ≤ 255) : (0 ≤ a3 % n ∧ a3 % n < n) ∧ (0 ≤ (IntKind.i64.wrap (IntKind.i64.wrap (a3 % n + 1) + (IntKind.i64.wrap a4).tmod (IntKind.i64.wrap (n - 1)))).tmod n ∧ (IntKind.i64.wrap (IntKind.i64.wrap (a3 % n + 1) + (IntKind.i64.wrap a4).tmod (IntKind.i64.wrap (n - 1)))).tmod n < n) ∧
  a3 % n ≠ (IntKind.i64.wrap (IntKind.i64.wrap (a3 % n + 1) + (IntKind.i64.wrap a4).tmod (IntKind.i64.wrap (n - 1)))).tmod n := by
 have s0 := Int.emod_nonneg a3 (show n ≠ 0 by omega)
 have s1 := Int.emod_lt_of_pos a3 (show 0 < n by omega)
 generalize a3 % n = s at s0 s1
 rw [IntWalk.i64_in (n - 1) (by omega)]
 have r1 := tmi_bd (x := a4) (n := n - 1) h4 (by omega) (by omega)
 generalize (IntKind.i64.wrap a4).tmod (n - 1) = r at r1
 rw [IntWalk.i64_in (s + 1) (by omega), IntWalk.i64_in (s + 1 + r) (by omega), Int.tmod_eq_emod_of_nonneg (by omega)]
 refine ⟨⟨s0, s1⟩, ⟨Int.emod_nonneg _ (by omega), Int.emod_lt_of_pos _ (by omega)⟩, ?_⟩
 have : n = 2 ∨ n = 3 ∨ n = 4 ∨ n = 5 := by omega
 rcases this with rfl | rfl | rfl | rfl <;> omega
def ArcsSm (n : Int) (l : List Arc) : Prop := ∀ x, x ∈ l → (0 ≤ x.f0 ∧ x.f0 < n) ∧ (0 ≤ x.f1 ∧ x.f1 < n) ∧ (0 ≤ x.f2 ∧ x.f2 ≤ 5) ∧ 0 ≤ x.f3 ∧ x.f3 ≤ 3
set_option maxHeartbeats 4000000 in
set_option maxRecDepth 100000 in
theorem read12_walk (m : Nat) (hm : m ≤ 1000) (i : Int) (hi : i = m) (a0 : Int) (a1 : Bool) (A2 : Option Addr) (c2 : Nat) (l2 : List CBit) (a3 a4 a5 : Int) (w : World) (hr : Kd.C k46 w A2 l2.length l2) (h0 : U8 a0) (hb : U8s l2) (h3 : U8 a3) (h4 : U8 a4) (h5 : U8 a5) :
  Calls Try.prog 5 #[.agg #[.int .u8 a0, .bool a1, .slice A2 l2.length c2, .int .u8 a3, .int .u8 a4, .int .u8 a5], .int .i64 i] w (Read12At m a1 w) := by
 have HR := zh hr
 have HU := zh hb
 have hu := Try.underlying28
 have hu2 := Try.underlying24
 have b0 : 0 ≤ a0 := h0.1
 have b1 : a0 ≤ 255 := h0.2
 have b3 : 0 ≤ a3 := h3.1
 have b4 : a3 ≤ 255 := h3.2
 have b5 : 0 ≤ a4 := h4.1
 have b6 : a4 ≤ 255 := h4.2
 have b7 : 0 ≤ a5 := h5.1
 have b8 : a5 ≤ 255 := h5.2
 clear hr hb h0 h3 h4 h5
 go_enter Try.func5, Try.ntmps5
 go_wp2
 obtain ⟨n, hn⟩ : ∃ n, n = 2 + a0 % 4 := ⟨_, rfl⟩
 have n2 : 2 ≤ n := by omega
 have n5 : n ≤ 5 := by omega
 rw [← hn]
 clear hn b0 b1
 obtain ⟨w3, hw3⟩ : ∃ w3, w3 = ((w.alloc (.cells #[.int .u8 a0, .bool a1, .slice A2 l2.length c2, .int .u8 a3, .int .u8 a4, .int .u8 a5] 24)).alloc (.cells #[.int .i64 0, .bool false, .slice none 0 0] 28)).alloc (.cells #[.int .i64 n, .bool a1, .slice none 0 0] 28) := ⟨_, rfl⟩
 have HX2 : Hid (w3.heap[w.heap.size]? = some (.cells #[.int .u8 a0, .bool a1, .slice A2 l2.length c2, .int .u8 a3, .int .u8 a4, .int .u8 a5] 24 (0, 0))) := zh (by rw [hw3]; exact blk_alloc (blk_alloc (heap_alloc_new _ _) _) _)
 have HX4 : Hid (w3.heap[w.heap.size + 1]? = some (.cells #[.int .i64 0, .bool false, .slice none 0 0] 28 (0, 0))) := zh (by rw [hw3]; exact blk_alloc (alloc_at (by simp)) _)
 have HX8 : Hid (w3.heap[w.heap.size + 1 + 1]? = some (.cells #[.int .i64 n, .bool a1, .slice none 0 0] 28 (0, 0))) := zh (by rw [hw3]; exact alloc_at (by simp))
 have HB3 : Hid (Below w.heap.size w w3) := zh (by rw [hw3]; exact below_alloc (below_alloc (below_alloc (Below.refl _ _) _) _) _)
 rw [← hw3]
 clear hw3
 obtain ⟨base, hbase⟩ : ∃ base, base = w.heap.size := ⟨_, rfl⟩
 obtain ⟨g4, hg4⟩ : ∃ g4, g4 = w.heap.size + 1 := ⟨_, rfl⟩
 obtain ⟨g8, hg8⟩ : ∃ g8, g8 = w.heap.size + 1 + 1 := ⟨_, rfl⟩
 rw [← hg4] at HX4
 rw [← hg8] at HX8
 rw [← hg8, ← hg4]
 have GE4 : Hid (w.heap.size ≤ g4) := zh (by omega)
 have GE8 : Hid (w.heap.size ≤ g8) := zh (by omega)
 have N84 : Hid (g8 ≠ g4) := zh (by omega)
 have N28 : Hid (w.heap.size ≠ g8) := zh (by omega)
 have N48 : Hid (g4 ≠ g8) := zh (by omega)
 have N24 : Hid (w.heap.size ≠ g4) := zh (by omega)
 clear hg4 hg8 hbase base
 have HI := zh hi
 clear hi
 go_loopg [9] (m + 1) (fun k iv W => ∃ (j : Nat) (acc : List Arc) (Av : Option Addr) (cv : Nat), j ≤ m ∧ iv = .int .i64 j ∧ acc.length = j ∧ k = m + 1 - j ∧ Hid (ArcsSm n acc ∧ Kd.R kArc 48 W w.heap.size (fun _ => True) (.slice Av acc.length cv) acc ∧ W.heap[w.heap.size]? = some (.cells #[.int .u8 a0, .bool a1, .slice A2 l2.length c2, .int .u8 a3, .int .u8 a4, .int .u8 a5] 24 (0, 0)) ∧ W.heap[g4]? = some (.cells #[.int .i64 0, .bool false, .slice none 0 0] 28 (0, 0)) ∧ W.heap[g8]? = some (.cells #[.int .i64 n, .bool a1, .slice Av acc.length cv] 28 (0, 0)) ∧ Below w.heap.size w W))
 case atStart => exact ⟨0, [], none, 0, Nat.zero_le _, rfl, rfl, rfl, zh ⟨fun x hx => (nomatch hx), Kd.R_nil _ _ _ _ _, HX2.out, HX4.out, HX8.out, HB3.out⟩⟩
 case round =>
  obtain ⟨j, acc, Av, cv, hj, rfl, hacc, rfl, HL⟩ := hrel
  clear HX2 HX4 HX8 HB3
  have x2 : wr.cell? ⟨w.heap.size, 2, none⟩ = some (.slice A2 l2.length c2) := (blk_cell HL.out.2.2.1 2).trans rfl
  have i0 : (0 : Int) ≤ (j : Int) := by omega
  by_cases c1 : j < l2.length
  ·have c1' : (j : Int) < (l2.length : Int) := by omega
   by_cases c2' : j < m
   ·have c3 : (j : Int) < i := by rw [HI.out]; omega
    obtain ⟨ad, ea, y0, y1, y2, y3⟩ := at_T46 (Kd.C_below HR.out HL.out.2.2.2.2.2) (j : Int) i0 c1'
    subst ea
    rw [Int.toNat_natCast] at y0 y1 y2 y3
    have hx := HU.out _ (rd_mem77 c1)
    obtain ⟨e0, he0⟩ : ∃ e0, e0 = (rd_T46 l2 (j : Int)).f0 := ⟨_, rfl⟩
    obtain ⟨e1, he1⟩ : ∃ e1, e1 = (rd_T46 l2 (j : Int)).f1 := ⟨_, rfl⟩
    obtain ⟨e2, he2⟩ : ∃ e2, e2 = (rd_T46 l2 (j : Int)).f2 := ⟨_, rfl⟩
    obtain ⟨e3, he3⟩ : ∃ e3, e3 = (rd_T46 l2 (j : Int)).f3 := ⟨_, rfl⟩
    rw [← he0] at y0 hx
    rw [← he1] at y1 hx
    rw [← he2] at y2 hx
    rw [← he3] at y3 hx
    obtain ⟨⟨u0, v0⟩, ⟨u1, v1⟩, ⟨u2, v2⟩, ⟨u3, v3⟩⟩ := hx
    clear he0 he1 he2 he3
    go_wp2
    obtain ⟨wq, hwq⟩ : ∃ wq, wq = wr.alloc (.cells #[.int .u8 e0, .int .u8 e1, .int .u8 e2, .int .u8 e3] 46) := ⟨_, rfl⟩
    have HQ : Hid (Kd.R kArc 48 wq w.heap.size (fun _ => True) (.slice Av acc.length cv) acc ∧ wq.heap[w.heap.size]? = some (.cells #[.int .u8 a0, .bool a1, .slice (some ad) l2.length c2, .int .u8 a3, .int .u8 a4, .int .u8 a5] 24 (0, 0)) ∧ wq.heap[g4]? = some (.cells #[.int .i64 0, .bool false, .slice none 0 0] 28 (0, 0)) ∧ wq.heap[g8]? = some (.cells #[.int .i64 n, .bool a1, .slice Av acc.length cv] 28 (0, 0)) ∧ Below w.heap.size w wq) := zh (by rw [hwq]; exact ⟨Kd.R_below HL.out.2.1 (below_alloc (Below.refl _ _) _), blk_alloc HL.out.2.2.1 _, blk_alloc HL.out.2.2.2.1 _, blk_alloc HL.out.2.2.2.2.1 _, below_alloc HL.out.2.2.2.2.2 _⟩)
    have HX10 : Hid (wq.heap[wr.heap.size]? = some (.cells #[.int .u8 e0, .int .u8 e1, .int .u8 e2, .int .u8 e3] 46 (0, 0))) := zh (by rw [hwq]; exact heap_alloc_new _ _)
    rw [← hwq]
    clear hwq x2 y0 y1 y2 y3
    have HA := zh HL.out.1
    clear HL
    generalize wr.heap.size = go at *
    have x0 : wq.cell? ⟨g8, 0, none⟩ = some (.int .i64 n) := (blk_cell HQ.out.2.2.2.1 0).trans rfl
    have x2 : wq.cell? ⟨g8, 2, none⟩ = some (.slice Av acc.length cv) := (blk_cell HQ.out.2.2.2.1 2).trans rfl
    have y0 : wq.cell? ⟨go, 0, none⟩ = some (.int .u8 e0) := (blk_cell HX10.out 0).trans rfl
    have y1 : wq.cell? ⟨go, 1, none⟩ = some (.int .u8 e1) := (blk_cell HX10.out 1).trans rfl
    have y2 : wq.cell? ⟨go, 2, none⟩ = some (.int .u8 e2) := (blk_cell HX10.out 2).trans rfl
    have y3 : wq.cell? ⟨go, 3, none⟩ = some (.int .u8 e3) := (blk_cell HX10.out 3).trans rfl
    have hn0 : ¬ n = 0 := by omega
    have hal : acc.length ≤ 1000 := by omega
    have HAC := zh hacc
    clear hacc
    refine stepS (S := fun w' => w'.cell? ⟨g8, 0, none⟩ = some (.int .i64 n) ∧ w'.cell? ⟨g8, 2, none⟩ = some (.slice Av acc.length cv) ∧ w'.cell? ⟨go, 0, none⟩ = some (.int .u8 e0) ∧ w'.cell? ⟨go, 1, none⟩ = some (.int .u8 e1) ∧ w'.cell? ⟨go, 2, none⟩ = some (.int .u8 e2) ∧ w'.cell? ⟨go, 3, none⟩ = some (.int .u8 e3)) (ds := [26]) 27 (by kernel_rfl) rfl ⟨x0, x2, y0, y1, y2, y3⟩ (fun hHeld => ?_)
    repeat (first | refine rP 27 ?_ | refine rT 27 hHeld ?_)
    refine stepE 27 (N := some 61) rfl rfl (by kernel_rfl) (by decide) (fun K hK => ?_)
    refine value_ (w1 := ?_) (v := ?_) (by rfl) rfl ?_ ?_
    rotate_left 2
    ·go_simp
     constructor
     ·rfl
     ·rfl
    refine hK.out _ _ ⟨(blk_cell (blk_alloc (blk_drew HQ.out.2.2.2.1) _) 0).trans rfl, (blk_cell (blk_alloc (blk_drew HQ.out.2.2.2.1) _) 2).trans rfl, (blk_cell (blk_alloc (blk_drew HX10.out) _) 0).trans rfl, (blk_cell (blk_alloc (blk_drew HX10.out) _) 1).trans rfl, (blk_cell (blk_alloc (blk_drew HX10.out) _) 2).trans rfl, (blk_cell (blk_alloc (blk_drew HX10.out) _) 3).trans rfl⟩ (fun hHeld => ?_)
    clear hK K
    refine sN ?_
    refine stepE 27 (N := some 62) rfl rfl (by kernel_rfl) (by decide) (fun K hK => ?_)
    (repeat rw [drew_of_alloc])
    refine Kd.R_append_step kArc (w0 := w) w.heap.size (by rfl) (.tmp 39) (.tmp 61) 26 48 (.agg #[.int .i64 0, .int .i64 0, .int .i64 0, .int .i64 0]) 32 (by rfl) Try.underlying26 infoArc rfl (by decide) (by decide) (.slice Av acc.length cv) acc ⟨(IntKind.i64.wrap e0).tmod n, (IntKind.i64.wrap e1).tmod n, (IntKind.i64.wrap e2).tmod 6, (IntKind.i64.wrap e3).tmod 4⟩ [.int .i64 ((IntKind.i64.wrap e0).tmod n), .int .i64 ((IntKind.i64.wrap e1).tmod n), .int .i64 ((IntKind.i64.wrap e2).tmod 6), .int .i64 ((IntKind.i64.wrap e3).tmod 4)] (fun _ => True) (fun _ => False) (by rfl) (by rfl) (k48_mkM _ _ _ (⟨(IntKind.i64.wrap e0).tmod n, (IntKind.i64.wrap e1).tmod n, (IntKind.i64.wrap e2).tmod 6, (IntKind.i64.wrap e3).tmod 4⟩ : Arc)) (fun _ hk => hk.elim) (fun _ _ => trivial) ?aO ?aB ?aS (by omega) ?_; (case aO => exact Kd.R_drew HQ.out.1); (case aB => exact below_drew1 HQ.out.2.2.2.2); (case aS => exact HQ.out.2.2.2.2.size); intro v1 w9 ho hb hg hat; obtain ⟨A1, c1, rfl⟩ := Kd.R_slice ho; have HS9 := zh (And.intro ho (And.intro (blk_grown (blk_drew HQ.out.2.1) hg (Kd.R_ne HQ.out.1 HQ.out.2.1 (by decide))) (And.intro (blk_grown (blk_drew HQ.out.2.2.1) hg (Kd.R_ne HQ.out.1 HQ.out.2.2.1 (by decide))) (And.intro (blk_grown (blk_drew HQ.out.2.2.2.1) hg (Kd.R_ne HQ.out.1 HQ.out.2.2.2.1 (by decide))) (And.intro (blk_grown (blk_drew HX10.out) hg (Kd.R_ne HQ.out.1 HX10.out (by decide))) hb))))); clear ho hb hg hat
    refine hK.out _ _ ⟨(blk_cell HS9.out.2.2.2.1 0).trans rfl, (blk_cell HS9.out.2.2.2.1 2).trans rfl, (blk_cell HS9.out.2.2.2.2.1 0).trans rfl, (blk_cell HS9.out.2.2.2.2.1 1).trans rfl, (blk_cell HS9.out.2.2.2.2.1 2).trans rfl, (blk_cell HS9.out.2.2.2.2.1 3).trans rfl⟩ (fun hHeld => ?_)
    clear hK K
    refine sN ?_
    refine rP 27 ?_
    refine stepL 27 (N := none) rfl rfl (by kernel_rfl) (by decide) (fun K hK => ?_)
    have z2 : w9.cell? ⟨g8, 2, none⟩ = some (.slice Av acc.length cv) := (blk_cell HS9.out.2.2.2.1 2).trans rfl
    have f2 : w9.frozen? ⟨g8, 2, none⟩ = false := blk_frozen HS9.out.2.2.2.1 2
    refine skip_ (w1 := ?_) (by rfl) rfl ?_ ?_
    rotate_left
    ·go_simp
     rfl
    refine hK.out _ _ ?_
    clear hK K
    refine done_ (by kernel_rfl) ?_
    go_wp2
    have el : (acc ++ [(⟨(IntKind.i64.wrap e0).tmod n, (IntKind.i64.wrap e1).tmod n, (IntKind.i64.wrap e2).tmod 6, (IntKind.i64.wrap e3).tmod 4⟩ : Arc)]).length = acc.length + 1 := by rw [List.length_append]; rfl
    have hs := HS9.out
    rw [el] at hs
    have q0 := tmi_bd (x := e0) (n := n) u0 (by omega) (by omega)
    have q1 := tmi_bd (x := e1) (n := n) u1 (by omega) (by omega)
    have q2 := tmi_bd (x := e2) (n := 6) u2 (by omega) (by omega)
    have q3 := tmi_bd (x := e3) (n := 4) u3 (by omega) (by omega)
    have har : ArcsSm n (acc ++ [(⟨(IntKind.i64.wrap e0).tmod n, (IntKind.i64.wrap e1).tmod n, (IntKind.i64.wrap e2).tmod 6, (IntKind.i64.wrap e3).tmod 4⟩ : Arc)]) := fun x hx => by
     rcases List.mem_append.1 hx with hx | hx
     ·exact HA.out x hx
     ·obtain rfl := List.mem_singleton.1 hx
      exact ⟨q0, q1, ⟨q2.1, Int.le_of_lt_add_one q2.2⟩, q3.1, Int.le_of_lt_add_one q3.2⟩
    have hac := HAC.out
    go_roundg (m - j)
    case measure => omega
    case rel => exact ⟨j + 1, _, A1, c1, by omega, by go_num, by rw [el, hac], by omega, zh ⟨har, by rw [el]; exact Kd.R_mono (Kd.R_far (p := ⟨g8, 2, none⟩) (Kd.R_types hs.1 hs.2.2.2.1 (by decide)) (fun _ hk => hk.2) (.slice A1 (acc.length + 1) c1)) (fun _ hk => trivial), blk_far hs.2.1 N28.out _, blk_far hs.2.2.1 N48.out _, by rw [el]; exact blk_put (cs := #[.int .i64 n, .bool a1, .slice Av acc.length cv]) hs.2.2.2.1 2 _ rfl, below_set hs.2.2.2.2.2 GE8.out⟩⟩
   ·have c3 : ¬ (j : Int) < i := by rw [HI.out]; omega
    have x3 : wr.cell? ⟨w.heap.size, 3, none⟩ = some (.int .u8 a3) := (blk_cell HL.out.2.2.1 3).trans rfl
    have x4 : wr.cell? ⟨w.heap.size, 4, none⟩ = some (.int .u8 a4) := (blk_cell HL.out.2.2.1 4).trans rfl
    have x5 : wr.cell? ⟨w.heap.size, 5, none⟩ = some (.int .u8 a5) := (blk_cell HL.out.2.2.1 5).trans rfl
    have y0 : wr.cell? ⟨g8, 0, none⟩ = some (.int .i64 n) := (blk_cell HL.out.2.2.2.2.1 0).trans rfl
    have y1 : wr.cell? ⟨g8, 1, none⟩ = some (.bool a1) := (blk_cell HL.out.2.2.2.2.1 1).trans rfl
    have y2 : wr.cell? ⟨g8, 2, none⟩ = some (.slice Av acc.length cv) := (blk_cell HL.out.2.2.2.2.1 2).trans rfl
    have hn0 : ¬ n = 0 := by omega
    have hn1 : ¬ IntKind.i64.wrap (n - 1) = 0 := by rw [IntWalk.i64_in _ (by omega)]; omega
    have HAC := zh hacc
    clear hacc
    go_wp2
    refine stepS (S := fun w' => w'.cell? ⟨w.heap.size, 4, none⟩ = some (.int .u8 a4) ∧ w'.cell? ⟨w.heap.size, 5, none⟩ = some (.int .u8 a5) ∧ w'.cell? ⟨g8, 0, none⟩ = some (.int .i64 n) ∧ w'.cell? ⟨g8, 1, none⟩ = some (.bool a1) ∧ w'.cell? ⟨g8, 2, none⟩ = some (.slice Av acc.length cv)) (ds := []) 14 (by kernel_rfl) rfl ⟨x4, x5, y0, y1, y2⟩ (fun hHeld => ?_)
    repeat (first | refine rP 14 ?_ | refine rT 14 hHeld ?_)
    refine done_ (by kernel_rfl) ?_
    go_wp2
    have r4 := blk_drew (blk_drew HL.out.2.2.2.1)
    refine stepS (S := fun w' => w'.cell? ⟨w.heap.size, 4, none⟩ = some (.int .u8 a4) ∧ w'.cell? ⟨w.heap.size, 5, none⟩ = some (.int .u8 a5) ∧ w'.cell? ⟨g8, 0, none⟩ = some (.int .i64 n) ∧ w'.cell? ⟨g8, 1, none⟩ = some (.bool a1) ∧ w'.cell? ⟨g8, 2, none⟩ = some (.slice Av acc.length cv)) (ds := []) 11 (by kernel_rfl) rfl ⟨x4, x5, y0, y1, y2⟩ (fun hHeld => ?_)
    repeat (first | refine rP 11 ?_ | refine rT 11 hHeld ?_)
    refine stepE 11 (N := none) rfl rfl (by kernel_rfl) (by decide) (fun K hK => ?_)
    have HZ := zh (And.intro (Kd.R_drew (Kd.R_drew HL.out.2.1)) (And.intro r4 (And.intro (blk_drew (blk_drew HL.out.2.2.2.2.1)) (below_drew1 (below_drew1 HL.out.2.2.2.2.2)))))
    generalize wr.drew.drew = wz at hHeld r4 HZ ⊢
    have z0 : wz.cell? ⟨g4, 0, none⟩ = some (.int .i64 0) := (blk_cell r4 0).trans rfl
    have z1 : wz.cell? ⟨g4, 1, none⟩ = some (.bool false) := (blk_cell r4 1).trans rfl
    have z2 : wz.cell? ⟨g4, 2, none⟩ = some (.slice none 0 0) := (blk_cell r4 2).trans rfl
    have f0 := blk_frozen r4 0
    have f1 := blk_frozen r4 1
    have f2 := blk_frozen r4 2
    refine skip_ (w1 := ?_) (by rfl) rfl ?_ ?_
    rotate_left
    ·go_simp
     rfl
    refine hK.out _ _ ⟨((cell_far (p := ⟨g4, _, none⟩) N24.out _).trans (((cell_far (p := ⟨g4, _, none⟩) N24.out _).trans (((cell_far (p := ⟨g4, _, none⟩) N24.out _).trans hHeld.1))))), ((cell_far (p := ⟨g4, _, none⟩) N24.out _).trans (((cell_far (p := ⟨g4, _, none⟩) N24.out _).trans (((cell_far (p := ⟨g4, _, none⟩) N24.out _).trans hHeld.2.1))))), ((cell_far (p := ⟨g4, _, none⟩) N84.out _).trans (((cell_far (p := ⟨g4, _, none⟩) N84.out _).trans (((cell_far (p := ⟨g4, _, none⟩) N84.out _).trans hHeld.2.2.1))))), ((cell_far (p := ⟨g4, _, none⟩) N84.out _).trans (((cell_far (p := ⟨g4, _, none⟩) N84.out _).trans (((cell_far (p := ⟨g4, _, none⟩) N84.out _).trans hHeld.2.2.2.1))))), ((cell_far (p := ⟨g4, _, none⟩) N84.out _).trans (((cell_far (p := ⟨g4, _, none⟩) N84.out _).trans (((cell_far (p := ⟨g4, _, none⟩) N84.out _).trans hHeld.2.2.2.2)))))⟩ (fun hHeld => ?_)
    clear hK K
    repeat (first | refine rP 11 ?_ | refine rT 11 hHeld ?_)
    refine done_ (by kernel_rfl) ?_
    go_wp2
    refine bodyPost_ret (results_list (rs := [.cell 4 28, .tmp 5, .tmp 6, .tmp 7]) rfl (by simp) (.cell g4 28 #[.int .i64 n, .bool a1, .slice Av acc.length cv] (0, 0) _ rfl (blk_put (cs := #[.int .i64 n, .bool a1, .slice none 0 0]) (blk_put (cs := #[.int .i64 n, .bool false, .slice none 0 0]) (blk_put (cs := #[.int .i64 0, .bool false, .slice none 0 0]) r4 0 _ rfl) 1 _ rfl) 2 _ rfl) hu rfl (by kernel_rfl) (.tmp (.tmp (.tmp .nil))))) rfl ?_
    have st := st_ok (n := n) (a3 := a3) (a4 := a4) n2 n5 b3 b5 b6
    have q8 := tmi_bd (x := a5) (n := 8) b7 (by omega) (by decide)
    have hac := HAC.out
    exact ⟨n, acc, _, _, _, Av, cv, rfl, Kd.R_mono (Kd.R_far (p := ⟨g4, 2, none⟩) (Kd.R_far (p := ⟨g4, 1, none⟩) (Kd.R_far (p := ⟨g4, 0, none⟩) (Kd.R_types HZ.out.1 HZ.out.2.1 (by decide)) (fun _ hk => hk.2) (.int .i64 n)) (fun _ hk => hk.2) (.bool a1)) (fun _ hk => hk.2) (.slice Av acc.length cv)) (fun _ hk => trivial), ⟨n2, n5, by omega, HL.out.1⟩, st.1, st.2.1, st.2.2, ⟨q8.1, Int.le_of_lt_add_one q8.2⟩, below_set (below_set (below_set HZ.out.2.2.2 GE4.out) GE4.out) GE4.out⟩
  ·have c3 : ¬ (j : Int) < (l2.length : Int) := by omega
   have x3 : wr.cell? ⟨w.heap.size, 3, none⟩ = some (.int .u8 a3) := (blk_cell HL.out.2.2.1 3).trans rfl
   have x4 : wr.cell? ⟨w.heap.size, 4, none⟩ = some (.int .u8 a4) := (blk_cell HL.out.2.2.1 4).trans rfl
   have x5 : wr.cell? ⟨w.heap.size, 5, none⟩ = some (.int .u8 a5) := (blk_cell HL.out.2.2.1 5).trans rfl
   have y0 : wr.cell? ⟨g8, 0, none⟩ = some (.int .i64 n) := (blk_cell HL.out.2.2.2.2.1 0).trans rfl
   have y1 : wr.cell? ⟨g8, 1, none⟩ = some (.bool a1) := (blk_cell HL.out.2.2.2.2.1 1).trans rfl
   have y2 : wr.cell? ⟨g8, 2, none⟩ = some (.slice Av acc.length cv) := (blk_cell HL.out.2.2.2.2.1 2).trans rfl
   have hn0 : ¬ n = 0 := by omega
   have hn1 : ¬ IntKind.i64.wrap (n - 1) = 0 := by rw [IntWalk.i64_in _ (by omega)]; omega
   have HAC := zh hacc
   clear hacc
   go_wp2
   refine stepS (S := fun w' => w'.cell? ⟨w.heap.size, 4, none⟩ = some (.int .u8 a4) ∧ w'.cell? ⟨w.heap.size, 5, none⟩ = some (.int .u8 a5) ∧ w'.cell? ⟨g8, 0, none⟩ = some (.int .i64 n) ∧ w'.cell? ⟨g8, 1, none⟩ = some (.bool a1) ∧ w'.cell? ⟨g8, 2, none⟩ = some (.slice Av acc.length cv)) (ds := []) 14 (by kernel_rfl) rfl ⟨x4, x5, y0, y1, y2⟩ (fun hHeld => ?_)
   repeat (first | refine rP 14 ?_ | refine rT 14 hHeld ?_)
   refine done_ (by kernel_rfl) ?_
   go_wp2
   have r4 := blk_drew (blk_drew HL.out.2.2.2.1)
   refine stepS (S := fun w' => w'.cell? ⟨w.heap.size, 4, none⟩ = some (.int .u8 a4) ∧ w'.cell? ⟨w.heap.size, 5, none⟩ = some (.int .u8 a5) ∧ w'.cell? ⟨g8, 0, none⟩ = some (.int .i64 n) ∧ w'.cell? ⟨g8, 1, none⟩ = some (.bool a1) ∧ w'.cell? ⟨g8, 2, none⟩ = some (.slice Av acc.length cv)) (ds := []) 11 (by kernel_rfl) rfl ⟨x4, x5, y0, y1, y2⟩ (fun hHeld => ?_)
   repeat (first | refine rP 11 ?_ | refine rT 11 hHeld ?_)
   refine stepE 11 (N := none) rfl rfl (by kernel_rfl) (by decide) (fun K hK => ?_)
   have HZ := zh (And.intro (Kd.R_drew (Kd.R_drew HL.out.2.1)) (And.intro r4 (And.intro (blk_drew (blk_drew HL.out.2.2.2.2.1)) (below_drew1 (below_drew1 HL.out.2.2.2.2.2)))))
   generalize wr.drew.drew = wz at hHeld r4 HZ ⊢
   have z0 : wz.cell? ⟨g4, 0, none⟩ = some (.int .i64 0) := (blk_cell r4 0).trans rfl
   have z1 : wz.cell? ⟨g4, 1, none⟩ = some (.bool false) := (blk_cell r4 1).trans rfl
   have z2 : wz.cell? ⟨g4, 2, none⟩ = some (.slice none 0 0) := (blk_cell r4 2).trans rfl
   have f0 := blk_frozen r4 0
   have f1 := blk_frozen r4 1
   have f2 := blk_frozen r4 2
   refine skip_ (w1 := ?_) (by rfl) rfl ?_ ?_
   rotate_left
   ·go_simp
    rfl
   refine hK.out _ _ ⟨((cell_far (p := ⟨g4, _, none⟩) N24.out _).trans (((cell_far (p := ⟨g4, _, none⟩) N24.out _).trans (((cell_far (p := ⟨g4, _, none⟩) N24.out _).trans hHeld.1))))), ((cell_far (p := ⟨g4, _, none⟩) N24.out _).trans (((cell_far (p := ⟨g4, _, none⟩) N24.out _).trans (((cell_far (p := ⟨g4, _, none⟩) N24.out _).trans hHeld.2.1))))), ((cell_far (p := ⟨g4, _, none⟩) N84.out _).trans (((cell_far (p := ⟨g4, _, none⟩) N84.out _).trans (((cell_far (p := ⟨g4, _, none⟩) N84.out _).trans hHeld.2.2.1))))), ((cell_far (p := ⟨g4, _, none⟩) N84.out _).trans (((cell_far (p := ⟨g4, _, none⟩) N84.out _).trans (((cell_far (p := ⟨g4, _, none⟩) N84.out _).trans hHeld.2.2.2.1))))), ((cell_far (p := ⟨g4, _, none⟩) N84.out _).trans (((cell_far (p := ⟨g4, _, none⟩) N84.out _).trans (((cell_far (p := ⟨g4, _, none⟩) N84.out _).trans hHeld.2.2.2.2)))))⟩ (fun hHeld => ?_)
   clear hK K
   repeat (first | refine rP 11 ?_ | refine rT 11 hHeld ?_)
   refine done_ (by kernel_rfl) ?_
   go_wp2
   refine bodyPost_ret (results_list (rs := [.cell 4 28, .tmp 5, .tmp 6, .tmp 7]) rfl (by simp) (.cell g4 28 #[.int .i64 n, .bool a1, .slice Av acc.length cv] (0, 0) _ rfl (blk_put (cs := #[.int .i64 n, .bool a1, .slice none 0 0]) (blk_put (cs := #[.int .i64 n, .bool false, .slice none 0 0]) (blk_put (cs := #[.int .i64 0, .bool false, .slice none 0 0]) r4 0 _ rfl) 1 _ rfl) 2 _ rfl) hu rfl (by kernel_rfl) (.tmp (.tmp (.tmp .nil))))) rfl ?_
   have st := st_ok (n := n) (a3 := a3) (a4 := a4) n2 n5 b3 b5 b6
   have q8 := tmi_bd (x := a5) (n := 8) b7 (by omega) (by decide)
   have hac := HAC.out
   exact ⟨n, acc, _, _, _, Av, cv, rfl, Kd.R_mono (Kd.R_far (p := ⟨g4, 2, none⟩) (Kd.R_far (p := ⟨g4, 1, none⟩) (Kd.R_far (p := ⟨g4, 0, none⟩) (Kd.R_types HZ.out.1 HZ.out.2.1 (by decide)) (fun _ hk => hk.2) (.int .i64 n)) (fun _ hk => hk.2) (.bool a1)) (fun _ hk => hk.2) (.slice Av acc.length cv)) (fun _ hk => trivial), ⟨n2, n5, by omega, HL.out.1⟩, st.1, st.2.1, st.2.2, ⟨q8.1, Int.le_of_lt_add_one q8.2⟩, below_set (below_set (below_set HZ.out.2.2.2 GE4.out) GE4.out) GE4.out⟩
abbrev smallCells (a0 : Int) (a1 : Bool) (A2 : Option Addr) (k c2 : Nat) (a3 a4 a5 : Int) : Array Value := #[.int .u8 a0, .bool a1, .slice A2 k c2, .int .u8 a3, .int .u8 a4, .int .u8 a5]
structure SmallAt (w : World) (a0 : Int) (l2 : List CBit) (a3 a4 a5 : Int) (A2 : Option Addr) : Prop where
 hr : Kd.C k46 w A2 l2.length l2
 h0 : U8 a0
 hb : U8s l2
 h3 : U8 a3
 h4 : U8 a4
 h5 : U8 a5
theorem SmallAt.below {w w2 : World} {a0 : Int} {l2 : List CBit} {a3 a4 a5 : Int} {A2 : Option Addr} (o : SmallAt w a0 l2 a3 a4 a5 A2) (hb : Below w.heap.size w w2) : SmallAt w2 a0 l2 a3 a4 a5 A2 := ⟨Kd.C_below o.hr hb, o.h0, o.hb, o.h3, o.h4, o.h5⟩
def RdAt (m : Nat) (b : Bool) (w : World) (e : Ending) (w' : World) : Prop :=
 ∃ (n h s t : Nat) (l : List Arc) (A : Option Addr) (c : Nat), e = .returned (.tuple #[.agg #[.int .i64 n, .bool b, .slice A l.length c], .int .i64 s, .int .i64 t, .int .i64 h]) ∧ Kd.C kArc w' A l.length l ∧ l.length ≤ c ∧ TfOk n h s t l ∧ askT n l s t h = 0 ∧ h ≤ 7 ∧ n ≤ 5 ∧ NetSm m n l ∧ Below w.heap.size w w'
theorem rd_walk (m : Nat) (hm : m ≤ 40) (i : Int) (hi : i = m) {a0 : Int} {a1 : Bool} {A2 : Option Addr} {c2 : Nat} {l2 : List CBit} {a3 a4 a5 : Int} {w : World} (o : SmallAt w a0 l2 a3 a4 a5 A2) :
  Calls Try.prog 5 #[.agg (smallCells a0 a1 A2 l2.length c2 a3 a4 a5), .int .i64 i] w (RdAt m a1 w) := by
 refine (read12_walk m (by omega) i hi a0 a1 A2 c2 l2 a3 a4 a5 w o.hr o.h0 o.hb o.h3 o.h4 o.h5).mono ?_
 rintro e w' ⟨n, l, s, t, h, A, c, rfl, hR, hN, hs, ht, hst, hh, hb⟩
 have n2 := hN.n2
 have n5 := hN.n5
 obtain ⟨n', rfl⟩ := Int.eq_ofNat_of_zero_le (show 0 ≤ n by omega)
 obtain ⟨s', rfl⟩ := Int.eq_ofNat_of_zero_le hs.1
 obtain ⟨t', rfl⟩ := Int.eq_ofNat_of_zero_le ht.1
 obtain ⟨h', rfl⟩ := Int.eq_ofNat_of_zero_le hh.1
 have q := tf_sm (h := h') (s := s') (t := t') hm hN (by omega) (by omega) (fun e => hst (by rw [e])) (by omega)
 exact ⟨n', h', s', t', l, A, c, rfl, (Kd.R_reads' hR).2.2, (Kd.R_reads' hR).2.1, q.1, q.2, by omega, by omega, hN, hb⟩
end Go.Proofs.Ytdfagllncopmjaa.H
end
section
namespace Go.Proofs.Ytdfagllncopmjaa.H
open Go Go.ChangeShapes Go.WideShapes Go.ChangeAt Go.RowKit Go.Deep Go.Joins Go.Proofs.Ytdfagllncopmjaa.PrintC Go.Proofs.Ytdfagllncopmjaa.PrintE Go.Proofs.YtdfagllncopmjaaW.PrintWords Go.Proofs.YtdfagllncopmjaaW.PrintLast
theorem ownK : ownKnob Try.prog.godebug = none := by kernel_rfl
theorem laidOutK : laidOutB Try.prog = true := by kernel_rfl
noncomputable def laidWorld (os : Os) : World := World.holding Try.prog os ⟨#[], #[], []⟩
section
variable {Hh : Type} {enc : TypeId × Value → Hh} {P : Program} {W : World} {base : Nat} {spare : Nat → Bool} {held : Bool}
theorem kc_none {α : Type} (d : Kd α) : Kd.C d W none ([] : List α).length [] := ⟨rfl, by simp, fun h => by simp at h⟩
theorem field_of {t : TypeId} {fs : Array Field} {n : Nat} {cs : List Value} {y : DataW Hh × List MemPlace} (hu : P.underlying t = some (.struct fs)) (h : DataW.trod enc P W base spare held n t cs = some y) (i : Nat) (f : Field) (hf : fs[i]? = some f) {k : Nat} (hk : P.cellsOf f.type = k) {cs' : List Value} (hc : (cs.drop f.offset).take k = cs') :
  ∃ m z, DataW.trod enc P W base spare held m f.type cs' = some z := by
 obtain ⟨xs, m, _, _, _, hl, hg⟩ := DataW.trod_struct hu h
 have h1 := hg i f hf
 have hi : i < xs.length := by rw [hl]; exact (Array.getElem?_eq_some_iff.1 hf).1
 rw [List.getElem?_eq_getElem hi, hk, hc] at h1
 exact ⟨m, _, h1⟩
theorem wf_u8 {n : Int} (h : (Lit.int .u8 n).wf = true) : U8 n := by
 simp only [Lit.wf, Bool.and_eq_true, decide_eq_true_eq] at h
 exact h
end
section
variable {Hh : Type} {enc : TypeId × Value → Hh} {W : World} {base : Nat} {spare : Nat → Bool} {held : Bool}
theorem one_u8 {n : Nat} {v : Value} {y : DataW Hh × List MemPlace} (h : DataW.trod enc Try.prog W base spare held n 5 [v] = some y) : ∃ k, v = .int .u8 k ∧ U8 k := by
 obtain ⟨k, hc, _, hw⟩ := DataW.trod_int Try.underlying5 h
 simp only [List.cons.injEq, and_true] at hc
 exact ⟨k, hc, wf_u8 hw⟩
theorem one_bool {n : Nat} {v : Value} {y : DataW Hh × List MemPlace} (h : DataW.trod enc Try.prog W base spare held n 4 [v] = some y) : ∃ b, v = .bool b := by
 obtain ⟨b, hc, _⟩ := DataW.trod_bool Try.underlying4 h
 simp only [List.cons.injEq, and_true] at hc
 exact ⟨b, hc⟩
theorem u8_cells : Try.prog.cellsOf 5 = 1 := by kernel_rfl
theorem bool_cells : Try.prog.cellsOf 4 = 1 := by kernel_rfl
theorem bit_cells : Try.prog.cellsOf 46 = 4 := by kernel_rfl
theorem bits_cells : Try.prog.cellsOf 22 = 1 := by kernel_rfl
theorem small_cells : Try.prog.cellsOf 24 = 6 := by kernel_rfl
set_option maxRecDepth 100000 in
theorem opened_bit {n : Nat} {cs : List Value} {y : DataW Hh × List MemPlace} (h : DataW.trod enc Try.prog W base spare held n 46 cs = some y) :
  ∃ a : CBit, cs = [.int .u8 a.f0, .int .u8 a.f1, .int .u8 a.f2, .int .u8 a.f3] ∧ (U8 a.f0 ∧ U8 a.f1 ∧ U8 a.f2 ∧ U8 a.f3) := by
 obtain ⟨y0, y1, y2, y3, m, _, hl, h0, h1, h2, h3⟩ := trod_struct4 Try.underlying46 h
 rw [bit_cells] at hl
 match cs, hl with
 |[c0, c1, c2, c3], _ =>
  simp only [u8_cells] at h0 h1 h2 h3
  obtain ⟨k0, rfl, r0⟩ := one_u8 h0
  obtain ⟨k1, rfl, r1⟩ := one_u8 h1
  obtain ⟨k2, rfl, r2⟩ := one_u8 h2
  obtain ⟨k3, rfl, r3⟩ := one_u8 h3
  exact ⟨⟨k0, k1, k2, k3⟩, rfl, r0, r1, r2, r3⟩
set_option maxRecDepth 100000 in
theorem opened_bits {n : Nat} {v : Value} {y : DataW Hh × List MemPlace} (h : DataW.trod enc Try.prog W base spare held n 22 [v] = some y) :
  ∃ (A : Option Addr) (c : Nat) (l : List CBit), v = .slice A l.length c ∧ l.length ≤ c ∧ Kd.C k46 W A l.length l ∧ U8s l := by
 rcases open_slice Try.underlying22 h with ⟨hcs, _⟩ | ⟨a, len, cap, m, n', D, Pl, hcs, hb, hl, hm, hmm, hx, hi⟩
 ·simp only [List.cons.injEq, and_true] at hcs
  subst hcs
  exact ⟨none, 0, [], rfl, Nat.le_refl _, kc_none _, fun x hx => by cases hx⟩
 ·simp only [List.cons.injEq, and_true] at hcs
  subst hcs
  have hlm : len ≤ m := by
   rw [hmm]
   split
   ·exact hl
   ·exact Nat.le_refl _
  have hq : ∀ i, ∃ s : CBit, i < len → (U8 s.f0 ∧ U8 s.f1 ∧ U8 s.f2 ∧ U8 s.f3) ∧ ∀ j u, [Value.int .u8 s.f0, .int .u8 s.f1, .int .u8 s.f2, .int .u8 s.f3][j]? = some u → W.cell? (a.add (i * 4 + j)) = some u := by
   intro i
   by_cases hlt : i < len
   ·obtain ⟨cs', hc, ht⟩ := hi i (by omega)
    obtain ⟨s, rfl, hr⟩ := opened_bit ht
    rw [bit_cells] at hc
    obtain ⟨_, _, hat⟩ := World.cells?_some hc
    refine ⟨s, fun _ => ⟨hr, fun j u hu => ?_⟩⟩
    have hj : j < 4 := (List.getElem?_eq_some_iff.1 hu).1
    have h4 := hat j hj
    rw [← Go.Deep.add_add, h4, hu]
   ·exact ⟨⟨0, 0, 0, 0⟩, fun h => absurd h hlt⟩
  obtain ⟨g, hg⟩ := Classical.axiomOfChoice hq
  have hml : len ≤ 9223372036854775807 := by unfold maxLen at hm; omega
  refine ⟨some a, cap, (List.range len).map g, by simp, by simpa using hl, ⟨by simp, by simpa using hml, fun _ => ⟨a, rfl, fun j p hj => ?_⟩⟩, ?_⟩
  ·have hj1 : j < len := by have := (List.getElem?_eq_some_iff.1 hj).1; simpa using this
   have hj2 : g j = p := by
    have := hj
    simp [hj1] at this
    exact this
   subst hj2
   exact ⟨_, rfl, k46_mk W (g j), fun i u hu => (hg j hj1).2 i u hu⟩
  ·intro s hs
   obtain ⟨i, hi2, rfl⟩ := List.mem_map.1 hs
   exact (hg i (List.mem_range.1 hi2)).1
set_option maxRecDepth 100000 in
theorem small_in {n : Nat} {x0 x1 x2 x3 x4 x5 : Value} {y : DataW Hh × List MemPlace} (hf : DataW.trod enc Try.prog W base spare held n 24 [x0, x1, x2, x3, x4, x5] = some y) :
  ∃ a0 b l2 a3 a4 a5 A2 c2, #[x0, x1, x2, x3, x4, x5] = smallCells a0 b A2 l2.length c2 a3 a4 a5 ∧ SmallAt W a0 l2 a3 a4 a5 A2 := by
 obtain ⟨_, _, f0⟩ := field_of Try.underlying24 hf 0 _ rfl u8_cells (cs' := [x0]) rfl
 obtain ⟨_, _, f1⟩ := field_of Try.underlying24 hf 1 _ rfl bool_cells (cs' := [x1]) rfl
 obtain ⟨_, _, f2⟩ := field_of Try.underlying24 hf 2 _ rfl bits_cells (cs' := [x2]) rfl
 obtain ⟨_, _, f3⟩ := field_of Try.underlying24 hf 3 _ rfl u8_cells (cs' := [x3]) rfl
 obtain ⟨_, _, f4⟩ := field_of Try.underlying24 hf 4 _ rfl u8_cells (cs' := [x4]) rfl
 obtain ⟨_, _, f5⟩ := field_of Try.underlying24 hf 5 _ rfl u8_cells (cs' := [x5]) rfl
 obtain ⟨a0, rfl, u0⟩ := one_u8 f0
 obtain ⟨b, rfl⟩ := one_bool f1
 obtain ⟨A2, c2, l2, rfl, h2, r2, u2⟩ := opened_bits f2
 obtain ⟨a3, rfl, u3⟩ := one_u8 f3
 obtain ⟨a4, rfl, u4⟩ := one_u8 f4
 obtain ⟨a5, rfl, u5⟩ := one_u8 f5
 exact ⟨a0, b, l2, a3, a4, a5, A2, c2, rfl, r2, u0, u2, u3, u4, u5⟩
set_option maxRecDepth 100000 in
theorem opened_small {r : Reach} {b0 : Nat} {v : Value} {d : DataW Hh} {p : List MemPlace} (hv : Value.okWide Try.prog W r b0 24 v) (h : DataW.Trod enc Try.prog W base spare held 24 v d p) :
  ∃ a0 b l2 a3 a4 a5 A2 c2, v = .agg (smallCells a0 b A2 l2.length c2 a3 a4 a5) ∧ SmallAt W a0 l2 a3 a4 a5 A2 := by
 obtain ⟨cs, rfl, hsz⟩ := okWide_struct Try.underlying24 hv
 obtain ⟨l⟩ := cs
 match l, hsz.trans small_cells with
 |[x0, x1, x2, x3, x4, x5], _ =>
  obtain ⟨fuel, hf⟩ := h
  obtain ⟨a0, b, l2, a3, a4, a5, A2, c2, e, o⟩ := small_in hf
  exact ⟨a0, b, l2, a3, a4, a5, A2, c2, by rw [← e], o⟩
end
end Go.Proofs.Ytdfagllncopmjaa.H
end
section
namespace Go.Proofs.Ytdfagllncopmjaa.H
open Go Go.RowKit Go.Proofs.Ytdfagllncopmjaa.PrintC Go.Proofs.Ytdfagllncopmjaa.PrintE Go.Proofs.YtdfagllncopmjaaW.PrintWords Go.Proofs.Ytdfagllncopmjaa.Flow
set_option linter.unusedVariables false
theorem shift_sum {x y f : Nat → Int} (h0 : x 0 ≤ f 0) : ∀ K : Nat, (∀ a, a < K → x (a + 1) + y a ≤ f a + f (a + 1)) → sumN (K + 1) x + sumN K y ≤ sumN (K + 1) f + sumN K f
 |0, _ => by
  show 0 + x 0 + 0 ≤ 0 + f 0 + 0
  omega
 |K + 1, h => by
  have h1 := shift_sum h0 K (fun a ha => h a (by omega))
  have h2 := h K (by omega)
  have e1 : sumN (K + 1 + 1) x = sumN (K + 1) x + x (K + 1) := rfl
  have e2 : sumN (K + 1) y = sumN K y + y K := rfl
  have e3 : sumN (K + 1 + 1) f = sumN (K + 1) f + f (K + 1) := rfl
  have e4 : sumN (K + 1) f = sumN K f + f K := rfl
  omega
theorem shift_all {x y f : Nat → Int} {K : Nat} (h0 : x 0 ≤ f 0) (h1 : y K ≤ f K) (h : ∀ a, a < K → x (a + 1) + y a ≤ f a + f (a + 1)) : sumN (K + 1) x + sumN (K + 1) y ≤ sumN (K + 1) f + sumN (K + 1) f := by
 have h2 := shift_sum h0 K h
 have e1 : sumN (K + 1) y = sumN K y + y K := rfl
 have e2 : sumN (K + 1) f = sumN K f + f K := rfl
 omega
section
variable {n h s t : Nat} {b : Bool} {l : List Arc} {H : Nat → Nat → Bool}
def ctA (h : Nat) (s t : Nat) (l : List Arc) (H : Nat → Nat → Bool) (j a : Nat) : Int :=
 if (a : Int) + (arcAt l j).f3 ≤ h ∧ useT s t (arcAt l j) = true then (if H (arcAt l j).f0.toNat a = true ∧ H (arcAt l j).f1.toNat (a + (arcAt l j).f3.toNat) = false then (arcAt l j).f2 else 0) else 0
def cost (h s t : Nat) (l : List Arc) (H : Nat → Nat → Bool) : Int := sumN l.length (fun j => sumN (h + 1) (ctA h s t l H j))
def Valid (h s t : Nat) (H : Nat → Nat → Bool) : Prop := ∀ z, z ≤ h → H s z = true ∧ H t z = false
def upH (H : Nat → Nat → Bool) (v z : Nat) : Bool := H v z || (decide (1 ≤ z) && H v (z - 1))
def dnH (h : Nat) (H : Nat → Nat → Bool) (v z : Nat) : Bool := H v z && (decide (h ≤ z) || H v (z + 1))
theorem up_valid (k : Valid h s t H) : Valid h s t (upH H) := fun z hz => by
 unfold upH
 refine ⟨by rw [(k z hz).1, Bool.true_or], ?_⟩
 rw [(k z hz).2, Bool.false_or]
 by_cases c : 1 ≤ z
 ·rw [(k (z - 1) (by omega)).2, Bool.and_false]
 ·rw [decide_eq_false c, Bool.false_and]
theorem dn_valid (k : Valid h s t H) : Valid h s t (dnH h H) := fun z hz => by
 unfold dnH
 refine ⟨?_, by rw [(k z hz).2, Bool.false_and]⟩
 rw [(k z hz).1, Bool.true_and]
 by_cases c : h ≤ z
 ·rw [decide_eq_true c, Bool.true_or]
 ·rw [(k (z + 1) (by omega)).1, Bool.or_true]
theorem arc_le (o : TfOk n h s t l) {j : Nat} (hj : j < l.length) : sumN (h + 1) (ctA h s t l (upH H) j) + sumN (h + 1) (ctA h s t l (dnH h H) j) ≤ sumN (h + 1) (ctA h s t l H j) + sumN (h + 1) (ctA h s t l H j) := by
 have hc := (o.caps j hj).1
 have ht := (o.net.time j hj).1
 by_cases c : (arcAt l j).f3 ≤ h ∧ useT s t (arcAt l j) = true
 ·obtain ⟨c1, c2⟩ := c
  obtain ⟨d, hd⟩ := Int.eq_ofNat_of_zero_le ht
  obtain ⟨K, hK⟩ : ∃ K, h = K + d := ⟨h - d, by omega⟩
  have tail : ∀ H' : Nat → Nat → Bool, sumN (h + 1) (ctA h s t l H' j) = sumN (K + 1) (ctA h s t l H' j) := fun H' => by
   rw [show h + 1 = (K + 1) + d by omega, sumN_split, sumN_zero d (fun i _ => by
    unfold ctA
    rw [if_neg (fun e => by have := e.1; omega)]), Int.add_zero]
  have inn : ∀ (H' : Nat → Nat → Bool) (a : Nat), a ≤ K → ctA h s t l H' j a = if H' (arcAt l j).f0.toNat a = true ∧ H' (arcAt l j).f1.toNat (a + d) = false then (arcAt l j).f2 else 0 := fun H' a ha => by
   unfold ctA
   rw [if_pos ⟨by omega, c2⟩, hd, Int.toNat_natCast]
  rw [tail, tail, tail]
  generalize (arcAt l j).f0.toNat = u at inn
  generalize (arcAt l j).f1.toNat = v at inn
  generalize (arcAt l j).f2 = w at inn hc
  refine shift_all ?_ ?_ (fun a ha => ?_)
  ·rw [inn _ 0 (by omega), inn _ 0 (by omega)]
   have e : upH H u 0 = H u 0 := by
    unfold upH
    rw [decide_eq_false (by omega), Bool.false_and, Bool.or_false]
   rw [e]
   by_cases g : H u 0 = true ∧ upH H v (0 + d) = false
   ·have g2 : H v (0 + d) = false := by
     have := g.2
     unfold upH at this
     exact (Bool.or_eq_false_iff.1 this).1
    rw [if_pos g, if_pos ⟨g.1, g2⟩]
    exact Int.le_refl _
   ·rw [if_neg g]
    split <;> omega
  ·rw [inn _ K (by omega), inn _ K (by omega)]
   have e : dnH h H v (K + d) = H v (K + d) := by
    unfold dnH
    rw [decide_eq_true (by omega), Bool.true_or, Bool.and_true]
   rw [e]
   by_cases g : dnH h H u K = true ∧ H v (K + d) = false
   ·have g2 : H u K = true := by
     have := g.1
     unfold dnH at this
     exact (Bool.and_eq_true_iff.1 this).1
    rw [if_pos g, if_pos ⟨g2, g.2⟩]
    exact Int.le_refl _
   ·rw [if_neg g]
    split <;> omega
  ·rw [inn _ (a + 1) (by omega), inn _ a (by omega), inn _ a (by omega), inn _ (a + 1) (by omega)]
   have e1 : upH H u (a + 1) = (H u (a + 1) || H u a) := by
    unfold upH
    rw [decide_eq_true (by omega), Bool.true_and, Nat.add_sub_cancel]
   have e2 : upH H v (a + 1 + d) = (H v (a + 1 + d) || H v (a + d)) := by
    unfold upH
    rw [decide_eq_true (by omega), Bool.true_and, show a + 1 + d - 1 = a + d by omega]
   have e3 : dnH h H u a = (H u a && H u (a + 1)) := by
    unfold dnH
    rw [decide_eq_false (by omega), Bool.false_or]
   have e4 : dnH h H v (a + d) = (H v (a + d) && H v (a + 1 + d)) := by
    unfold dnH
    rw [decide_eq_false (by omega), Bool.false_or, show a + d + 1 = a + 1 + d by omega]
   rw [e1, e2, e3, e4]
   cases H u a <;> cases H u (a + 1) <;> cases H v (a + d) <;> cases H v (a + 1 + d) <;> simp <;> omega
 ·have z : ∀ H' : Nat → Nat → Bool, sumN (h + 1) (ctA h s t l H' j) = 0 := fun H' => sumN_zero _ (fun a _ => by
   unfold ctA
   rw [if_neg (fun e => c ⟨by have := e.1; omega, e.2⟩)])
  rw [z, z, z]
  omega
theorem cost_le (o : TfOk n h s t l) (H : Nat → Nat → Bool) : cost h s t l (upH H) + cost h s t l (dnH h H) ≤ cost h s t l H + cost h s t l H := by
 unfold cost
 rw [← sumN_add, ← sumN_add]
 exact sumN_le _ (fun j hj => arc_le o hj)
def upK (H : Nat → Nat → Bool) : Nat → Nat → Nat → Bool
 |0 => H
 |k + 1 => upH (upK H k)
theorem upK_iff (H : Nat → Nat → Bool) (v : Nat) : ∀ k z : Nat, upK H k v z = true ↔ ∃ j, j ≤ k ∧ j ≤ z ∧ H v (z - j) = true
 |0, z => ⟨fun h => ⟨0, Nat.le_refl _, Nat.zero_le _, h⟩, fun ⟨j, h1, h2, h3⟩ => by
  have : j = 0 := by omega
  subst this
  exact h3⟩
 |k + 1, z => by
  show upH (upK H k) v z = true ↔ _
  unfold upH
  rw [Bool.or_eq_true, Bool.and_eq_true, decide_eq_true_eq, upK_iff H v k z, upK_iff H v k (z - 1)]
  constructor
  ·rintro (⟨j, h1, h2, h3⟩ | ⟨h0, j, h1, h2, h3⟩)
   ·exact ⟨j, by omega, h2, h3⟩
   ·exact ⟨j + 1, by omega, by omega, by rw [show z - (j + 1) = z - 1 - j by omega]; exact h3⟩
  ·rintro ⟨j, h1, h2, h3⟩
   by_cases c : j ≤ k
   ·exact .inl ⟨j, c, h2, h3⟩
   ·refine .inr ⟨by omega, j - 1, by omega, by omega, ?_⟩
    rw [show z - 1 - (j - 1) = z - j by omega]
    exact h3
theorem upK_valid (k : Valid h s t H) : ∀ i, Valid h s t (upK H i)
 |0 => k
 |i + 1 => up_valid (upK_valid k i)
theorem upK_rises (H : Nat → Nat → Bool) (v : Nat) {z : Nat} (hz : z < h) (e : upK H (h + 1) v z = true) : upK H (h + 1) v (z + 1) = true := by
 rw [upK_iff] at e ⊢
 obtain ⟨j, h1, h2, h3⟩ := e
 exact ⟨j + 1, by omega, by omega, by rw [show z + 1 - (j + 1) = z - j by omega]; exact h3⟩
def sideH (n h : Nat) (H : Nat → Nat → Bool) : Int → Bool := fun u => decide (u = (((h + 1) * n : Nat) : Int)) || (decide (0 ≤ u ∧ u < (((h + 1) * n : Nat) : Int)) && H (u % n).toNat (u / n).toNat)
theorem sideH_at {v z : Nat} (hv : v < n) (hz : z ≤ h) : sideH n h H ((z : Int) * n + v) = H v z := by
 have i1 := idx_lt (a := (z : Int)) (n := (n : Int)) (h := (h : Int)) (x := (v : Int)) (by omega) (by omega) (by omega) (by omega)
 have e9 : (((h + 1) * n : Nat) : Int) = ((h : Int) + 1) * n := by rw [Int.natCast_mul, Int.natCast_add]; rfl
 unfold sideH
 rw [decide_eq_false (by omega), Bool.false_or, decide_eq_true (by omega), Bool.true_and]
 have hn : (n : Int) ≠ 0 := by omega
 have q1 : ((z : Int) * n + v) % n = v := by
  rw [Int.add_comm, Int.add_mul_emod_self_right, Int.emod_eq_of_lt (by omega) (by omega)]
 have q2 : ((z : Int) * n + v) / n = z := by
  rw [Int.add_comm, Int.add_mul_ediv_right _ _ hn, Int.ediv_eq_zero_of_lt (by omega) (by omega), Int.zero_add]
 rw [q1, q2, Int.toNat_natCast, Int.toNat_natCast]
theorem sideH_N : sideH n h H (((h + 1) * n : Nat) : Int) = true := by
 unfold sideH
 rw [decide_eq_true rfl, Bool.true_or]
theorem sideH_N1 : sideH n h H (((h + 1) * n + 1 : Nat) : Int) = false := by
 unfold sideH
 rw [decide_eq_false (by omega), Bool.false_or, decide_eq_false (by omega), Bool.false_and]
theorem cutL_none {S : Int → Bool} : ∀ {L : List Arc}, (∀ x, x ∈ L → cutA S x = 0) → cutL S L = 0
 |[], _ => rfl
 |x :: L, h => by
  show cutA S x + cutL S L = 0
  rw [h x (List.mem_cons_self ..), cutL_none (fun y hy => h y (List.mem_cons_of_mem _ hy))]
  rfl
theorem cut_form (o : TfOk n h s t l) {S : Int → Bool} (hs : ∀ z : Nat, z ≤ h → S ((z : Int) * n + s) = true) (ht : ∀ z : Nat, z ≤ h → S ((z : Int) * n + t) = false) :
  cutL S (tfA n h s t b l) = sumN (h + 1) (fun a => sumN l.length (mS l (useT s t) n h S a) + sumN n (wS (keepsT b s t) n h S a)) := by
 rw [tfA_is, cutL_append, cut_bA, cutL_none (L := fArcs ((h + 1) * n) n s (h + 1) ++ lArcs ((h + 1) * n + 1) n t (h + 1)) (fun x hx => ?_), Int.add_zero]
 unfold cutA
 refine if_neg (fun e => ?_)
 rcases List.mem_append.1 hx with hx | hx
 ·obtain ⟨a, h1, rfl⟩ := fArcs_mem hx
  have := e.2
  simp only at this
  rw [hs a (by omega)] at this
  cases this
 ·obtain ⟨a, h1, rfl⟩ := lArcs_mem hx
  have := e.1
  simp only at this
  rw [ht a (by omega)] at this
  cases this
theorem cut_side (o : TfOk n h s t l) (k : Valid h s t H) : cutL (sideH n h H) (tfA n h s t b l) = cost h s t l H + sumN (h + 1) (fun a => sumN n (wS (keepsT b s t) n h (sideH n h H) a)) := by
 rw [cut_form o (fun z hz => by rw [sideH_at o.hs hz]; exact (k z hz).1) (fun z hz => by rw [sideH_at o.ht hz]; exact (k z hz).2), sumN_add]
 congr 1
 unfold cost
 rw [sumN_swap]
 refine sumN_congr _ (fun j hj => sumN_congr _ (fun a ha => ?_))
 unfold mS ctA
 simp only
 by_cases c : (a : Int) + (arcAt l j).f3 ≤ h ∧ useT s t (arcAt l j) = true
 ·rw [if_pos c, if_pos c]
  obtain ⟨g1, g2⟩ := o.net.ends j hj
  have g3 := (o.net.time j hj).1
  have q1 := sideH_at (H := H) (n := n) (h := h) (v := (arcAt l j).f0.toNat) (z := a) (by omega) (by omega)
  have q2 := sideH_at (H := H) (n := n) (h := h) (v := (arcAt l j).f1.toNat) (z := a + (arcAt l j).f3.toNat) (by omega) (by omega)
  rw [Int.toNat_of_nonneg g1.1] at q1
  rw [Int.natCast_add, Int.toNat_of_nonneg g2.1, Int.toNat_of_nonneg g3] at q2
  rw [q1, q2]
 ·rw [if_neg c, if_neg c]
theorem le_cut (o : TfOk n h s t l) (hT : TopEx n h s t b l) {S : Int → Bool} (h1 : S (((h + 1) * n : Nat) : Int) = true) (h2 : S (((h + 1) * n + 1 : Nat) : Int) = false) : tfV n h s t b l ≤ cutL S (tfA n h s t b l) := by
 obtain ⟨F, S0, hF, hT⟩ := hT
 have e1 : tfV n h s t b l = leaves (tfA n h s t b l).length (frOf (tfA n h s t b l)) (toOf (tfA n h s t b l)) (dOf F) ((h + 1) * n : Nat) := mfVal_eq (o.arcs b) (by omega) hF hT
 rw [e1, ← takes_cutL S _ _ rfl]
 exact value_le (tf_ends o b) hT.1 hT.2.1 ⟨by omega, by omega⟩ h1 h2
theorem le_cost (o : TfOk n h s t l) (hT : TopEx n h s t false l) (k : Valid h s t H) : tfV n h s t false l ≤ cost h s t l H := by
 have := le_cut o hT (S := sideH n h H) sideH_N sideH_N1
 rw [cut_side o k, sumN_zero (h + 1) (fun a _ => sumN_zero n (fun v _ => by
  unfold wS
  rw [if_neg (fun e => by cases e.2)])), Int.add_zero] at this
 exact this
theorem has_side (o : TfOk n h s t l) (hT : TopEx n h s t false l) : ∃ H, Valid h s t H ∧ cost h s t l H = tfV n h s t false l := by
 obtain ⟨S, h1, h2, h3⟩ : ∃ S : Int → Bool, S (((h + 1) * n : Nat) : Int) = true ∧ S (((h + 1) * n + 1 : Nat) : Int) = false ∧ tfV n h s t false l = cutL S (tfA n h s t false l) := by
  obtain ⟨F, S0, hF, hT⟩ := hT
  have e1 : tfV n h s t false l = leaves (tfA n h s t false l).length (frOf (tfA n h s t false l)) (toOf (tfA n h s t false l)) (dOf F) ((h + 1) * n : Nat) := mfVal_eq (o.arcs false) (by omega) hF hT
  obtain ⟨a1, a2, a3, a4, a5⟩ := hT
  have e2 := value_eq (tf_ends o false) a1 a2 ⟨by omega, by omega⟩ a3 a4 a5
  rw [takes_cutL S0 _ _ rfl] at e2
  exact ⟨S0, a4, a5, by rw [e1, e2]⟩
 have hst := o.st
 have hsm : tfV n h s t false l < 1099511627776 := by
  have k1 : Valid h s t (fun v _ => decide (v = s)) := fun z _ => ⟨decide_eq_true rfl, decide_eq_false (fun e => hst e.symm)⟩
  have h4 := le_cost o hT k1
  have h5 : cost h s t l (fun v _ => decide (v = s)) ≤ sumN l.length (fun j => ((h : Int) + 1) * 1048576) := sumN_le _ (fun j hj => by
   have h6 : sumN (h + 1) (ctA h s t l (fun v _ => decide (v = s)) j) ≤ sumN (h + 1) (fun _ => (1048576 : Int)) := sumN_le _ (fun a ha => by
    have := (o.caps j hj).2
    unfold ctA
    split
    ·split <;> omega
    ·omega)
   refine Int.le_trans h6 (Int.le_of_eq ?_)
   have : ∀ m : Nat, sumN m (fun _ => (1048576 : Int)) = (m : Int) * 1048576 := fun m => by
    induction m with
    |zero => rfl
    |succ m ih => rw [sumN, ih]; omega
   rw [this (h + 1)]
   rfl)
  have h7 : ∀ m : Nat, sumN m (fun _ => ((h : Int) + 1) * 1048576) = (m : Int) * (((h : Int) + 1) * 1048576) := fun m => by
   induction m with
   |zero => rw [sumN, Int.natCast_zero, Int.zero_mul]
   |succ m ih =>
    rw [sumN, ih]
    generalize ((h : Int) + 1) * 1048576 = X
    rw [Int.natCast_add, Int.add_mul, Int.natCast_one, Int.one_mul]
  rw [h7] at h5
  have h8 : (((h + 1) * l.length : Nat) : Int) ≤ 10000 := by have := o.net.hl; omega
  have h9 : (l.length : Int) * (((h : Int) + 1) * 1048576) = (((h + 1) * l.length : Nat) : Int) * 1048576 := by
   rw [Int.natCast_mul, ← Int.mul_assoc, Int.mul_comm (l.length : Int)]
   rfl
  omega
 have hcap : ∀ x, x ∈ tfA n h s t false l → 0 ≤ x.f2 := fun x hx => (o.arcs false x hx).2.2.1
 obtain ⟨hc0, hcm⟩ := cutL_mem (S := S) hcap
 have hs : ∀ z : Nat, z ≤ h → S ((z : Int) * n + s) = true := fun z hz => by
  cases e : S ((z : Int) * n + s) with
  |true => rfl
  |false =>
   have := hcm ⟨(((h + 1) * n : Nat) : Int), (z : Int) * n + s, 1099511627776, 0⟩ (by
    rw [tfA_is]
    refine List.mem_append_right _ (List.mem_append_left _ ?_)
    rw [← arcAt_fArcs (k := h + 1) (show z < h + 1 by omega)]
    exact mem_arcAt (by rw [fArcs_len]; omega)) h1 e
   simp only at this
   omega
 have ht : ∀ z : Nat, z ≤ h → S ((z : Int) * n + t) = false := fun z hz => by
  cases e : S ((z : Int) * n + t) with
  |false => rfl
  |true =>
   have := hcm ⟨(z : Int) * n + t, (((h + 1) * n + 1 : Nat) : Int), 1099511627776, 0⟩ (by
    rw [tfA_is]
    refine List.mem_append_right _ (List.mem_append_right _ ?_)
    rw [← arcAt_lArcs (k := h + 1) (show z < h + 1 by omega)]
    exact mem_arcAt (by rw [lArcs_len]; omega)) e h2
   simp only at this
   omega
 refine ⟨fun v z => S ((z : Int) * n + v), fun z hz => ⟨hs z hz, ht z hz⟩, ?_⟩
 rw [h3, cut_form o hs ht]
 unfold cost
 rw [sumN_swap]
 refine sumN_congr _ (fun a ha => ?_)
 rw [sumN_zero n (fun v _ => by
  unfold wS
  rw [if_neg (fun e => by cases e.2)]), Int.add_zero]
 refine sumN_congr _ (fun j hj => ?_)
 unfold mS ctA
 simp only
 obtain ⟨g1, g2⟩ := o.net.ends j hj
 have g3 := (o.net.time j hj).1
 have q1 : S ((a : Int) * n + (((arcAt l j).f0.toNat : Nat) : Int)) = S ((a : Int) * n + (arcAt l j).f0) := by rw [Int.toNat_of_nonneg g1.1]
 have q2 : S (((a + (arcAt l j).f3.toNat : Nat) : Int) * n + (((arcAt l j).f1.toNat : Nat) : Int)) = S (((a : Int) + (arcAt l j).f3) * n + (arcAt l j).f1) := by rw [Int.natCast_add, Int.toNat_of_nonneg g2.1, Int.toNat_of_nonneg g3]
 simp only [q1, q2]
theorem upK_cost (o : TfOk n h s t l) (hT : TopEx n h s t false l) (k : Valid h s t H) (e : cost h s t l H = tfV n h s t false l) : ∀ i, cost h s t l (upK H i) = tfV n h s t false l
 |0 => e
 |i + 1 => by
  have ih := upK_cost o hT k e i
  have h1 := cost_le o (upK H i)
  have h2 := le_cost o hT (up_valid (upK_valid k i))
  have h3 := le_cost o hT (dn_valid (upK_valid k i))
  show cost h s t l (upH (upK H i)) = _
  omega
theorem tf_hold (o : TfOk n h s t l) (hT0 : TopEx n h s t false l) (hT1 : TopEx n h s t true l) : tfV n h s t true l = tfV n h s t false l := by
 obtain ⟨H, k, e⟩ := has_side o hT0
 have k2 := upK_valid k (h + 1)
 have e2 := upK_cost o hT0 k e (h + 1)
 refine Int.le_antisymm ?_ ?_
 ·have h1 := le_cut o hT1 (S := sideH n h (upK H (h + 1))) sideH_N sideH_N1
  rw [cut_side o k2, e2, sumN_zero (h + 1) (fun a ha => sumN_zero n (fun v hv => ?_)), Int.add_zero] at h1
  ·exact h1
  ·unfold wS
   by_cases c : (a : Int) < h ∧ keepsT true s t v = true
   ·rw [if_pos c]
    refine if_neg (fun g => ?_)
    have q1 := g.1
    have q2 := g.2
    rw [sideH_at hv (by omega)] at q1
    rw [show ((a : Int) + 1) * n + v = ((a + 1 : Nat) : Int) * n + v from rfl, sideH_at hv (by omega), upK_rises H v (by omega) q1] at q2
    cases q2
   ·exact if_neg c
 ·obtain ⟨F, S0, hF, hT⟩ := hT1
  have e1 : tfV n h s t true l = leaves (tfA n h s t true l).length (frOf (tfA n h s t true l)) (toOf (tfA n h s t true l)) (dOf F) ((h + 1) * n : Nat) := mfVal_eq (o.arcs true) (by omega) hF hT
  obtain ⟨a1, a2, a3, a4, a5⟩ := hT
  have e3 := value_eq (tf_ends o true) a1 a2 ⟨by omega, by omega⟩ a3 a4 a5
  rw [takes_cutL S0 _ _ rfl] at e3
  have h1 := le_cut o hT0 a4 a5
  rw [e1, e3]
  refine Int.le_trans h1 ?_
  have c0 : ∀ b, cutL S0 (tfB n h s t b l).arcs = sumN (h + 1) (fun a => sumN l.length (mS l (useT s t) n h S0 a) + sumN n (wS (keepsT b s t) n h S0 a)) := fun b => cut_bA _ _ _ _ _ _ _
  have c1 : ∀ b, cutL S0 (tfA n h s t b l) = cutL S0 (tfB n h s t b l).arcs + cutL S0 (fArcs ((h + 1) * n) n s (h + 1) ++ lArcs ((h + 1) * n + 1) n t (h + 1)) := fun b => by rw [tfA_is, cutL_append]
  rw [c1, c1, c0, c0]
  have h2 : sumN (h + 1) (fun a => sumN l.length (mS l (useT s t) n h S0 a) + sumN n (wS (keepsT false s t) n h S0 a)) ≤ sumN (h + 1) (fun a => sumN l.length (mS l (useT s t) n h S0 a) + sumN n (wS (keepsT true s t) n h S0 a)) := sumN_le _ (fun a _ => by
   have := sumN_le n (g := wS (keepsT false s t) n h S0 a) (h := wS (keepsT true s t) n h S0 a) (fun v _ => by
    unfold wS
    rw [if_neg (fun e => by cases e.2)]
    split
    ·split <;> omega
    ·omega)
   omega)
  omega
end
end Go.Proofs.Ytdfagllncopmjaa.H
end
section
namespace Go.Proofs.Ytdfagllncopmjaa.H
open Go Go.RowKit Go.Proofs.Ytdfagllncopmjaa.PrintC Go.Proofs.Ytdfagllncopmjaa.PrintE Go.Proofs.YtdfagllncopmjaaW.PrintWords Go.Proofs.YtdfagllncopmjaaW.PrintLast Go.Proofs.YtdfagllncopmjaaW.PrintMore Go.Proofs.Ytdfagllncopmjaa.Flow
set_option linter.unusedVariables false
set_option linter.unusedSimpArgs false
section
variable {a0 : Int} {b : Bool} {l2 : List CBit} {a3 a4 a5 : Int} {A2 : Option Addr} {c2 : Nat} {w : World}
set_option maxHeartbeats 4000000 in
set_option maxRecDepth 100000 in
theorem law_holds (o : SmallAt w a0 l2 a3 a4 a5 A2) :
  Calls Try.prog 3 #[.agg (smallCells a0 b A2 l2.length c2 a3 a4 a5)] w fun e w' => e = .returned (.bool true) ∧ Below w.heap.size w w' := by
 have HO := zh o
 have hu := Try.underlying28
 have hu2 := Try.underlying24
 clear o
 go_enter Try.func3, Try.ntmps3
 obtain ⟨w1, hw1⟩ : ∃ w1, w1 = w.alloc (.cells (smallCells a0 b A2 l2.length c2 a3 a4 a5) 24) := ⟨_, rfl⟩
 have HX : Hid (w1.heap[w.heap.size]? = some (.cells (smallCells a0 b A2 l2.length c2 a3 a4 a5) 24 (0, 0)) ∧ Below w.heap.size w w1) := zh (by rw [hw1]; exact ⟨heap_alloc_new _ _, below_alloc (Below.refl _ _) _⟩)
 go_wp2_with (first
  |(go_at_call 4; rw [← hw1]; go_loud ((with_reducible refine (awake_walk _).mono ?_); rintro e w8 ⟨rfl, hb⟩; have HN9 := zh (And.intro (blk_below HX.out.1 hb) (below_step HX.out.2 hb)); clear HX; have HX := HN9; clear HN9; clear hb; have x0 : w8.cell? ⟨w.heap.size, 0, none⟩ = some (.int .u8 a0) := (blk_cell HX.out.1 0).trans rfl; have x1 : w8.cell? ⟨w.heap.size, 1, none⟩ = some (.bool b) := (blk_cell HX.out.1 1).trans rfl; have x2 : w8.cell? ⟨w.heap.size, 2, none⟩ = some (.slice A2 l2.length c2) := (blk_cell HX.out.1 2).trans rfl; have x3 : w8.cell? ⟨w.heap.size, 3, none⟩ = some (.int .u8 a3) := (blk_cell HX.out.1 3).trans rfl; have x4 : w8.cell? ⟨w.heap.size, 4, none⟩ = some (.int .u8 a4) := (blk_cell HX.out.1 4).trans rfl; have x5 : w8.cell? ⟨w.heap.size, 5, none⟩ = some (.int .u8 a5) := (blk_cell HX.out.1 5).trans rfl))
  |(go_at_call 5; go_loud ((with_reducible refine (rd_walk 10 (by decide) 10 (by decide) (HO.out.below HX.out.2)).mono ?_); rintro e w2 ⟨n, h, s, t, l, A, c, rfl, hA, hc, ho, hq, hh7, hn5, hsm, hb⟩; have HB2 := zh (below_step HX.out.2 hb); have HA := zh hA; have HC := zh hc; have HK := zh (And.intro ho hq); clear hb hA hc ho hq hsm HX x0 x1 x2 x3 x4 x5)))
 obtain ⟨w3, hw3⟩ : ∃ w3, w3 = w2.alloc (.cells #[.int .i64 n, .bool true, .slice A l.length c] 28) := ⟨_, rfl⟩
 have HY : Hid (w3.heap[w2.heap.size]? = some (.cells #[.int .i64 n, .bool true, .slice A l.length c] 28 (0, 0)) ∧ Below w2.heap.size w2 w3) := zh (by rw [hw3]; exact ⟨heap_alloc_new _ _, below_alloc (Below.refl _ _) _⟩)
 go_wp2_with (go_at_call 6; rw [← hw3]; go_loud ((with_reducible refine (most_walk HK.out.1 HK.out.2 HC.out ?s1).mono ?_); (case s1 => exact Kd.C_below HA.out HY.out.2); rintro e w9 ⟨rfl, hb, hT⟩; have HT1 := zh hT; have HN9 := zh (And.intro (blk_below HY.out.1 hb) (below_step HY.out.2 hb)); clear HY; have HY := HN9; clear HN9; clear hb hT hw3; generalize hvt : tfV n h s t true l = V1; have HV1 := zh hvt; clear hvt; have y0 : w9.cell? ⟨w2.heap.size, 0, none⟩ = some (.int .i64 n) := (blk_cell HY.out.1 0).trans rfl; have y1 : w9.cell? ⟨w2.heap.size, 1, none⟩ = some (.bool true) := (blk_cell HY.out.1 1).trans rfl; have y2 : w9.cell? ⟨w2.heap.size, 2, none⟩ = some (.slice A l.length c) := (blk_cell HY.out.1 2).trans rfl; have yf : w9.frozen? ⟨w2.heap.size, 1, none⟩ = false := blk_frozen HY.out.1 1))
 obtain ⟨w4, hw4⟩ : ∃ w4, w4 = w9.setCell ⟨w2.heap.size, 1, none⟩ (.bool false) := ⟨_, rfl⟩
 have HZ : Hid (Below w2.heap.size w2 w4) := zh (by rw [hw4]; exact below_set HY.out.2 (Nat.le_refl _))
 have t1 : (V1 == V1) = true := by simp
 have t2 : (V1 != V1) = false := by simp
 go_wp2_with (go_at_call 6; rw [← hw4]; go_loud ((with_reducible refine (most_walk HK.out.1 HK.out.2 HC.out ?s1).mono ?_); (case s1 => exact Kd.C_below HA.out HZ.out); rintro e wa ⟨rfl, hb, hT⟩; have e1 : tfV n h s t false l = V1 := (tf_hold HK.out.1 hT HT1.out).symm.trans HV1.out; rw [e1]; have HW := zh (below_step HZ.out hb); clear hb hT hw4 e1))
 go_ret
 exact ⟨rfl, below_step HB2.out HW.out⟩
end
end Go.Proofs.Ytdfagllncopmjaa.H
end
