/- For rows: an argument that is a network, or an arc. -/
import Derived.Test.YthalacoockoomaaDoorHRowKit
import Derived.Test.YthalacoockoomaaDoorPrint
import Derived.Lib.SmallJoins
import Derived.Deep.Slices
namespace Go.Proofs.YthalacoockoomaaDoor.H
open Go Go.ChangeShapes Go.WideShapes Go.ChangeAt Go.RowKit Go.Deep Go.Joins Go.Proofs.YthalacoockoomaaDoor.Print Go.Proofs.YthalacoockoomaaDoorW.PrintWords Go.Proofs.YthalacoockoomaaDoorW.PrintLast
section
variable {Hh : Type} {enc : TypeId × Value → Hh} {W : World} {base : Nat} {spare : Nat → Bool} {held : Bool}

theorem one_int {n : Nat} {v : Value} {y : DataW Hh × List MemPlace} (h : DataW.trod enc Tryd.prog W base spare held n 3 [v] = some y) : ∃ k, v = .int .i64 k ∧ inRange k := by
  obtain ⟨k, hc, _, hw⟩ := DataW.trod_int Tryd.underlying3 h
  simp only [List.cons.injEq, and_true] at hc
  exact ⟨k, hc, wf_range hw⟩
theorem one_bool {n : Nat} {v : Value} {y : DataW Hh × List MemPlace} (h : DataW.trod enc Tryd.prog W base spare held n 4 [v] = some y) : ∃ b, v = .bool b := by
  obtain ⟨b, hc, _⟩ := DataW.trod_bool Tryd.underlying4 h
  simp only [List.cons.injEq, and_true] at hc
  exact ⟨b, hc⟩

def arcR (a : S37) : Prop := inRange a.f0 ∧ inRange a.f1 ∧ inRange a.f2 ∧ inRange a.f3
theorem arc_cells : Tryd.prog.cellsOf 37 = 4 := by kernel_rfl
theorem int_cells : Tryd.prog.cellsOf 3 = 1 := by kernel_rfl
set_option maxRecDepth 100000 in
theorem opened_arcc {n : Nat} {cs : List Value} {y : DataW Hh × List MemPlace} (h : DataW.trod enc Tryd.prog W base spare held n 37 cs = some y) :
    ∃ a : S37, cs = [.int .i64 a.f0, .int .i64 a.f1, .int .i64 a.f2, .int .i64 a.f3] ∧ arcR a := by
  obtain ⟨y0, y1, y2, y3, m, _, hl, h0, h1, h2, h3⟩ := trod_struct4 Tryd.underlying37 h
  rw [arc_cells] at hl
  match cs, hl with
  | [c0, c1, c2, c3], _ =>
    simp only [int_cells] at h0 h1 h2 h3
    obtain ⟨k0, rfl, r0⟩ := one_int h0
    obtain ⟨k1, rfl, r1⟩ := one_int h1
    obtain ⟨k2, rfl, r2⟩ := one_int h2
    obtain ⟨k3, rfl, r3⟩ := one_int h3
    exact ⟨⟨k0, k1, k2, k3⟩, rfl, r0, r1, r2, r3⟩
set_option maxRecDepth 100000 in
theorem opened_arcs {n : Nat} {v : Value} {y : DataW Hh × List MemPlace} (h : DataW.trod enc Tryd.prog W base spare held n 22 [v] = some y) :
    ∃ (A : Option Addr) (c : Nat) (l : List S37), v = .slice A l.length c ∧ l.length ≤ c ∧ Kd.C k37 W A l.length l ∧ l.length ≤ 9223372036854775807 ∧ ∀ a ∈ l, arcR a := by
  rcases open_slice Tryd.underlying22 h with ⟨hcs, _⟩ | ⟨a, len, cap, m, n', D, Pl, hcs, hb, hl, hm, hmm, hx, hi⟩
  · simp only [List.cons.injEq, and_true] at hcs
    subst hcs
    exact ⟨none, 0, [], rfl, Nat.le_refl _, Kd.C_nil _ _, by simp, by simp⟩
  · simp only [List.cons.injEq, and_true] at hcs
    subst hcs
    have hlm : len ≤ m := by
      rw [hmm]
      split
      · exact hl
      · exact Nat.le_refl _
    have hq : ∀ i, ∃ s : S37, i < len → arcR s ∧ ∀ j u, [Value.int .i64 s.f0, .int .i64 s.f1, .int .i64 s.f2, .int .i64 s.f3][j]? = some u → W.cell? (a.add (i * 4 + j)) = some u := by
      intro i
      by_cases hlt : i < len
      · obtain ⟨cs', hc, ht⟩ := hi i (by omega)
        obtain ⟨s, rfl, hr⟩ := opened_arcc ht
        rw [arc_cells] at hc
        obtain ⟨_, _, hat⟩ := World.cells?_some hc
        refine ⟨s, fun _ => ⟨hr, fun j u hu => ?_⟩⟩
        have hj : j < 4 := (List.getElem?_eq_some_iff.1 hu).1
        have h4 := hat j hj
        rw [← Go.Deep.add_add, h4, hu]
      · exact ⟨⟨0, 0, 0, 0⟩, fun h => absurd h hlt⟩
    obtain ⟨g, hg⟩ := Classical.axiomOfChoice hq
    have hml : len ≤ 9223372036854775807 := by unfold maxLen at hm; omega
    refine ⟨some a, cap, (List.range len).map g, by simp, by simpa using hl, ⟨by simp, by simpa using hml, fun _ => ⟨a, rfl, fun j p hj => ?_⟩⟩, by simpa using hml, ?_⟩
    · have hj1 : j < len := by have := (List.getElem?_eq_some_iff.1 hj).1; simpa using this
      have hj2 : g j = p := by
        have := hj
        simp [hj1] at this
        exact this
      subst hj2
      exact ⟨_, rfl, k37_mk W (g j), fun i u hu => (hg j hj1).2 i u hu⟩
    · intro s hs
      obtain ⟨i, hi2, rfl⟩ := List.mem_map.1 hs
      exact (hg i (List.mem_range.1 hi2)).1

set_option maxRecDepth 100000 in
theorem opened_arc {r : Reach} {b0 : Nat} {v : Value} {d : DataW Hh} {p : List MemPlace} (hv : Value.okWide Tryd.prog W r b0 37 v) (h : DataW.Trod enc Tryd.prog W base spare held 37 v d p) :
    ∃ a0 a1 a2 a3 : Int, v = .agg #[.int .i64 a0, .int .i64 a1, .int .i64 a2, .int .i64 a3] ∧ inRange a0 ∧ inRange a1 ∧ inRange a2 ∧ inRange a3 := by
  obtain ⟨v0, v1, v2, v3, y0, y1, y2, y3, n, rfl, _, _, h0, h1, h2, h3⟩ := open_agg4 Tryd.underlying37 (by kernel_rfl) arc_cells hv h
  obtain ⟨k0, rfl, r0⟩ := one_int h0
  obtain ⟨k1, rfl, r1⟩ := one_int h1
  obtain ⟨k2, rfl, r2⟩ := one_int h2
  obtain ⟨k3, rfl, r3⟩ := one_int h3
  exact ⟨k0, k1, k2, k3, rfl, r0, r1, r2, r3⟩
theorem net_cells : Tryd.prog.cellsOf 24 = 3 := by kernel_rfl
set_option maxRecDepth 100000 in
theorem opened_net {r : Reach} {b0 : Nat} {v : Value} {d : DataW Hh} {p : List MemPlace} (hv : Value.okWide Tryd.prog W r b0 24 v) (h : DataW.Trod enc Tryd.prog W base spare held 24 v d p) :
    ∃ (n : Int) (b : Bool) (A : Option Addr) (c : Nat) (l : List S37), v = .agg #[.int .i64 n, .bool b, .slice A l.length c] ∧ l.length ≤ c ∧ Kd.C k37 W A l.length l ∧ inRange n ∧ l.length ≤ 9223372036854775807 ∧ ∀ a ∈ l, arcR a := by
  obtain ⟨v0, v1, v2, y0, y1, y2, n, rfl, _, _, h0, h1, h2⟩ := open_agg3 Tryd.underlying24 (by kernel_rfl) net_cells hv h
  obtain ⟨k0, rfl, r0⟩ := one_int h0
  obtain ⟨b, rfl⟩ := one_bool h1
  obtain ⟨A, c, l, rfl, g1, g2, g3, g4⟩ := opened_arcs h2
  exact ⟨k0, b, A, c, l, rfl, g1, g2, r0, g3, g4⟩
end
end Go.Proofs.YthalacoockoomaaDoor.H
