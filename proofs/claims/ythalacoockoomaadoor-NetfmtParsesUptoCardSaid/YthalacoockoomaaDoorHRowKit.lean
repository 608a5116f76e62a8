/- For the rows of layer word's laws: what is listed, a world that holds it, how arguments are opened. -/
import Derived.Test.YthalacoockoomaaDoorCards
import Derived.Test.YthalacoockoomaaDoorTie
import Derived.Test.YthalacoockoomaaDoorHWordAll
import Derived.Test.YthalacoockoomaaDoorWWords
import Derived.Test.YthalacoockoomaaDoorWSized
import Derived.WalkKit
import Derived.ProofKit
import Derived.OpenShut
import Derived.ShutString
import Derived.ChangeOld
import Derived.Below
import Derived.SizedLaws
import Derived.SliceStrings
import Derived.Deep.DeepHandedRow
import Derived.Lib.LaidTab
namespace Go.Proofs.YthalacoockoomaaDoor.H
open Go Go.ChangeShapes Go.WideShapes Go.ChangeAt Go.RowKit Go.Proofs.YthalacoockoomaaDoorW.PrintWords

theorem ownK : ownKnob Tryd.prog.godebug = none := by kernel_rfl
theorem laidOutK : laidOutB Tryd.prog = true := by kernel_rfl

theorem laid_tail {P : Program} {x : String × DataW Unit} {l : List (String × DataW Unit)} {W : World} (h : laidMet P (x :: l) W) : laidMet P l W := by
  obtain ⟨ps, ⟨g', t', cs, fuel, p, q, h1, h2, h3, h4, hq, rfl⟩, hn, hc⟩ := h
  exact ⟨q, hq, (List.nodup_append.1 hn).2.1, fun b off hm => hc b off (List.mem_append.2 (.inr hm))⟩

theorem gTab : Tryd.prog.globalNamed "internal/strconv.uint64pow10" = some 0 := by kernel_rfl
theorem tabW_of {W : World} {rest : List (String × DataW Unit)} {x y : String × DataW Unit} (h : laidMet Tryd.prog (x :: y :: ("internal/strconv.uint64pow10", Rows.laid_internal_strconv_uint64pow10) :: rest) W) (hs : W.ShapedOpen Tryd.prog) : TabW W := by
  refine ⟨?_, Tryd.laysM146.s1_3 W hs⟩
  have ht := laid_tail (laid_tail h)
  have e : (Rows.laid_internal_strconv_uint64pow10 : DataW Unit) = Lib.tabData .u64 Lib.pow10Tab := rfl
  rw [e] at ht
  exact Lib.tabIs_of_head (rest := rest) gTab (t := 95) (e := 86) (by kernel_rfl) Tryd.underlying95 Tryd.underlying86 (by kernel_rfl) (by kernel_rfl) ht

/-! a world that holds the listed tables -/
def cellsLit : DataW Unit → List Value
  | .lit (.int k n) => [.int k n]
  | _ => []
def cellsRow : DataW Unit → List Value
  | .lit (.int k n) => [.int k n]
  | .agg l => l.flatMap cellsLit
  | _ => []
def cellsTab : DataW Unit → List Value
  | .agg l => l.flatMap cellsRow
  | _ => []
def layObj (d : DataW Unit) : Obj → Obj
  | .cells _ t frozen => .cells (cellsTab d).toArray t frozen
  | o => o
noncomputable def laidWorld (os : Os) : World :=
  { World.holding Tryd.prog os ⟨#[], #[], []⟩ with heap := (((((World.holding Tryd.prog os ⟨#[], #[], []⟩).heap.modify 4 (layObj Rows.laid_math_bits_deBruijn32tab)).modify 5 (layObj Rows.laid_math_bits_deBruijn64tab)).modify 0 (layObj Rows.laid_internal_strconv_uint64pow10)).modify 3 (layObj Rows.laid_unicode_utf8_acceptRanges)).modify 2 (layObj Rows.laid_unicode_utf8_first) }

/-! opening -/
section
variable {Hh : Type} {enc : TypeId × Value → Hh} {P : Program} {W : World} {base : Nat} {spare : Nat → Bool} {held : Bool}
theorem kc_ints {k : IntKind} {x : Addr} {zs : List Int} {len : Nat} (hl : len ≤ zs.length) (hm : len ≤ maxLen) (hc : ∀ i, i < zs.length → W.cell? (x.add i) = some (.int k (zs.getD i 0))) : Kd.C (Kd.int k) W (some x) (zs.take len).length (zs.take len) := by
  refine ⟨rfl, by rw [List.length_take]; unfold maxLen at hm; omega, fun hn => ⟨x, rfl, fun j p hj => ⟨[.int k p], rfl, rfl, fun i u hu => ?_⟩⟩⟩
  have hj' := (List.getElem?_eq_some_iff.1 hj).1
  rw [List.length_take] at hj'
  match i, hu with
  | 0, hu =>
    have hu' : Value.int k p = u := by simpa using hu
    rw [show j * (Kd.int k).sz + 0 = j from Nat.mul_one j]
    rw [hc j (by omega), ← hu']
    have : zs.getD j 0 = p := by
      rw [List.getElem?_take_of_lt (by omega)] at hj
      simp [List.getD, hj]
    rw [this]
  | i + 1, hu => simp at hu
theorem kc_strs {x : Addr} {ss : List ByteArray} {len : Nat} (hl : len ≤ ss.length) (hm : len ≤ maxLen) (hc : ∀ i, i < ss.length → W.cell? (x.add i) = some (.string (ss.getD i ByteArray.empty))) : Kd.C Kd.string W (some x) (ss.take len).length (ss.take len) := by
  refine ⟨rfl, by rw [List.length_take]; unfold maxLen at hm; omega, fun hn => ⟨x, rfl, fun j p hj => ⟨[.string p], rfl, rfl, fun i u hu => ?_⟩⟩⟩
  have hj' := (List.getElem?_eq_some_iff.1 hj).1
  rw [List.length_take] at hj'
  match i, hu with
  | 0, hu =>
    have hu' : Value.string p = u := by simpa using hu
    rw [show j * Kd.string.sz + 0 = j from Nat.mul_one j]
    rw [hc j (by omega), ← hu']
    have : ss.getD j ByteArray.empty = p := by
      rw [List.getElem?_take_of_lt (by omega)] at hj
      simp [List.getD, hj]
    rw [this]
  | i + 1, hu => simp at hu

theorem kc_none {α : Type} (d : Kd α) : Kd.C d W none ([] : List α).length [] := ⟨rfl, by simp, fun h => by simp at h⟩

theorem opened_ints {t e : TypeId} {k : IntKind} {a : Option Addr} {len cap : Nat} {d : DataW Hh} {ps : List MemPlace} (hu : P.underlying t = some (.slice e)) (he : P.underlying e = some (.int k)) (hc : P.cellsOf e = 1)
    (h : DataW.Trod enc P W base spare held t (.slice a len cap) d ps) :
    ∃ l : List Int, len = l.length ∧ l.length ≤ cap ∧ Kd.C (Kd.int k) W a l.length l ∧ (∀ n ∈ l, (Lit.int k n).wf = true) ∧ l.length ≤ Rows.uptoBulk d := by
  obtain ⟨fuel, hf⟩ := h
  rcases open_ints hu he hc hf with ⟨hcs, hx⟩ | ⟨x, l, c, zs, hcs, _, hl, hm, hz, hx, hcell, hwz⟩
  · simp [Value.cells] at hcs
    obtain ⟨rfl, rfl, rfl⟩ := hcs
    exact ⟨[], rfl, Nat.zero_le _, kc_none _, by simp, Nat.zero_le _⟩
  · simp [Value.cells] at hcs
    obtain ⟨rfl, rfl, rfl⟩ := hcs
    have hlz : len ≤ zs.length := by
      rw [hz]
      split
      · exact hl
      · exact Nat.le_refl _
    obtain ⟨hd, _⟩ := Prod.mk.inj hx
    refine ⟨zs.take len, by rw [List.length_take]; omega, by rw [List.length_take]; omega, kc_ints hlz (Nat.le_trans hl hm) hcell, fun n hn => hwz n (List.mem_of_mem_take hn), ?_⟩
    rw [hd]
    have hb : ∀ l : List Int, l.length ≤ Rows.uptoBulkAll (lits (H := Hh) k l) := fun l => by
      induction l with
      | nil => simp
      | cons y l ih =>
        simp only [lits, List.map_cons, Rows.uptoBulkAll, Rows.uptoBulk, List.length_cons] at ih ⊢
        omega
    have := hb (zs.take len)
    simp only [Rows.uptoBulk]
    omega

theorem opened_strs {t e : TypeId} {a : Option Addr} {len cap : Nat} {d : DataW Hh} {ps : List MemPlace} (hu : P.underlying t = some (.slice e)) (he : P.underlying e = some .string) (hc : P.cellsOf e = 1)
    (h : DataW.Trod enc P W base spare held t (.slice a len cap) d ps) :
    ∃ l : List ByteArray, len = l.length ∧ l.length ≤ cap ∧ Kd.C Kd.string W a l.length l ∧ (∀ s ∈ l, s.size ≤ 9223372036854775807) := by
  obtain ⟨fuel, hf⟩ := h
  rcases open_strings hu he hc hf with ⟨hcs, hx⟩ | ⟨x, l, c, ss, hcs, _, hl, hm, hz, hx, hcell, hwz⟩
  · simp [Value.cells] at hcs
    obtain ⟨rfl, rfl, rfl⟩ := hcs
    exact ⟨[], rfl, Nat.zero_le _, kc_none _, by simp⟩
  · simp [Value.cells] at hcs
    obtain ⟨rfl, rfl, rfl⟩ := hcs
    have hlz : len ≤ ss.length := by
      rw [hz]
      split
      · exact hl
      · exact Nat.le_refl _
    exact ⟨ss.take len, by rw [List.length_take]; omega, by rw [List.length_take]; omega, kc_strs hlz (Nat.le_trans hl hm) hcell, fun s hs => by have := hwz s (List.mem_of_mem_take hs); unfold maxLen at this; exact this⟩
end

theorem bound_of {Hh : Type} {l : List (DataW Hh)} (hk : Rows.uptoSmall Hh l = true) : Rows.uptoBulkAll l ≤ 1048576 := of_decide_eq_true hk
theorem part_le {Hh : Type} {d : DataW Hh} {l : List (DataW Hh)} (h : d ∈ l) : Rows.uptoBulk d ≤ Rows.uptoBulkAll l := by
  induction l with
  | nil => cases h
  | cons x r ih =>
    simp only [Rows.uptoBulkAll]
    rcases List.mem_cons.1 h with e | e
    · subst e; omega
    · have := ih e; omega
theorem wf_range {n : Int} (h : (Lit.int .i64 n).wf = true) : -9223372036854775808 ≤ n ∧ n ≤ 9223372036854775807 := by
  simp only [Lit.wf, Bool.and_eq_true, decide_eq_true_eq] at h
  exact h
end Go.Proofs.YthalacoockoomaaDoor.H
