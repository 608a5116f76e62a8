/- Joined texts: HWordPure, HTab, HNum, HSplit, HRange, HSeq, HWords, HLines, HBuild, HRow. -/
import Derived.WalkKit
import Derived.Test.YthalacoockoomaaDoorHShelf
import Derived.Test.YthalacoockoomaaDoorProg
import Derived.Lib.LaidTab
import Derived.Lib.AppendIntMem
import Derived.Test.YthalacoockoomaaDoorWWords
import Derived.Lib.OthersKept
import Derived.Laws.RangeString
import Derived.Laws.RangeAny
import Derived.Lib.Split
import Derived.Lib.IndexBytes
import Derived.Lib.IndexLaws
import Derived.RangeFuncBox
import Derived.RangeFuncLeaves
import Derived.RangeFuncNested
import Derived.RangeFuncBound
import Derived.RangeFuncCalls
import Derived.Shelf.Abstract
import Derived.OwnWalkIn
import Derived.TacticsInMore
import Derived.LoopNIn
import Derived.LoopIn
import Derived.Shelf.RegionOpen
import Derived.Maps.AppendAt
import Derived.Lib.SplitLaws
import Derived.Lib.Builder
import Derived.Lib.AppendStr
import Derived.KernelRfl
/- The plain functions that layer word's Go functions are shown to compute. No program in sight. -/
namespace Go.Proofs.YthalacoockoomaaDoor.H

/-- The digits' loop of word.Number: none where a byte is no digit. -/
def numGo : List UInt8 → Int → Option Int
  | [], n => some n
  | c :: l, n => if (c.toNat : Int) < 48 ∨ 57 < (c.toNat : Int) then none else numGo l (if n < 576460752303423488 then 10 * n + ((c.toNat : Int) - 48) else n)

def numEnd (k : Nat) (neg : Bool) : Option Int → Int × Int
  | none => (0, 40)
  | some n => if 18 < k then (0, 10) else (if neg then -n else n, 0)

/-- word.Number behind the sign. -/
def numTail (d : List UInt8) (neg : Bool) : Int × Int :=
  if d = [] then (0, 40)
  else if d.head? = some 48 ∧ (d ≠ [48] ∨ neg = true) then (0, 40)
  else numEnd d.length neg (numGo d 0)

/-- word.Number. -/
def numF (s : List UInt8) : Int × Int := if s.head? = some 45 then numTail s.tail true else numTail s false

def word_Number.f (a0 : ByteArray) : Option (Int × Int) := some (numF a0.data.toList)

end Go.Proofs.YthalacoockoomaaDoor.H

/- What the world must hold for word's functions: the table of powers, and a number in MaxLen. -/
namespace Go.Proofs.YthalacoockoomaaDoor.H
open Go Go.RowKit

structure TabW (w : World) : Prop where
  tab : Lib.TabIs Tryd.prog w "internal/strconv.uint64pow10" .u64 Lib.pow10Tab
  len : ∃ m, w.cell? ⟨1, 0, none⟩ = some (.int .i64 m)

theorem TabW.below {w w' : World} (h : TabW w) (hb : Below w.heap.size w w') : TabW w' := by
  refine ⟨?_, ?_⟩
  · have ht := h.tab
    unfold Lib.TabIs World.var? at *
    cases hg : Tryd.prog.globalNamed "internal/strconv.uint64pow10" with
    | none => simp [hg] at ht
    | some g =>
      simp only [hg, Option.bind_some] at ht ⊢
      have hlt : g < w.heap.size := by
        rcases Nat.lt_or_ge g w.heap.size with h' | h'
        · exact h'
        · rw [Array.getElem?_eq_none h'] at ht; simp at ht
      rw [hb.block g hlt]
      exact ht
  · obtain ⟨m, hm⟩ := h.len
    exact ⟨m, (hb.cell (World.block_lt_of_cell? w _ hm)).trans hm⟩

end Go.Proofs.YthalacoockoomaaDoor.H

/- word.Number computes numF. -/
namespace Go.Proofs.YthalacoockoomaaDoor.H
open Go.RowKit Go.Proofs.YthalacoockoomaaDoorW.PrintWords

theorem str_mk (s : ByteArray) : (⟨s.data.toList.toArray⟩ : ByteArray) = s := by simp
theorem numF_cut (s : ByteArray) : numF s.data.toList = numTail (Lib.trimPrefix s.data.toList [45]) (Lib.hasPrefix s.data.toList [45]) := by
  unfold numF Lib.trimPrefix Lib.hasPrefix
  cases h : s.data.toList with
  | nil => simp [List.isPrefixOf]
  | cons c l =>
    by_cases hc : c = 45
    · subst hc; simp [List.isPrefixOf]
    · have h1 : ((45 : UInt8) == c) = false := by simpa using fun e => hc e.symm
      simp [List.isPrefixOf, hc, h1]

theorem numGo_step (c : UInt8) (l : List UInt8) (n : Int) (h1 : 48 ≤ (c.toNat : Int)) (h2 : (c.toNat : Int) ≤ 57) :
    numGo (c :: l) n = numGo l (if n < 576460752303423488 then 10 * n + ((c.toNat : Int) - 48) else n) := by
  rw [numGo, if_neg (by omega)]

/-- Behind the sign, whatever CutPrefix says. -/
def NumPost (d : ByteArray) (neg : Bool) (w : World) (e : Ending) (w' : World) : Prop :=
  e = .returned (.tuple #[.int .i64 (numTail d.data.toList neg).1, .int .i64 (numTail d.data.toList neg).2]) ∧ Below w.heap.size w w'

theorem numPost_mk {d : ByteArray} {neg : Bool} {w w' : World} {a b : Int} (h : numTail d.data.toList neg = (a, b)) (hb : Below w.heap.size w w') :
    NumPost d neg w (.returned (.tuple #[.int .i64 a, .int .i64 b])) w' := ⟨by rw [h], hb⟩

def CutIs (s d : ByteArray) (neg : Bool) : Prop :=
  ∀ W : World, Calls Tryd.prog 56 #[.string s, .string ⟨#[45]⟩] W fun e w' => e = .returned (.tuple #[.string d, .bool neg]) ∧ W = w'

set_option maxHeartbeats 1000000 in
set_option maxRecDepth 100000 in
theorem num_body (s d : ByteArray) (neg : Bool) (w : World) (hc : CutIs s d neg) :
    Calls Tryd.prog 47 #[.string s] w (NumPost d neg w) := by
  by_cases c1 : d.toList = ([] : List UInt8)
  · have c1b : (d.toList == ([] : List UInt8)) = true := beq_iff_eq.mpr c1
    have H : numTail d.data.toList neg = (0, 40) := by rw [← ByteArray.toList_eq, c1]; rfl
    replace H := Lib.hid H
    clear c1
    go_enter Tryd.func47, Tryd.ntmps47
    go_wp2_with (go_at_call 56; refine (hc _).mono ?_; rintro e w' ⟨rfl, rfl⟩)
    go_ret2
    exact numPost_mk H.out (Below.refl _ _)
  · have c1b : (d.toList == ([] : List UInt8)) = false := beq_eq_false_iff_ne.mpr c1
    have hpos : 0 < d.size := by
      rcases Nat.eq_zero_or_pos d.size with h | h
      · exact absurd (by rw [ByteArray.toList_eq]; exact List.length_eq_zero_iff.1 (by simpa using h)) c1
      · exact h
    have hne : d.data.toList ≠ [] := by rw [← ByteArray.toList_eq]; exact c1
    have hh : d.data.toList.head? = some d[0] := by
      rw [List.head?_eq_getElem?, List.getElem?_eq_getElem (by simpa using hpos)]; rfl
    have p2 : decide (0 < (d.size : Int)) = true := decide_eq_true (by omega)
    have p3 : decide (0 < d.size) = true := decide_eq_true hpos
    have q5 : (0 < d.size) = True := eq_true hpos
    have qi5 : (0 < (d.size : Int)) = True := eq_true (by omega)
    have hx5 : ∀ h : 0 < d.size, ((d[0]'h).toNat : Int) = bt d 0 := bt_at d 0
    have hnum : (numTail d.data.toList neg = (0, 40) ∧ ((bt d 0) == 48) = true ∧ ¬ d.toList = [48])
        ∨ (numTail d.data.toList neg = (0, 40) ∧ ((bt d 0) == 48) = true ∧ (d.toList == ([48] : List UInt8)) = true ∧ neg = true)
        ∨ (numTail d.data.toList neg = numEnd d.data.toList.length neg (numGo d.data.toList 0) ∧ (((bt d 0) == 48) = false ∨ (((bt d 0) == 48) = true ∧ (d.toList == ([48] : List UInt8)) = true ∧ neg = false))) := by
      by_cases c2 : bt d 0 = 48
      · have c2b : ((bt d 0) == 48) = true := beq_iff_eq.mpr c2
        have hc48 : d[0] = 48 := by
          have h := hx5 hpos
          rw [c2] at h
          exact UInt8.toNat_inj.1 (by simpa using (by omega : d[0].toNat = 48))
        by_cases c3 : d.toList = ([48] : List UInt8)
        · cases neg with
          | true => exact .inr (.inl ⟨by unfold numTail; rw [if_neg hne, if_pos ⟨by rw [hh, hc48], Or.inr rfl⟩], c2b, beq_iff_eq.mpr c3, rfl⟩)
          | false =>
            have e : d.data.toList = [48] := by rw [← ByteArray.toList_eq]; exact c3
            exact .inr (.inr ⟨by rw [e]; rfl, .inr ⟨c2b, beq_iff_eq.mpr c3, rfl⟩⟩)
        · exact .inl ⟨by unfold numTail; rw [if_neg hne, if_pos ⟨by rw [hh, hc48], Or.inl (by rw [← ByteArray.toList_eq]; exact c3)⟩], c2b, c3⟩
      · refine .inr (.inr ⟨?_, .inl (beq_eq_false_iff_ne.mpr c2)⟩)
        unfold numTail
        rw [if_neg hne, if_neg (by rintro ⟨h, _⟩; rw [hh] at h; apply c2; rw [← hx5 hpos]; injection h with h; rw [h]; rfl)]
    clear c1 hne hh
    rcases hnum with ⟨H, c2b, c3⟩ | ⟨H, c2b, c3, rfl⟩ | ⟨H, hg⟩
    · replace H := Lib.hid H
      go_enter Tryd.func47, Tryd.ntmps47
      go_wp2_with (go_at_call 56; refine (hc _).mono ?_; rintro e w' ⟨rfl, rfl⟩)
      go_ret2
      exact numPost_mk H.out (Below.refl _ _)
    · replace H := Lib.hid H
      go_enter Tryd.func47, Tryd.ntmps47
      go_wp2_with (go_at_call 56; refine (hc _).mono ?_; rintro e w' ⟨rfl, rfl⟩)
      go_ret2
      exact numPost_mk H.out (Below.refl _ _)
    · replace H := Lib.hid H
      have hlen : d.data.toList.length = d.size := by simp
      rcases hg with c2b | ⟨c2b, c3, rfl⟩
      all_goals
        go_enter Tryd.func47, Tryd.ntmps47
        replace hlen := Lib.hid hlen
        go_wp2_with (go_at_call 56; refine (hc _).mono ?_; rintro e w' ⟨rfl, rfl⟩)
        go_loopw [6] (fun v wr => ∃ (pos : Nat) (n : Int), v = .int .i64 n ∧ wr.heap[w.heap.size]? = some (.stringIter d pos) ∧ Below w.heap.size w wr ∧ 0 ≤ n ∧ n ≤ 5764607523034234889 ∧ pos ≤ d.size ∧ Hid (numGo (d.data.toList.drop pos) n = numGo d.data.toList 0)) (fun _ wr => d.size - wr.iterPos w.heap.size)
        case atStart =>
          exact ⟨0, 0, rfl, World.iter_heap w d 0, (Below.refl _ w).alloc (Nat.le_refl _) _, by omega, by omega, by omega, rfl⟩
        case round =>
          obtain ⟨pos, n, rfl, hit, hb, hn0, hn1, hps, hg⟩ := hrel
          have hsz : w.heap.size < wr.heap.size := (Array.getElem?_eq_some_iff.1 hit).1
          by_cases hp : pos < d.size
          · have hdrop : d.data.toList.drop pos = d[pos] :: d.data.toList.drop (pos + 1) := by
              rw [List.drop_eq_getElem_cons (by simpa using hp)]; rfl
            by_cases ha : (d[pos]'hp).toNat < 128
            · have hnx : ∀ ty, (Instr.next (.pointer (some ⟨w.heap.size, 0, none⟩)) true ty).run Tryd.prog wr = _ := fun ty => Lib.run_next_ascii_at wr w.heap.size d pos ty hit hp ha
              have hit2 := Lib.iterAt_heap wr w.heap.size d pos (pos + 1) hit
              have hbw2 := Lib.below_iterAt hb (k := w.heap.size) (Nat.le_refl _) d (pos + 1)
              have HD := Lib.hid hdrop
              clear hdrop
              by_cases h1 : ((d[pos]'hp).toNat : Int) < 48
              · have hres : numGo d.data.toList 0 = none := by rw [← hg, HD.out, numGo, if_pos (Or.inl h1)]
                replace hres := Lib.hid hres
                go_wp2
                go_ret2
                exact numPost_mk (by rw [H.out, hres.out]; rfl) hbw2
              · by_cases h2 : 57 < ((d[pos]'hp).toNat : Int)
                · have hres : numGo d.data.toList 0 = none := by rw [← hg, HD.out, numGo, if_pos (Or.inr h2)]
                  replace hres := Lib.hid hres
                  go_wp2
                  go_ret2
                  exact numPost_mk (by rw [H.out, hres.out]; rfl) hbw2
                · have hs := numGo_step (d[pos]'hp) (d.data.toList.drop (pos + 1)) n (by omega) (by omega)
                  replace hs := Lib.hid hs
                  by_cases h3 : n < 576460752303423488
                  · go_wp2
                    go_roundw
                    case rel =>
                      exact ⟨pos + 1, 10 * n + (((d[pos]'hp).toNat : Int) - 48), by go_num, hit2, hbw2, by omega, by omega, by omega, Lib.hid (by rw [← hg, HD.out, hs.out, if_pos h3])⟩
                    case measure =>
                      simp only [World.iterPos, hit2, hit]
                      omega
                  · go_wp2
                    go_roundw
                    case rel =>
                      exact ⟨pos + 1, n, rfl, hit2, hbw2, by omega, by omega, by omega, Lib.hid (by rw [← hg, HD.out, hs.out, if_neg h3])⟩
                    case measure =>
                      simp only [World.iterPos, hit2, hit]
                      omega
            · have hnx : ∀ ty, (Instr.next (.pointer (some ⟨w.heap.size, 0, none⟩)) true ty).run Tryd.prog wr = _ := fun ty => Lib.run_next_any_at wr w.heap.size d pos ty hit hp
              have hhi := (decode_high d pos hp (by omega)).1
              have hbw2 := Lib.below_iterAt hb (k := w.heap.size) (Nat.le_refl _) d (pos + (Utf8.decode d pos).2)
              have hres : numGo d.data.toList 0 = none := by rw [← hg, hdrop, numGo, if_pos (Or.inr (by omega))]
              replace hres := Lib.hid hres
              clear hdrop
              have h1 : ¬ ((Utf8.decode d pos).1 : Int) < 48 := by omega
              have h2 : 57 < ((Utf8.decode d pos).1 : Int) := by omega
              go_wp2
              go_ret2
              exact numPost_mk (by rw [H.out, hres.out]; rfl) hbw2
          · have hpe : pos = d.size := by omega
            have hres : numGo d.data.toList 0 = some n := by rw [← hg, List.drop_eq_nil_of_le (by simp; omega)]; rfl
            have hnx : ∀ ty, (Instr.next (.pointer (some ⟨w.heap.size, 0, none⟩)) true ty).run Tryd.prog wr = _ := fun ty => Lib.run_next_end_at wr w.heap.size d pos ty hit hp
            replace hres := Lib.hid hres
            clear hpe
            by_cases h18 : 18 < (d.size : Int)
            · go_wp2
              go_ret2
              exact numPost_mk (by rw [H.out, hres.out, numEnd, if_pos (by rw [hlen.out]; omega)]) hb
            · first
              | (cases neg <;>
                (go_wp2
                 go_ret2
                 exact numPost_mk (by rw [H.out, hres.out, numEnd, if_neg (by rw [hlen.out]; omega)]; rfl) hb))
              | (go_wp2
                 go_ret2
                 exact numPost_mk (by rw [H.out, hres.out, numEnd, if_neg (by rw [hlen.out]; omega)]; rfl) hb)

theorem word_Number.calls (a0 : ByteArray) (r1 : Int) (r2 : Int) (w : World) (h : word_Number.f a0 = some (r1, r2)) :
    Calls Tryd.prog 47 #[.string a0] w fun e w' => e = .returned (.tuple #[.int .i64 r1, .int .i64 r2]) ∧ Below w.heap.size w w' := by
  have h' := Option.some.inj h
  rw [numF_cut] at h'
  refine (num_body a0 ⟨(Lib.trimPrefix a0.data.toList [45]).toArray⟩ (Lib.hasPrefix a0.data.toList [45]) w (fun W => (Tryd.strings_CutPrefix _ _ _).mono fun _ _ hh => ⟨hh.1, hh.2.symm⟩)).mono ?_
  rintro e w' ⟨rfl, hb⟩
  refine ⟨?_, hb⟩
  simp only at h' ⊢
  rw [h']
end Go.Proofs.YthalacoockoomaaDoor.H

/- Plain: a list of bytes cut at each c; what Lib's indexByte and splitK say of it. No program in sight. -/
namespace Go.Proofs.YthalacoockoomaaDoor.H

/-- A list cut at each c. -/
def splitL (c : UInt8) : List UInt8 → List (List UInt8)
  | [] => [[]]
  | x :: l => if x = c then [] :: splitL c l else match splitL c l with
    | [] => [[x]]
    | p :: ps => (x :: p) :: ps

theorem splitL_ne (c : UInt8) (l : List UInt8) : splitL c l ≠ [] := by
  cases l with
  | nil => simp [splitL]
  | cons x l =>
    rw [splitL]
    split
    · simp
    · split <;> simp

theorem splitL_none (c : UInt8) : ∀ l : List UInt8, c ∉ l → splitL c l = [l]
  | [], _ => rfl
  | x :: l, h => by
    have h1 : x ≠ c := fun e => h (by simp [e])
    have h2 : c ∉ l := fun e => h (by simp [e])
    rw [splitL, if_neg h1, splitL_none c l h2]

theorem splitL_cut (c : UInt8) : ∀ (a l : List UInt8), c ∉ a → splitL c (a ++ c :: l) = a :: splitL c l
  | [], l, _ => by rw [List.nil_append, splitL, if_pos rfl]
  | x :: a, l, h => by
    have h1 : x ≠ c := fun e => h (by simp [e])
    have h2 : c ∉ a := fun e => h (by simp [e])
    rw [List.cons_append, splitL, if_neg h1, splitL_cut c a l h2]

theorem indexByte_split (c : UInt8) (l : List UInt8) : (Lib.indexByte l c = -1 ∧ c ∉ l) ∨ (∃ i : Nat, Lib.indexByte l c = i ∧ i < l.length ∧ l = l.take i ++ c :: l.drop (i + 1) ∧ c ∉ l.take i) := by
  induction l with
  | nil => exact .inl ⟨rfl, by simp⟩
  | cons x l ih =>
    by_cases hx : x = c
    · subst hx
      exact .inr ⟨0, by simp [Lib.indexByte], by simp, by simp, by simp⟩
    · have hb : (x == c) = false := by simpa using hx
      rcases ih with ⟨h1, h2⟩ | ⟨i, h1, h2, h3, h4⟩
      · refine .inl ⟨by simp [Lib.indexByte, hb, h1], fun h => ?_⟩
        rcases List.mem_cons.1 h with e | e
        · exact hx e.symm
        · exact h2 e
      · refine .inr ⟨i + 1, ?_, by simp; omega, ?_, fun h => ?_⟩
        · have hne : ((i : Int) == -1) = false := by simp
          simp [Lib.indexByte, hb, h1, hne]
        · rw [List.take_succ_cons, List.drop_succ_cons, List.cons_append, ← h3]
        · rw [List.take_succ_cons] at h
          rcases List.mem_cons.1 h with e | e
          · exact hx e.symm
          · exact h4 e

theorem splitL_step (c : UInt8) (l : List UInt8) (i : Nat) (h1 : l = l.take i ++ c :: l.drop (i + 1)) (h2 : c ∉ l.take i) : splitL c l = l.take i :: splitL c (l.drop (i + 1)) := by
  conv => lhs; rw [h1]
  exact splitL_cut c _ _ h2

theorem splitL_length (c : UInt8) : ∀ l : List UInt8, (splitL c l).length = l.count c + 1
  | [] => rfl
  | x :: l => by
    rw [splitL]
    by_cases hx : x = c
    · subst hx
      rw [if_pos rfl, List.length_cons, splitL_length x l, List.count_cons_self]
    · have hc : List.count c (x :: l) = List.count c l := List.count_cons_of_ne (fun e => hx e)
      rw [if_neg hx, hc]
      cases hs : splitL c l with
      | nil => exact absurd hs (splitL_ne c l)
      | cons p ps =>
        have := splitL_length c l
        rw [hs] at this
        simpa using this

theorem splitK_eq (c : UInt8) : ∀ (k : Nat) (l : List UInt8), l.count c ≤ k → Lib.splitK [c] 0 k l = splitL c l
  | 0, l, h => by
    rw [Lib.splitK, splitL_none]
    intro hm
    have := List.count_pos_iff.2 hm
    omega
  | k + 1, l, h => by
    rw [Lib.splitK, Lib.index_one]
    rcases indexByte_split c l with ⟨h1, h2⟩ | ⟨i, h1, h2, h3, h4⟩
    · rw [h1, splitL_none c l h2]
      rfl
    · have hne : ((i : Int) == -1) = false := by simp
      rw [h1, splitL_step c l i h3 h4, if_neg (by rw [hne]; decide)]
      simp only [Int.toNat_natCast, Nat.add_zero, List.length_singleton]
      rw [splitK_eq c k]
      have hc : l.count c = (l.take i).count c + ((l.drop (i + 1)).count c + 1) := by
        conv => lhs; rw [h3]
        rw [List.count_append, List.count_cons_self]
      omega

/-- Bytes as a text. -/
def mkB (l : List UInt8) : ByteArray := ⟨l.toArray⟩
theorem mkB_data (l : List UInt8) : (mkB l).data.toList = l := rfl
theorem mkB_of (s : ByteArray) : mkB s.data.toList = s := by simp [mkB]
def piecesB (c : UInt8) (s : ByteArray) : List ByteArray := (splitL c s.data.toList).map mkB

theorem piecesB_step (c : UInt8) (s : ByteArray) (i : Nat) (h1 : s.data.toList = s.data.toList.take i ++ c :: s.data.toList.drop (i + 1)) (h2 : c ∉ s.data.toList.take i) :
    piecesB c s = s.extract 0 i :: piecesB c (s.extract (i + 1) s.size) := by
  unfold piecesB
  rw [splitL_step c _ i h1 h2, List.map_cons, Lib.extract_to_end]
  congr 1
  rw [← mkB_of (s.extract 0 i)]
  congr 1
  rw [Lib.extract_from_zero]
theorem piecesB_none (c : UInt8) (s : ByteArray) (h : c ∉ s.data.toList) : piecesB c s = [s] := by
  unfold piecesB
  rw [splitL_none c _ h, List.map_singleton, mkB_of]
theorem piecesB_length (c : UInt8) (s : ByteArray) : (piecesB c s).length ≤ s.size + 1 := by
  unfold piecesB
  rw [List.length_map, splitL_length]
  have h1 := List.count_le_length (a := c) (l := s.data.toList)
  have h2 : s.data.toList.length = s.size := by simp
  omega
end Go.Proofs.YthalacoockoomaaDoor.H

/- A range over an iterator that keeps a variable of its own in a box (block b) and is never left early: one law. -/
namespace Go.Proofs.YthalacoockoomaaDoor.H
open Go Go.RowKit

/-- How a round's body must end: it goes on. -/
def goesOn {α : Type} (Kp : World → World → Prop) (I : List α → World → Prop) (xs : List α) (W : World) : Exit → Act → World → Prop
  | .normal, _, W' => KeepsOthers W W' ∧ Kp W W' ∧ I xs W'
  | _, _, _ => False

theorem range_box {α : Type} {F : Fence} {n : Nat} {P : Program} {g : Operand} {ps : Array Tmp} {assign body : Code} {Q : Exit → Act → World → Prop} {a : Act} {w : World}
    (hro : F.round = none) (h1 : 1 ≤ n) {gf : Nat} {lb : Array Value} (hg : a.eval g = .func (.func gf) #[] lb) (hFg : F.fn gf) (eg : ∀ args w, (callFunc gf args).run P w = .ok (.enter gf args) w)
    {encs : α → Array Value} (hps : ∀ x, (encs x).size = ps.size) (b : Nat) (hb : b < w.heap.size)
    (I : List α → World → Prop)
    (hI : ∀ s W W' row, I s W → W.grownBy W' row → (∀ r, row = some r → r = b ∨ (w.heap.size ≤ r ∧ ∃ o : Obj, W.heap[r]? = some o ∧ o.isCells = false)) → I s W')
    (Kp : World → World → Prop) (hKt : ∀ {A B C : World}, Kp A B → Kp B C → Kp A C) (hKb : ∀ (W : World) (l : Nat) (o' : Obj), w.heap.size ≤ l → Kp W (W.putObj l o'))
    (xs : List α)
    (hseq : ∀ (l : Nat) (J : List α → World → Prop) (W : World), Below w.heap.size w W →
      (∀ s A B row, J s A → A.grownBy B row → (∀ r, row = some r → r = b) → J s B) →
      (∀ pre x W1, J pre W1 → pre ++ [x] <+: xs → YieldAt F (n - 1 - 1) P l (encs x) W1 fun e W' => e = .returned (.bool true) ∧ J (pre ++ [x]) W' ∧ Kp W1 W') → J [] W →
      CallsIn F (n - 1) P gf (#[.func (.yield l) #[] #[]] ++ lb) W fun e W' => (∃ v, e = .returned v) ∧ J xs W')
    (h0 : I [] w) (a₁ : α → Act)
    (hassign : ∀ (l : Nat) (x : α) (W : World) (K : Act → World → Prop), K (a₁ x) W →
      assign.wpIn (F.inRound l) (n - 1 - 1) P (Exit.then K (fun _ _ _ => False)) { tmps := (ps.zip (encs x)).foldl (fun t (p, v) => t.setIfInBounds p v) a.tmps, defers := [] } W)
    (hbody : ∀ (l : Nat) (pre : List α) (x : α) (W : World), I pre W → pre ++ [x] <+: xs → body.wpIn (F.inRound l) (n - 1 - 1) P (goesOn Kp I (pre ++ [x]) W) (a₁ x) W)
    (hdone : ∀ (D : Nat) (W : World), w.heap.size ≤ D → I xs W → W.heap[D]? = some (.deferred (some [])) → Q .normal { a with defers := { target := .collected D, args := #[] } :: a.defers } W) :
    (Code.rangeFunc g ps assign body).wpIn F n P Q a w := by
  refine wpIn_rangeFunc ?_
  intro fn hfn
  rw [hro]
  let rec0 : LoopState → Loop := fun st => { state := st, pending := none, fn, tmps := a.tmps, params := ps, assign, body, defers := w.heap.size }
  obtain ⟨W1, hW1⟩ : ∃ W1, (w.alloc (.deferred (some []))).alloc (.loop (rec0 .ready)) = W1 := ⟨_, rfl⟩
  have hL1 : W1.heap[w.heap.size + 1]? = some (.loop (rec0 .ready)) := by
    rw [← hW1]
    have := World.alloc_heap_new (w.alloc (.deferred (some []))) (.loop (rec0 .ready))
    rwa [World.size_alloc] at this
  have hK1 : W1.heap[w.heap.size]? = some (.deferred (some [])) := by
    rw [← hW1]
    exact (Below.heap_alloc _ _ _ (by simp)).trans (World.alloc_heap_new w _)
  have hbW : Below w.heap.size w W1 := by
    rw [← hW1]
    exact ((Below.refl _ w).alloc (Nat.le_refl _) _).alloc (by simp) _
  have hI1 : I [] W1 := hI _ _ _ none h0 ⟨hbW.os, hbW.tape, hbW.output, hbW.size, fun i hi _ => hbW.block i hi⟩ (fun r e => by cases e)
  refine ⟨w.heap.size + 1, [{ target := .collected w.heap.size, args := #[] }], W1, { target := .fn (.func gf) lb, args := #[.func (.yield (w.heap.size + 1)) #[] #[]] }, W1, gf,
    #[.func (.yield (w.heap.size + 1)) #[] #[]] ++ lb, W1, ?_, ?_, ?_, ?_, fun _ => h1, ?_⟩
  · rw [← hW1]
    exact run_enterLoop_outer _ _ _ _ _
  · simp only [resolve, hg]
    simp [go_sem]
  · intro f' hf'
    simp [Target.leads] at hf'
    subst hf'
    exact hFg
  · simp [invoke, go_sem, eg]
  · refine (hseq (w.heap.size + 1) (fun pre W => I pre W ∧ W.heap[w.heap.size + 1]? = some (.loop (rec0 .ready)) ∧ W.heap[w.heap.size]? = some (.deferred (some []))) W1 hbW ?_ ?_ ⟨hI1, hL1, hK1⟩).mono ?_
    · rintro s A B row ⟨hi, hl, hk⟩ hgr hrow
      have ne : ∀ k, w.heap.size ≤ k → some k ≠ row := fun k hk e => by
        have := hrow k e.symm
        omega
      exact ⟨hI s A B row hi hgr (fun r e => .inl (hrow r e)), (hgr.block _ (Array.getElem?_eq_some_iff.1 hl).1 (ne _ (by omega))).trans hl, (hgr.block _ (Array.getElem?_eq_some_iff.1 hk).1 (ne _ (by omega))).trans hk⟩
    · rintro pre x W ⟨hi, hl, hk⟩ hpre
      have hlt : w.heap.size + 1 < W.heap.size := (Array.getElem?_eq_some_iff.1 hl).1
      have hy := run_yield (P := P) (args := encs x) hl (hps x)
      refine ⟨fn, _, assign, body, hy, roundIn_of_wpIn hfn (hassign _ x W _ ⟨_, run_beginRound hl rfl, ?_⟩)⟩
      have hl2 : (W.putObj (w.heap.size + 1) (.loop { rec0 .ready with state := .busy })).heap[w.heap.size + 1]? = some (.loop { rec0 .ready with state := .busy }) := World.putObj_heap_same hlt
      have hk2 : (W.putObj (w.heap.size + 1) (.loop { rec0 .ready with state := .busy })).heap[w.heap.size]? = some (.deferred (some [])) := (World.putObj_heap_other (by omega)).trans hk
      have hi2 : I pre (W.putObj (w.heap.size + 1) (.loop { rec0 .ready with state := .busy })) :=
        hI _ _ _ _ hi (grownBy_putObj' W _ _) (fun r e => .inr (by cases e; exact ⟨by omega, _, hl, rfl⟩))
      refine wpIn_mono (hbody _ pre x _ hi2 hpre) ?_
      rintro e a3 W3 hp
      cases e with
      | normal =>
        obtain ⟨hk3, hkp3, hi3⟩ := hp
        have hl3 := hk3.same _ _ hl2 rfl
        have hr := run_endRound (P := P) none hl3
        refine ⟨_, _, hr, rfl, ⟨hI _ _ _ _ hi3 (grownBy_putObj' W3 _ _) (fun r e => .inr (by cases e; exact ⟨by omega, _, hl3, rfl⟩)), ?_, ?_⟩, hKt (hKb W _ _ (by omega)) (hKt hkp3 (hKb _ _ _ (by omega)))⟩
        · exact World.putObj_heap_same (Array.getElem?_eq_some_iff.1 hl3).1
        · exact (World.putObj_heap_other (by omega)).trans (hk3.same _ _ hk2 rfl)
      | ret => exact hp.elim
      | exit id => exact hp.elim
      | goto t => exact hp.elim
      | panic ch => exact hp.elim
      | outgrown => exact hp.elim
    · rintro e W2 ⟨⟨v, rfl⟩, hi, hl, hk⟩
      refine ⟨none, _, run_endLoop (P := P) hl (by simp [rec0]), hdone _ _ (Nat.le_refl _) ?_ ?_⟩
      · exact hI _ _ _ _ hi (grownBy_putObj' W2 _ _) (fun r e => .inr (by cases e; exact ⟨by omega, _, hl, rfl⟩))
      · exact (World.putObj_heap_other (by omega)).trans hk
end Go.Proofs.YthalacoockoomaaDoor.H

/- The iterator of strings.SplitSeq at a blank: it hands every piece on, and keeps the rest in a box of its own. -/
namespace Go.Proofs.YthalacoockoomaaDoor.H
open Go Go.RowKit Go.Shelf Go.Proofs.YthalacoockoomaaDoorW.PrintWords
attribute [local go_sem] Oper.semAt_some

theorem seq_make (s : ByteArray) (w : World) :
    Calls Tryd.prog 45 #[.string s, .string ⟨#[32]⟩] w fun e w' => e = .returned (.func (.func 62) #[] #[.pointer (some ⟨w.heap.size + 1, 0, none⟩), .pointer (some ⟨w.heap.size, 0, none⟩), .pointer (some ⟨w.heap.size + 2, 0, none⟩)]) ∧
      w' = ((w.alloc (.cells #[.string s] 9)).alloc (.cells #[.string ⟨#[32]⟩] 9)).alloc (.cells #[.int .i64 0] 3) := by
  have h36 : ∀ W : World, Calls Tryd.prog 55 #[.string s, .string ⟨#[32]⟩, .int .i64 0] W fun e w' => e = .returned (.func (.func 62) #[] #[.pointer (some ⟨W.heap.size + 1, 0, none⟩), .pointer (some ⟨W.heap.size, 0, none⟩), .pointer (some ⟨W.heap.size + 2, 0, none⟩)]) ∧
      w' = ((W.alloc (.cells #[.string s] 9)).alloc (.cells #[.string ⟨#[32]⟩] 9)).alloc (.cells #[.int .i64 0] 3) := by
    intro W
    go_enter Tryd.func55, Tryd.ntmps55
    go_wp2
    go_ret
    exact ⟨rfl, rfl⟩
  have H := Lib.hid h36
  clear h36
  go_enter Tryd.func45, Tryd.ntmps45
  go_wp2_with (go_at_call 55; refine (H.out _).mono ?_; rintro e w' ⟨rfl, rfl⟩)
  go_ret
  exact ⟨rfl, rfl⟩

/-- How long the text in a box is. -/
def boxLen (W : World) (B : Nat) : Nat := match W.cell? ⟨B, 0, none⟩ with
  | some (.string t) => t.size
  | _ => 0
theorem boxLen_eq {W : World} {B : Nat} {t : TypeId} {s : ByteArray} (h : Boxed W B t (.string s)) : boxLen W B = s.size := by
  unfold boxLen
  rw [h.cell]

/-- What a round leaves alone: the iterator's three boxes. -/
def SeqKp (B : Nat) (W W' : World) : Prop := ∀ k, B ≤ k → k ≤ B + 2 → W'.heap[k]? = W.heap[k]?
theorem SeqKp.boxed {B k : Nat} {W W' : World} {t : TypeId} {v : Value} (h : SeqKp B W W') (h1 : B ≤ k) (h2 : k ≤ B + 2) (hb : Boxed W k t v) : Boxed W' k t v := (h k h1 h2).trans hb

set_option maxRecDepth 100000 in
set_option maxHeartbeats 1000000 in
theorem seq_walk (n : Nat) (hn : 1 ≤ n) (l B : Nat) (s : ByteArray) (hs : s.size ≤ 140737488355328) (J : List ByteArray → World → Prop)
    (hJ : ∀ s A B' row, J s A → A.grownBy B' row → (∀ r, row = some r → r = B) → J s B')
    (hY : ∀ pre x W1, J pre W1 → pre ++ [x] <+: piecesB 32 s → YieldAt Fence.wide (n - 1) Tryd.prog l #[.string x] W1 fun e W' => e = .returned (.bool true) ∧ J (pre ++ [x]) W' ∧ SeqKp B W1 W')
    (W : World) (h0 : J [] W) (hb0 : Boxed W B 9 (.string s)) (hb1 : Boxed W (B + 1) 9 (.string ⟨#[32]⟩)) (hb2 : Boxed W (B + 2) 3 (.int .i64 0)) :
    CallsIn Fence.wide n Tryd.prog 62 #[.func (.yield l) #[] #[], .pointer (some ⟨B + 1, 0, none⟩), .pointer (some ⟨B, 0, none⟩), .pointer (some ⟨B + 2, 0, none⟩)] W fun e W' => (∃ v, e = .returned v) ∧ J (piecesB 32 s) W' := by
  have c0 := hb0.cell
  have c1 := hb1.cell
  refine callsIn_of_wp Tryd.func62 rfl trivial ?_ rfl
  simp only [Tryd.ntmps62, List.size_toArray, List.length_cons, List.length_nil, Nat.reduceAdd, Nat.reduceSub, Array.replicate_succ, Array.replicate_zero, List.push_toArray, List.append_toArray, List.nil_append, List.cons_append]
  gi_wp2
  gi_loopw [] (fun wr => ∃ (pre : List ByteArray) (t : ByteArray), Boxed wr B 9 (.string t) ∧ Boxed wr (B + 1) 9 (.string ⟨#[32]⟩) ∧ Boxed wr (B + 2) 3 (.int .i64 0) ∧ Hid (piecesB 32 s = pre ++ piecesB 32 t) ∧ t.size ≤ 140737488355328 ∧ J pre wr) (fun wr => boxLen wr B)
  case atStart => exact ⟨[], s, hb0, hb1, hb2, rfl, hs, h0⟩
  case round =>
    obtain ⟨pre, t, k0, k1, k2, hx, hts, hj⟩ := hrel
    have c0 := k0.cell
    have c1 := k1.cell
    have c2 := k2.cell
    rcases indexByte_split 32 t.data.toList with ⟨h1, h2⟩ | ⟨i, h1, h2, h3, h4⟩
    · have hp : piecesB 32 t = [t] := piecesB_none 32 t h2
      have he : piecesB 32 s = pre ++ [t] := by rw [hx, hp]
      obtain ⟨fn, tmps, assign, body, hy, hR⟩ := hY pre t wr hj (by rw [he]; exact List.prefix_rfl)
      have hi : ∀ W : World, Calls Tryd.prog 60 #[.string t, .string ⟨#[32]⟩] W fun e w' => e = .returned (.int .i64 (-1)) ∧ W = w' := fun W => by
        refine (Tryd.strings_Index_one t 32 W).mono ?_
        rintro e w' ⟨rfl, rfl⟩
        exact ⟨by rw [h1], rfl⟩
      replace hi := Lib.hid hi
      replace he := Lib.hid he
      clear h1 hp
      gi_wp2_with (refine ⟨trivial, ?_⟩; gi_at_call 60; refine (callsIn_wide.2 (hi.out _)).mono ?_; rintro e w' ⟨rfl, rfl⟩)
      refine hR.mono ?_
      rintro e W3 ⟨rfl, hJ3, _⟩
      gi_wp2
      go_end0
      exact ⟨⟨_, rfl⟩, by rw [he.out]; exact hJ3⟩
    · have hp : piecesB 32 t = t.extract 0 i :: piecesB 32 (t.extract (i + 1) t.size) := piecesB_step 32 t i h3 h4
      have he : piecesB 32 s = pre ++ [t.extract 0 i] ++ piecesB 32 (t.extract (i + 1) t.size) := by rw [hx, hp]; simp
      obtain ⟨fn, tmps, assign, body, hy, hR⟩ := hY pre (t.extract 0 i) wr hj (by rw [he]; exact List.prefix_append _ _)
      have hi : ∀ W : World, Calls Tryd.prog 60 #[.string t, .string ⟨#[32]⟩] W fun e w' => e = .returned (.int .i64 i) ∧ W = w' := fun W => by
        refine (Tryd.strings_Index_one t 32 W).mono ?_
        rintro e w' ⟨rfl, rfl⟩
        exact ⟨by rw [h1], rfl⟩
      replace hi := Lib.hid hi
      replace he := Lib.hid he
      have hlt : i < t.size := by simpa using h2
      clear h1 hp h2 h3
      gi_wp2_with (refine ⟨trivial, ?_⟩; gi_at_call 60; refine (callsIn_wide.2 (hi.out _)).mono ?_; rintro e w' ⟨rfl, rfl⟩)
      refine hR.mono ?_
      rintro e W3 ⟨rfl, hJ3, hk3⟩
      have q0 := hk3.boxed (Nat.le_refl _) (by omega) k0
      have q1 := hk3.boxed (by omega) (by omega) k1
      have q2 := hk3.boxed (by omega) (by omega) k2
      have d0 := q0.cell
      have d1 := q1.cell
      have d2 := q2.cell
      have f0 := q0.frozen
      gi_wp2
      go_roundw
      case rel =>
        refine ⟨pre ++ [t.extract 0 i], t.extract (i + 1) t.size, q0.set _, ?_, ?_, Lib.hid he.out, ?_, ?_⟩
        · exact q1.kept (grownBy_setCell' _ _ _) (by intro e; injection e with e; omega)
        · exact q2.kept (grownBy_setCell' _ _ _) (by intro e; injection e with e; omega)
        · simp [ByteArray.size_extract]; omega
        · exact hJ _ _ _ _ hJ3 (grownBy_setCell' _ _ _) (fun r e => by cases e; rfl)
      case measure =>
        rw [boxLen_eq (q0.set _), boxLen_eq k0]
        simp [ByteArray.size_extract]
        omega
end Go.Proofs.YthalacoockoomaaDoor.H

/- word.Words: the pieces between blanks that are not empty. -/
namespace Go.Proofs.YthalacoockoomaaDoor.H
open Go Go.RowKit Go.Shelf Go.Proofs.YthalacoockoomaaDoorW.PrintWords
attribute [local go_sem] Oper.semAt_some

/-- An append to a row of the call's own inside a fence, and where the new row lies. -/
theorem appIn {F : Fence} {n : Nat} {P : Program} (w : World) {ops : Array Oper} {rest : List Oper} {o : Oper} {a : Act} {Q : Exit → Act → World → Prop}
    (hg : o.guard = none) (s x : Operand) (t : TypeId) (hop : o.op = Op.call { callee := Callee.builtin Builtin.append, args := #[s, x], argTypes := #[t, t] })
    (base : Nat) (e : TypeId) (i : TypeInfo) (z : Value) (size bytes : Nat) (h1 : P.underlying t = some (.slice e)) (h2 : P.info? e = some i) (h3 : i.zero = some z) (h4 : i.size = size) (h5 : i.bytes = bytes) (h6 : z.cells.size = size) (h7 : 0 < size)
    (v : Value) (k : Nat) (xs : List Value) (hs : a.eval s = v) (hown : w.ownsRow base e size v k xs) (ad : Addr) (m c : Nat) (news : List Value) (hx : a.eval x = .slice (some ad) m c) (hn : news.length = m * size)
    (hc : ∀ j u, news[j]? = some u → w.cell? (ad.add j) = some u) (h1c : ∀ u ∈ news, u.oneCell' = true) (b1 : k + m ≤ maxLen) (b2 : (k + m) * bytes ≤ 140737488355328) (b3 : base ≤ w.heap.size)
    (hK : ∀ v' w', w'.ownsRow base e size v' (k + m) (xs ++ news) → w.grownBy w' v.ownBlock → (v'.ownBlock = v.ownBlock ∨ v'.ownBlock = some w.heap.size) → wpListIn F n P ops Q rest (a.put o.dst v') w') :
    wpListIn F n P ops Q (o :: rest) a w := by
  refine wpListIn_plain hg fun K hK' => ?_
  obtain ⟨v', w', hrun, r1, r2, _, r3⟩ := run_append_own_at (P := P) w base t o.type e i z size bytes h1 h2 h3 h4 h5 h6 h7 v k xs hown ad m c news hn hc h1c b1 b2 b3
  unfold Oper.wpIn
  refine ⟨?_, ?_⟩
  · simp [Oper.about, hop, resolve, Target.leads, Sem.run_pure]
  · rw [Oper.semAt_plain F _ _ (by rw [hop]; intro c hc'; cases hc')]
    simp [execOp, hop, resolve, invoke, builtin, hs, hx, hrun, Result.andThen]
    exact hK' _ _ (hK v' w' r1 r2 r3)

def wordsB (s : ByteArray) : List ByteArray := (piecesB 32 s).filter fun p => decide (p.toList ≠ [])
def keptW (pre : List ByteArray) : List ByteArray := pre.filter fun p => decide (p.toList ≠ [])
theorem keptW_hit (pre : List ByteArray) {x : ByteArray} (h : x.toList ≠ []) : keptW (pre ++ [x]) = keptW pre ++ [x] := by simp [keptW, h]
theorem keptW_miss (pre : List ByteArray) {x : ByteArray} (h : x.toList = []) : keptW (pre ++ [x]) = keptW pre := by simp [keptW, h]

theorem infoStr : (Tryd.prog.info? 9).map (fun i => (i.zero, i.size, i.bytes)) = some (some (.string ⟨#[]⟩), 1, 16) := by kernel_rfl

/-- What the loop keeps: the box of 'out' holds a row of the call's own, apart from the iterator's boxes. -/
def WordsI (H : Nat) (w : World) (pre : List ByteArray) (W : World) : Prop :=
  (∃ v, Boxed W (H + 1) 38 v ∧ W.ownsRow H 9 1 v (keptW pre).length ((keptW pre).map Value.string) ∧ (∀ k, v.ownBlock = some k → k < H + 2 ∨ H + 5 ≤ k)) ∧ Below H w W ∧ H + 5 ≤ W.heap.size

theorem wordsI_stable {H : Nat} {w : World} (hH : w.heap.size = H) (s : List ByteArray) (W W' : World) (row : Option Nat) (h : WordsI H w s W) (hg : W.grownBy W' row)
    (hr : ∀ r, row = some r → r = H + 2 ∨ (H + 5 ≤ r ∧ ∃ o : Obj, W.heap[r]? = some o ∧ o.isCells = false)) : WordsI H w s W' := by
  obtain ⟨⟨v, hv, ho, hk⟩, hb, hs5⟩ := h
  refine ⟨⟨v, hv.kept hg ?_, ho.kept hg ?_, hk⟩, ?_, Nat.le_trans hs5 hg.size⟩
  · intro e
    rcases hr _ e.symm with h | ⟨h, _⟩ <;> omega
  · rcases ho.2 with ⟨rfl, _⟩ | ⟨g, cap, cur, rfl, hbg, hgb, _⟩
    · exact .inl rfl
    · refine .inr fun e => ?_
      have hk' := hk g rfl
      rcases hr g (by simpa [Value.ownBlock] using e.symm) with h | ⟨_, o, h1, h2⟩
      · omega
      · rw [hgb] at h1
        cases h1
        cases h2
  · exact hb.grown hg (Nat.le_trans (Nat.le_of_eq hH.symm) hb.size) (fun k e => by rcases hr k e with h | ⟨h, _⟩ <;> omega)

set_option maxRecDepth 100000 in
set_option maxHeartbeats 1000000 in
theorem words_walk (s : ByteArray) (hs : s.size ≤ 4398046511104) (w : World) :
    Calls Tryd.prog 31 #[.string s] w fun e w' => ∃ v : Value, e = .returned v ∧ w'.ownsRow w.heap.size 9 1 v (wordsB s).length ((wordsB s).map Value.string) ∧ Below w.heap.size w w' := by
  obtain ⟨i0, hi, hz0, hz1, hz2⟩ := info_parts infoStr
  refine (callsIn_wide (n := 3)).1 ?_
  refine callsIn_of_wp_marks Tryd.func31 rfl trivial ?_ rfl
  simp only [Tryd.ntmps31, List.size_toArray, List.length_cons, List.length_nil, Nat.reduceAdd, Nat.reduceSub, Array.replicate_succ, Array.replicate_zero, List.push_toArray, List.append_toArray, List.nil_append, List.cons_append]
  gi_wp2_with (refine ⟨trivial, ?_⟩; gi_at_call 45; refine (callsIn_wide.2 (seq_make s _)).mono ?_; rintro e w' ⟨rfl, rfl⟩)
  obtain ⟨H, hH⟩ : ∃ H, w.heap.size = H := ⟨_, rfl⟩
  simp only [hH]
  obtain ⟨W0, hW0⟩ : ∃ W0, (((((w.alloc (Obj.cells #[] 9)).alloc (Obj.cells #[Value.slice (some { block := H, off := 0 }) 0 0] 38)).alloc (Obj.cells #[Value.string s] 9)).alloc (Obj.cells #[Value.string { data := #[32] }] 9)).alloc (Obj.cells #[Value.int IntKind.i64 0] 3)) = W0 := ⟨_, rfl⟩
  have hsz : W0.heap.size = H + 5 := by rw [← hW0]; simp [hH]
  have hB0 : Below H w W0 := by
    rw [← hW0]
    exact (((((Below.refl H w).alloc (by omega) _).alloc (by simp; omega) _).alloc (by simp; omega) _).alloc (by simp; omega) _).alloc (by simp; omega) _
  have hold : ∀ (W : World) (o : Obj) (k : Nat) (c : Obj), W.heap[k]? = some c → (W.alloc o).heap[k]? = some c := fun W o k c h => (Below.heap_alloc W o k (Array.getElem?_eq_some_iff.1 h).1).trans h
  have hnew : ∀ (W : World) (o : Obj) (k : Nat), W.heap.size = k → (W.alloc o).heap[k]? = some o := fun W o k h => by rw [← h]; exact World.alloc_heap_new W o
  have b0 : Boxed W0 (H + 2) 9 (.string s) := by
    rw [← hW0]
    exact hold _ _ _ _ (hold _ _ _ _ (hnew _ _ _ (by simp [hH])))
  have b1 : Boxed W0 (H + 3) 9 (.string ⟨#[32]⟩) := by
    rw [← hW0]
    exact hold _ _ _ _ (hnew _ _ _ (by simp [hH]))
  have b2 : Boxed W0 (H + 4) 3 (.int .i64 0) := by
    rw [← hW0]
    exact hnew _ _ _ (by simp [hH])
  have hI0 : WordsI H w [] W0 := by
    refine ⟨⟨_, ?_, ⟨rfl, .inr ⟨H, 0, #[], rfl, Nat.le_refl _, ?_, Nat.le_refl _, by unfold maxLen; omega, rfl, rfl⟩⟩, fun k e => ?_⟩, hB0, by omega⟩
    · rw [← hW0]
      exact hold _ _ _ _ (hold _ _ _ _ (hold _ _ _ _ (hnew _ _ _ (by simp [hH]))))
    · rw [← hW0]
      exact hold _ _ _ _ (hold _ _ _ _ (hold _ _ _ _ (hold _ _ _ _ (hnew _ _ _ hH))))
    · have : H = k := by simpa [Value.ownBlock] using e
      omega
  rw [hW0]
  clear hW0
  refine range_box rfl (by omega) (gf := 62) (lb := #[.pointer (some ⟨H + 1 + 1 + 1, 0, none⟩), .pointer (some ⟨H + 1 + 1, 0, none⟩), .pointer (some ⟨H + 1 + 1 + 2, 0, none⟩)]) rfl trivial (enters_of Tryd.func62 (by kernel_rfl) rfl)
    (encs := fun x : ByteArray => #[Value.string x]) (fun _ => rfl) (H + 2) (by omega) (WordsI H w) (fun s W W' row h hg hr => wordsI_stable hH s W W' row h hg (fun r e => by rw [hsz] at hr; exact hr r e))
    (SeqKp (H + 2)) (fun h k i h1 h2 => (k i h1 h2).trans (h i h1 h2)) (fun W l o' hl k h1 h2 => World.putObj_heap_other (by omega)) (piecesB 32 s) ?seq hI0
    (fun x => { tmps := #[.string s, undef, .slice none 0 0, .pointer (some ⟨H + 1, 0, none⟩), .string x, .slice (some ⟨H, 0, none⟩) 0 0, .string s, .func (.func 62) #[] #[.pointer (some ⟨H + 1 + 1 + 1, 0, none⟩), .pointer (some ⟨H + 1 + 1, 0, none⟩), .pointer (some ⟨H + 1 + 1 + 2, 0, none⟩)], .string x, undef, undef, undef, undef, undef, undef, undef], defers := [] }) ?assign ?body ?done
  case seq =>
    intro l J W hW hJ hY h0
    rw [hsz] at hW
    exact seq_walk 2 (by omega) l (H + 2) s (by omega) J hJ hY W h0 ((hW.block _ (by omega)).trans b0) ((hW.block _ (by omega)).trans b1) ((hW.block _ (by omega)).trans b2)
  case assign =>
    intro l x W K hK
    gi_wp2
    exact hK
  case body =>
    rintro l pre x W ⟨⟨v, hv, ho, hk⟩, hb, hs5⟩ hpre
    have hc := hv.cell
    have hpl : (keptW pre).length ≤ pre.length := List.length_filter_le _ _
    have hpn : pre.length + 1 ≤ (piecesB 32 s).length := by simpa using hpre.length_le
    have hpm := piecesB_length 32 s
    by_cases hx : x.toList = []
    · have hxb : (x.toList == ([] : List UInt8)) = true := beq_iff_eq.mpr hx
      gi_wp2
      exact ⟨KeepsOthers.refl _, fun _ _ _ => rfl, ⟨v, hv, by rw [keptW_miss pre hx]; exact ho, hk⟩, hb, hs5⟩
    · have hxb : (x.toList == ([] : List UInt8)) = false := beq_eq_false_iff_ne.mpr hx
      gi_wp2_with (gi_at_builtin; refine appIn _ rfl _ _ 38 rfl H 9 i0 (.string ⟨#[]⟩) 1 16 Tryd.underlying38 hi hz0 hz1 hz2 rfl (by decide) _ _ _ rfl (ho.alloc _) ⟨W.heap.size, 0, none⟩ 1 1 [.string x] rfl rfl (cell_one_new _ _ _) (by simp [Value.oneCell']) (by unfold maxLen; omega) (by omega) (by simp; omega) ?_; intro v' w1 hown' hgrow hat; obtain ⟨g', cap', rfl⟩ := ownsRow_succ hown'; obtain ⟨hv1, hv2, hr2, hk2, hb2⟩ := hv.appended (by decide) ho (by omega) (by omega) hown' hgrow; have hc1 := hv1.cell; have hf1 := hv1.frozen)
      refine ⟨hk2, ?_, ⟨_, hv2, by rw [keptW_hit pre hx]; simpa using hr2, ?_⟩, hb.trans hb2, ?_⟩
      · intro k h1 h2
        refine (Below.heap_setCell w1 ⟨H + 1, 0, none⟩ _ k (by simp; omega)).trans ((hgrow.block k (by simp; omega) ?_).trans (Below.heap_alloc W _ k (by omega)))
        intro e
        rcases hk k e.symm with h | h <;> omega
      · intro k e
        rcases hat with h | h
        · rw [h] at e
          exact hk k e
        · rw [h] at e
          simp at e
          omega
      · have := hgrow.size
        simp at this ⊢
        omega
  case done =>
    rintro D W hD ⟨⟨v, hv, ho, hk⟩, hb, hs5⟩ hK
    have hc := hv.cell
    gi_wp2
    refine ⟨by simp, .inl ⟨_, _, rfl, run_takeDeferred hK, ?_⟩⟩
    rw [hH]
    exact ⟨_, results_tmp rfl _ _ _, v, rfl, ownsRow_putObj ho _ hK rfl, hb.grown (grownBy_putObj' W D _) (by omega) (fun k e => by cases e; omega)⟩

/-- A row of texts of the call's own, in the print's words. -/
theorem kd_strs {w : World} {base : Nat} {v : Value} {xs : List ByteArray} (h : w.ownsRow base 9 1 v xs.length (xs.map Value.string)) : Kd.R Kd.string 9 w base (fun _ => True) v xs :=
  ⟨fun _ _ => trivial, xs.map Value.string, h, by simp [Kd.string, Kd.scalar], fun j p hp => by
    show ((xs.map Value.string).drop (j * 1)).take 1 = [Value.string p]
    rw [Nat.mul_one]
    have hl : j < xs.length := (List.getElem?_eq_some_iff.1 hp).1
    rw [List.drop_eq_getElem_cons (by simpa using hl), List.take_succ_cons, List.take_zero]
    have : xs[j] = p := by simpa [List.getElem?_eq_getElem hl] using hp
    simp [this]⟩

def word_Words.f (a0 : ByteArray) : Option (List ByteArray) := if a0.size ≤ 4398046511104 then some (wordsB a0) else none
theorem word_Words.calls (a0 : ByteArray) (r : List ByteArray) (w : World) (h : word_Words.f a0 = some r) :
    Calls Tryd.prog 31 #[.string a0] w fun e w' => ∃ v0_ : Value, e = .returned (v0_) ∧ Kd.R Kd.string 9 w' w.heap.size (fun _ => True) v0_ r ∧ Below w.heap.size w w' := by
  unfold word_Words.f at h
  split at h
  · rename_i hs
    obtain rfl := Option.some.inj h
    exact (words_walk a0 hs w).mono fun e w' ⟨v, he, ho, hb⟩ => ⟨v, he, kd_strs ho, hb⟩
  · cases h
end Go.Proofs.YthalacoockoomaaDoor.H

/- word.Lines: a text cut at its line ends. -/
namespace Go.Proofs.YthalacoockoomaaDoor.H
open Go Go.RowKit Go.Proofs.YthalacoockoomaaDoorW.PrintWords

def cutEnd (s : ByteArray) : ByteArray := mkB (Lib.trimSuffix s.data.toList [10])
def linesB (s : ByteArray) : List ByteArray := if s.toList = [] then [] else piecesB 10 (cutEnd s)
def word_Lines.f (a0 : ByteArray) : Option (List ByteArray) := if a0.size ≤ 4294967280 then some (linesB a0) else none

theorem splitB_pieces (s : ByteArray) : Lib.splitB ⟨#[10]⟩ 0 (Lib.countB s ⟨#[10]⟩) s = piecesB 10 s := by
  have h1 := Lib.splitB_data ⟨#[10]⟩ 0 (Lib.countB s ⟨#[10]⟩) s
  have hc : Lib.countB s ⟨#[10]⟩ = s.data.toList.count 10 := Lib.count_one 10 _
  have e1 : ((⟨#[10]⟩ : ByteArray).data.toList) = [10] := rfl
  rw [e1, splitK_eq 10 _ _ (by omega)] at h1
  unfold piecesB
  rw [← h1, List.map_map]
  conv => lhs; rw [← List.map_id (Lib.splitB _ _ _ _)]
  refine List.map_congr_left fun x _ => ?_
  exact (mkB_of x).symm

theorem trimSuffix_le (l p : List UInt8) : (Lib.trimSuffix l p).length ≤ l.length := by
  unfold Lib.trimSuffix
  split
  · exact List.length_take_le' _ _
  · exact Nat.le_refl _
theorem cutEnd_size (s : ByteArray) : (cutEnd s).size ≤ s.size := by
  have h1 := trimSuffix_le s.data.toList [10]
  have h2 : (cutEnd s).size = (Lib.trimSuffix s.data.toList [10]).length := by simp [cutEnd, mkB, ByteArray.size]
  have h3 : s.data.toList.length = s.size := by simp
  omega

theorem own_new (w : World) (xs : List ByteArray) (hm : xs.length ≤ maxLen) : (w.alloc (.cells (xs.map Value.string).toArray 9)).ownsRow w.heap.size 9 1 (.slice (some ⟨w.heap.size, 0, none⟩) xs.length xs.length) xs.length (xs.map Value.string) :=
  ⟨by simp, .inr ⟨w.heap.size, xs.length, _, rfl, Nat.le_refl _, World.alloc_heap_new w _, Nat.le_refl _, hm, by simp, by rw [List.toList_toArray, Nat.mul_one]; exact List.take_of_length_le (by simp)⟩⟩

set_option maxHeartbeats 1000000 in
theorem word_Lines.calls (a0 : ByteArray) (r : List ByteArray) (w : World) (hT : TabW w) (h : word_Lines.f a0 = some r) :
    Calls Tryd.prog 30 #[.string a0] w fun e w' => ∃ v0_ : Value, e = .returned (v0_) ∧ Kd.R Kd.string 9 w' w.heap.size (fun _ => True) v0_ r ∧ Below w.heap.size w w' := by
  unfold word_Lines.f at h
  split at h
  case isFalse => cases h
  rename_i hs
  obtain rfl := Option.some.inj h
  clear h
  obtain ⟨m, hm⟩ := hT.len
  by_cases c1 : a0.toList = ([] : List UInt8)
  · have c1b : (a0.toList == ([] : List UInt8)) = true := beq_iff_eq.mpr c1
    have hr : linesB a0 = [] := by unfold linesB; rw [if_pos c1]
    rw [hr]
    clear hr c1 hm hT
    go_enter Tryd.func30, Tryd.ntmps30
    go_wp2
    go_ret
    exact ⟨_, rfl, Kd.R_nil _ _ _ _ _, Below.refl _ _⟩
  · have c1b : (a0.toList == ([] : List UInt8)) = false := beq_eq_false_iff_ne.mpr c1
    have hr : linesB a0 = piecesB 10 (cutEnd a0) := by unfold linesB; rw [if_neg c1]
    rw [hr]
    have ht : ∀ W : World, Calls Tryd.prog 44 #[.string a0, .string ⟨#[10]⟩] W fun e w' => e = .returned (.string (cutEnd a0)) ∧ W = w' := fun W =>
      (Tryd.strings_TrimSuffix a0 ⟨#[10]⟩ W (by omega)).mono fun _ _ hh => ⟨hh.1, hh.2.symm⟩
    have hl : (piecesB 10 (cutEnd a0)).length ≤ maxLen := by
      have h1 := piecesB_length 10 (cutEnd a0)
      have h2 := cutEnd_size a0
      unfold maxLen
      omega
    have hsp : Calls Tryd.prog 43 #[.string (cutEnd a0), .string ⟨#[10]⟩] w fun e w' => ∃ v : Value, e = .returned v ∧ Kd.R Kd.string 9 w' w.heap.size (fun _ => True) v (piecesB 10 (cutEnd a0)) ∧ Below w.heap.size w w' := by
      refine (Tryd.strings_Split (cutEnd a0) ⟨#[10]⟩ m w (by have := cutEnd_size a0; omega) hm (by decide)).mono ?_
      rintro e w' ⟨rfl, rfl⟩
      rw [splitB_pieces]
      have e1 : Lib.countB (cutEnd a0) ⟨#[10]⟩ + 1 = (piecesB 10 (cutEnd a0)).length := by
        unfold piecesB
        rw [List.length_map, splitL_length]
        congr 1
        exact Lib.count_one 10 _
      rw [e1]
      exact ⟨_, rfl, kd_strs (own_new w _ hl), (Below.refl _ _).alloc (Nat.le_refl _) _⟩
    replace ht := Lib.hid ht
    replace hsp := Lib.hid hsp
    clear hr hm hT c1 hl
    go_enter Tryd.func30, Tryd.ntmps30
    go_wp2_with (first | (go_at_call 44; refine (ht.out _).mono ?_; rintro e w' ⟨rfl, rfl⟩) | (go_at_call 43; refine hsp.out.mono ?_; rintro e w' ⟨v, rfl, hR, hB⟩))
    go_ret
    exact ⟨v, rfl, hR, hB⟩
end Go.Proofs.YthalacoockoomaaDoor.H

/- strings.Builder's writers over this translation (its copy check refuses instead of panicking, so the shelf's laid forms do not fit). -/
namespace Go.Proofs.YthalacoockoomaaDoor.H
open Go Go.RowKit

theorem sizeB : (Tryd.prog.info? 46).map (·.size) = some 2 := by kernel_rfl
theorem infoU8 : (Tryd.prog.info? 5).map (fun i => (i.zero, i.size, i.bytes)) = some (some (.int .u8 0), 1, 1) := by kernel_rfl
theorem liesB : liesAt Tryd.prog Tryd.prog.depth 46 (2 / Tryd.prog.cellsOf 46) 0 46 1 = true := by kernel_rfl

set_option maxHeartbeats 1000000 in
set_option maxRecDepth 100000 in
theorem check_used (b : Nat) (w : World) (h0 : w.cell? ⟨b, 0, none⟩ = some (.pointer (some ⟨b, 0, none⟩))) :
    Calls Tryd.prog 40 #[.pointer (some ⟨b, 0, none⟩)] w fun e w' => e = .returned (.tuple #[]) ∧ w' = w := by
  obtain ⟨j, hj, _⟩ := Option.map_eq_some_iff.1 sizeB
  go_enter Tryd.func40, Tryd.ntmps40
  go_wp2
  rw [Lib.run_neq_ptr_same w _ Tryd.underlying43 hj]
  go_wp2
  go_end0
  exact ⟨rfl, rfl⟩

set_option maxHeartbeats 1000000 in
set_option maxRecDepth 100000 in
theorem check_fresh (b : Nat) (w : World) (h0 : w.cell? ⟨b, 0, none⟩ = some (.pointer none)) (hsh : w.shape? b = some (46, 2)) (hfz : w.frozen? ⟨b, 0, none⟩ = false) :
    Calls Tryd.prog 40 #[.pointer (some ⟨b, 0, none⟩)] w fun e w' => e = .returned (.tuple #[]) ∧ w' = w.setCell ⟨b, 0, none⟩ (.pointer (some ⟨b, 0, none⟩)) := by
  obtain ⟨j, hj, hjs⟩ := Option.map_eq_some_iff.1 sizeB
  go_enter Tryd.func40, Tryd.ntmps40
  go_wp2
  rw [Lib.run_to_unsafe w ⟨b, 0, none⟩ Tryd.underlying43 Tryd.underlying73 hj (by rw [hjs]; decide) hsh (Nat.zero_lt_succ 1)]
  simp only [Result.andThen]
  rw [Oper.upon_value]
  go_wp2
  rw [run_callFunc_extern Tryd.func51 (by kernel_rfl) (by kernel_rfl) (by kernel_rfl) (e := Extern.AbiNoEscape.same) (by kernel_rfl)]
  rw [Lib.run_noEscape]
  simp only [Result.andThen]
  rw [Oper.upon_value]
  go_wp2
  rw [Lib.run_from_unsafe w ⟨b, 0, none⟩ Tryd.underlying73 Tryd.underlying43 hj hsh liesB]
  simp only [Result.andThen]
  rw [Oper.upon_value]
  go_wp2
  go_end0
  exact ⟨rfl, rfl⟩

theorem check_any (B b : Nat) (bs : List Value) (w : World) (h : Lib.IsBuilder 46 5 B b bs w) :
    Calls Tryd.prog 40 #[.pointer (some ⟨b, 0, none⟩)] w fun e w' => e = .returned (.tuple #[]) ∧ (Lib.BuilderAt 46 5 B b (.pointer (some ⟨b, 0, none⟩)) bs w' ∧ Below B w w') := by
  rcases h with h | h
  · refine (check_fresh b w h.cell0 h.shape h.frozen0).mono ?_
    rintro e w' ⟨rfl, rfl⟩
    exact ⟨rfl, h.used _, (Below.refl B w).setCell (p := ⟨b, 0, none⟩) h.1 _⟩
  · refine (check_used b w h.cell0).mono ?_
    rintro e w' ⟨rfl, rfl⟩
    exact ⟨rfl, h, Below.refl B _⟩

set_option maxHeartbeats 2000000 in
set_option maxRecDepth 100000 in
theorem write_byte (B b : Nat) (bs : List Value) (c : Int) (w : World) (h : Lib.IsBuilder 46 5 B b bs w) (hlen : bs.length + 1 ≤ 140737488355328) (hBw : B ≤ w.heap.size) :
    Calls Tryd.prog 42 #[.pointer (some ⟨b, 0, none⟩), .int .u8 c] w fun e w' => e = .returned .nilIface ∧ (Lib.BuilderAt 46 5 B b (.pointer (some ⟨b, 0, none⟩)) (bs ++ [.int .u8 c]) w' ∧ Below B w w') := by
  obtain ⟨i0, hi, hz0, hz1, hz2⟩ := info_parts infoU8
  go_enter Tryd.func42, Tryd.ntmps42
  go_wp2_with (go_at_call 40; refine (check_any B b bs _ h).mono ?_)
  rintro e w1 ⟨rfl, h1, hb1⟩
  obtain ⟨hB, v, hbk, hown, hne⟩ := h1
  have c0 : w1.cell? ⟨b, 0, none⟩ = some (.pointer (some ⟨b, 0, none⟩)) := by rw [Lib.cell_of_heap hbk]; rfl
  have c1 : w1.cell? ⟨b, 1, none⟩ = some v := by rw [Lib.cell_of_heap hbk]; rfl
  go_wp2_with (at_builtin; refine wpList_append_own _ rfl _ _ 44 rfl B 5 i0 (.int .u8 0) 1 1 Tryd.underlying44 hi hz0 hz1 hz2 rfl (by decide) _ _ _ rfl (hown.alloc _) ⟨w1.heap.size, 0, none⟩ 1 1 [.int .u8 c] rfl rfl ?c1 ?c2 ?c3 ?c4 ?c5 ?_)
  case c1 =>
    intro j u hj
    match j, hj with
    | 0, hj => simp at hj; subst hj; simp [Addr.add]
  case c2 => intro u hu; simp at hu; subst hu; rfl
  case c3 => unfold maxLen; omega
  case c4 => omega
  case c5 => have := hb1.size; simp; omega
  intro v' w2 hown' hgrow _
  have hlt : b < w1.heap.size := (Array.getElem?_eq_some_iff.1 hbk).1
  have hb2 : w2.heap[b]? = some (.cells #[.pointer (some ⟨b, 0, none⟩), v] 46 (0, 0)) := by
    rw [hgrow.block b (by simp; omega) (fun e => hne e.symm), Lib.alloc_old w1 _ b hlt]
    exact hbk
  have d0 : w2.cell? ⟨b, 0, none⟩ = some (.pointer (some ⟨b, 0, none⟩)) := by rw [Lib.cell_of_heap hb2]; rfl
  have d1 : w2.cell? ⟨b, 1, none⟩ = some v := by rw [Lib.cell_of_heap hb2]; rfl
  have f1 : w2.frozen? ⟨b, 1, none⟩ = false := Lib.frozen_of_heap hb2 1
  obtain ⟨g, cap, rfl⟩ : ∃ g cap, v' = .slice (some ⟨g, 0, none⟩) (bs.length + 1) cap := by
    rcases hown'.2 with ⟨_, h0⟩ | ⟨g, cap, cur, hv, _⟩
    · omega
    · exact ⟨g, cap, hv⟩
  go_wp2
  go_ret
  refine ⟨rfl, ?_, ?_⟩
  · exact Lib.BuilderAt.put (T := 46) (e := 5) hB hb2 (bs' := bs ++ [.int .u8 c]) (by simpa using hown') (by decide)
  · exact ((hb1.alloc (by have := hb1.size; omega) _).grown hgrow (by have := hb1.size; simp; omega) (fun k hk => (hown.lt k hk).1)).setCell (p := ⟨b, 1, none⟩) hB _

set_option maxHeartbeats 2000000 in
set_option maxRecDepth 100000 in
theorem write_string (B b : Nat) (bs : List Value) (s : ByteArray) (w : World) (h : Lib.IsBuilder 46 5 B b bs w) (hlen : bs.length + s.size ≤ 140737488355328) (hBw : B ≤ w.heap.size) :
    Calls Tryd.prog 21 #[.pointer (some ⟨b, 0, none⟩), .string s] w fun e w' => e = .returned (.tuple #[.int .i64 s.size, .nilIface]) ∧ (Lib.BuilderAt 46 5 B b (.pointer (some ⟨b, 0, none⟩)) (bs ++ Lib.strCells s) w' ∧ Below B w w') := by
  obtain ⟨i0, hi, hz0, hz1, hz2⟩ := info_parts infoU8
  go_enter Tryd.func21, Tryd.ntmps21
  go_wp2_with (go_at_call 40; refine (check_any B b bs _ h).mono ?_)
  rintro e w1 ⟨rfl, h1, hb1⟩
  obtain ⟨hB, v, hbk, hown, hne⟩ := h1
  have c0 : w1.cell? ⟨b, 0, none⟩ = some (.pointer (some ⟨b, 0, none⟩)) := by rw [Lib.cell_of_heap hbk]; rfl
  have c1 : w1.cell? ⟨b, 1, none⟩ = some v := by rw [Lib.cell_of_heap hbk]; rfl
  go_wp2_with (at_builtin; refine Lib.wpList_append_own_string _ rfl _ _ 44 9 rfl B 5 i0 Tryd.underlying44 Tryd.underlying9 hi hz0 hz1 hz2 _ _ _ rfl hown s rfl ?c3 ?c4 ?c5 ?_)
  case c3 => unfold maxLen; omega
  case c4 => omega
  case c5 => have := hb1.size; omega
  intro v' w2 hown' hgrow _
  have hlt : b < w1.heap.size := (Array.getElem?_eq_some_iff.1 hbk).1
  have hb2 : w2.heap[b]? = some (.cells #[.pointer (some ⟨b, 0, none⟩), v] 46 (0, 0)) := by
    rw [hgrow.block b hlt (fun e => hne e.symm)]
    exact hbk
  have d0 : w2.cell? ⟨b, 0, none⟩ = some (.pointer (some ⟨b, 0, none⟩)) := by rw [Lib.cell_of_heap hb2]; rfl
  have d1 : w2.cell? ⟨b, 1, none⟩ = some v := by rw [Lib.cell_of_heap hb2]; rfl
  have f1 : w2.frozen? ⟨b, 1, none⟩ = false := Lib.frozen_of_heap hb2 1
  obtain ⟨ao, n', cap, rfl⟩ : ∃ ao n' cap, v' = .slice ao n' cap := by
    rcases hown'.2 with ⟨hv, _⟩ | ⟨g, cap, cur, hv, _⟩
    · exact ⟨_, _, _, hv⟩
    · exact ⟨_, _, _, hv⟩
  go_wp2
  go_ret2
  refine ⟨rfl, ?_, ?_⟩
  · exact Lib.BuilderAt.put (T := 46) (e := 5) hB hb2 (bs' := bs ++ Lib.strCells s) (by simpa [Lib.strCells_length] using hown') (by decide)
  · exact (hb1.grown hgrow (by have := hb1.size; omega) (fun k hk => (hown.lt k hk).1)).setCell (p := ⟨b, 1, none⟩) hB _

end Go.Proofs.YthalacoockoomaaDoor.H

/- word.Text and word.Row. -/
namespace Go.Proofs.YthalacoockoomaaDoor.H
open Go Go.RowKit Go.Proofs.YthalacoockoomaaDoorW.PrintWords

def inRange (n : Int) : Prop := -9223372036854775808 ≤ n ∧ n ≤ 9223372036854775807
instance (n : Int) : Decidable (inRange n) := by unfold inRange; infer_instance

def word_Text.f (a0 : Int) : Option ByteArray := if inRange a0 then some (mkB (Lib.itoa a0)) else none

theorem word_Text.calls (a0 : Int) (r : ByteArray) (w : World) (hT : TabW w) (h : word_Text.f a0 = some r) :
    Calls Tryd.prog 22 #[.int .i64 a0] w fun e w' => e = .returned (.string r) ∧ Below w.heap.size w w' := by
  unfold word_Text.f at h
  split at h
  case isFalse => cases h
  rename_i hr
  obtain rfl := Option.some.inj h
  clear h
  have hi : Calls Tryd.prog 41 #[.int .i64 a0] w fun e w' => e = .returned (.string (mkB (Lib.itoa a0))) ∧ Below w.heap.size w w' := by
    refine (Tryd.strconv_Itoa a0 hr.1 hr.2 w hT.tab).mono ?_
    rintro e w' ⟨rfl, k, os, rfl⟩
    exact ⟨rfl, Lib.below_grow _ _ (Nat.le_refl _) k os⟩
  replace hi := Lib.hid hi
  clear hT
  go_enter Tryd.func22, Tryd.ntmps22
  go_wp2_with (go_at_call 41; refine hi.out.mono ?_; rintro e w' ⟨rfl, hB⟩)
  go_ret
  exact ⟨rfl, hB⟩

theorem decDigits_le : ∀ (k u : Nat), u < 10 ^ (k + 1) → (Lib.decDigits u).length ≤ k + 1
  | 0, u, h => by rw [Lib.decDigits, dif_pos (by omega)]; simp
  | k + 1, u, h => by
    rw [Lib.decDigits]
    split
    · simp
    · rw [List.length_append, List.length_singleton]
      have := decDigits_le k (u / 10) (by rw [Nat.pow_succ] at h; omega)
      omega
theorem itoa_le (n : Int) (h : inRange n) : (Lib.itoa n).length ≤ 20 := by
  obtain ⟨h1, h2⟩ := h
  unfold Lib.itoa
  split
  · have := decDigits_le 18 n.natAbs (by omega)
    rw [List.length_cons]
    omega
  · have := decDigits_le 18 n.toNat (by omega)
    omega

/-- A row's bytes ahead of the line's end. -/
def rowHead (w : List UInt8) (l : List Int) : List UInt8 := w ++ l.flatMap fun n => 32 :: Lib.itoa n
def rowB (w : ByteArray) (l : List Int) : ByteArray := mkB (rowHead w.data.toList l ++ [10])
def word_Row.f (a0 : ByteArray) (l1 : List Int) : Option ByteArray := if a0.size + 21 * l1.length + 1 ≤ 140737488355328 ∧ ∀ n ∈ l1, inRange n then some (rowB a0 l1) else none

theorem rowHead_take (w : List UInt8) (l : List Int) (i : Nat) (hi : i < l.length) : rowHead w (l.take (i + 1)) = rowHead w (l.take i) ++ 32 :: Lib.itoa l[i] := by
  unfold rowHead
  rw [List.take_succ_eq_append_getElem hi, List.flatMap_append, List.append_assoc]
  simp
theorem rowHead_le (w : List UInt8) (l : List Int) (h : ∀ n ∈ l, inRange n) : (rowHead w l).length ≤ w.length + 21 * l.length := by
  unfold rowHead
  induction l with
  | nil => simp
  | cons n l ih =>
    have h1 := itoa_le n (h n (by simp))
    have h2 := ih (fun m hm => h m (by simp [hm]))
    simp only [List.flatMap_cons, List.length_append, List.length_cons] at *
    omega

theorem isBuilder_below {T e : TypeId} {B b : Nat} {bs : List Value} {w w' : World} (h : Lib.IsBuilder T e B b bs w) (hb : Below w.heap.size w w') : Lib.IsBuilder T e B b bs w' := by
  have key : ∀ p, Lib.BuilderAt T e B b p bs w → Lib.BuilderAt T e B b p bs w' := by
    rintro p ⟨h1, v, h2, h3, h4⟩
    exact ⟨h1, v, (hb.block _ (Array.getElem?_eq_some_iff.1 h2).1).trans h2, pw_own_below h3 hb, h4⟩
  exact h.elim (fun x => .inl (key _ x)) (fun x => .inr (key _ x))

/-- The builder at block H holds these bytes. -/
def Wr (H : Nat) (l : List UInt8) (W : World) : Prop := Lib.IsBuilder 46 5 H H (Lib.byteCells l) W
theorem wr_str (H : Nat) (l : List UInt8) (s : ByteArray) (W : World) (h : Wr H l W) (hl : l.length + s.size ≤ 140737488355328) (hH : H ≤ W.heap.size) :
    Calls Tryd.prog 21 #[.pointer (some ⟨H, 0, none⟩), .string s] W fun e w' => e = .returned (.tuple #[.int .i64 s.size, .nilIface]) ∧ Wr H (l ++ s.data.toList) w' ∧ Below H W w' := by
  refine (write_string H H _ s W h (by rw [Lib.byteCells_length]; exact hl) hH).mono ?_
  rintro e w' ⟨he, hb, hB⟩
  refine ⟨he, ?_, hB⟩
  rw [Lib.strCells_eq, ← Lib.byteCells_append] at hb
  exact Or.inr hb
theorem wr_byte (H : Nat) (l : List UInt8) (c : UInt8) (W : World) (h : Wr H l W) (hl : l.length + 1 ≤ 140737488355328) (hH : H ≤ W.heap.size) :
    Calls Tryd.prog 42 #[.pointer (some ⟨H, 0, none⟩), .int .u8 c.toNat] W fun e w' => e = .returned .nilIface ∧ Wr H (l ++ [c]) w' ∧ Below H W w' := by
  refine (write_byte H H _ _ W h (by rw [Lib.byteCells_length]; exact hl) hH).mono ?_
  rintro e w' ⟨he, hb, hB⟩
  refine ⟨he, ?_, hB⟩
  unfold Wr
  rw [Lib.byteCells_append]
  exact Or.inr hb
theorem wr_end (H : Nat) (l : List UInt8) (W : World) (h : Wr H l W) (hH : H ≤ W.heap.size) :
    Calls Tryd.prog 24 #[.pointer (some ⟨H, 0, none⟩)] W fun e w' => e = .returned (.string (mkB l)) ∧ Below H W w' := Tryd.Builder_String_any H H l W h hH
theorem wr_below {H : Nat} {l : List UInt8} {W W' : World} (h : Wr H l W) (hb : Below W.heap.size W W') : Wr H l W' := isBuilder_below h hb
theorem text_ok (n : Int) (hn : inRange n) (W : World) (hT : TabW W) :
    Calls Tryd.prog 22 #[.int .i64 n] W fun e w' => e = .returned (.string (mkB (Lib.itoa n))) ∧ Below W.heap.size W w' :=
  word_Text.calls n _ W hT (by unfold word_Text.f; rw [if_pos hn])

set_option maxHeartbeats 1000000 in
set_option maxRecDepth 100000 in
theorem word_Row.calls (a0 : ByteArray) (A1 : Option Addr) (c1 : Nat) (l1 : List Int) (r : ByteArray) (w : World) (hT : TabW w) (hr1 : Kd.C (Kd.int .i64) w A1 l1.length l1) (_hc1 : l1.length ≤ c1) (h : word_Row.f a0 l1 = some r) :
    Calls Tryd.prog 23 #[.string a0, .slice A1 l1.length c1] w fun e w' => e = .returned (.string r) ∧ Below w.heap.size w w' := by
  unfold word_Row.f at h
  split at h
  case isFalse => cases h
  rename_i hcond
  obtain ⟨hsize, hrange⟩ := hcond
  obtain rfl := Option.some.inj h
  clear h
  have HR := Aside0.mk hr1
  clear hr1
  obtain ⟨H, hH⟩ : ∃ H, w.heap.size = H := ⟨_, rfl⟩
  have hW : Wr H [] (w.alloc (.cells #[.pointer none, .slice none 0 0] 46)) := by rw [← hH]; exact Lib.fresh_isBuilder _ _ w
  have hB0 : Below H w (w.alloc (.cells #[.pointer none, .slice none 0 0] 46)) := by rw [← hH]; exact (Below.refl _ w).alloc (Nat.le_refl _) _
  have hq1 : Calls Tryd.prog 21 #[.pointer (some ⟨w.heap.size, 0, none⟩), .string a0] (w.alloc (.cells #[.pointer none, .slice none 0 0] 46)) fun e w' => e = .returned (.tuple #[.int .i64 a0.size, .nilIface]) ∧ Wr H a0.data.toList w' ∧ Below H w w' := by
    rw [hH]
    refine (wr_str H [] a0 _ hW (by simp; omega) (by simp; omega)).mono ?_
    rintro e w' ⟨he, h1, h2⟩
    exact ⟨he, h1, hB0.trans h2⟩
  have HQ := Lib.hid hq1
  have HH := Lib.hid hH
  have HRng := Lib.hid hrange
  have hlen63 : l1.length ≤ 6701785159777 := by omega
  clear hq1 hW hB0 hH hrange
  go_enter Tryd.func23, Tryd.ntmps23
  go_wp2_with (go_at_call 21; refine HQ.out.mono ?_; rintro e w1 ⟨rfl, hI1, hB1⟩)
  rw [HH.out]
  go_loopw [12] (fun v wr => ∃ i : Nat, v = .int .i64 i ∧ i ≤ l1.length ∧ Wr H (rowHead a0.data.toList (l1.take i)) wr ∧ Below H w wr) (fun v _ => l1.length - (intOf v).toNat)
  case atStart => exact ⟨0, rfl, by omega, by simpa [rowHead] using hI1, hB1⟩
  case round =>
    obtain ⟨i, rfl, hi, hI, hB⟩ := hrel
    have hBz : H ≤ wr.heap.size := by have := hB.size; have := HH.out; omega
    have hsz := rowHead_le a0.data.toList (l1.take i) (fun n hn => HRng.out n (List.mem_of_mem_take hn))
    have hl1 : (l1.take i).length ≤ i := List.length_take_le _ _
    have ha0 : a0.data.toList.length = a0.size := by simp
    have hbd : (rowHead a0.data.toList (l1.take i)).length + 21 ≤ 140737488355328 ∨ i = l1.length := by omega
    clear ha0
    by_cases hlt : i < l1.length
    · have hbd' : (rowHead a0.data.toList (l1.take i)).length + 21 ≤ 140737488355328 := by omega
      obtain ⟨ad, e1, hx⟩ := Kd.at_int HR.out (i : Int) (by omega) (by omega)
      cases e1
      have hrd : rd l1 (i : Int) = l1[i] := by simp [rd, hlt]
      have hin : inRange (l1[i]) := HRng.out _ (List.getElem_mem hlt)
      rw [hrd] at hx
      simp only [Int.toNat_natCast] at hx
      have hx1 := (hB.cell (by rw [← HH.out]; exact World.block_lt_of_cell? w _ hx)).trans hx
      have hit := itoa_le _ hin
      have hq1 := wr_byte H _ 32 wr hI (by omega) hBz
      have hnext := rowHead_take a0.data.toList l1 i hlt
      have HQ1 := Lib.hid hq1
      have HN := Lib.hid hnext
      clear hq1 hrd hnext hx
      generalize l1[i] = n at *
      go_wp2_with (first
        | (go_at_call 42; refine HQ1.out.mono ?_; rintro e w2 ⟨rfl, hI2, hB2⟩)
        | (go_at_call 22; refine (text_ok n hin _ (hT.below (by rw [HH.out]; exact hB.trans hB2))).mono ?_; rintro e w3 ⟨rfl, hB3⟩)
        | (go_at_call 21; refine (wr_str H _ (mkB (Lib.itoa n)) _ (wr_below hI2 hB3) (by simp [mkB, ByteArray.size]; omega) (Nat.le_trans hBz (Nat.le_trans hB2.size hB3.size))).mono ?_; rintro e w4 ⟨rfl, hI4, hB4⟩))
      go_roundw
      case rel =>
        refine ⟨i + 1, by go_num, by omega, ?_, ((hB.trans hB2).trans (hB3.mono (Nat.le_trans hBz hB2.size))).trans hB4⟩
        rw [HN.out]
        simpa [mkB] using hI4
      case measure => simp [intOf]; omega
    · have hie : i = l1.length := by omega
      have htk : l1.take i = l1 := List.take_of_length_le (by omega)
      rw [htk] at hI
      have hb2 := rowHead_le a0.data.toList l1 HRng.out
      have ha0 : a0.data.toList.length = a0.size := by simp
      have hq1 := wr_byte H _ 10 wr hI (by omega) hBz
      have HQ1 := Lib.hid hq1
      clear hq1 htk hie ha0
      go_wp2_with (first
        | (go_at_call 42; refine HQ1.out.mono ?_; rintro e w2 ⟨rfl, hI2, hB2⟩)
        | (go_at_call 24; refine (wr_end H _ _ hI2 (Nat.le_trans hBz hB2.size)).mono ?_; rintro e w3 ⟨rfl, hB3⟩))
      go_ret
      exact ⟨rfl, by rw [HH.out]; exact (hB.trans hB2).trans hB3⟩
end Go.Proofs.YthalacoockoomaaDoor.H
