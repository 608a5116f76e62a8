/- word.Number computes numF. -/
import Derived.Test.YtdjnnkfopgmpaaaDoorHWordPure
import Derived.Test.YtdjnnkfopgmpaaaDoorWWords
import Derived.Test.YtdjnnkfopgmpaaaDoorHShelf
import Derived.Test.YtdjnnkfopgmpaaaDoorProg
import Derived.WalkKit
import Derived.Lib.OthersKept
import Derived.Laws.RangeString
import Derived.Laws.RangeAny
namespace Go.Proofs.YtdjnnkfopgmpaaaDoor.H
open Go.RowKit Go.Proofs.YtdjnnkfopgmpaaaDoorW.PrintWords

theorem str_mk (s : ByteArray) : (⟨s.data.toList.toArray⟩ : ByteArray) = s := by simp
theorem numF_cut (s : ByteArray) : numF s.data.toList = numTail (Lib.trimPrefix s.data.toList [45]) (Lib.hasPrefix s.data.toList [45]) := by
  unfold numF Lib.trimPrefix Lib.hasPrefix
  cases h : s.data.toList with
  | nil => simp [List.isPrefixOf]
  | cons c l =>
    by_cases hc : c = 45
    · subst hc; simp [List.isPrefixOf]
    · have h1 : ((45 : UInt8) == c) = false := by simpa using fun e => hc e.symm
      simp [List.isPrefixOf, hc, h1]

theorem numGo_step (c : UInt8) (l : List UInt8) (n : Int) (h1 : 48 ≤ (c.toNat : Int)) (h2 : (c.toNat : Int) ≤ 57) :
    numGo (c :: l) n = numGo l (if n < 576460752303423488 then 10 * n + ((c.toNat : Int) - 48) else n) := by
  rw [numGo, if_neg (by omega)]

/-- Behind the sign, whatever CutPrefix says. -/
def NumPost (d : ByteArray) (neg : Bool) (w : World) (e : Ending) (w' : World) : Prop :=
  e = .returned (.tuple #[.int .i64 (numTail d.data.toList neg).1, .int .i64 (numTail d.data.toList neg).2]) ∧ Below w.heap.size w w'

theorem numPost_mk {d : ByteArray} {neg : Bool} {w w' : World} {a b : Int} (h : numTail d.data.toList neg = (a, b)) (hb : Below w.heap.size w w') :
    NumPost d neg w (.returned (.tuple #[.int .i64 a, .int .i64 b])) w' := ⟨by rw [h], hb⟩

def CutIs (s d : ByteArray) (neg : Bool) : Prop :=
  ∀ W : World, Calls Tryd.prog 28 #[.string s, .string ⟨#[45]⟩] W fun e w' => e = .returned (.tuple #[.string d, .bool neg]) ∧ W = w'

set_option maxHeartbeats 1000000 in
set_option maxRecDepth 100000 in
theorem num_body (s d : ByteArray) (neg : Bool) (w : World) (hc : CutIs s d neg) :
    Calls Tryd.prog 16 #[.string s] w (NumPost d neg w) := by
  by_cases c1 : d.toList = ([] : List UInt8)
  · have c1b : (d.toList == ([] : List UInt8)) = true := beq_iff_eq.mpr c1
    have H : numTail d.data.toList neg = (0, 40) := by rw [← ByteArray.toList_eq, c1]; rfl
    replace H := Lib.hid H
    clear c1
    go_enter Tryd.func16, Tryd.ntmps16
    go_wp2_with (go_at_call 28; refine (hc _).mono ?_; rintro e w' ⟨rfl, rfl⟩)
    go_ret2
    exact numPost_mk H.out (Below.refl _ _)
  · have c1b : (d.toList == ([] : List UInt8)) = false := beq_eq_false_iff_ne.mpr c1
    have hpos : 0 < d.size := by
      rcases Nat.eq_zero_or_pos d.size with h | h
      · exact absurd (by rw [ByteArray.toList_eq]; exact List.length_eq_zero_iff.1 (by simpa using h)) c1
      · exact h
    have hne : d.data.toList ≠ [] := by rw [← ByteArray.toList_eq]; exact c1
    have hh : d.data.toList.head? = some d[0] := by
      rw [List.head?_eq_getElem?, List.getElem?_eq_getElem (by simpa using hpos)]; rfl
    have p2 : decide (0 < (d.size : Int)) = true := decide_eq_true (by omega)
    have p3 : decide (0 < d.size) = true := decide_eq_true hpos
    have q5 : (0 < d.size) = True := eq_true hpos
    have qi5 : (0 < (d.size : Int)) = True := eq_true (by omega)
    have hx5 : ∀ h : 0 < d.size, ((d[0]'h).toNat : Int) = bt d 0 := bt_at d 0
    have hnum : (numTail d.data.toList neg = (0, 40) ∧ ((bt d 0) == 48) = true ∧ ¬ d.toList = [48])
        ∨ (numTail d.data.toList neg = (0, 40) ∧ ((bt d 0) == 48) = true ∧ (d.toList == ([48] : List UInt8)) = true ∧ neg = true)
        ∨ (numTail d.data.toList neg = numEnd d.data.toList.length neg (numGo d.data.toList 0) ∧ (((bt d 0) == 48) = false ∨ (((bt d 0) == 48) = true ∧ (d.toList == ([48] : List UInt8)) = true ∧ neg = false))) := by
      by_cases c2 : bt d 0 = 48
      · have c2b : ((bt d 0) == 48) = true := beq_iff_eq.mpr c2
        have hc48 : d[0] = 48 := by
          have h := hx5 hpos
          rw [c2] at h
          exact UInt8.toNat_inj.1 (by simpa using (by omega : d[0].toNat = 48))
        by_cases c3 : d.toList = ([48] : List UInt8)
        · cases neg with
          | true => exact .inr (.inl ⟨by unfold numTail; rw [if_neg hne, if_pos ⟨by rw [hh, hc48], Or.inr rfl⟩], c2b, beq_iff_eq.mpr c3, rfl⟩)
          | false =>
            have e : d.data.toList = [48] := by rw [← ByteArray.toList_eq]; exact c3
            exact .inr (.inr ⟨by rw [e]; rfl, .inr ⟨c2b, beq_iff_eq.mpr c3, rfl⟩⟩)
        · exact .inl ⟨by unfold numTail; rw [if_neg hne, if_pos ⟨by rw [hh, hc48], Or.inl (by rw [← ByteArray.toList_eq]; exact c3)⟩], c2b, c3⟩
      · refine .inr (.inr ⟨?_, .inl (beq_eq_false_iff_ne.mpr c2)⟩)
        unfold numTail
        rw [if_neg hne, if_neg (by rintro ⟨h, _⟩; rw [hh] at h; apply c2; rw [← hx5 hpos]; injection h with h; rw [h]; rfl)]
    clear c1 hne hh
    rcases hnum with ⟨H, c2b, c3⟩ | ⟨H, c2b, c3, rfl⟩ | ⟨H, hg⟩
    · replace H := Lib.hid H
      go_enter Tryd.func16, Tryd.ntmps16
      go_wp2_with (go_at_call 28; refine (hc _).mono ?_; rintro e w' ⟨rfl, rfl⟩)
      go_ret2
      exact numPost_mk H.out (Below.refl _ _)
    · replace H := Lib.hid H
      go_enter Tryd.func16, Tryd.ntmps16
      go_wp2_with (go_at_call 28; refine (hc _).mono ?_; rintro e w' ⟨rfl, rfl⟩)
      go_ret2
      exact numPost_mk H.out (Below.refl _ _)
    · replace H := Lib.hid H
      have hlen : d.data.toList.length = d.size := by simp
      rcases hg with c2b | ⟨c2b, c3, rfl⟩
      all_goals
        go_enter Tryd.func16, Tryd.ntmps16
        replace hlen := Lib.hid hlen
        go_wp2_with (go_at_call 28; refine (hc _).mono ?_; rintro e w' ⟨rfl, rfl⟩)
        go_loopw [6] (fun v wr => ∃ (pos : Nat) (n : Int), v = .int .i64 n ∧ wr.heap[w.heap.size]? = some (.stringIter d pos) ∧ Below w.heap.size w wr ∧ 0 ≤ n ∧ n ≤ 5764607523034234889 ∧ pos ≤ d.size ∧ Hid (numGo (d.data.toList.drop pos) n = numGo d.data.toList 0)) (fun _ wr => d.size - wr.iterPos w.heap.size)
        case atStart =>
          exact ⟨0, 0, rfl, World.iter_heap w d 0, (Below.refl _ w).alloc (Nat.le_refl _) _, by omega, by omega, by omega, rfl⟩
        case round =>
          obtain ⟨pos, n, rfl, hit, hb, hn0, hn1, hps, hg⟩ := hrel
          have hsz : w.heap.size < wr.heap.size := (Array.getElem?_eq_some_iff.1 hit).1
          by_cases hp : pos < d.size
          · have hdrop : d.data.toList.drop pos = d[pos] :: d.data.toList.drop (pos + 1) := by
              rw [List.drop_eq_getElem_cons (by simpa using hp)]; rfl
            by_cases ha : (d[pos]'hp).toNat < 128
            · have hnx : ∀ ty, (Instr.next (.pointer (some ⟨w.heap.size, 0, none⟩)) true ty).run Tryd.prog wr = _ := fun ty => Lib.run_next_ascii_at wr w.heap.size d pos ty hit hp ha
              have hit2 := Lib.iterAt_heap wr w.heap.size d pos (pos + 1) hit
              have hbw2 := Lib.below_iterAt hb (k := w.heap.size) (Nat.le_refl _) d (pos + 1)
              have HD := Lib.hid hdrop
              clear hdrop
              by_cases h1 : ((d[pos]'hp).toNat : Int) < 48
              · have hres : numGo d.data.toList 0 = none := by rw [← hg, HD.out, numGo, if_pos (Or.inl h1)]
                replace hres := Lib.hid hres
                go_wp2
                go_ret2
                exact numPost_mk (by rw [H.out, hres.out]; rfl) hbw2
              · by_cases h2 : 57 < ((d[pos]'hp).toNat : Int)
                · have hres : numGo d.data.toList 0 = none := by rw [← hg, HD.out, numGo, if_pos (Or.inr h2)]
                  replace hres := Lib.hid hres
                  go_wp2
                  go_ret2
                  exact numPost_mk (by rw [H.out, hres.out]; rfl) hbw2
                · have hs := numGo_step (d[pos]'hp) (d.data.toList.drop (pos + 1)) n (by omega) (by omega)
                  replace hs := Lib.hid hs
                  by_cases h3 : n < 576460752303423488
                  · go_wp2
                    go_roundw
                    case rel =>
                      exact ⟨pos + 1, 10 * n + (((d[pos]'hp).toNat : Int) - 48), by go_num, hit2, hbw2, by omega, by omega, by omega, Lib.hid (by rw [← hg, HD.out, hs.out, if_pos h3])⟩
                    case measure =>
                      simp only [World.iterPos, hit2, hit]
                      omega
                  · go_wp2
                    go_roundw
                    case rel =>
                      exact ⟨pos + 1, n, rfl, hit2, hbw2, by omega, by omega, by omega, Lib.hid (by rw [← hg, HD.out, hs.out, if_neg h3])⟩
                    case measure =>
                      simp only [World.iterPos, hit2, hit]
                      omega
            · have hnx : ∀ ty, (Instr.next (.pointer (some ⟨w.heap.size, 0, none⟩)) true ty).run Tryd.prog wr = _ := fun ty => Lib.run_next_any_at wr w.heap.size d pos ty hit hp
              have hhi := (decode_high d pos hp (by omega)).1
              have hbw2 := Lib.below_iterAt hb (k := w.heap.size) (Nat.le_refl _) d (pos + (Utf8.decode d pos).2)
              have hres : numGo d.data.toList 0 = none := by rw [← hg, hdrop, numGo, if_pos (Or.inr (by omega))]
              replace hres := Lib.hid hres
              clear hdrop
              have h1 : ¬ ((Utf8.decode d pos).1 : Int) < 48 := by omega
              have h2 : 57 < ((Utf8.decode d pos).1 : Int) := by omega
              go_wp2
              go_ret2
              exact numPost_mk (by rw [H.out, hres.out]; rfl) hbw2
          · have hpe : pos = d.size := by omega
            have hres : numGo d.data.toList 0 = some n := by rw [← hg, List.drop_eq_nil_of_le (by simp; omega)]; rfl
            have hnx : ∀ ty, (Instr.next (.pointer (some ⟨w.heap.size, 0, none⟩)) true ty).run Tryd.prog wr = _ := fun ty => Lib.run_next_end_at wr w.heap.size d pos ty hit hp
            replace hres := Lib.hid hres
            clear hpe
            by_cases h18 : 18 < (d.size : Int)
            · go_wp2
              go_ret2
              exact numPost_mk (by rw [H.out, hres.out, numEnd, if_pos (by rw [hlen.out]; omega)]) hb
            · first
              | (cases neg <;>
                (go_wp2
                 go_ret2
                 exact numPost_mk (by rw [H.out, hres.out, numEnd, if_neg (by rw [hlen.out]; omega)]; rfl) hb))
              | (go_wp2
                 go_ret2
                 exact numPost_mk (by rw [H.out, hres.out, numEnd, if_neg (by rw [hlen.out]; omega)]; rfl) hb)

theorem word_Number.calls (a0 : ByteArray) (r1 : Int) (r2 : Int) (w : World) (h : word_Number.f a0 = some (r1, r2)) :
    Calls Tryd.prog 16 #[.string a0] w fun e w' => e = .returned (.tuple #[.int .i64 r1, .int .i64 r2]) ∧ Below w.heap.size w w' := by
  have h' := Option.some.inj h
  rw [numF_cut] at h'
  refine (num_body a0 ⟨(Lib.trimPrefix a0.data.toList [45]).toArray⟩ (Lib.hasPrefix a0.data.toList [45]) w (fun W => (Tryd.strings_CutPrefix _ _ _).mono fun _ _ hh => ⟨hh.1, hh.2.symm⟩)).mono ?_
  rintro e w' ⟨rfl, hb⟩
  refine ⟨?_, hb⟩
  simp only at h' ⊢
  rw [h']
end Go.Proofs.YtdjnnkfopgmpaaaDoor.H
