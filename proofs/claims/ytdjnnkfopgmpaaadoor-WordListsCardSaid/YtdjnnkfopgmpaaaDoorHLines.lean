/- word.Lines: a text cut at its line ends. -/
import Derived.Test.YtdjnnkfopgmpaaaDoorHTab
import Derived.Test.YtdjnnkfopgmpaaaDoorHWords
import Derived.Lib.SplitLaws
namespace Go.Proofs.YtdjnnkfopgmpaaaDoor.H
open Go Go.RowKit Go.Proofs.YtdjnnkfopgmpaaaDoorW.PrintWords

def cutEnd (s : ByteArray) : ByteArray := mkB (Lib.trimSuffix s.data.toList [10])
def linesB (s : ByteArray) : List ByteArray := if s.toList = [] then [] else piecesB 10 (cutEnd s)
def word_Lines.f (a0 : ByteArray) : Option (List ByteArray) := if a0.size ≤ 4294967280 then some (linesB a0) else none

theorem splitB_pieces (s : ByteArray) : Lib.splitB ⟨#[10]⟩ 0 (Lib.countB s ⟨#[10]⟩) s = piecesB 10 s := by
  have h1 := Lib.splitB_data ⟨#[10]⟩ 0 (Lib.countB s ⟨#[10]⟩) s
  have hc : Lib.countB s ⟨#[10]⟩ = s.data.toList.count 10 := Lib.count_one 10 _
  have e1 : ((⟨#[10]⟩ : ByteArray).data.toList) = [10] := rfl
  rw [e1, splitK_eq 10 _ _ (by omega)] at h1
  unfold piecesB
  rw [← h1, List.map_map]
  conv => lhs; rw [← List.map_id (Lib.splitB _ _ _ _)]
  refine List.map_congr_left fun x _ => ?_
  exact (mkB_of x).symm

theorem trimSuffix_le (l p : List UInt8) : (Lib.trimSuffix l p).length ≤ l.length := by
  unfold Lib.trimSuffix
  split
  · exact List.length_take_le' _ _
  · exact Nat.le_refl _
theorem cutEnd_size (s : ByteArray) : (cutEnd s).size ≤ s.size := by
  have h1 := trimSuffix_le s.data.toList [10]
  have h2 : (cutEnd s).size = (Lib.trimSuffix s.data.toList [10]).length := by simp [cutEnd, mkB, ByteArray.size]
  have h3 : s.data.toList.length = s.size := by simp
  omega

theorem own_new (w : World) (xs : List ByteArray) (hm : xs.length ≤ maxLen) : (w.alloc (.cells (xs.map Value.string).toArray 9)).ownsRow w.heap.size 9 1 (.slice (some ⟨w.heap.size, 0, none⟩) xs.length xs.length) xs.length (xs.map Value.string) :=
  ⟨by simp, .inr ⟨w.heap.size, xs.length, _, rfl, Nat.le_refl _, World.alloc_heap_new w _, Nat.le_refl _, hm, by simp, by rw [List.toList_toArray, Nat.mul_one]; exact List.take_of_length_le (by simp)⟩⟩

set_option maxHeartbeats 1000000 in
theorem word_Lines.calls (a0 : ByteArray) (r : List ByteArray) (w : World) (hT : TabW w) (h : word_Lines.f a0 = some r) :
    Calls Tryd.prog 12 #[.string a0] w fun e w' => ∃ v0_ : Value, e = .returned (v0_) ∧ Kd.R Kd.string 9 w' w.heap.size (fun _ => True) v0_ r ∧ Below w.heap.size w w' := by
  unfold word_Lines.f at h
  split at h
  case isFalse => cases h
  rename_i hs
  obtain rfl := Option.some.inj h
  clear h
  obtain ⟨m, hm⟩ := hT.len
  by_cases c1 : a0.toList = ([] : List UInt8)
  · have c1b : (a0.toList == ([] : List UInt8)) = true := beq_iff_eq.mpr c1
    have hr : linesB a0 = [] := by unfold linesB; rw [if_pos c1]
    rw [hr]
    clear hr c1 hm hT
    go_enter Tryd.func12, Tryd.ntmps12
    go_wp2
    go_ret
    exact ⟨_, rfl, Kd.R_nil _ _ _ _ _, Below.refl _ _⟩
  · have c1b : (a0.toList == ([] : List UInt8)) = false := beq_eq_false_iff_ne.mpr c1
    have hr : linesB a0 = piecesB 10 (cutEnd a0) := by unfold linesB; rw [if_neg c1]
    rw [hr]
    have ht : ∀ W : World, Calls Tryd.prog 26 #[.string a0, .string ⟨#[10]⟩] W fun e w' => e = .returned (.string (cutEnd a0)) ∧ W = w' := fun W =>
      (Tryd.strings_TrimSuffix a0 ⟨#[10]⟩ W (by omega)).mono fun _ _ hh => ⟨hh.1, hh.2.symm⟩
    have hl : (piecesB 10 (cutEnd a0)).length ≤ maxLen := by
      have h1 := piecesB_length 10 (cutEnd a0)
      have h2 := cutEnd_size a0
      unfold maxLen
      omega
    have hsp : Calls Tryd.prog 25 #[.string (cutEnd a0), .string ⟨#[10]⟩] w fun e w' => ∃ v : Value, e = .returned v ∧ Kd.R Kd.string 9 w' w.heap.size (fun _ => True) v (piecesB 10 (cutEnd a0)) ∧ Below w.heap.size w w' := by
      refine (Tryd.strings_Split (cutEnd a0) ⟨#[10]⟩ m w (by have := cutEnd_size a0; omega) hm (by decide)).mono ?_
      rintro e w' ⟨rfl, rfl⟩
      rw [splitB_pieces]
      have e1 : Lib.countB (cutEnd a0) ⟨#[10]⟩ + 1 = (piecesB 10 (cutEnd a0)).length := by
        unfold piecesB
        rw [List.length_map, splitL_length]
        congr 1
        exact Lib.count_one 10 _
      rw [e1]
      exact ⟨_, rfl, kd_strs (own_new w _ hl), (Below.refl _ _).alloc (Nat.le_refl _) _⟩
    replace ht := Lib.hid ht
    replace hsp := Lib.hid hsp
    clear hr hm hT c1 hl
    go_enter Tryd.func12, Tryd.ntmps12
    go_wp2_with (first | (go_at_call 26; refine (ht.out _).mono ?_; rintro e w' ⟨rfl, rfl⟩) | (go_at_call 25; refine hsp.out.mono ?_; rintro e w' ⟨v, rfl, hR, hB⟩))
    go_ret
    exact ⟨v, rfl, hR, hB⟩
end Go.Proofs.YtdjnnkfopgmpaaaDoor.H
