/- Plain: a list of bytes cut at each c; what Lib's indexByte and splitK say of it. No program in sight. -/
import Derived.WalkKit
import Derived.Lib.Split
import Derived.Lib.IndexBytes
import Derived.Lib.IndexLaws
namespace Go.Proofs.YtdjnnkfopgmpaaaDoor.H

/-- A list cut at each c. -/
def splitL (c : UInt8) : List UInt8 → List (List UInt8)
  | [] => [[]]
  | x :: l => if x = c then [] :: splitL c l else match splitL c l with
    | [] => [[x]]
    | p :: ps => (x :: p) :: ps

theorem splitL_ne (c : UInt8) (l : List UInt8) : splitL c l ≠ [] := by
  cases l with
  | nil => simp [splitL]
  | cons x l =>
    rw [splitL]
    split
    · simp
    · split <;> simp

theorem splitL_none (c : UInt8) : ∀ l : List UInt8, c ∉ l → splitL c l = [l]
  | [], _ => rfl
  | x :: l, h => by
    have h1 : x ≠ c := fun e => h (by simp [e])
    have h2 : c ∉ l := fun e => h (by simp [e])
    rw [splitL, if_neg h1, splitL_none c l h2]

theorem splitL_cut (c : UInt8) : ∀ (a l : List UInt8), c ∉ a → splitL c (a ++ c :: l) = a :: splitL c l
  | [], l, _ => by rw [List.nil_append, splitL, if_pos rfl]
  | x :: a, l, h => by
    have h1 : x ≠ c := fun e => h (by simp [e])
    have h2 : c ∉ a := fun e => h (by simp [e])
    rw [List.cons_append, splitL, if_neg h1, splitL_cut c a l h2]

theorem indexByte_split (c : UInt8) (l : List UInt8) : (Lib.indexByte l c = -1 ∧ c ∉ l) ∨ (∃ i : Nat, Lib.indexByte l c = i ∧ i < l.length ∧ l = l.take i ++ c :: l.drop (i + 1) ∧ c ∉ l.take i) := by
  induction l with
  | nil => exact .inl ⟨rfl, by simp⟩
  | cons x l ih =>
    by_cases hx : x = c
    · subst hx
      exact .inr ⟨0, by simp [Lib.indexByte], by simp, by simp, by simp⟩
    · have hb : (x == c) = false := by simpa using hx
      rcases ih with ⟨h1, h2⟩ | ⟨i, h1, h2, h3, h4⟩
      · refine .inl ⟨by simp [Lib.indexByte, hb, h1], fun h => ?_⟩
        rcases List.mem_cons.1 h with e | e
        · exact hx e.symm
        · exact h2 e
      · refine .inr ⟨i + 1, ?_, by simp; omega, ?_, fun h => ?_⟩
        · have hne : ((i : Int) == -1) = false := by simp
          simp [Lib.indexByte, hb, h1, hne]
        · rw [List.take_succ_cons, List.drop_succ_cons, List.cons_append, ← h3]
        · rw [List.take_succ_cons] at h
          rcases List.mem_cons.1 h with e | e
          · exact hx e.symm
          · exact h4 e

theorem splitL_step (c : UInt8) (l : List UInt8) (i : Nat) (h1 : l = l.take i ++ c :: l.drop (i + 1)) (h2 : c ∉ l.take i) : splitL c l = l.take i :: splitL c (l.drop (i + 1)) := by
  conv => lhs; rw [h1]
  exact splitL_cut c _ _ h2

theorem splitL_length (c : UInt8) : ∀ l : List UInt8, (splitL c l).length = l.count c + 1
  | [] => rfl
  | x :: l => by
    rw [splitL]
    by_cases hx : x = c
    · subst hx
      rw [if_pos rfl, List.length_cons, splitL_length x l, List.count_cons_self]
    · have hc : List.count c (x :: l) = List.count c l := List.count_cons_of_ne (fun e => hx e)
      rw [if_neg hx, hc]
      cases hs : splitL c l with
      | nil => exact absurd hs (splitL_ne c l)
      | cons p ps =>
        have := splitL_length c l
        rw [hs] at this
        simpa using this

theorem splitK_eq (c : UInt8) : ∀ (k : Nat) (l : List UInt8), l.count c ≤ k → Lib.splitK [c] 0 k l = splitL c l
  | 0, l, h => by
    rw [Lib.splitK, splitL_none]
    intro hm
    have := List.count_pos_iff.2 hm
    omega
  | k + 1, l, h => by
    rw [Lib.splitK, Lib.index_one]
    rcases indexByte_split c l with ⟨h1, h2⟩ | ⟨i, h1, h2, h3, h4⟩
    · rw [h1, splitL_none c l h2]
      rfl
    · have hne : ((i : Int) == -1) = false := by simp
      rw [h1, splitL_step c l i h3 h4, if_neg (by rw [hne]; decide)]
      simp only [Int.toNat_natCast, Nat.add_zero, List.length_singleton]
      rw [splitK_eq c k]
      have hc : l.count c = (l.take i).count c + ((l.drop (i + 1)).count c + 1) := by
        conv => lhs; rw [h3]
        rw [List.count_append, List.count_cons_self]
      omega

/-- Bytes as a text. -/
def mkB (l : List UInt8) : ByteArray := ⟨l.toArray⟩
theorem mkB_data (l : List UInt8) : (mkB l).data.toList = l := rfl
theorem mkB_of (s : ByteArray) : mkB s.data.toList = s := by simp [mkB]
def piecesB (c : UInt8) (s : ByteArray) : List ByteArray := (splitL c s.data.toList).map mkB

theorem piecesB_step (c : UInt8) (s : ByteArray) (i : Nat) (h1 : s.data.toList = s.data.toList.take i ++ c :: s.data.toList.drop (i + 1)) (h2 : c ∉ s.data.toList.take i) :
    piecesB c s = s.extract 0 i :: piecesB c (s.extract (i + 1) s.size) := by
  unfold piecesB
  rw [splitL_step c _ i h1 h2, List.map_cons, Lib.extract_to_end]
  congr 1
  rw [← mkB_of (s.extract 0 i)]
  congr 1
  rw [Lib.extract_from_zero]
theorem piecesB_none (c : UInt8) (s : ByteArray) (h : c ∉ s.data.toList) : piecesB c s = [s] := by
  unfold piecesB
  rw [splitL_none c _ h, List.map_singleton, mkB_of]
theorem piecesB_length (c : UInt8) (s : ByteArray) : (piecesB c s).length ≤ s.size + 1 := by
  unfold piecesB
  rw [List.length_map, splitL_length]
  have h1 := List.count_le_length (a := c) (l := s.data.toList)
  have h2 : s.data.toList.length = s.size := by simp
  omega
end Go.Proofs.YtdjnnkfopgmpaaaDoor.H
