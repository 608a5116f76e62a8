/- What the reference's Lines and Words compute, and that the program's are the same. -/
import Derived.Test.YtdjnnkfopgmpaaaDoorHWordLaw
import Derived.Test.YtdjnnkfopgmpaaaDoorHLines
import Derived.Test.YtdjnnkfopgmpaaaDoorPrint
namespace Go.Proofs.YtdjnnkfopgmpaaaDoor.PureWord
open Go.RowKit Go.Proofs.YtdjnnkfopgmpaaaDoor.H Go.Proofs.YtdjnnkfopgmpaaaDoor.Print Go.Proofs.YtdjnnkfopgmpaaaDoorW.PrintWords Go.Proofs.YtdjnnkfopgmpaaaDoorW.PrintLast

theorem w1 (i : Nat) (h : i ≤ 4611686018427387904) : wrap64 ((i : Int) + 1) = ((i + 1 : Nat) : Int) := by
  unfold wrap64
  omega
theorem bt_nat (s : ByteArray) (i : Nat) (h : i < s.size) : bt s (i : Int) = ((s.data.toList[i]'(by simpa using h)).toNat : Int) := by
  unfold bt
  rw [dif_pos (by simpa using h)]
  rfl
theorem drop_at (s : ByteArray) (i : Nat) (h : i < s.size) : s.data.toList.drop i = s.data.toList[i]'(by simpa using h) :: s.data.toList.drop (i + 1) := List.drop_eq_getElem_cons (by simpa using h)
theorem size_len (s : ByteArray) : s.data.toList.length = s.size := by simp
/-- What stands from a on, ahead of b. -/
def seg (s : ByteArray) (a b : Nat) : List UInt8 := (s.data.toList.take b).drop a
theorem seg_self (s : ByteArray) (a : Nat) : seg s a a = [] := by
  unfold seg
  exact List.drop_eq_nil_of_le (by rw [List.length_take]; omega)
theorem seg_succ (s : ByteArray) (a i : Nat) (h : i < s.size) (ha : a ≤ i) : seg s a (i + 1) = seg s a i ++ [s.data.toList[i]'(by simpa using h)] := by
  unfold seg
  rw [List.take_succ_eq_append_getElem (by simpa using h), List.drop_append_of_le_length (by rw [List.length_take, size_len]; omega)]
theorem extract_seg (s : ByteArray) (a b : Nat) : s.extract a b = mkB (seg s a b) := by
  rw [← mkB_of (s.extract a b), Lib.extract_data]
  unfold seg
  rw [List.drop_take]
theorem seg_end (s : ByteArray) (a : Nat) : seg s a s.size = s.data.toList.drop a := by
  unfold seg
  rw [List.take_of_length_le (by rw [size_len]; exact Nat.le_refl _)]
theorem seg_nil (s : ByteArray) (a b : Nat) (hb : b ≤ s.size) : seg s a b = [] ↔ b ≤ a := by
  unfold seg
  rw [List.drop_eq_nil_iff, List.length_take, size_len]
  omega
theorem isByte (c : UInt8) (n : Nat) (hn : n < 256) : ((c.toNat : Int) = n) ↔ c = UInt8.ofNat n := by
  constructor
  · intro h
    apply UInt8.toNat_inj.1
    simp
    omega
  · rintro rfl
    simp
    omega

theorem refLines_go (s : ByteArray) (hs : s.size ≤ 4294967280) : ∀ (d i a : Nat) (out : List ByteArray), i + d = s.size → a ≤ i → out.length ≤ i →
    Ev (fun k => ebbtideref04_Lines.l0 k s out (a : Int) (i : Int)) (out ++ (linesGo (seg s a i) (s.data.toList.drop i)).map mkB)
  | 0, i, a, out, hi, ha, ho => by
    have hie : i = s.size := by omega
    subst hie
    rw [List.drop_eq_nil_of_le (by rw [size_len]; exact Nat.le_refl _), linesGo]
    by_cases hc : a < s.size
    · rw [if_neg (by rw [seg_nil _ _ _ (Nat.le_refl _)]; omega)]
      refine Ev.step (f := fun _ => _) (fun k => ?_) (Ev.now _)
      simp only [ebbtideref04_Lines.l0]
      rw [if_neg (by omega), if_pos (by omega), if_pos (by omega), if_pos (by omega), if_pos (by omega)]
      simp only [Int.toNat_natCast, extract_seg]
      rfl
    · rw [if_pos (by rw [seg_nil _ _ _ (Nat.le_refl _)]; omega)]
      refine Ev.step (f := fun _ => _) (fun k => ?_) (Ev.now _)
      simp only [ebbtideref04_Lines.l0]
      rw [if_neg (by omega), if_neg (by omega)]
      simp
  | d + 1, i, a, out, hi, ha, ho => by
    have hlt : i < s.size := by omega
    rw [drop_at s i hlt, linesGo]
    by_cases hc : s.data.toList[i]'(by simpa using hlt) = 10
    · rw [if_pos hc]
      have ih := refLines_go s hs d (i + 1) (i + 1) (out ++ [s.extract a i]) (by omega) (Nat.le_refl _) (by simp; omega)
      rw [seg_self, List.append_assoc, extract_seg] at ih
      refine Ev.step (f := fun k => ebbtideref04_Lines.l0 k s (out ++ [mkB (seg s a i)]) ((i + 1 : Nat) : Int) ((i + 1 : Nat) : Int)) (fun k => ?_) ih
      simp only [ebbtideref04_Lines.l0]
      rw [if_pos (by omega), if_pos (by omega), if_pos (by rw [bt_nat s i hlt, hc]; rfl), if_pos (by omega), if_pos (by omega), if_pos (by omega), if_pos (by omega), w1 i (by omega)]
      simp only [Int.toNat_natCast, extract_seg]
    · rw [if_neg hc]
      have ih := refLines_go s hs d (i + 1) a out (by omega) (by omega) (by omega)
      rw [seg_succ s a i hlt ha] at ih
      refine Ev.step (f := fun k => ebbtideref04_Lines.l0 k s out (a : Int) ((i + 1 : Nat) : Int)) (fun k => ?_) ih
      simp only [ebbtideref04_Lines.l0]
      rw [if_pos (by omega), if_pos (by omega), if_neg (by rw [bt_nat s i hlt]; intro e; exact hc ((isByte _ 10 (by decide)).1 e)), w1 i (by omega)]

theorem linesB_eq (s : ByteArray) : linesB s = (linesGo [] s.data.toList).map mkB := by
  unfold linesB
  by_cases h : s.toList = []
  · rw [if_pos h]
    rw [ByteArray.toList_eq] at h
    rw [h]
    rfl
  · rw [if_neg h]
    rw [ByteArray.toList_eq] at h
    unfold piecesB cutEnd
    rw [mkB_data, lines_trim _ h]

theorem refLines (s : ByteArray) (hs : s.size ≤ 4294967280) : Ev (fun k => ebbtideref04_Lines.f k s) (linesB s) := by
  have h := refLines_go s hs s.size 0 0 [] (by omega) (by omega) (by simp)
  rw [linesB_eq]
  simpa [ebbtideref04_Lines.f, seg_self] using h

theorem refWords_go (s : ByteArray) (hs : s.size ≤ 4294967280) : ∀ (d i a : Nat) (out : List ByteArray), i + d = s.size → a ≤ i → out.length ≤ i →
    Ev (fun k => ebbtideref04_Words.l0 k s out (a : Int) (i : Int)) (out ++ (wordsGo (seg s a i) (s.data.toList.drop i)).map mkB)
  | 0, i, a, out, hi, ha, ho => by
    have hie : i = s.size := by omega
    subst hie
    rw [List.drop_eq_nil_of_le (by rw [size_len]; exact Nat.le_refl _), wordsGo]
    refine Ev.step (f := fun k => ebbtideref04_Words.j1 k s out (a : Int) (s.size : Int) true) (fun k => ?_) ?_
    · simp only [ebbtideref04_Words.l0]
      rw [if_pos (by omega)]
      simp
    have hend : ∀ (b : Nat) (o : List ByteArray), Ev (fun k => ebbtideref04_Words.l0 k s o (b : Int) ((s.size + 1 : Nat) : Int)) o := fun b o => by
      refine Ev.step (f := fun _ => _) (fun k => ?_) (Ev.now _)
      simp only [ebbtideref04_Words.l0]
      rw [if_neg (by omega)]
    by_cases hc : a < s.size
    · rw [if_neg (by rw [seg_nil _ _ _ (Nat.le_refl _)]; omega)]
      refine Ev.step (f := fun k => ebbtideref04_Words.l0 k s (out ++ [mkB (seg s a s.size)]) ((s.size + 1 : Nat) : Int) ((s.size + 1 : Nat) : Int)) (fun k => ?_) (hend _ _)
      simp only [ebbtideref04_Words.j1]
      rw [if_pos trivial, if_pos (by omega), if_pos (by omega), if_pos (by omega), if_pos (by omega), if_pos (by omega), w1 _ (by omega)]
      simp only [Int.toNat_natCast, extract_seg]
    · rw [if_pos (by rw [seg_nil _ _ _ (Nat.le_refl _)]; omega)]
      refine Ev.step (f := fun k => ebbtideref04_Words.l0 k s out ((s.size + 1 : Nat) : Int) ((s.size + 1 : Nat) : Int)) (fun k => ?_) (by rw [List.map_nil, List.append_nil]; exact hend _ _)
      simp only [ebbtideref04_Words.j1]
      rw [if_pos trivial, if_neg (by omega), w1 _ (by omega)]
  | d + 1, i, a, out, hi, ha, ho => by
    have hlt : i < s.size := by omega
    rw [drop_at s i hlt, wordsGo]
    refine Ev.step (f := fun k => ebbtideref04_Words.j1 k s out (a : Int) (i : Int) ((bt s i) == 32)) (fun k => ?_) ?_
    · simp only [ebbtideref04_Words.l0]
      rw [if_pos (by omega), if_neg (by omega), if_pos (by omega), if_pos (by omega)]
    by_cases hc : s.data.toList[i]'(by simpa using hlt) = 32
    · have hb : ((bt s i) == 32) = true := by rw [bt_nat s i hlt, hc]; rfl
      rw [if_pos hc, hb]
      by_cases hw : a < i
      · rw [if_neg (by rw [seg_nil _ _ _ (by omega)]; omega)]
        have ih := refWords_go s hs d (i + 1) (i + 1) (out ++ [s.extract a i]) (by omega) (Nat.le_refl _) (by simp; omega)
        rw [seg_self, List.append_assoc, extract_seg] at ih
        refine Ev.step (f := fun k => ebbtideref04_Words.l0 k s (out ++ [mkB (seg s a i)]) ((i + 1 : Nat) : Int) ((i + 1 : Nat) : Int)) (fun k => ?_) ih
        simp only [ebbtideref04_Words.j1]
        rw [if_pos trivial, if_pos (by omega), if_pos (by omega), if_pos (by omega), if_pos (by omega), if_pos (by omega), w1 i (by omega)]
        simp only [Int.toNat_natCast, extract_seg]
      · rw [if_pos (by rw [seg_nil _ _ _ (by omega)]; omega)]
        have ih := refWords_go s hs d (i + 1) (i + 1) out (by omega) (Nat.le_refl _) (by omega)
        rw [seg_self] at ih
        refine Ev.step (f := fun k => ebbtideref04_Words.l0 k s out ((i + 1 : Nat) : Int) ((i + 1 : Nat) : Int)) (fun k => ?_) ih
        simp only [ebbtideref04_Words.j1]
        rw [if_pos trivial, if_neg (by omega), w1 i (by omega)]
    · have hb : ((bt s i) == 32) = false := by
        rw [bt_nat s i hlt]
        exact beq_eq_false_iff_ne.2 (fun e => hc ((isByte _ 32 (by decide)).1 e))
      rw [if_neg hc, hb]
      have ih := refWords_go s hs d (i + 1) a out (by omega) (by omega) (by omega)
      rw [seg_succ s a i hlt ha] at ih
      refine Ev.step (f := fun k => ebbtideref04_Words.l0 k s out (a : Int) ((i + 1 : Nat) : Int)) (fun k => ?_) ih
      simp only [ebbtideref04_Words.j1]
      rw [if_neg (by decide), w1 i (by omega)]

theorem wordsB_eq (s : ByteArray) : wordsB s = (wordsGo [] s.data.toList).map mkB := by
  rw [wordsGo_eq _ _ (by simp), List.nil_append]
  unfold wordsB piecesB
  rw [List.filter_map]
  congr 1
  refine List.filter_congr fun p _ => ?_
  simp [ByteArray.toList_eq, mkB]

theorem refWords (s : ByteArray) (hs : s.size ≤ 4294967280) : Ev (fun k => ebbtideref04_Words.f k s) (wordsB s) := by
  have h := refWords_go s hs s.size 0 0 [] (by omega) (by omega) (by simp)
  rw [wordsB_eq]
  simpa [ebbtideref04_Words.f, seg_self] using h

theorem same_go (a : List ByteArray) (ha : a.length ≤ 4611686018427387904) : ∀ (d i : Nat), i + d = a.length → Ev (fun k => ebbtideref04_Same.l0 k a a (i : Int)) true
  | 0, i, hi => by
    refine Ev.step (f := fun _ => _) (fun k => ?_) (Ev.now _)
    simp only [ebbtideref04_Same.l0]
    rw [if_neg (by omega)]
  | d + 1, i, hi => by
    refine Ev.step (f := fun k => ebbtideref04_Same.l0 k a a ((i + 1 : Nat) : Int)) (fun k => ?_) (same_go a ha d (i + 1) (by omega))
    simp only [ebbtideref04_Same.l0]
    rw [if_pos (by omega), if_pos (by omega), if_pos (by omega), if_pos trivial, w1 i (by omega)]
theorem same_self (a : List ByteArray) (ha : a.length ≤ 4611686018427387904) : Ev (fun k => ebbtideref04_Same.f k a a) true := by
  have h := same_go a ha a.length 0 (by omega)
  simpa [ebbtideref04_Same.f] using h

theorem awake_num1 : word_Number.f ⟨#[45, 49, 50, 48]⟩ = some (-120, 0) := by
  unfold word_Number.f
  decide +kernel
theorem awake_num2 : word_Number.f ⟨#[48, 48, 55]⟩ = some (0, 40) := by
  unfold word_Number.f
  decide +kernel
theorem awake_row : word_Row.f ⟨#[97, 114, 99]⟩ [0, -1] = some ⟨#[97, 114, 99, 32, 48, 32, 45, 49, 10]⟩ := by
  have h0 : Lib.itoa 0 = [48] := by simp [Lib.itoa, Lib.decDigits]
  have h1 : Lib.itoa (-1) = [45, 49] := by simp [Lib.itoa, Lib.decDigits]
  unfold word_Row.f
  rw [if_pos (by decide)]
  unfold rowB rowHead
  simp only [List.flatMap_cons, List.flatMap_nil, h0, h1]
  rfl
theorem awake_words : word_Words.f ⟨#[32, 120, 32, 32, 121, 32]⟩ = some [⟨#[120]⟩, ⟨#[121]⟩] := by
  unfold word_Words.f
  rw [if_pos (by decide), wordsB_eq]
  rfl
theorem awake_lines : word_Lines.f ⟨#[97, 10, 10, 98]⟩ = some [⟨#[97]⟩, ⟨#[]⟩, ⟨#[98]⟩] := by
  unfold word_Lines.f
  rw [if_pos (by decide), linesB_eq]
  rfl
theorem awake_ok : ebbtidelaw04_awake.f = some true := by
  unfold ebbtidelaw04_awake.f
  simp only [awake_num1, awake_num2, awake_row, awake_words, awake_lines, Option.bind_some, ByteArray.toList_eq]
  rfl
end Go.Proofs.YtdjnnkfopgmpaaaDoor.PureWord
