/- Joined texts: HWordLaw, HPureRefs, HRefTail, HRefHead, HRefParse. -/
import Derived.Test.YthalacoockoomaaDoorHWordAll
import Derived.Lib.ItoaNum
import Derived.Test.YthalacoockoomaaDoorPrint
import Derived.Test.YthalacoockoomaaDoorHNetAll
import Derived.Deep.RegionHeld3
/- Plain laws on lines, words, numbers and numerals. No program in sight. -/
namespace Go.Proofs.YthalacoockoomaaDoor.H

/-! ### lines -/
/-- The lines loop of the reference: what stands since the last line end, and what is left. -/
def linesGo (cur : List UInt8) : List UInt8 → List (List UInt8)
  | [] => if cur = [] then [] else [cur]
  | x :: l => if x = 10 then cur :: linesGo [] l else linesGo (cur ++ [x]) l

def noEmptyEnd (ps : List (List UInt8)) : List (List UInt8) := if ps.getLast? = some [] then ps.dropLast else ps
theorem noEmptyEnd_cons (p : List UInt8) (ps : List (List UInt8)) (h : ps ≠ []) : noEmptyEnd (p :: ps) = p :: noEmptyEnd ps := by
  unfold noEmptyEnd
  obtain ⟨q, qs, rfl⟩ := List.exists_cons_of_ne_nil h
  rw [List.getLast?_cons_cons, List.dropLast_cons_cons]
  split <;> rfl

theorem linesGo_eq : ∀ (l cur : List UInt8), 10 ∉ cur → linesGo cur l = noEmptyEnd (splitL 10 (cur ++ l))
  | [], cur, h => by
    rw [List.append_nil, splitL_none 10 cur h, linesGo, noEmptyEnd]
    simp
  | x :: l, cur, h => by
    rw [linesGo]
    by_cases hx : x = 10
    · subst hx
      rw [if_pos rfl, splitL_cut 10 cur l h, noEmptyEnd_cons _ _ (splitL_ne 10 l), linesGo_eq l [] (by simp)]
      rfl
    · rw [if_neg hx, linesGo_eq l (cur ++ [x]) (by simp [h]; exact fun e => hx e.symm), List.append_assoc]
      rfl

theorem splitL_end (c : UInt8) : ∀ l : List UInt8, splitL c (l ++ [c]) = splitL c l ++ [[]]
  | [] => by simp [splitL]
  | x :: l => by
    rw [List.cons_append, splitL, splitL, splitL_end c l]
    by_cases hx : x = c
    · simp [hx]
    · rw [if_neg hx, if_neg hx]
      cases hs : splitL c l with
      | nil => exact absurd hs (splitL_ne c l)
      | cons p ps => simp

theorem splitL_last (c : UInt8) : ∀ l : List UInt8, (splitL c l).getLast? = some [] → l = [] ∨ ∃ a, l = a ++ [c]
  | [], _ => .inl rfl
  | x :: l, h => by
    refine .inr ?_
    rw [splitL] at h
    by_cases hx : x = c
    · subst hx
      rw [if_pos rfl] at h
      obtain ⟨p, ps, hp⟩ := List.exists_cons_of_ne_nil (splitL_ne x l)
      rw [hp, List.getLast?_cons_cons, ← hp] at h
      rcases splitL_last x l h with rfl | ⟨a, rfl⟩
      · exact ⟨[], rfl⟩
      · exact ⟨x :: a, rfl⟩
    · rw [if_neg hx] at h
      obtain ⟨p, ps, hp⟩ := List.exists_cons_of_ne_nil (splitL_ne c l)
      rw [hp] at h
      cases ps with
      | nil => simp at h
      | cons q qs =>
        simp only [List.getLast?_cons_cons] at h
        rcases splitL_last c l (by rw [hp, List.getLast?_cons_cons]; exact h) with rfl | ⟨a, rfl⟩
        · simp [splitL] at hp
        · exact ⟨x :: a, rfl⟩

theorem trimSuffix_cases (l : List UInt8) : (∃ a, l = a ++ [10] ∧ Lib.trimSuffix l [10] = a) ∨ ((∀ a, l ≠ a ++ [10]) ∧ Lib.trimSuffix l [10] = l) := by
  unfold Lib.trimSuffix Lib.hasSuffix
  by_cases h : [10] <:+ l
  · obtain ⟨a, rfl⟩ := h
    refine .inl ⟨a, rfl, ?_⟩
    rw [if_pos (List.isSuffixOf_iff_suffix.2 ⟨a, rfl⟩)]
    simp
  · refine .inr ⟨fun a e => h ⟨a, e.symm⟩, ?_⟩
    rw [if_neg (fun e => h (List.isSuffixOf_iff_suffix.1 e))]

theorem lines_trim (l : List UInt8) (h : l ≠ []) : splitL 10 (Lib.trimSuffix l [10]) = linesGo [] l := by
  rw [linesGo_eq l [] (by simp), List.nil_append]
  rcases trimSuffix_cases l with ⟨a, rfl, ht⟩ | ⟨hn, ht⟩
  · rw [ht, splitL_end]
    unfold noEmptyEnd
    simp
  · rw [ht]
    unfold noEmptyEnd
    rw [if_neg]
    intro e
    rcases splitL_last 10 l e with e | ⟨a, e⟩
    · exact h e
    · exact hn a e

/-! ### words -/
def wordsGo (cur : List UInt8) : List UInt8 → List (List UInt8)
  | [] => if cur = [] then [] else [cur]
  | x :: l => if x = 32 then (if cur = [] then wordsGo [] l else cur :: wordsGo [] l) else wordsGo (cur ++ [x]) l

theorem wordsGo_eq : ∀ (l cur : List UInt8), 32 ∉ cur → wordsGo cur l = (splitL 32 (cur ++ l)).filter fun p => decide (p ≠ [])
  | [], cur, h => by
    rw [List.append_nil, splitL_none 32 cur h, wordsGo]
    by_cases hc : cur = [] <;> simp [hc]
  | x :: l, cur, h => by
    rw [wordsGo]
    by_cases hx : x = 32
    · subst hx
      rw [if_pos rfl, splitL_cut 32 cur l h, wordsGo_eq l [] (by simp)]
      by_cases hc : cur = [] <;> simp [hc]
    · rw [if_neg hx, wordsGo_eq l (cur ++ [x]) (by simp [h]; exact fun e => hx e.symm), List.append_assoc]
      rfl

/-! ### numbers -/
def isDig (c : UInt8) : Prop := 48 ≤ (c.toNat : Int) ∧ (c.toNat : Int) ≤ 57
instance (c : UInt8) : Decidable (isDig c) := by unfold isDig; infer_instance
/-- The number that digits say, behind n. -/
def valF (n : Int) : List UInt8 → Int
  | [] => n
  | c :: l => valF (10 * n + ((c.toNat : Int) - 48)) l

theorem numGo_bad : ∀ (l : List UInt8) (n : Int), ¬ (∀ c ∈ l, isDig c) → numGo l n = none
  | [], _, h => absurd (fun c hc => by simp at hc) h
  | c :: l, n, h => by
    rw [numGo]
    by_cases hc : isDig c
    · have h1 := hc.1
      have h2 := hc.2
      rw [if_neg (by omega)]
      exact numGo_bad l _ (fun h' => h (fun d hd => by
        rcases List.mem_cons.1 hd with e | e
        · rw [e]; exact hc
        · exact h' d e))
    · rw [if_pos]
      unfold isDig at hc
      omega

theorem numGo_good : ∀ (l : List UInt8) (n : Int), (∀ c ∈ l, isDig c) → ∃ m, numGo l n = some m
  | [], n, _ => ⟨n, rfl⟩
  | c :: l, n, h => by
    have hc := h c (by simp)
    have h1 := hc.1
    have h2 := hc.2
    rw [numGo, if_neg (by omega)]
    exact numGo_good l _ (fun d hd => h d (by simp [hd]))

theorem pow10_le {a b : Nat} (h : a ≤ b) : (10 : Int) ^ a ≤ 10 ^ b := by
  have := Nat.pow_le_pow_right (n := 10) (by decide) h
  exact_mod_cast this

theorem numGo_val : ∀ (l : List UInt8) (n : Int) (a : Nat), (∀ c ∈ l, isDig c) → 0 ≤ n → n < 10 ^ a → a + l.length ≤ 18 → numGo l n = some (valF n l)
  | [], n, _, _, _, _, _ => rfl
  | c :: l, n, a, h, h0, ha, hl => by
    have hc := h c (by simp)
    have h1 := hc.1
    have h2 := hc.2
    rw [List.length_cons] at hl
    have hp : (10 : Int) ^ a ≤ 10 ^ 17 := pow10_le (by omega)
    have h17 : (10 : Int) ^ 17 = 100000000000000000 := by decide
    rw [numGo, if_neg (by omega), if_pos (by omega), valF]
    refine numGo_val l _ (a + 1) (fun d hd => h d (by simp [hd])) (by omega) ?_ (by omega)
    rw [Int.pow_succ]
    omega

theorem valF_append : ∀ (l r : List UInt8) (n : Int), valF n (l ++ r) = valF (valF n l) r
  | [], _, _ => rfl
  | c :: l, r, n => by rw [List.cons_append, valF, valF, valF_append l r]

theorem valF_lt : ∀ (l : List UInt8) (n : Int) (a : Nat), (∀ c ∈ l, isDig c) → 0 ≤ n → n < 10 ^ a → 0 ≤ valF n l ∧ valF n l < 10 ^ (a + l.length)
  | [], n, a, _, h0, ha => ⟨h0, by rw [valF]; simpa using ha⟩
  | c :: l, n, a, h, h0, ha => by
    have hc := h c (by simp)
    have h1 := hc.1
    have h2 := hc.2
    have := valF_lt l (10 * n + ((c.toNat : Int) - 48)) (a + 1) (fun d hd => h d (by simp [hd])) (by omega) (by rw [Int.pow_succ]; omega)
    rw [valF, List.length_cons]
    rw [show a + (l.length + 1) = a + 1 + l.length by omega]
    exact this

end Go.Proofs.YthalacoockoomaaDoor.H

/- What the reference's layer word computes (Lines, Words, Number, Text, Row), and laws on numbers and their texts. For seats other than layer word's own. -/
namespace Go.Proofs.YthalacoockoomaaDoor.PureWord
open Go.RowKit Go.Proofs.YthalacoockoomaaDoor.H Go.Proofs.YthalacoockoomaaDoor.Print Go.Proofs.YthalacoockoomaaDoorW.PrintWords Go.Proofs.YthalacoockoomaaDoorW.PrintLast

theorem w1 (i : Nat) (h : i ≤ 4611686018427387904) : wrap64 ((i : Int) + 1) = ((i + 1 : Nat) : Int) := by
  unfold wrap64
  omega
theorem bt_nat (s : ByteArray) (i : Nat) (h : i < s.size) : bt s (i : Int) = ((s.data.toList[i]'(by simpa using h)).toNat : Int) := by
  unfold bt
  rw [dif_pos (by simpa using h)]
  rfl
theorem drop_at (s : ByteArray) (i : Nat) (h : i < s.size) : s.data.toList.drop i = s.data.toList[i]'(by simpa using h) :: s.data.toList.drop (i + 1) := List.drop_eq_getElem_cons (by simpa using h)
theorem size_len (s : ByteArray) : s.data.toList.length = s.size := by simp
/-- What stands from a on, ahead of b. -/
def seg (s : ByteArray) (a b : Nat) : List UInt8 := (s.data.toList.take b).drop a
theorem seg_self (s : ByteArray) (a : Nat) : seg s a a = [] := by
  unfold seg
  exact List.drop_eq_nil_of_le (by rw [List.length_take]; omega)
theorem seg_succ (s : ByteArray) (a i : Nat) (h : i < s.size) (ha : a ≤ i) : seg s a (i + 1) = seg s a i ++ [s.data.toList[i]'(by simpa using h)] := by
  unfold seg
  rw [List.take_succ_eq_append_getElem (by simpa using h), List.drop_append_of_le_length (by rw [List.length_take, size_len]; omega)]
theorem extract_seg (s : ByteArray) (a b : Nat) : s.extract a b = mkB (seg s a b) := by
  rw [← mkB_of (s.extract a b), Lib.extract_data]
  unfold seg
  rw [List.drop_take]
theorem seg_end (s : ByteArray) (a : Nat) : seg s a s.size = s.data.toList.drop a := by
  unfold seg
  rw [List.take_of_length_le (by rw [size_len]; exact Nat.le_refl _)]
theorem seg_nil (s : ByteArray) (a b : Nat) (hb : b ≤ s.size) : seg s a b = [] ↔ b ≤ a := by
  unfold seg
  rw [List.drop_eq_nil_iff, List.length_take, size_len]
  omega
theorem isByte (c : UInt8) (n : Nat) (hn : n < 256) : ((c.toNat : Int) = n) ↔ c = UInt8.ofNat n := by
  constructor
  · intro h
    apply UInt8.toNat_inj.1
    simp
    omega
  · rintro rfl
    simp
    omega

theorem refLines_go (s : ByteArray) (hs : s.size ≤ 4294967280) : ∀ (d i a : Nat) (out : List ByteArray), i + d = s.size → a ≤ i → out.length ≤ i →
    Ev (fun k => ebbtideref04_Lines.l0 k s out (a : Int) (i : Int)) (out ++ (linesGo (seg s a i) (s.data.toList.drop i)).map mkB)
  | 0, i, a, out, hi, ha, ho => by
    have hie : i = s.size := by omega
    subst hie
    rw [List.drop_eq_nil_of_le (by rw [size_len]; exact Nat.le_refl _), linesGo]
    by_cases hc : a < s.size
    · rw [if_neg (by rw [seg_nil _ _ _ (Nat.le_refl _)]; omega)]
      refine Ev.step (f := fun _ => _) (fun k => ?_) (Ev.now _)
      simp only [ebbtideref04_Lines.l0]
      rw [if_neg (by omega), if_pos (by omega), if_pos (by omega), if_pos (by omega), if_pos (by omega)]
      simp only [Int.toNat_natCast, extract_seg]
      rfl
    · rw [if_pos (by rw [seg_nil _ _ _ (Nat.le_refl _)]; omega)]
      refine Ev.step (f := fun _ => _) (fun k => ?_) (Ev.now _)
      simp only [ebbtideref04_Lines.l0]
      rw [if_neg (by omega), if_neg (by omega)]
      simp
  | d + 1, i, a, out, hi, ha, ho => by
    have hlt : i < s.size := by omega
    rw [drop_at s i hlt, linesGo]
    by_cases hc : s.data.toList[i]'(by simpa using hlt) = 10
    · rw [if_pos hc]
      have ih := refLines_go s hs d (i + 1) (i + 1) (out ++ [s.extract a i]) (by omega) (Nat.le_refl _) (by simp; omega)
      rw [seg_self, List.append_assoc, extract_seg] at ih
      refine Ev.step (f := fun k => ebbtideref04_Lines.l0 k s (out ++ [mkB (seg s a i)]) ((i + 1 : Nat) : Int) ((i + 1 : Nat) : Int)) (fun k => ?_) ih
      simp only [ebbtideref04_Lines.l0]
      rw [if_pos (by omega), if_pos (by omega), if_pos (by rw [bt_nat s i hlt, hc]; rfl), if_pos (by omega), if_pos (by omega), if_pos (by omega), if_pos (by omega), w1 i (by omega)]
      simp only [Int.toNat_natCast, extract_seg]
    · rw [if_neg hc]
      have ih := refLines_go s hs d (i + 1) a out (by omega) (by omega) (by omega)
      rw [seg_succ s a i hlt ha] at ih
      refine Ev.step (f := fun k => ebbtideref04_Lines.l0 k s out (a : Int) ((i + 1 : Nat) : Int)) (fun k => ?_) ih
      simp only [ebbtideref04_Lines.l0]
      rw [if_pos (by omega), if_pos (by omega), if_neg (by rw [bt_nat s i hlt]; intro e; exact hc ((isByte _ 10 (by decide)).1 e)), w1 i (by omega)]

theorem linesB_eq (s : ByteArray) : linesB s = (linesGo [] s.data.toList).map mkB := by
  unfold linesB
  by_cases h : s.toList = []
  · rw [if_pos h]
    rw [ByteArray.toList_eq] at h
    rw [h]
    rfl
  · rw [if_neg h]
    rw [ByteArray.toList_eq] at h
    unfold piecesB cutEnd
    rw [mkB_data, lines_trim _ h]

theorem refLines (s : ByteArray) (hs : s.size ≤ 4294967280) : Ev (fun k => ebbtideref04_Lines.f k s) (linesB s) := by
  have h := refLines_go s hs s.size 0 0 [] (by omega) (by omega) (by simp)
  rw [linesB_eq]
  simpa [ebbtideref04_Lines.f, seg_self] using h

theorem refWords_go (s : ByteArray) (hs : s.size ≤ 4294967280) : ∀ (d i a : Nat) (out : List ByteArray), i + d = s.size → a ≤ i → out.length ≤ i →
    Ev (fun k => ebbtideref04_Words.l0 k s out (a : Int) (i : Int)) (out ++ (wordsGo (seg s a i) (s.data.toList.drop i)).map mkB)
  | 0, i, a, out, hi, ha, ho => by
    have hie : i = s.size := by omega
    subst hie
    rw [List.drop_eq_nil_of_le (by rw [size_len]; exact Nat.le_refl _), wordsGo]
    refine Ev.step (f := fun k => ebbtideref04_Words.j1 k s out (a : Int) (s.size : Int) true) (fun k => ?_) ?_
    · simp only [ebbtideref04_Words.l0]
      rw [if_pos (by omega)]
      simp
    have hend : ∀ (b : Nat) (o : List ByteArray), Ev (fun k => ebbtideref04_Words.l0 k s o (b : Int) ((s.size + 1 : Nat) : Int)) o := fun b o => by
      refine Ev.step (f := fun _ => _) (fun k => ?_) (Ev.now _)
      simp only [ebbtideref04_Words.l0]
      rw [if_neg (by omega)]
    by_cases hc : a < s.size
    · rw [if_neg (by rw [seg_nil _ _ _ (Nat.le_refl _)]; omega)]
      refine Ev.step (f := fun k => ebbtideref04_Words.l0 k s (out ++ [mkB (seg s a s.size)]) ((s.size + 1 : Nat) : Int) ((s.size + 1 : Nat) : Int)) (fun k => ?_) (hend _ _)
      simp only [ebbtideref04_Words.j1]
      rw [if_pos trivial, if_pos (by omega), if_pos (by omega), if_pos (by omega), if_pos (by omega), if_pos (by omega), w1 _ (by omega)]
      simp only [Int.toNat_natCast, extract_seg]
    · rw [if_pos (by rw [seg_nil _ _ _ (Nat.le_refl _)]; omega)]
      refine Ev.step (f := fun k => ebbtideref04_Words.l0 k s out ((s.size + 1 : Nat) : Int) ((s.size + 1 : Nat) : Int)) (fun k => ?_) (by rw [List.map_nil, List.append_nil]; exact hend _ _)
      simp only [ebbtideref04_Words.j1]
      rw [if_pos trivial, if_neg (by omega), w1 _ (by omega)]
  | d + 1, i, a, out, hi, ha, ho => by
    have hlt : i < s.size := by omega
    rw [drop_at s i hlt, wordsGo]
    refine Ev.step (f := fun k => ebbtideref04_Words.j1 k s out (a : Int) (i : Int) ((bt s i) == 32)) (fun k => ?_) ?_
    · simp only [ebbtideref04_Words.l0]
      rw [if_pos (by omega), if_neg (by omega), if_pos (by omega), if_pos (by omega)]
    by_cases hc : s.data.toList[i]'(by simpa using hlt) = 32
    · have hb : ((bt s i) == 32) = true := by rw [bt_nat s i hlt, hc]; rfl
      rw [if_pos hc, hb]
      by_cases hw : a < i
      · rw [if_neg (by rw [seg_nil _ _ _ (by omega)]; omega)]
        have ih := refWords_go s hs d (i + 1) (i + 1) (out ++ [s.extract a i]) (by omega) (Nat.le_refl _) (by simp; omega)
        rw [seg_self, List.append_assoc, extract_seg] at ih
        refine Ev.step (f := fun k => ebbtideref04_Words.l0 k s (out ++ [mkB (seg s a i)]) ((i + 1 : Nat) : Int) ((i + 1 : Nat) : Int)) (fun k => ?_) ih
        simp only [ebbtideref04_Words.j1]
        rw [if_pos trivial, if_pos (by omega), if_pos (by omega), if_pos (by omega), if_pos (by omega), if_pos (by omega), w1 i (by omega)]
        simp only [Int.toNat_natCast, extract_seg]
      · rw [if_pos (by rw [seg_nil _ _ _ (by omega)]; omega)]
        have ih := refWords_go s hs d (i + 1) (i + 1) out (by omega) (Nat.le_refl _) (by omega)
        rw [seg_self] at ih
        refine Ev.step (f := fun k => ebbtideref04_Words.l0 k s out ((i + 1 : Nat) : Int) ((i + 1 : Nat) : Int)) (fun k => ?_) ih
        simp only [ebbtideref04_Words.j1]
        rw [if_pos trivial, if_neg (by omega), w1 i (by omega)]
    · have hb : ((bt s i) == 32) = false := by
        rw [bt_nat s i hlt]
        exact beq_eq_false_iff_ne.2 (fun e => hc ((isByte _ 32 (by decide)).1 e))
      rw [if_neg hc, hb]
      have ih := refWords_go s hs d (i + 1) a out (by omega) (by omega) (by omega)
      rw [seg_succ s a i hlt ha] at ih
      refine Ev.step (f := fun k => ebbtideref04_Words.l0 k s out (a : Int) ((i + 1 : Nat) : Int)) (fun k => ?_) ih
      simp only [ebbtideref04_Words.j1]
      rw [if_neg (by decide), w1 i (by omega)]

theorem wordsB_eq (s : ByteArray) : wordsB s = (wordsGo [] s.data.toList).map mkB := by
  rw [wordsGo_eq _ _ (by simp), List.nil_append]
  unfold wordsB piecesB
  rw [List.filter_map]
  congr 1
  refine List.filter_congr fun p _ => ?_
  simp [ByteArray.toList_eq, mkB]

theorem refWords (s : ByteArray) (hs : s.size ≤ 4294967280) : Ev (fun k => ebbtideref04_Words.f k s) (wordsB s) := by
  have h := refWords_go s hs s.size 0 0 [] (by omega) (by omega) (by simp)
  rw [wordsB_eq]
  simpa [ebbtideref04_Words.f, seg_self] using h



/-! ### Number -/
/-- What the loop of the reference's Number comes to: from n on, with l still to come, i bytes being over. -/
def refNum (len : Nat) (neg : Bool) : List UInt8 → Int → Nat → Int × Int
  | [], n, _ => if 18 < len then (0, 10) else (if neg then -n else n, 0)
  | c :: l, n, i => if isDig c then refNum len neg l (if i < 18 then 10 * n + ((c.toNat : Int) - 48) else n) (i + 1) else (0, 40)

theorem refNum_bad (len : Nat) (neg : Bool) : ∀ (l : List UInt8) (n : Int) (i : Nat), ¬ (∀ c ∈ l, isDig c) → refNum len neg l n i = (0, 40)
  | [], _, _, h => absurd (fun c hc => by simp at hc) h
  | c :: l, n, i, h => by
    rw [refNum]
    by_cases hc : isDig c
    · rw [if_pos hc]
      exact refNum_bad len neg l _ _ (fun h' => h (fun d hd => by
        rcases List.mem_cons.1 hd with e | e
        · rw [e]; exact hc
        · exact h' d e))
    · rw [if_neg hc]
theorem refNum_long (len : Nat) (neg : Bool) (hl : 18 < len) : ∀ (l : List UInt8) (n : Int) (i : Nat), (∀ c ∈ l, isDig c) → refNum len neg l n i = (0, 10)
  | [], _, _, _ => by rw [refNum, if_pos hl]
  | c :: l, n, i, h => by
    rw [refNum, if_pos (h c (by simp))]
    exact refNum_long len neg hl l _ _ (fun d hd => h d (by simp [hd]))
theorem refNum_short (len : Nat) (neg : Bool) (hl : ¬ 18 < len) : ∀ (l : List UInt8) (n : Int) (i : Nat), (∀ c ∈ l, isDig c) → i + l.length ≤ 18 → refNum len neg l n i = (if neg then -(valF n l) else valF n l, 0)
  | [], n, _, _, _ => by rw [refNum, if_neg hl]; rfl
  | c :: l, n, i, h, hi => by
    rw [List.length_cons] at hi
    rw [refNum, if_pos (h c (by simp)), if_pos (by omega), refNum_short len neg hl l _ _ (fun d hd => h d (by simp [hd])) (by omega)]
    rfl

theorem numEnd_ref (d : List UInt8) (neg : Bool) : numEnd d.length neg (numGo d 0) = refNum d.length neg d 0 0 := by
  by_cases h : ∀ c ∈ d, isDig c
  · by_cases hl : 18 < d.length
    · obtain ⟨m, hm⟩ := numGo_good d 0 h
      rw [refNum_long _ _ hl _ _ _ h, hm, numEnd, if_pos hl]
    · rw [refNum_short _ _ hl _ _ _ h (by omega), numGo_val d 0 0 h (by omega) (by decide) (by omega), numEnd, if_neg hl]
  · rw [numGo_bad _ _ h, refNum_bad _ _ _ _ _ h]
    rfl

theorem wI {n : Int} (h1 : -9223372036854775808 ≤ n) (h2 : n ≤ 9223372036854775807) : wrap64 n = n := by
  unfold wrap64
  omega

theorem refNumber_go (d : ByteArray) (neg : Bool) (hd : d.size ≤ 4611686018427387904) : ∀ (q i : Nat) (n : Int), i + q = d.size → (0 ≤ n ∧ n < 10 ^ (min i 18)) →
    Ev (fun k => ebbtideref04_Number.l0 k d neg n (i : Int)) (refNum d.size neg (d.data.toList.drop i) n i)
  | 0, i, n, hi, hn => by
    have hie : i = d.size := by omega
    have hp : (10 : Int) ^ (min i 18) ≤ 10 ^ 18 := pow10_le (by omega)
    have h18 : (10 : Int) ^ 18 = 1000000000000000000 := by decide
    subst hie
    rw [List.drop_eq_nil_of_le (by rw [size_len]; exact Nat.le_refl _), refNum]
    refine Ev.step (f := fun _ => _) (fun k => ?_) (Ev.now _)
    simp only [ebbtideref04_Number.l0]
    rw [if_neg (by omega)]
    by_cases h : 18 < d.size
    · rw [if_pos (by omega), if_pos h]
    · rw [if_neg (by omega), if_neg h, wI (by omega) (by omega)]
      cases neg <;> rfl
  | q + 1, i, n, hi, hn => by
    have hlt : i < d.size := by omega
    have hp : (10 : Int) ^ (min i 18) ≤ 10 ^ 18 := pow10_le (by omega)
    have h18 : (10 : Int) ^ 18 = 1000000000000000000 := by decide
    rw [drop_at d i hlt, refNum]
    generalize hc : d.data.toList[i]'(by simpa using hlt) = c
    have hb : bt d (i : Int) = (c.toNat : Int) := by rw [bt_nat d i hlt, hc]
    by_cases hdig : isDig c
    · have h1 := hdig.1
      have h2 := hdig.2
      rw [if_pos hdig]
      have hj : Ev (fun k => ebbtideref04_Number.j4 k d neg n (i : Int) false) (refNum d.size neg (d.data.toList.drop (i + 1)) (if i < 18 then 10 * n + ((c.toNat : Int) - 48) else n) (i + 1)) := by
        by_cases hi18 : i < 18
        · rw [if_pos hi18]
          have hm : min i 18 = i := by omega
          have hm1 : min (i + 1) 18 = i + 1 := by omega
          have hp17 : (10 : Int) ^ i ≤ 10 ^ 17 := pow10_le (by omega)
          have h17 : (10 : Int) ^ 17 = 100000000000000000 := by decide
          rw [hm] at hn
          have ih := refNumber_go d neg hd q (i + 1) (10 * n + ((c.toNat : Int) - 48)) (by omega) (by rw [hm1, Int.pow_succ]; omega)
          refine Ev.step (f := fun k => ebbtideref04_Number.l0 k d neg (10 * n + ((c.toNat : Int) - 48)) ((i + 1 : Nat) : Int)) (fun k => ?_) ih
          simp only [ebbtideref04_Number.j4]
          rw [if_neg (by decide), if_pos (by omega), if_pos (by omega), if_pos (by omega), hb, w1 i (by omega), wI (n := n * 10) (by omega) (by omega), wI (n := (c.toNat : Int)) (by omega) (by omega), wI (n := n * 10 + _) (by omega) (by omega), wI (by omega) (by omega)]
          congr 1
          omega
        · rw [if_neg hi18]
          have hm : min i 18 = 18 := by omega
          have hm1 : min (i + 1) 18 = 18 := by omega
          rw [hm] at hn
          have ih := refNumber_go d neg hd q (i + 1) n (by omega) (by rw [hm1]; exact hn)
          refine Ev.step (f := fun k => ebbtideref04_Number.l0 k d neg n ((i + 1 : Nat) : Int)) (fun k => ?_) ih
          simp only [ebbtideref04_Number.j4]
          rw [if_neg (by decide), if_neg (by omega), w1 i (by omega)]
      refine Ev.step (f := fun k => ebbtideref04_Number.j4 k d neg n (i : Int) false) (fun k => ?_) hj
      simp only [ebbtideref04_Number.l0]
      rw [if_pos (by omega), if_pos (by omega), if_neg (by omega), hb]
      congr 1
      simp
      omega
    · rw [if_neg hdig]
      have hj : Ev (fun k => ebbtideref04_Number.j4 k d neg n (i : Int) true) (0, 40) := by
        refine Ev.step (f := fun _ => _) (fun k => ?_) (Ev.now _)
        simp only [ebbtideref04_Number.j4]
        rw [if_pos trivial]
      refine Ev.step (f := fun k => ebbtideref04_Number.j4 k d neg n (i : Int) true) (fun k => ?_) hj
      simp only [ebbtideref04_Number.l0]
      rw [if_pos (by omega), if_pos (by omega), hb]
      by_cases hl : (c.toNat : Int) < 48
      · rw [if_pos hl]
      · rw [if_neg hl]
        congr 1
        unfold isDig at hdig
        simp
        omega

theorem refNumber_j1 (d : ByteArray) (neg : Bool) (hd : d.size ≤ 4611686018427387904) : Ev (fun k => ebbtideref04_Number.j1 k d neg) (numTail d.data.toList neg) := by
  have htrue : Ev (fun k => ebbtideref04_Number.j2 k d neg true) (0, 40) := by
    refine Ev.step (f := fun _ => _) (fun k => ?_) (Ev.now _)
    simp only [ebbtideref04_Number.j2]
    rw [if_pos trivial]
  unfold numTail
  by_cases h0 : d.data.toList = []
  · rw [if_pos h0]
    refine Ev.step (f := fun k => ebbtideref04_Number.j2 k d neg true) (fun k => ?_) htrue
    simp only [ebbtideref04_Number.j1]
    rw [if_pos (by rw [ByteArray.toList_eq]; exact h0)]
  · rw [if_neg h0]
    have hpos : 0 < d.size := by
      rw [← size_len]
      exact List.length_pos_iff.2 h0
    have hhd : d.data.toList.head? = some (d.data.toList[0]'(by simpa using hpos)) := by
      rw [List.head?_eq_getElem?, List.getElem?_eq_getElem (by simpa using hpos)]
    have hb : bt d 0 = ((d.data.toList[0]'(by simpa using hpos)).toNat : Int) := bt_nat d 0 hpos
    generalize hc : d.data.toList[0]'(by simpa using hpos) = c at hhd hb
    have hrest : Ev (fun k => ebbtideref04_Number.j2 k d neg false) (numEnd d.data.toList.length neg (numGo d.data.toList 0)) := by
      rw [numEnd_ref, size_len]
      refine Ev.step (f := fun k => ebbtideref04_Number.l0 k d neg 0 0) (fun k => ?_) ?_
      · simp only [ebbtideref04_Number.j2]
        rw [if_neg (by decide)]
      · have := refNumber_go d neg hd d.size 0 0 (by omega) (by simp)
        simpa using this
    have hstep : ∀ k, ebbtideref04_Number.j1 (k + 1) d neg = if (c.toNat : Int) = 48 then (if (d.size : Int) > 1 then (ebbtideref04_Number.j2 k d neg true) else (ebbtideref04_Number.j2 k d neg neg)) else (ebbtideref04_Number.j2 k d neg false) := fun k => by
      simp only [ebbtideref04_Number.j1]
      rw [if_neg (by rw [ByteArray.toList_eq]; exact h0), if_pos (by omega), hb]
    by_cases h48 : c = 48
    · subst h48
      have hone : d.data.toList ≠ [48] ↔ 1 < d.size := by
        constructor
        · intro h
          rw [← size_len]
          match hd' : d.data.toList, h0 with
          | [x], _ =>
            rw [hd'] at hhd
            simp at hhd
            rw [hd', hhd] at h
            exact absurd rfl h
          | x :: y :: l, _ => simp
        · intro h e
          rw [← size_len, e] at h
          simp at h
      by_cases hl : 1 < d.size
      · rw [if_pos ⟨hhd, .inl (hone.2 hl)⟩]
        refine Ev.step (f := fun k => ebbtideref04_Number.j2 k d neg true) (fun k => ?_) htrue
        rw [hstep, if_pos (by decide), if_pos (by omega)]
      · cases neg with
        | true =>
          rw [if_pos ⟨hhd, .inr rfl⟩]
          refine Ev.step (f := fun k => ebbtideref04_Number.j2 k d true true) (fun k => ?_) htrue
          rw [hstep, if_pos (by decide), if_neg (by omega)]
        | false =>
          rw [if_neg (by
            rintro ⟨_, h | h⟩
            · exact hl (hone.1 h)
            · cases h)]
          refine Ev.step (f := fun k => ebbtideref04_Number.j2 k d false false) (fun k => ?_) hrest
          rw [hstep, if_pos (by decide), if_neg (by omega)]
    · rw [if_neg (by
        rintro ⟨h, _⟩
        rw [hhd] at h
        exact h48 (Option.some.inj h))]
      refine Ev.step (f := fun k => ebbtideref04_Number.j2 k d neg false) (fun k => ?_) hrest
      rw [hstep, if_neg (fun (e : (c.toNat : Int) = 48) => h48 ((isByte c 48 (by decide)).1 e))]

theorem refNumber (s : ByteArray) (hs : s.size ≤ 4611686018427387904) : Ev (fun k => ebbtideref04_Number.f k s) (numF s.data.toList) := by
  unfold numF
  have hfalse : ∀ (h : ¬ s.data.toList.head? = some 45), Ev (fun k => ebbtideref04_Number.j0 k s false) (numTail s.data.toList false) := fun h => by
    refine Ev.step (f := fun k => ebbtideref04_Number.j1 k s false) (fun k => ?_) (refNumber_j1 s false hs)
    simp only [ebbtideref04_Number.j0]
    rw [if_neg (by decide)]
  by_cases h0 : s.data.toList = []
  · have hh : ¬ s.data.toList.head? = some 45 := by rw [h0]; simp
    rw [if_neg hh]
    refine Ev.congr (f := fun k => ebbtideref04_Number.j0 k s false) (fun k => ?_) (hfalse hh)
    simp only [ebbtideref04_Number.f]
    rw [if_pos (by rw [ByteArray.toList_eq]; exact h0)]
  · have hpos : 0 < s.size := by
      rw [← size_len]
      exact List.length_pos_iff.2 h0
    have hhd : s.data.toList.head? = some (s.data.toList[0]'(by simpa using hpos)) := by
      rw [List.head?_eq_getElem?, List.getElem?_eq_getElem (by simpa using hpos)]
    have hb : bt s 0 = ((s.data.toList[0]'(by simpa using hpos)).toNat : Int) := bt_nat s 0 hpos
    generalize hc : s.data.toList[0]'(by simpa using hpos) = c at hhd hb
    have hf : ∀ k, ebbtideref04_Number.f k s = ebbtideref04_Number.j0 k s ((c.toNat : Int) == 45) := fun k => by
      simp only [ebbtideref04_Number.f]
      rw [if_neg (by rw [ByteArray.toList_eq]; exact h0), if_pos (by omega), hb]
    by_cases h45 : c = 45
    · subst h45
      rw [if_pos hhd]
      have htl : s.data.toList.tail = (s.extract 1 s.size).data.toList := by
        rw [Lib.extract_to_end, List.drop_one]
      rw [htl]
      refine Ev.congr hf ?_
      have hsz : (s.extract 1 s.size).size ≤ 4611686018427387904 := by
        rw [← size_len, ← htl, List.length_tail, size_len]
        omega
      refine Ev.step (f := fun k => ebbtideref04_Number.j1 k (s.extract 1 s.size) true) (fun k => ?_) (refNumber_j1 (s.extract 1 s.size) true hsz)
      show ebbtideref04_Number.j0 (k + 1) s true = _
      simp only [ebbtideref04_Number.j0]
      rw [if_pos trivial, if_pos (by omega)]
    · have hh : ¬ s.data.toList.head? = some 45 := by
        rw [hhd]
        exact fun e => h45 (Option.some.inj e)
      rw [if_neg hh]
      refine Ev.congr (f := fun k => ebbtideref04_Number.j0 k s false) (fun k => ?_) (hfalse hh)
      rw [hf]
      congr 1
      exact beq_eq_false_iff_ne.2 (fun e => h45 ((isByte _ 45 (by decide)).1 e))

def asNums (l : List UInt8) : List Int := l.map fun c => (c.toNat : Int)
/-- The digits still to come: none of 0. -/
def preD (u : Nat) : List UInt8 := if u = 0 then [] else Lib.decDigits u

theorem preD_step (u : Nat) (h : 0 < u) : preD u = preD (u / 10) ++ [UInt8.ofNat (48 + u % 10)] := by
  unfold preD
  rw [if_neg (by omega), Lib.decDigits]
  split
  · rename_i h1
    rw [if_pos (by omega), Nat.mod_eq_of_lt h1]
    rfl
  · rw [if_neg (by omega)]

theorem nat_len (u : Nat) : (preD u).length ≤ u := by
  induction u using Nat.strongRecOn with
  | _ u ih =>
    by_cases h : 0 < u
    · rw [preD_step u h, List.length_append, List.length_singleton]
      have := ih (u / 10) (by omega)
      omega
    · have : u = 0 := by omega
      subst this
      simp [preD]

theorem strOf_asNums (l : List UInt8) : strOfNums (asNums l) = mkB l := by
  unfold strOfNums asNums mkB
  congr 2
  rw [List.map_map]
  conv => rhs; rw [← List.map_id l]
  refine List.map_congr_left fun c _ => ?_
  simp

theorem back_go (xs : List Int) (hx : xs.length ≤ 1000) : ∀ (i : Nat) (out : List Int), i ≤ xs.length → out.length + i = xs.length →
    Ev (fun k => ebbtideref04_natural.l1 k xs out ((i : Int) - 1)) (strOfNums (out ++ (xs.take i).reverse))
  | 0, out, hi, ho => by
    refine Ev.step (f := fun _ => _) (fun k => ?_) (Ev.now _)
    simp only [ebbtideref04_natural.l1]
    rw [if_neg (by omega)]
    simp
  | i + 1, out, hi, ho => by
    have hlt : i < xs.length := by omega
    have hrd : rd xs (i : Int) = xs[i] := by simp [rd, hlt]
    have ih := back_go xs hx i (out ++ [xs[i]]) (by omega) (by simp; omega)
    have htk : (xs.take (i + 1)).reverse = xs[i] :: (xs.take i).reverse := by
      rw [List.take_succ_eq_append_getElem hlt, List.reverse_append]
      rfl
    rw [htk, ← List.singleton_append, ← List.append_assoc]
    refine Ev.step (f := fun k => ebbtideref04_natural.l1 k xs (out ++ [xs[i]]) ((i : Int) - 1)) (fun k => ?_) ih
    have e1 : ((i + 1 : Nat) : Int) - 1 = (i : Int) := by omega
    rw [e1]
    simp only [ebbtideref04_natural.l1]
    rw [if_pos (by omega), if_pos (by omega), if_pos (by omega), if_pos (by omega), hrd, wI (by omega) (by omega)]

theorem nat_go (u : Nat) : ∀ (back : List UInt8), u ≤ 9223372036854775807 → back.length + (preD u).length ≤ 1000 →
    Ev (fun k => ebbtideref04_natural.l0 k (u : Int) (asNums back.reverse)) (mkB (preD u ++ back)) := by
  induction u using Nat.strongRecOn with
  | _ u ih =>
    intro back hu hb
    by_cases h : 0 < u
    · have hd := preD_step u h
      have hlen : (preD u).length = (preD (u / 10)).length + 1 := by rw [hd]; simp
      have ih' := ih (u / 10) (by omega) (UInt8.ofNat (48 + u % 10) :: back) (by omega) (by simp; omega)
      have e1 : preD (u / 10) ++ UInt8.ofNat (48 + u % 10) :: back = preD u ++ back := by rw [hd]; simp
      rw [e1] at ih'
      refine Ev.step (f := fun k => ebbtideref04_natural.l0 k ((u / 10 : Nat) : Int) (asNums (UInt8.ofNat (48 + u % 10) :: back).reverse)) (fun k => ?_) ih'
      simp only [ebbtideref04_natural.l0]
      have ht : Int.tdiv (u : Int) 10 = ((u / 10 : Nat) : Int) := Int.ofNat_tdiv u 10
      have hm : Int.tmod (u : Int) 10 = ((u % 10 : Nat) : Int) := Int.ofNat_tmod u 10
      rw [if_pos (by omega), if_pos (by simp [asNums]; omega), ht, hm, wI (by omega) (by omega), wI (by omega) (by omega)]
      congr 1
      simp only [asNums, List.reverse_cons, List.map_append, List.map_cons, List.map_nil]
      congr 2
    · have h0 : u = 0 := by omega
      subst h0
      have hl : (asNums back.reverse).length = back.length := by simp [asNums]
      have hg := back_go (asNums back.reverse) (by rw [hl]; simp [preD] at hb; omega) back.length [] (by rw [hl]; exact Nat.le_refl _) (by rw [hl]; simp)
      have e1 : ([] ++ ((asNums back.reverse).take back.length).reverse) = asNums back := by
        rw [← hl, List.take_length, List.nil_append, asNums, ← List.map_reverse, List.reverse_reverse]
        rfl
      rw [e1, strOf_asNums] at hg
      have e2 : preD 0 ++ back = back := by simp [preD]
      rw [e2]
      refine Ev.step (f := fun k => ebbtideref04_natural.l1 k (asNums back.reverse) [] ((back.length : Int) - 1)) (fun k => ?_) hg
      simp only [ebbtideref04_natural.l0]
      simp [preD] at hb
      rw [if_neg (by omega), hl, wI (by omega) (by omega)]

theorem preD_dec (u : Nat) : preD (u / 10) ++ [UInt8.ofNat (48 + u % 10)] = Lib.decDigits u := by
  by_cases h : 0 < u
  · rw [← preD_step u h, preD, if_neg (by omega)]
  · have h0 : u = 0 := by omega
    subst h0
    simp [preD, Lib.decDigits]

theorem natural_ok (u : Nat) (hu : u ≤ 9223372036854775807) : Ev (fun k => ebbtideref04_natural.f k (u : Int)) (mkB (Lib.decDigits u)) := by
  have hl := decDigits_le 18 u (by omega)
  rw [← preD_dec u, List.length_append, List.length_singleton] at hl
  have h := nat_go (u / 10) [UInt8.ofNat (48 + u % 10)] (by omega) (by simp; omega)
  rw [preD_dec] at h
  refine Ev.congr (fun k => ?_) h
  have ht : Int.tdiv (u : Int) 10 = ((u / 10 : Nat) : Int) := Int.ofNat_tdiv u 10
  have hm : Int.tmod (u : Int) 10 = ((u % 10 : Nat) : Int) := Int.ofNat_tmod u 10
  simp only [ebbtideref04_natural.f]
  rw [if_pos (by simp), ht, hm, wI (by omega) (by omega), wI (by omega) (by omega)]
  congr 1

theorem mkB_append (a b : List UInt8) : mkB a ++ mkB b = mkB (a ++ b) := by
  rw [← mkB_of (mkB a ++ mkB b)]
  simp [mkB]
theorem mkB_size (a : List UInt8) : (mkB a).size = a.length := by simp [mkB, ByteArray.size]

theorem refText (n : Int) (hn : inRange n) : Ev (fun k => ebbtideref04_Text.f k n) (mkB (Lib.itoa n)) := by
  obtain ⟨h1, h2⟩ := hn
  by_cases h0 : 0 ≤ n
  · obtain ⟨u, rfl⟩ := Int.eq_ofNat_of_zero_le h0
    have hi : Lib.itoa (u : Int) = Lib.decDigits u := by unfold Lib.itoa; rw [if_neg (by omega)]; rfl
    rw [hi]
    refine Ev.congr (f := fun k => (ebbtideref04_natural.f k (u : Int)).bind fun t => some t) (fun k => ?_) (Ev.bind (natural_ok u (by omega)) (Ev.now _))
    simp only [ebbtideref04_Text.f]
    rw [if_pos (by omega)]
  · obtain ⟨u, hu⟩ : ∃ u : Nat, n = -(u : Int) := ⟨n.natAbs, by omega⟩
    have hu0 : 0 < u := by omega
    have hi : Lib.itoa n = 45 :: Lib.decDigits u := by
      unfold Lib.itoa
      rw [if_pos (by omega)]
      congr 2
      omega
    have ht : Int.tdiv n 10 = -((u / 10 : Nat) : Int) := by rw [hu, Int.neg_tdiv, Int.ofNat_tdiv]; rfl
    have hm : Int.tmod n 10 = -((u % 10 : Nat) : Int) := by rw [hu, Int.neg_tmod, Int.ofNat_tmod]; rfl
    have hh : wrap64 (-(wrap64 (Int.tdiv n 10))) = ((u / 10 : Nat) : Int) := by
      have a1 : wrap64 (Int.tdiv n 10) = -((u / 10 : Nat) : Int) := by rw [ht]; exact wI (by omega) (by omega)
      rw [a1, Int.neg_neg]
      exact wI (by omega) (by omega)
    have hl : wrap64 (-(Int.tmod n 10)) = ((u % 10 : Nat) : Int) := by
      rw [hm, Int.neg_neg]
      exact wI (by omega) (by omega)
    have hdl := decDigits_le 18 u (by omega)
    rw [hi]
    have e45 : (⟨#[45]⟩ : ByteArray) = mkB [45] := rfl
    by_cases hz : u < 10
    · have hd : Lib.decDigits u = Lib.decDigits (u % 10) := by rw [Nat.mod_eq_of_lt hz]
      have hb := Ev.bind (f := fun k t => if 1 + t.size ≤ 9223372036854775807 then some ((⟨#[45]⟩ : ByteArray) ++ t) else none) (natural_ok (u % 10) (by omega)) (r := mkB (45 :: Lib.decDigits u)) (by
        refine Ev.congr (fun k => ?_) (Ev.now _)
        rw [if_pos (by rw [mkB_size, ← hd]; omega), e45, mkB_append, ← hd]
        rfl)
      refine Ev.congr (fun k => ?_) hb
      simp only [ebbtideref04_Text.f]
      rw [if_neg (by omega), if_pos (by rw [hh]; omega), hl]
    · have hd : Lib.decDigits u = Lib.decDigits (u / 10) ++ Lib.decDigits (u % 10) := by
        conv => lhs; rw [Lib.decDigits]
        rw [dif_neg hz]
        congr 1
        rw [Lib.decDigits, dif_pos (by omega)]
      have hb := Ev.bind (f := fun k t158 => if 1 + t158.size ≤ 9223372036854775807 then ((ebbtideref04_natural.f k ((u % 10 : Nat) : Int)).bind fun t159 => (if ((⟨#[45]⟩ : ByteArray) ++ t158).size + t159.size ≤ 9223372036854775807 then (some (((⟨#[45]⟩ : ByteArray) ++ t158) ++ t159)) else (none))) else none) (natural_ok (u / 10) (by omega)) (r := mkB (45 :: Lib.decDigits u)) (by
        rw [hd] at hdl
        rw [List.length_append] at hdl
        refine Ev.congr (f := fun k => (ebbtideref04_natural.f k ((u % 10 : Nat) : Int)).bind fun t159 => (if ((⟨#[45]⟩ : ByteArray) ++ mkB (Lib.decDigits (u / 10))).size + t159.size ≤ 9223372036854775807 then (some (((⟨#[45]⟩ : ByteArray) ++ mkB (Lib.decDigits (u / 10))) ++ t159)) else (none))) (fun k => by rw [if_pos (by rw [mkB_size]; omega)]) ?_
        refine Ev.bind (natural_ok (u % 10) (by omega)) ?_
        refine Ev.congr (fun k => ?_) (Ev.now _)
        rw [e45, mkB_append, if_pos (by rw [mkB_size, mkB_size, List.length_append]; simp; omega), mkB_append, hd]
        rfl)
      refine Ev.congr (fun k => ?_) hb
      simp only [ebbtideref04_Text.f]
      rw [if_neg (by omega), if_neg (by rw [hh]; omega), hl, hh]

theorem refRow_go (w : List UInt8) (l : List Int) (hr : ∀ n ∈ l, inRange n) (hs : w.length + 21 * l.length + 1 ≤ 140737488355328) : ∀ (d i : Nat), i + d = l.length →
    Ev (fun k => ebbtideref04_Row.l0 k (mkB (rowHead w (l.take i))) l (i : Int)) (mkB (rowHead w l ++ [10]))
  | 0, i, hi => by
    have hb := rowHead_le w l hr
    have htk : l.take i = l := List.take_of_length_le (by omega)
    rw [htk]
    refine Ev.step (f := fun _ => _) (fun k => ?_) (Ev.now _)
    simp only [ebbtideref04_Row.l0]
    rw [if_neg (by omega), if_pos (by rw [mkB_size]; omega)]
    rw [← mkB_append]
    rfl
  | d + 1, i, hi => by
    have hlt : i < l.length := by omega
    have hrd : rd l (i : Int) = l[i] := by simp [rd, hlt]
    have hin := hr _ (List.getElem_mem hlt)
    have hit := itoa_le _ hin
    have hb := rowHead_le w (l.take i) (fun n hn => hr n (List.mem_of_mem_take hn))
    have hl1 : (l.take i).length ≤ i := List.length_take_le _ _
    have ih := refRow_go w l hr hs d (i + 1) (by omega)
    rw [rowHead_take w l i hlt] at ih
    have e32 : (⟨#[32]⟩ : ByteArray) = mkB [32] := rfl
    refine Ev.step (f := fun k => (ebbtideref04_Text.f k l[i]).bind fun t161 => (if (mkB (rowHead w (l.take i)) ++ (⟨#[32]⟩ : ByteArray)).size + t161.size ≤ 9223372036854775807 then (ebbtideref04_Row.l0 k ((mkB (rowHead w (l.take i)) ++ (⟨#[32]⟩ : ByteArray)) ++ t161) l ((i + 1 : Nat) : Int)) else (none))) (fun k => ?_) ?_
    · simp only [ebbtideref04_Row.l0]
      rw [if_pos (by omega), if_pos (by rw [mkB_size]; omega), if_pos (by omega), hrd, w1 i (by omega)]
    · refine Ev.bind (refText _ hin) ?_
      refine Ev.congr (fun k => ?_) ih
      rw [e32, mkB_append, mkB_append, if_pos (by rw [mkB_size, mkB_size, List.length_append]; simp; omega)]
      simp

theorem refRow (w : ByteArray) (l : List Int) (hr : ∀ n ∈ l, inRange n) (hs : w.size + 21 * l.length + 1 ≤ 140737488355328) : Ev (fun k => ebbtideref04_Row.f k w l) (rowB w l) := by
  have h := refRow_go w.data.toList l hr (by rw [size_len]; exact hs) l.length 0 (by omega)
  simp only [List.take_zero] at h
  have e0 : mkB (rowHead w.data.toList []) = w := by simp [rowHead, mkB]
  rw [e0] at h
  exact h

theorem head_app {a b : List UInt8} (h : a ≠ []) : (a ++ b).head? = a.head? := by
  cases a with
  | nil => exact absurd rfl h
  | cons x l => rfl
theorem snoc_of : ∀ {d : List UInt8}, d ≠ [] → ∃ d' c, d = d' ++ [c]
  | [x], _ => ⟨[], x, rfl⟩
  | x :: y :: l, _ => by
    obtain ⟨d', c, h⟩ := snoc_of (d := y :: l) (by simp)
    exact ⟨x :: d', c, by rw [h]; rfl⟩
theorem dig_of (d : Nat) (h : d < 10) : isDig (UInt8.ofNat (48 + d)) ∧ ((UInt8.ofNat (48 + d)).toNat : Int) = 48 + d := by
  have e : (UInt8.ofNat (48 + d)).toNat = 48 + d := by simp; omega
  unfold isDig
  omega

theorem dec_digs (u : Nat) : ∀ c ∈ Lib.decDigits u, isDig c := by
  induction u using Nat.strongRecOn with
  | _ u ih =>
    intro c hc
    rw [Lib.decDigits] at hc
    split at hc
    · rename_i h
      rw [List.mem_singleton] at hc
      rw [hc]
      exact (dig_of u h).1
    · rcases List.mem_append.1 hc with h | h
      · exact ih (u / 10) (by omega) c h
      · rw [List.mem_singleton] at h
        rw [h]
        exact (dig_of (u % 10) (by omega)).1
theorem dec_val (u : Nat) : valF 0 (Lib.decDigits u) = (u : Int) := by
  induction u using Nat.strongRecOn with
  | _ u ih =>
    rw [Lib.decDigits]
    split
    · rename_i h
      have := (dig_of u h).2
      simp only [valF]
      omega
    · rw [valF_append, ih (u / 10) (by omega)]
      have := (dig_of (u % 10) (by omega)).2
      simp only [valF]
      omega
theorem dec_ne (u : Nat) : Lib.decDigits u ≠ [] := by
  rw [Lib.decDigits]
  split <;> simp
theorem dec_head (u : Nat) (h : 0 < u) : (Lib.decDigits u).head? ≠ some 48 := by
  induction u using Nat.strongRecOn with
  | _ u ih =>
    rw [Lib.decDigits]
    split
    · rename_i h10
      have := (dig_of u h10).2
      intro e
      have e' := Option.some.inj e
      rw [e'] at this
      simp at this
      omega
    · rw [head_app (dec_ne _)]
      exact ih (u / 10) (by omega) (by omega)
theorem dec_len (u : Nat) : (Lib.decDigits u).length ≤ 18 ↔ u < 1000000000000000000 := by
  constructor
  · intro h
    have h1 := (valF_lt (Lib.decDigits u) 0 0 (dec_digs u) (by omega) (by decide)).2
    rw [dec_val] at h1
    have h2 : (10 : Int) ^ (0 + (Lib.decDigits u).length) ≤ 10 ^ 18 := pow10_le (by omega)
    have h18 : (10 : Int) ^ 18 = 1000000000000000000 := by decide
    omega
  · intro h
    exact decDigits_le 17 u (by omega)

theorem numEnd_dec (u : Nat) (neg : Bool) : numEnd (Lib.decDigits u).length neg (numGo (Lib.decDigits u) 0) = if u < 1000000000000000000 then (if neg then -(u : Int) else u, 0) else (0, 10) := by
  rw [numEnd_ref]
  by_cases h : u < 1000000000000000000
  · have hl := (dec_len u).2 h
    rw [if_pos h, refNum_short _ _ (by omega) _ _ _ (dec_digs u) (by omega), dec_val]
  · have hl := (dec_len u)
    rw [if_neg h, refNum_long _ _ (by omega) _ _ _ (dec_digs u)]

theorem numF_itoa (n : Int) : numF (Lib.itoa n) = if -1000000000000000000 < n ∧ n < 1000000000000000000 then (n, 0) else (0, 10) := by
  by_cases h0 : n < 0
  · have hu : 0 < n.natAbs := by omega
    have hi : Lib.itoa n = 45 :: Lib.decDigits n.natAbs := by unfold Lib.itoa; rw [if_pos h0]
    rw [hi]
    unfold numF
    rw [if_pos (by simp), List.tail_cons]
    unfold numTail
    rw [if_neg (dec_ne _), if_neg (fun e => dec_head _ hu e.1), numEnd_dec]
    by_cases h : -1000000000000000000 < n
    · rw [if_pos (show n.natAbs < 1000000000000000000 by omega), if_pos (show -1000000000000000000 < n ∧ n < 1000000000000000000 by omega)]
      simp
      omega
    · rw [if_neg (show ¬ n.natAbs < 1000000000000000000 by omega), if_neg (show ¬ (-1000000000000000000 < n ∧ n < 1000000000000000000) by omega)]
  · have hi : Lib.itoa n = Lib.decDigits n.toNat := by unfold Lib.itoa; rw [if_neg h0]
    rw [hi]
    have hh : ¬ (Lib.decDigits n.toNat).head? = some 45 := by
      intro e
      have hd := dec_digs n.toNat 45 (List.mem_of_head? e)
      revert hd
      decide
    unfold numF
    rw [if_neg hh]
    unfold numTail
    rw [if_neg (dec_ne _), if_neg, numEnd_dec]
    · by_cases h : n < 1000000000000000000
      · rw [if_pos (show n.toNat < 1000000000000000000 by omega), if_pos (show -1000000000000000000 < n ∧ n < 1000000000000000000 by omega)]
        simp
        omega
      · rw [if_neg (show ¬ n.toNat < 1000000000000000000 by omega), if_neg (show ¬ (-1000000000000000000 < n ∧ n < 1000000000000000000) by omega)]
    · rintro ⟨h1, h2⟩
      by_cases hz : 0 < n.toNat
      · exact dec_head _ hz h1
      · have : n.toNat = 0 := by omega
        rw [this] at h2
        simp [Lib.decDigits] at h2

theorem dec_back : ∀ (k : Nat) (d : List UInt8), d.length = k → d ≠ [] → (∀ c ∈ d, isDig c) → (d.head? = some 48 → d = [48]) → Lib.decDigits (valF 0 d).toNat = d
  | 0, d, hk, hne, _, _ => absurd (List.length_eq_zero_iff.1 hk) hne
  | k + 1, d, hk, hne, hd, hz => by
    obtain ⟨d', c, rfl⟩ : ∃ d' c, d = d' ++ [c] := snoc_of hne
    have hc := hd c (by simp)
    have h1 := hc.1
    have h2 := hc.2
    have hv : valF 0 (d' ++ [c]) = 10 * valF 0 d' + ((c.toNat : Int) - 48) := by rw [valF_append]; rfl
    have hcb : UInt8.ofNat (48 + (c.toNat - 48)) = c := by
      apply UInt8.toNat_inj.1
      simp
      omega
    by_cases hd0 : d' = []
    · subst hd0
      rw [hv]
      have e : (10 * valF 0 [] + ((c.toNat : Int) - 48)).toNat = c.toNat - 48 := by simp [valF]; omega
      rw [e, Lib.decDigits, dif_pos (by omega), hcb]
      rfl
    · have hds : ∀ x ∈ d', isDig x := fun x hx => hd x (by simp [hx])
      have hh : d'.head? ≠ some 48 := by
        intro e
        have := hz (by rw [head_app hd0]; exact e)
        have hl := congrArg List.length this
        have hp := List.length_pos_iff.2 hd0
        simp at hl
        exact hd0 hl
      have ih := dec_back k d' (by simpa using hk) hd0 hds (fun e => absurd e hh)
      have h0 := (valF_lt d' 0 0 hds (by omega) (by decide)).1
      have hpos : 0 < (valF 0 d').toNat := by
        rcases Nat.eq_zero_or_pos (valF 0 d').toNat with e | e
        · rw [e] at ih
          have : d' = [48] := by rw [← ih]; simp [Lib.decDigits]
          rw [this] at hh
          exact absurd rfl hh
        · exact e
      rw [hv]
      have e1 : (10 * valF 0 d' + ((c.toNat : Int) - 48)).toNat = 10 * (valF 0 d').toNat + (c.toNat - 48) := by omega
      rw [e1, Lib.decDigits, dif_neg (by omega)]
      have e2 : (10 * (valF 0 d').toNat + (c.toNat - 48)) / 10 = (valF 0 d').toNat := by omega
      have e3 : (10 * (valF 0 d').toNat + (c.toNat - 48)) % 10 = c.toNat - 48 := by omega
      rw [e2, e3, ih, hcb]

/-- What is told of a text that says a number. -/
theorem numTail_back (d : List UInt8) (neg : Bool) (k e : Int) (h : numTail d neg = (k, e)) :
    (e ≠ 0 ∧ k = 0) ∨ (e = 0 ∧ d ≠ [] ∧ (∀ c ∈ d, isDig c) ∧ (d.head? = some 48 → d = [48] ∧ neg = false) ∧ k = if neg then -(valF 0 d) else valF 0 d) ∧ d.length ≤ 18 := by
  unfold numTail at h
  by_cases h0 : d = []
  · rw [if_pos h0] at h
    cases h
    exact .inl ⟨by decide, rfl⟩
  · rw [if_neg h0] at h
    by_cases h1 : d.head? = some 48 ∧ (d ≠ [48] ∨ neg = true)
    · rw [if_pos h1] at h
      cases h
      exact .inl ⟨by decide, rfl⟩
    · rw [if_neg h1, numEnd_ref] at h
      by_cases hd : ∀ c ∈ d, isDig c
      · by_cases hl : 18 < d.length
        · rw [refNum_long _ _ hl _ _ _ hd] at h
          cases h
          exact .inl ⟨by decide, rfl⟩
        · rw [refNum_short _ _ hl _ _ _ hd (by omega)] at h
          injection h with hk he
          refine .inr ⟨⟨he.symm, h0, hd, fun e => ?_, hk.symm⟩, by omega⟩
          constructor
          · exact Classical.byContradiction fun hx => h1 ⟨e, .inl hx⟩
          · cases neg
            · rfl
            · exact absurd ⟨e, .inr rfl⟩ h1
      · rw [refNum_bad _ _ _ _ _ hd] at h
        cases h
        exact .inl ⟨by decide, rfl⟩

theorem numF_back (s : List UInt8) (k e : Int) (h : numF s = (k, e)) : (e ≠ 0 ∧ k = 0) ∨ (e = 0 ∧ Lib.itoa k = s ∧ inRange k) := by
  have h18 : (10 : Int) ^ 18 = 1000000000000000000 := by decide
  unfold numF at h
  by_cases h45 : s.head? = some 45
  · rw [if_pos h45] at h
    rcases numTail_back _ _ _ _ h with h | ⟨⟨he, hne, hd, hz, hk⟩, hl⟩
    · exact .inl h
    · right
      have hs : s = 45 :: s.tail := by
        cases s with
        | nil => simp at h45
        | cons x l => simp at h45; simp [h45]
      have hb := dec_back _ s.tail rfl hne hd (fun e => (hz e).1)
      have hv := valF_lt s.tail 0 0 hd (by omega) (by decide)
      have hp : (10 : Int) ^ (0 + s.tail.length) ≤ 10 ^ 18 := pow10_le (by omega)
      have hvpos : 0 < valF 0 s.tail := by
        rcases Int.lt_or_le 0 (valF 0 s.tail) with h | h
        · exact h
        · have : (valF 0 s.tail).toNat = 0 := by omega
          rw [this] at hb
          have e48 : s.tail = [48] := by rw [← hb]; simp [Lib.decDigits]
          have := (hz (by rw [e48]; rfl)).2
          cases this
      simp only [if_true] at hk
      refine ⟨he, ?_, by unfold inRange; omega⟩
      unfold Lib.itoa
      rw [if_pos (by omega)]
      conv => rhs; rw [hs, ← hb]
      congr 2
      omega
  · rw [if_neg h45] at h
    rcases numTail_back _ _ _ _ h with h | ⟨⟨he, hne, hd, hz, hk⟩, hl⟩
    · exact .inl h
    · right
      have hb := dec_back _ s rfl hne hd (fun e => (hz e).1)
      have hv := valF_lt s 0 0 hd (by omega) (by decide)
      have hp : (10 : Int) ^ (0 + s.length) ≤ 10 ^ 18 := pow10_le (by omega)
      simp at hk
      refine ⟨he, ?_, by unfold inRange; omega⟩
      unfold Lib.itoa
      rw [if_neg (by omega), hk, hb]

end Go.Proofs.YthalacoockoomaaDoor.PureWord

/- ebbtideref05.Tail: an arc line taken up, the network by value. -/
namespace Go.Proofs.YthalacoockoomaaDoor.H
open Go Go.RowKit Go.Proofs.YthalacoockoomaaDoor.Print Go.Proofs.YthalacoockoomaaDoor.PureWord Go.Proofs.YthalacoockoomaaDoorW.PrintWords Go.Proofs.YthalacoockoomaaDoorW.PrintLast

theorem refNums_go (l : List ByteArray) (hl : l.length ≤ 300) (hs : ∀ s ∈ l, s.size ≤ 4611686018427387904) : ∀ (d i : Nat) (acc : List Int), i + d = l.length → acc.length = i →
    Ev (fun k => ebbtideref04_Numbers.l0 k l acc (i : Int)) (numsGo (l.drop i) acc)
  | 0, i, acc, hi, ha => by
    rw [List.drop_eq_nil_of_le (by omega), numsGo]
    refine Ev.step (f := fun _ => _) (fun k => ?_) (Ev.now _)
    simp only [ebbtideref04_Numbers.l0]
    rw [if_neg (by omega)]
  | d + 1, i, acc, hi, ha => by
    have hlt : i < l.length := by omega
    rw [List.drop_eq_getElem_cons hlt, numsGo]
    refine Ev.step (f := fun k => (ebbtideref04_Number.f k l[i]).bind fun bt209 => (if bt209.2 = 0 then (if acc.length < 17592186044416 then (ebbtideref04_Numbers.l0 k l (acc ++ [bt209.1]) ((i + 1 : Nat) : Int)) else (none)) else (some (([] : List Int), bt209.2)))) (fun k => ?_) (Ev.bind (refNumber l[i] (hs _ (List.getElem_mem hlt))) ?_)
    · simp only [ebbtideref04_Numbers.l0]
      rw [if_pos (by omega), if_pos (by omega), rdOf_at l i hlt, w1 i (by omega)]
    · by_cases hz : (numF l[i].data.toList).2 = 0
      · rw [if_pos hz]
        refine Ev.congr (fun k => ?_) (refNums_go l hl hs d (i + 1) (acc ++ [(numF l[i].data.toList).1]) (by omega) (by simp [ha]))
        rw [if_pos hz, if_pos (by omega)]
      · rw [if_neg hz]
        refine Ev.congr (fun k => ?_) (Ev.now _)
        rw [if_neg hz]


theorem refNums_ev (l : List ByteArray) (hl : l.length ≤ 300) (hs : ∀ s ∈ l, s.size ≤ 4611686018427387904) : ∃ k, ebbtideref04_Numbers.f k l = some (numsGo l []) := by
  refine Ev.rounds (g := fun k => ebbtideref04_Numbers.f k l) (Ev.congr (fun k => ?_) (refNums_go l hl hs l.length 0 [] (by omega) rfl))
  unfold ebbtideref04_Numbers.f
  rfl
theorem refArc_f (n : Int) (a : S37) : ∃ k, ebbtideref05_Arc.f k n a.f0 a.f1 a.f2 a.f3 = some (arcF n a) := by
  refine ⟨1, ?_⟩
  unfold ebbtideref05_Arc.f arcF
  simp only [ebbtideref05_Arc.j0]
  by_cases h1 : a.f0 < 0
  · simp [h1]
  by_cases h2 : a.f0 ≥ n
  · simp [h1, h2]
  by_cases h3 : a.f1 < 0
  · simp [h1, h2, h3]
  by_cases h4 : a.f1 ≥ n
  · simp [h1, h2, h3, h4]
  by_cases h5 : a.f2 < 0
  · simp [h1, h2, h3, h4, h5]
  by_cases h6 : a.f3 < 0
  · simp [h1, h2, h3, h4, h5, h6]
  have hn : ¬ (a.f0 < 0 ∨ a.f1 < 0 ∨ a.f2 < 0 ∨ a.f3 < 0 ∨ n ≤ a.f0 ∨ n ≤ a.f1) := by omega
  rw [if_neg h1, if_neg h2, if_neg h3, if_neg h4, if_neg h5, if_neg (by simp; omega), if_neg hn]
  by_cases h7 : a.f2 > 1048576
  · simp [h7]
  · by_cases h8 : a.f3 > 1048576 <;> simp [h7, h8]

/-- Two networks' blocks: the one at g, and the result's at g2. -/
theorem net_copy {w0 W : World} {g2 : Nat} {n : Int} {b : Bool} {l : List S37} {v : Value} {cs : Array Value} (hcs : cs.size = 3)
    (hR : Kd.R k37 37 W w0.heap.size (fun _ => True) v l) (hB : Below w0.heap.size w0 W) (hg2 : W.heap[g2]? = some (.cells cs 24 (0, 0))) (hge : w0.heap.size ≤ g2) :
    ∀ W', W' = ((W.setCell ⟨g2, 0, none⟩ (.int .i64 n)).setCell ⟨g2, 1, none⟩ (.bool b)).setCell ⟨g2, 2, none⟩ v →
      W'.cell? ⟨g2, 0, none⟩ = some (.int .i64 n) ∧ W'.cell? ⟨g2, 1, none⟩ = some (.bool b) ∧ W'.cell? ⟨g2, 2, none⟩ = some v ∧
      Kd.R k37 37 W' w0.heap.size (fun _ => True) v l ∧ Below w0.heap.size w0 W' := by
  rintro W' rfl
  obtain ⟨c0, c1, c2, rfl⟩ : ∃ c0 c1 c2, cs = #[c0, c1, c2] := by
    rcases cs with ⟨_ | ⟨c0, _ | ⟨c1, _ | ⟨c2, _ | ⟨c3, r⟩⟩⟩⟩⟩
    · simp at hcs
    · simp at hcs
    · simp at hcs
    · exact ⟨c0, c1, c2, rfl⟩
    · simp at hcs
  have b1 := blk_set hg2 0 (.int .i64 n)
  have b2 := blk_set b1 1 (.bool b)
  have b3 := blk_set b2 2 v
  exact ⟨(blk_cell b3 0).trans rfl, (blk_cell b3 1).trans rfl, (blk_cell b3 2).trans rfl, Kd.R_set (Kd.R_set (Kd.R_set hR hg2 (by decide) 0 _) b1 (by decide) 1 _) b2 (by decide) 2 _, below_set (below_set (below_set hB hge) hge) hge⟩

def KeepsT (w w' : World) : Prop := ∀ (k : Nat) cs t fr, w.heap[k]? = some (.cells cs t fr) → t ≠ 37 → w'.heap[k]? = some (.cells cs t fr)

set_option maxHeartbeats 1000000 in
set_option maxRecDepth 100000 in
theorem refTail_walk (n : Int) (b : Bool) (l : List S37) (Al : Option Addr) (cl : Nat) (A1 : Option Addr) (c1 : Nat) (l1 : List ByteArray) (w0 w : World)
    (hRl : Kd.R k37 37 w w0.heap.size (fun _ => True) (.slice Al l.length cl) l) (hB : Below w0.heap.size w0 w)
    (hr1 : Kd.C Kd.string w A1 l1.length l1) (hc1 : l1.length ≤ c1) (hl : l.length ≤ 200) (hws : ∀ s ∈ l1, s.size ≤ 4611686018427387904) :
    Calls Tryd.prog 36 #[.agg #[.int .i64 n, .bool b, .slice Al l.length cl], .slice A1 l1.length c1] w fun e w' => ∃ v' : Value, e = .returned (.tuple #[.agg #[.int .i64 n, .bool b, v'], .int .i64 (tailF n l l1).1]) ∧
      Kd.R k37 37 w' w0.heap.size (fun _ => True) v' (tailF n l l1).2 ∧ Below w0.heap.size w0 w' ∧ KeepsT w w' := by
  have hbA : Below w.heap.size w ((w.alloc (Obj.cells #[.int .i64 n, .bool b, .slice Al l.length cl] 24)).alloc (Obj.cells #[.int .i64 0, .bool false, .slice none 0 0] 24)) := below_alloc (below_alloc (Below.refl _ _) _) _
  have hg : ((w.alloc (Obj.cells #[.int .i64 n, .bool b, .slice Al l.length cl] 24)).alloc (Obj.cells #[.int .i64 0, .bool false, .slice none 0 0] 24)).heap[w.heap.size]? = some (.cells #[.int .i64 n, .bool b, .slice Al l.length cl] 24 (0, 0)) := by
    have h1 := heap_alloc_new w (Obj.cells #[.int .i64 n, .bool b, .slice Al l.length cl] 24)
    exact ((Below.refl _ _).alloc (Nat.le_refl _) _ |>.block _ (blk_lt h1)).trans h1
  have hg2 : ((w.alloc (Obj.cells #[.int .i64 n, .bool b, .slice Al l.length cl] 24)).alloc (Obj.cells #[.int .i64 0, .bool false, .slice none 0 0] 24)).heap[w.heap.size + 1]? = some (.cells #[.int .i64 0, .bool false, .slice none 0 0] 24 (0, 0)) := by
    have h1 := heap_alloc_new (w.alloc (Obj.cells #[.int .i64 n, .bool b, .slice Al l.length cl] 24)) (Obj.cells #[.int .i64 0, .bool false, .slice none 0 0] 24)
    simpa using h1
  go_enter Tryd.func36, Tryd.ntmps36
  go_upto_region 1 with (fail)
  have hRW := Kd.R_below hRl hbA
  have hBW := below_step hB hbA
  have hrW := Kd.C_below hr1 hbA
  generalize ((w.alloc (Obj.cells #[.int .i64 n, .bool b, .slice Al l.length cl] 24)).alloc (Obj.cells #[.int .i64 0, .bool false, .slice none 0 0] 24)) = W at *
  obtain ⟨g, hgg⟩ : ∃ g, w.heap.size = g := ⟨_, rfl⟩
  rw [hgg] at hg hg2 ⊢
  have hge : w0.heap.size ≤ g := hgg ▸ hB.size
  have hkT : ∀ W1, Below W.heap.size W W1 → ∀ u0 u1 u2, KeepsT w (((W1.setCell ⟨g + 1, 0, none⟩ u0).setCell ⟨g + 1, 1, none⟩ u1).setCell ⟨g + 1, 2, none⟩ u2) := by
    intro W1 h1 u0 u1 u2 k cs t fr hc ht
    have hk := (Array.getElem?_eq_some_iff.1 hc).1
    have e1 : W1.heap[k]? = some (.cells cs t fr) := ((h1.block k (Nat.lt_of_lt_of_le hk hbA.size)).trans (hbA.block k hk)).trans hc
    have hne : k ≠ g + 1 := by omega
    exact (Below.heap_setCell _ ⟨g + 1, 2, none⟩ u2 k hne).trans ((Below.heap_setCell _ ⟨g + 1, 1, none⟩ u1 k hne).trans ((Below.heap_setCell _ ⟨g + 1, 0, none⟩ u0 k hne).trans e1))
  have fin : ∀ W1, Below W.heap.size W W1 → W1.cell? ⟨g, 0, none⟩ = some (.int .i64 n) ∧ W1.cell? ⟨g, 1, none⟩ = some (.bool b) ∧ W1.cell? ⟨g, 2, none⟩ = some (.slice Al l.length cl) ∧
      W1.cell? ⟨g + 1, 0, none⟩ = some (.int .i64 0) ∧ W1.cell? ⟨g + 1, 1, none⟩ = some (.bool false) ∧ W1.cell? ⟨g + 1, 2, none⟩ = some (.slice none 0 0) ∧
      W1.frozen? ⟨g + 1, 0, none⟩ = false ∧ W1.frozen? ⟨g + 1, 1, none⟩ = false ∧ W1.frozen? ⟨g + 1, 2, none⟩ = false ∧
      (∀ W', W' = ((W1.setCell ⟨g + 1, 0, none⟩ (.int .i64 n)).setCell ⟨g + 1, 1, none⟩ (.bool b)).setCell ⟨g + 1, 2, none⟩ (.slice Al l.length cl) →
      W'.cell? ⟨g + 1, 0, none⟩ = some (.int .i64 n) ∧ W'.cell? ⟨g + 1, 1, none⟩ = some (.bool b) ∧ W'.cell? ⟨g + 1, 2, none⟩ = some (.slice Al l.length cl) ∧
      Kd.R k37 37 W' w0.heap.size (fun _ => True) (.slice Al l.length cl) l ∧ Below w0.heap.size w0 W' ∧ KeepsT w W') := by
    intro W1 h1
    have e1 := (h1.block g (blk_lt hg)).trans hg
    have e2 := (h1.block (g + 1) (blk_lt hg2)).trans hg2
    refine ⟨(blk_cell e1 0).trans rfl, (blk_cell e1 1).trans rfl, (blk_cell e1 2).trans rfl, (blk_cell e2 0).trans rfl, (blk_cell e2 1).trans rfl, (blk_cell e2 2).trans rfl, blk_frozen e2 0, blk_frozen e2 1, blk_frozen e2 2, ?_⟩
    intro W' hW'
    obtain ⟨z1, z2, z3, z4, z5⟩ := net_copy rfl (Kd.R_below hRW h1) (below_step hBW h1) e2 (by omega) W' hW'
    exact ⟨z1, z2, z3, z4, z5, hW' ▸ hkT W1 h1 _ _ _⟩
  replace fin := Lib.hid fin
  replace hkT := Lib.hid hkT
  obtain ⟨g0, g1, g2, k0, k1, k2, f0, f1, f2, fz⟩ := fin.out W (Below.refl _ _)
  replace fz := Lib.hid fz
  have hgw := hgg
  replace hgw := Lib.hid hgw
  clear hRl hB hr1 hgg
  by_cases h3 : (l1.length : Int) = 5
  case neg =>
    have c4b1 : ((l1.length : Int) != 5) = true := bne_iff_ne.mpr h3
    have c4b0 : ((l1.length : Int) == 5) = false := beq_eq_false_iff_ne.mpr h3
    have hF : tailF n l l1 = (50, l) := by simp [tailF, h3]
    go_wp2
    (try simp only [Exit.inBlock, Exit.then])
    obtain ⟨z1, z2, z3, z4, z5, z6⟩ := fz.out _ rfl
    refine bodyPost_ret (v := .tuple #[.agg #[.int .i64 n, .bool b, .slice Al l.length cl], .int .i64 50]) (by simp [results, Tryd.results36, go_sem, z1, z2, z3]) rfl ?_
    rw [hF]
    exact ⟨_, rfl, z4, z5, z6⟩
  have p0 : 0 ≤ (0 : Int) := by omega
  obtain ⟨ad, rfl, x0⟩ := Kd.at_string hrW 0 p0 (by omega)
  rw [show ((0 : Int)).toNat = 0 from rfl, Addr.add_zero'] at x0
  have hlen : l1.length = 5 := by omega
  have c4b0 : ((l1.length : Int) == 5) = true := beq_iff_eq.mpr h3
  have c4b1 : ((l1.length : Int) != 5) = false := bne_eq_false_iff_eq.mpr h3
  have q0 : (0 < l1.length) = True := eq_true (by omega)
  have Q0 : (0 < (l1.length : Int)) = True := eq_true (by omega)
  by_cases h0 : (rdOf ByteArray.empty l1 0).toList = ([97, 114, 99] : List UInt8)
  case neg =>
    have h0b : ((rdOf ByteArray.empty l1 0).toList != ([97, 114, 99] : List UInt8)) = true := bne_iff_ne.mpr h0
    have h0c : ((rdOf ByteArray.empty l1 0).toList == ([97, 114, 99] : List UInt8)) = false := beq_eq_false_iff_ne.mpr h0
    have hF : tailF n l l1 = (50, l) := by simp [tailF, h0]
    go_wp2
    (try simp only [Exit.inBlock, Exit.then])
    obtain ⟨z1, z2, z3, z4, z5, z6⟩ := fz.out _ rfl
    refine bodyPost_ret (v := .tuple #[.agg #[.int .i64 n, .bool b, .slice Al l.length cl], .int .i64 50]) (by simp [results, Tryd.results36, go_sem, z1, z2, z3]) rfl ?_
    rw [hF]
    exact ⟨_, rfl, z4, z5, z6⟩
  have h0b : ((rdOf ByteArray.empty l1 0).toList != ([97, 114, 99] : List UInt8)) = false := bne_eq_false_iff_eq.mpr h0
  have h0c : ((rdOf ByteArray.empty l1 0).toList == ([97, 114, 99] : List UInt8)) = true := beq_iff_eq.mpr h0
  have hc1' : ¬ c1 = 1 := by omega
  have hc2 : (c1 < 1) = False := eq_false (by omega)
  have hc3 : (l1.length < 1) = False := eq_false (by omega)
  have hc4 : (1 ≤ l1.length) = True := eq_true (by omega)
  have hc5 : (1 ≤ c1) = True := eq_true (by omega)
  have hF0 : tailF n l l1 = if (numsGo (l1.drop 1) []).2 = 0 then
      if arcF n (arcOf (numsGo (l1.drop 1) []).1) = 0 then (if l.length = 200 then (2, l) else (0, l ++ [arcOf (numsGo (l1.drop 1) []).1]))
      else (arcF n (arcOf (numsGo (l1.drop 1) []).1), l)
    else ((numsGo (l1.drop 1) []).2, l) := by simp [tailF, h3, h0]
  have hnums : Calls Tryd.prog 48 #[.slice (some ⟨ad.block, ad.off + 1, none⟩) 4 (c1 - 1)] W fun e w' => ∃ v : Value, e = .returned (.tuple #[v, .int .i64 (numsGo (l1.drop 1) []).2]) ∧ Kd.R (Kd.int .i64) 3 w' W.heap.size (fun _ => True) v (numsGo (l1.drop 1) []).1 ∧ Below W.heap.size W w' := by
    obtain ⟨k, hk⟩ := refNums_ev (l1.drop 1) (by rw [List.length_drop]; omega) (fun s hs => hws s (List.mem_of_mem_drop hs))
    have hcd := Kd.C_drop (m := 1) hrW (by omega) hc1
    rw [if_neg hc1'] at hcd
    have e4 : (l1.drop 1).length = 4 := by rw [List.length_drop]; omega
    have h := ebbtideref04_Numbers.calls k _ (c1 - 1) _ _ _ W hcd (by omega) hk
    rw [e4] at h
    simpa [Go.Addr.add, Kd.string, Kd.scalar] using h
  have hnl : (numsGo (l1.drop 1) []).2 = 0 → (numsGo (l1.drop 1) []).1.length = 4 := fun h => by
    have := numsGo_len0 (l1.drop 1) [] h
    rw [List.length_drop, List.length_nil] at this
    omega
  clear h0 hrW
  generalize numsGo (l1.drop 1) [] = R at hnums hnl hF0
  obtain ⟨xs, er⟩ := R
  dsimp only at hnums hnl hF0
  replace hnums := Lib.hid hnums
  by_cases her : er = 0
  case neg =>
    have e1 : (er == 0) = false := beq_eq_false_iff_ne.mpr her
    have e2 : (er != 0) = true := bne_iff_ne.mpr her
    have hF : tailF n l l1 = (er, l) := by rw [hF0, if_neg her]
    clear hF0
    go_wp2_with (go_at_call 48; refine hnums.out.mono ?_; rintro e w1 ⟨v, rfl, hR, hb⟩; replace hR := Lib.hid hR; obtain ⟨g0, g1, g2, k0, k1, k2, f0, f1, f2, fz⟩ := fin.out w1 hb; replace fz := Lib.hid fz)
    (try simp only [Exit.inBlock, Exit.then])
    obtain ⟨z1, z2, z3, z4, z5, z6⟩ := fz.out _ rfl
    refine bodyPost_ret (v := .tuple #[.agg #[.int .i64 n, .bool b, .slice Al l.length cl], .int .i64 er]) (by simp [results, Tryd.results36, go_sem, z1, z2, z3]) rfl ?_
    rw [hF]
    exact ⟨_, rfl, z4, z5, z6⟩
  have e1 : (er == 0) = true := beq_iff_eq.mpr her
  have e2 : (er != 0) = false := bne_eq_false_iff_eq.mpr her
  have hx4 : xs.length = 4 := hnl her
  rw [if_pos her] at hF0
  clear hnl
  have harc : ∀ W : World, Calls Tryd.prog 29 #[.int .i64 n, .agg #[.int .i64 (rd xs 0), .int .i64 (rd xs 1), .int .i64 (rd xs 2), .int .i64 (rd xs 3)]] W fun e w' => e = .returned (.int .i64 (arcF n (arcOf xs))) ∧ Below W.heap.size W w' := fun W => by
    obtain ⟨k, hk⟩ := refArc_f n (arcOf xs)
    exact ebbtideref05_Arc.calls k _ _ _ _ _ _ W hk
  replace harc := Lib.hid harc
  go_wp2_with ((go_at_call 48; refine hnums.out.mono ?_; rintro e w1 ⟨v, rfl, hR, hb⟩; obtain ⟨A, cA, rfl, hcA, hC⟩ := Kd.R_reads hR; obtain ⟨ax, rfl, y0⟩ := Kd.at_int hC 0 (by omega) (by omega); obtain ⟨ax1, e3, y1⟩ := Kd.at_int hC 1 (by omega) (by omega); obtain rfl : ax = ax1 := (by injection e3); clear e3; obtain ⟨ax1, e3, y2⟩ := Kd.at_int hC 2 (by omega) (by omega); obtain rfl : ax = ax1 := (by injection e3); clear e3; obtain ⟨ax1, e3, y3⟩ := Kd.at_int hC 3 (by omega) (by omega); obtain rfl : ax = ax1 := (by injection e3); clear e3; rw [show ((0 : Int)).toNat = 0 from rfl, Addr.add_zero'] at y0; simp only [show (1 : Int).toNat = 1 from rfl, Nat.reduceEqDiff, Go.Addr.add, ↓reduceIte] at y1; simp only [show (2 : Int).toNat = 2 from rfl, Nat.reduceEqDiff, Go.Addr.add, ↓reduceIte] at y2; simp only [show (3 : Int).toNat = 3 from rfl, Nat.reduceEqDiff, Go.Addr.add, ↓reduceIte] at y3; replace hR := Lib.hid hR; replace hC := Lib.hid hC))
  have m0 := World.new_ne w1 _ y0
  have m1 := World.new_ne w1 _ y1
  have m2 := World.new_ne w1 _ y2
  have m3 := World.new_ne w1 _ y3
  go_region_held3 (fun w' => w'.cell? ax = some (.int .i64 (rd xs 0)) ∧ w'.cell? ⟨ax.block, ax.off + 1, none⟩ = some (.int .i64 (rd xs 1)) ∧ w'.cell? ⟨ax.block, ax.off + 2, none⟩ = some (.int .i64 (rd xs 2)) ∧ w'.cell? ⟨ax.block, ax.off + 3, none⟩ = some (.int .i64 (rd xs 3))) (go_keep) (fail)
  have hbW : Below W.heap.size W (w1.alloc (.cells #[.int .i64 (rd xs 0), .int .i64 (rd xs 1), .int .i64 (rd xs 2), .int .i64 (rd xs 3)] 37)).drew := below_drew (below_alloc hb _)
  have hab : (w1.alloc (.cells #[.int .i64 (rd xs 0), .int .i64 (rd xs 1), .int .i64 (rd xs 2), .int .i64 (rd xs 3)] 37)).drew.heap[w1.heap.size]? = some (.cells #[.int .i64 (rd xs 0), .int .i64 (rd xs 1), .int .i64 (rd xs 2), .int .i64 (rd xs 3)] 37 (0, 0)) := heap_alloc_new w1 _
  generalize (w1.alloc (.cells #[.int .i64 (rd xs 0), .int .i64 (rd xs 1), .int .i64 (rd xs 2), .int .i64 (rd xs 3)] 37)).drew = W2 at hbW hab ⊢
  generalize w1.heap.size = a at hab ⊢
  clear g0 g1 g2 k0 k1 k2 f0 f1 f2 fz
  obtain ⟨g0, g1, g2, -⟩ := fin.out W2 hbW
  have a0 := (blk_cell hab 0).trans rfl
  have a1 := (blk_cell hab 1).trans rfl
  have a2 := (blk_cell hab 2).trans rfl
  have a3 := (blk_cell hab 3).trans rfl
  by_cases hA : arcF n (arcOf xs) = 0
  case neg =>
    have b1 : (arcF n (arcOf xs) == 0) = false := beq_eq_false_iff_ne.mpr hA
    have b2 : (arcF n (arcOf xs) != 0) = true := bne_iff_ne.mpr hA
    have hF : tailF n l l1 = (arcF n (arcOf xs), l) := by rw [hF0, if_neg hA]
    clear hF0
    go_wp2_with (go_at_call 29; refine (harc.out _).mono ?_; rintro e w2 ⟨rfl, hb2⟩; obtain ⟨g0, g1, g2, k0, k1, k2, f0, f1, f2, fz⟩ := fin.out w2 (below_step hbW hb2); replace fz := Lib.hid fz)
    (try simp only [Exit.inBlock, Exit.then])
    obtain ⟨z1, z2, z3, z4, z5, z6⟩ := fz.out _ rfl
    refine bodyPost_ret (v := .tuple #[.agg #[.int .i64 n, .bool b, .slice Al l.length cl], .int .i64 (arcF n (arcOf xs))]) (by simp [results, Tryd.results36, go_sem, z1, z2, z3]) rfl ?_
    rw [hF]
    exact ⟨_, rfl, z4, z5, z6⟩
  have b1 : (arcF n (arcOf xs) == 0) = true := beq_iff_eq.mpr hA
  have b2 : (arcF n (arcOf xs) != 0) = false := bne_eq_false_iff_eq.mpr hA
  rw [if_pos hA] at hF0
  by_cases hM : l.length = 200
  case pos =>
    have b3 : decide ((200 : Int) ≤ (l.length : Int)) = true := decide_eq_true (by omega)
    have b4 : ((200 : Int) ≤ (l.length : Int)) = True := eq_true (by omega)
    have b5 : (200 ≤ l.length) = True := eq_true (by omega)
    have hF : tailF n l l1 = (2, l) := by rw [hF0, if_pos hM]
    clear hF0 hM
    go_wp2_with (go_at_call 29; refine (harc.out _).mono ?_; rintro e w2 ⟨rfl, hb2⟩; obtain ⟨g0, g1, g2, k0, k1, k2, f0, f1, f2, fz⟩ := fin.out w2 (below_step hbW hb2); replace fz := Lib.hid fz)
    (try simp only [Exit.inBlock, Exit.then])
    obtain ⟨z1, z2, z3, z4, z5, z6⟩ := fz.out _ rfl
    refine bodyPost_ret (v := .tuple #[.agg #[.int .i64 n, .bool b, .slice Al l.length cl], .int .i64 2]) (by simp [results, Tryd.results36, go_sem, z1, z2, z3]) rfl ?_
    rw [hF]
    exact ⟨_, rfl, z4, z5, z6⟩
  have b3 : decide ((200 : Int) ≤ (l.length : Int)) = false := decide_eq_false (by omega)
  have b4 : ((200 : Int) ≤ (l.length : Int)) = False := eq_false (by omega)
  have b5 : (200 ≤ l.length) = False := eq_false (by omega)
  have hF : tailF n l l1 = (0, l ++ [arcOf xs]) := by rw [hF0, if_neg hM]
  clear hF0
  have hinfo : (Tryd.prog.info? 37).map (fun i => (i.zero, i.size, i.bytes)) = some (some (.agg #[.int .i64 0, .int .i64 0, .int .i64 0, .int .i64 0]), 4, 32) := by kernel_rfl
  have hbase : w0.heap.size ≤ W.heap.size := hBW.size
  have finA : ∀ w2 v1 w3, Below W.heap.size W w2 → Kd.R k37 37 w3 w0.heap.size (fun _ => True) v1 (l ++ [arcOf xs]) → Below w0.heap.size w0 w3 → w2.grownBy w3 (Value.slice Al l.length cl).ownBlock → 
      ∃ A3 c3, v1 = .slice A3 (l.length + 1) c3 ∧ w3.cell? ⟨g, 2, none⟩ = some (.slice Al l.length cl) ∧ w3.frozen? ⟨g, 2, none⟩ = false ∧
      (w3.setCell ⟨g, 2, none⟩ v1).cell? ⟨g, 0, none⟩ = some (.int .i64 n) ∧ (w3.setCell ⟨g, 2, none⟩ v1).cell? ⟨g, 1, none⟩ = some (.bool b) ∧ (w3.setCell ⟨g, 2, none⟩ v1).cell? ⟨g, 2, none⟩ = some v1 ∧
      (w3.setCell ⟨g, 2, none⟩ v1).cell? ⟨g + 1, 0, none⟩ = some (.int .i64 0) ∧ (w3.setCell ⟨g, 2, none⟩ v1).cell? ⟨g + 1, 1, none⟩ = some (.bool false) ∧ (w3.setCell ⟨g, 2, none⟩ v1).cell? ⟨g + 1, 2, none⟩ = some (.slice none 0 0) ∧
      (w3.setCell ⟨g, 2, none⟩ v1).frozen? ⟨g + 1, 0, none⟩ = false ∧ (w3.setCell ⟨g, 2, none⟩ v1).frozen? ⟨g + 1, 1, none⟩ = false ∧ (w3.setCell ⟨g, 2, none⟩ v1).frozen? ⟨g + 1, 2, none⟩ = false ∧
      (∀ W', W' = (((w3.setCell ⟨g, 2, none⟩ v1).setCell ⟨g + 1, 0, none⟩ (.int .i64 n)).setCell ⟨g + 1, 1, none⟩ (.bool b)).setCell ⟨g + 1, 2, none⟩ v1 →
      W'.cell? ⟨g + 1, 0, none⟩ = some (.int .i64 n) ∧ W'.cell? ⟨g + 1, 1, none⟩ = some (.bool b) ∧ W'.cell? ⟨g + 1, 2, none⟩ = some v1 ∧
      Kd.R k37 37 W' w0.heap.size (fun _ => True) v1 (l ++ [arcOf xs]) ∧ Below w0.heap.size w0 W' ∧ KeepsT w W') := by
    intro w2 v1 w3 h2 hR3 hB3 hgr
    have hRo := Kd.R_below hRW h2
    have e1 := (h2.block g (blk_lt hg)).trans hg
    have e2 := (h2.block (g + 1) (blk_lt hg2)).trans hg2
    have i1 := (hgr.block g (blk_lt e1) (fun e => Kd.R_ne hRo e1 (by decide) e)).trans e1
    have i2 := (hgr.block (g + 1) (blk_lt e2) (fun e => Kd.R_ne hRo e2 (by decide) e)).trans e2
    obtain ⟨A3, c3, rfl⟩ := Kd.R_slice hR3
    have hlen1 : (l ++ [arcOf xs]).length = l.length + 1 := by simp
    rw [hlen1] at hR3 ⊢
    have j1 : (w3.setCell ⟨g, 2, none⟩ (.slice A3 (l.length + 1) c3)).heap[g]? = some (.cells #[.int .i64 n, .bool b, .slice A3 (l.length + 1) c3] 24 (0, 0)) := by simpa using blk_set i1 2 (.slice A3 (l.length + 1) c3)
    have j2 : (w3.setCell ⟨g, 2, none⟩ (.slice A3 (l.length + 1) c3)).heap[g + 1]? = some (.cells #[.int .i64 0, .bool false, .slice none 0 0] 24 (0, 0)) := (Below.heap_setCell _ ⟨g, 2, none⟩ _ (g + 1) (by simp)).trans i2
    have hR4 := Kd.R_set hR3 i1 (by decide) 2 (.slice A3 (l.length + 1) c3)
    have hB4 : Below w0.heap.size w0 (w3.setCell ⟨g, 2, none⟩ (.slice A3 (l.length + 1) c3)) := below_set hB3 hge
    refine ⟨A3, c3, rfl, (blk_cell i1 2).trans rfl, blk_frozen i1 2, (blk_cell j1 0).trans rfl, (blk_cell j1 1).trans rfl, (blk_cell j1 2).trans rfl, (blk_cell j2 0).trans rfl, (blk_cell j2 1).trans rfl, (blk_cell j2 2).trans rfl, blk_frozen j2 0, blk_frozen j2 1, blk_frozen j2 2, ?_⟩
    intro W' hW'
    obtain ⟨z1, z2, z3, z4, z5⟩ := net_copy rfl hR4 hB4 j2 (by omega) W' hW'
    refine ⟨z1, z2, z3, z4, z5, ?_⟩
    intro k cs t fr hc ht
    have hk := (Array.getElem?_eq_some_iff.1 hc).1
    have e3 : w2.heap[k]? = some (.cells cs t fr) := ((h2.block k (Nat.lt_of_lt_of_le hk hbA.size)).trans (hbA.block k hk)).trans hc
    obtain ⟨inner, hin⟩ := Kd.R_own hRo
    have hkg : k < g := hgw.out ▸ hk
    have e4 := Keeps.grown (g := g) hin hgr k cs t fr e3 ht (by omega)
    rw [hW']
    exact (Below.heap_setCell _ ⟨g + 1, 2, none⟩ _ k (by simp; omega)).trans ((Below.heap_setCell _ ⟨g + 1, 1, none⟩ _ k (by simp; omega)).trans ((Below.heap_setCell _ ⟨g + 1, 0, none⟩ _ k (by simp; omega)).trans ((Below.heap_setCell _ ⟨g, 2, none⟩ _ k (by simp; omega)).trans e4)))
  replace finA := Lib.hid finA
  go_wp2_with (first
    | (go_at_call 29; refine (harc.out _).mono ?_; rintro e w2 ⟨rfl, hb2⟩; have hb3 := below_step hbW hb2; obtain ⟨g0, g1, g2, k0, k1, k2, f0, f1, f2, -⟩ := fin.out w2 hb3; have hab2 := (hb2.block a (blk_lt hab)).trans hab; have a0 := (blk_cell hab2 0).trans rfl; have a1 := (blk_cell hab2 1).trans rfl; have a2 := (blk_cell hab2 2).trans rfl; have a3 := (blk_cell hab2 3).trans rfl; replace hb3 := Lib.hid hb3)
    | ((with_reducible refine gate_builtin (b := .append) (xs := #[.tmp 57, .tmp 59]) rfl ?_); at_builtin; refine Kd.R_append k37 (w0 := w0) w0.heap.size rfl (.tmp 57) (.tmp 59) 22 37 (.agg #[.int .i64 0, .int .i64 0, .int .i64 0, .int .i64 0]) 32 rfl Tryd.underlying22 hinfo rfl (by decide) (by omega) (.slice Al l.length cl) l (arcOf xs) [.int .i64 (rd xs 0), .int .i64 (rd xs 1), .int .i64 (rd xs 2), .int .i64 (rd xs 3)] (fun _ => True) (fun _ => False) rfl rfl (k37_mkM _ _ _ (arcOf xs)) (fun _ h => h.elim) (fun _ _ => trivial) (Kd.R_below hRW hb3.out) (below_step hBW hb3.out) (Nat.le_trans hbase hb3.out.size) (by omega) ?_; intro v1 w3 ho hB3 hgr hat; obtain ⟨A3, c3, rfl, s2, s3, s4, s5, s6, s7, s8, s9, s10, s11, s12, fz⟩ := finA.out w2 v1 w3 hb3.out ho hB3 hgr; replace fz := Lib.hid fz; replace ho := Lib.hid ho))
  (try simp only [Exit.inBlock, Exit.then])
  obtain ⟨z1, z2, z3, z4, z5, z6⟩ := fz.out _ rfl
  refine bodyPost_ret (v := .tuple #[.agg #[.int .i64 n, .bool b, .slice A3 (l.length + 1) c3], .int .i64 0]) (by simp [results, Tryd.results36, go_sem, z1, z2, z3]) rfl ?_
  rw [hF]
  exact ⟨_, rfl, z4, z5, z6⟩
end Go.Proofs.YthalacoockoomaaDoor.H

/- What ebbtideref05.Head and Idle compute. -/
namespace Go.Proofs.YthalacoockoomaaDoor.H
open Go Go.RowKit Go.Proofs.YthalacoockoomaaDoor.Print Go.Proofs.YthalacoockoomaaDoor.PureWord Go.Proofs.YthalacoockoomaaDoorW.PrintWords Go.Proofs.YthalacoockoomaaDoorW.PrintLast

theorem refNodes_f (n : Int) : ebbtideref05_nodes.f n = some (nodesF n) := by
  unfold ebbtideref05_nodes.f nodesF
  split
  · rfl
  · split <;> rfl
def refHeadF (ws : List ByteArray) : Int × Bool × List S37 × Int :=
  if headOk ws = true then
    if (numAt ws 1).2 = 0 then (if nodesF (numAt ws 1).1 = 0 then ((numAt ws 1).1, (rdOf ByteArray.empty ws 2).toList == ([104, 111, 108, 100] : List UInt8), [], 0) else (0, false, [], nodesF (numAt ws 1).1))
    else (0, false, [], (numAt ws 1).2)
  else (0, false, [], 50)

theorem rdOf_mem (ws : List ByteArray) (i : Nat) (h : i < ws.length) : rdOf ByteArray.empty ws (i : Int) ∈ ws := by
  have : rdOf ByteArray.empty ws (i : Int) = ws[i] := by simp [rdOf, h]
  rw [this]
  exact List.getElem_mem _

theorem refHead_j0 (ws : List ByteArray) (hws : ∀ s ∈ ws, s.size ≤ 4611686018427387904) (h3 : ws.length = 3) :
    Ev (fun k => ebbtideref05_Head.j0 k ws false) (if (numAt ws 1).2 = 0 then (if nodesF (numAt ws 1).1 = 0 then ((numAt ws 1).1, (rdOf ByteArray.empty ws 2).toList == ([104, 111, 108, 100] : List UInt8), [], 0) else (0, false, [], nodesF (numAt ws 1).1)) else (0, false, [], (numAt ws 1).2)) := by
  have hnum : Ev (fun k => ebbtideref04_Number.f k (rdOf ByteArray.empty ws 1)) (numAt ws 1) := refNumber _ (hws _ (rdOf_mem ws 1 (by omega)))
  refine Ev.step (f := fun k => (ebbtideref04_Number.f k (rdOf ByteArray.empty ws 1)).bind fun bt226 => (if bt226.2 = 0 then ((ebbtideref05_nodes.f bt226.1).bind fun t228 => (if t228 = 0 then (if 2 < (ws.length : Int) then (some (bt226.1, ((rdOf ByteArray.empty ws 2).toList == ([104, 111, 108, 100] : List UInt8)), ([] : List S37), 0)) else (none)) else (some (0, false, ([] : List S37), t228)))) else (some (0, false, ([] : List S37), bt226.2)))) (fun k => ?_) (Ev.bind hnum ?_)
  · simp only [ebbtideref05_Head.j0]
    rw [if_neg (by decide), if_pos (by omega)]
  · refine Ev.congr (fun k => ?_) (Ev.now _)
    rw [refNodes_f, Option.bind_some, if_pos (show 2 < (ws.length : Int) by omega)]
    split
    · split <;> rfl
    · rfl
theorem refHead_bad (ws : List ByteArray) : Ev (fun k => ebbtideref05_Head.j0 k ws true) (0, false, [], 50) := by
  refine Ev.step (f := fun _ => _) (fun k => ?_) (Ev.now _)
  simp only [ebbtideref05_Head.j0]
  rw [if_pos trivial]
theorem refHead_ev (ws : List ByteArray) (hws : ∀ s ∈ ws, s.size ≤ 4611686018427387904) : Ev (fun k => ebbtideref05_Head.f k ws) (refHeadF ws) := by
  unfold refHeadF
  by_cases h3 : ws.length = 3
  · by_cases h0 : (rdOf ByteArray.empty ws 0).toList = ([110, 101, 116] : List UInt8)
    · by_cases h2 : (rdOf ByteArray.empty ws 2).toList = ([104, 111, 108, 100] : List UInt8)
      · have hk : headOk ws = true := by simp [headOk, h3, h0, h2]
        rw [if_pos hk]
        refine Ev.congr (fun k => ?_) (refHead_j0 ws hws h3)
        unfold ebbtideref05_Head.f
        rw [if_pos (by omega), if_pos (by omega), if_pos h0, if_pos (by omega), if_pos h2]
      · by_cases h4 : (rdOf ByteArray.empty ws 2).toList = ([102, 114, 101, 101] : List UInt8)
        · have hk : headOk ws = true := by simp [headOk, h3, h0, h4]
          rw [if_pos hk]
          refine Ev.congr (fun k => ?_) (refHead_j0 ws hws h3)
          unfold ebbtideref05_Head.f
          rw [if_pos (by omega), if_pos (by omega), if_pos h0, if_pos (by omega), if_neg h2, bne_eq_false_iff_eq.mpr h4]
        · have hk : ¬ headOk ws = true := by simp [headOk, h3, h0, h2, h4]
          rw [if_neg hk]
          refine Ev.congr (fun k => ?_) (refHead_bad ws)
          unfold ebbtideref05_Head.f
          rw [if_pos (by omega), if_pos (by omega), if_pos h0, if_pos (by omega), if_neg h2, bne_iff_ne.mpr h4]
    · have hk : ¬ headOk ws = true := by simp [headOk, h0]
      rw [if_neg hk]
      refine Ev.congr (fun k => ?_) (refHead_bad ws)
      unfold ebbtideref05_Head.f
      rw [if_pos (by omega), if_pos (by omega), if_neg h0]
  · have hk : ¬ headOk ws = true := by simp [headOk]; omega
    rw [if_neg hk]
    refine Ev.congr (fun k => ?_) (refHead_bad ws)
    unfold ebbtideref05_Head.f
    rw [if_neg (by omega)]

theorem refIdle_ev (s : ByteArray) (hs : s.size ≤ 4294967280) : Ev (fun k => ebbtideref05_Idle.f k s) (idleW (wordsB s)) := by
  refine Ev.bind (refWords s hs) ?_
  refine Ev.congr (fun k => ?_) (Ev.now _)
  by_cases h : (wordsB s).length = 0
  · rw [if_pos (by omega)]
    simp [idleW, h]
  · have h0 := word_pos (rdOf_mem (wordsB s) 0 (by omega))
    rw [if_neg (by omega), if_pos (by omega), if_pos (by exact Int.ofNat_lt.2 h0)]
    have : ((wordsB s).length : Int) ≠ 0 := by omega
    simp [idleW, h]
end Go.Proofs.YthalacoockoomaaDoor.H

/- ebbtideref05.Parse: the document's network of a text is the program's. -/
namespace Go.Proofs.YthalacoockoomaaDoor.H
open Go Go.RowKit Go.Proofs.YthalacoockoomaaDoor.Print Go.Proofs.YthalacoockoomaaDoor.PureWord Go.Proofs.YthalacoockoomaaDoorW.PrintWords Go.Proofs.YthalacoockoomaaDoorW.PrintLast

def ebbtideref05_Parse.f (a0 : ByteArray) : Option (Int × Bool × List S37 × Int × Int) := if a0.size ≤ 4294967280 then some (parseF a0) else none

theorem word_le {s p : ByteArray} (h : p ∈ wordsB s) : p.size ≤ s.size := by
  unfold wordsB at h
  have h1 := (List.mem_filter.1 h).1
  unfold piecesB at h1
  obtain ⟨q, hq, rfl⟩ := List.mem_map.1 h1
  have := splitL_le 32 _ q hq
  have e1 : (mkB q).size = q.length := by simp [mkB, ByteArray.size]
  have e2 : s.data.toList.length = s.size := by simp
  omega

theorem head_rel (ws : List ByteArray) : (refHeadF ws).2.2.2 = (headF 0 false ws).1 ∧ (refHeadF ws).2.2.1 = [] ∧ ((headF 0 false ws).1 = 0 → (refHeadF ws).1 = (headF 0 false ws).2.1 ∧ (refHeadF ws).2.1 = (headF 0 false ws).2.2) := by
  unfold refHeadF headF headE
  by_cases h : headOk ws = true
  · by_cases h1 : (numAt ws 1).2 = 0
    · by_cases h2 : nodesF (numAt ws 1).1 = 0 <;> simp [h, h1, h2]
    · simp [h, h1]
  · simp [h]

/-- A network stored at g. -/
theorem net_store {w0 W : World} {g : Nat} {n : Int} {b : Bool} {l : List S37} {v : Value} {cs : Array Value} (hcs : cs.size = 3)
    (hR : Kd.R k37 37 W w0.heap.size (fun _ => True) v l) (hB : Below w0.heap.size w0 W) (hg : W.heap[g]? = some (.cells cs 24 (0, 0))) (hge : w0.heap.size ≤ g) :
    ∀ W', W' = ((W.setCell ⟨g, 0, none⟩ (.int .i64 n)).setCell ⟨g, 1, none⟩ (.bool b)).setCell ⟨g, 2, none⟩ v → NetAt w0 W' g n b l ∧ Below w0.heap.size w0 W' ∧ Keeps g W W' := by
  rintro W' rfl
  obtain ⟨c0, c1, c2, rfl⟩ : ∃ c0 c1 c2, cs = #[c0, c1, c2] := by
    rcases cs with ⟨_ | ⟨c0, _ | ⟨c1, _ | ⟨c2, _ | ⟨c3, r⟩⟩⟩⟩⟩
    · simp at hcs
    · simp at hcs
    · simp at hcs
    · exact ⟨c0, c1, c2, rfl⟩
    · simp at hcs
  have b1 := blk_set hg 0 (.int .i64 n)
  have b2 := blk_set b1 1 (.bool b)
  have b3 := blk_set b2 2 v
  exact ⟨⟨v, by simpa using b3, hge, Kd.R_set (Kd.R_set (Kd.R_set hR hg (by decide) 0 _) b1 (by decide) 1 _) b2 (by decide) 2 _⟩, below_set (below_set (below_set hB hge) hge) hge, (Keeps.set g W 0 _).trans ((Keeps.set g _ 1 _).trans (Keeps.set g _ 2 _))⟩

set_option maxHeartbeats 1000000 in
set_option maxRecDepth 100000 in
theorem refParse_walk (a0 : ByteArray) (w : World) (hs : a0.size ≤ 4294967280) :
    Calls Tryd.prog 16 #[.string a0] w fun e w' => ∃ v : Value, e = .returned (.tuple #[.agg #[.int .i64 (parseF a0).1, .bool (parseF a0).2.1, v], .int .i64 (parseF a0).2.2.2.1, .int .i64 (parseF a0).2.2.2.2]) ∧ Kd.R k37 37 w' w.heap.size (fun _ => True) v (parseF a0).2.2.1 ∧ Below w.heap.size w w' := by
  have hB0 : Below w.heap.size w (w.alloc (Obj.cells #[.int .i64 0, .bool false, .slice none 0 0] 24)) := below_alloc (Below.refl _ _) _
  have hr0 := heap_alloc_new w (Obj.cells #[.int .i64 0, .bool false, .slice none 0 0] 24)
  have hlin : Calls Tryd.prog 19 #[.string a0] (w.alloc (Obj.cells #[.int .i64 0, .bool false, .slice none 0 0] 24)) fun e w1 => ∃ v : Value, e = .returned v ∧ Kd.R Kd.string 9 w1 w.heap.size (fun _ => True) v (linesB a0) ∧ w1.heap[w.heap.size]? = some (.cells #[.int .i64 0, .bool false, .slice none 0 0] 24 (0, 0)) ∧ Below w.heap.size w w1 := by
    obtain ⟨k, hk⟩ := (refLines a0 hs).rounds
    refine (ebbtideref04_Lines.calls k a0 (linesB a0) _ hk).mono ?_
    rintro e w1 ⟨v, rfl, hR, hb⟩
    exact ⟨v, rfl, Kd.R_lower hR (by simp), (hb.block _ (blk_lt hr0)).trans hr0, below_step hB0 hb⟩
  have HL := Lib.hid hlin
  have hll : (linesB a0).length ≤ 4294967281 := by
    unfold linesB
    split
    · simp
    · have := piecesB_length 10 (cutEnd a0)
      have := cutEnd_size a0
      omega
  have hls : ∀ p ∈ linesB a0, p.size ≤ 4294967280 := fun p hp => Nat.le_trans (line_le hp) hs
  have HLS := Lib.hid hls
  generalize hP : parseF a0 = R
  obtain ⟨r1, r2, r3, r4, r5⟩ := R
  unfold parseF at hP
  dsimp only
  have HP := Lib.hid hP
  clear hlin hB0 hr0 hP hls
  generalize linesB a0 = X at HL HLS HP hll
  go_enter Tryd.func16, Tryd.ntmps16
  go_wp2_with (go_at_call 19; refine HL.out.mono ?_; rintro e w1 ⟨v, rfl, hR, hres, hb⟩; obtain ⟨A, cA, rfl, hcA, hC⟩ := Kd.R_reads hR; replace hR := Lib.hid hR; replace hres := Lib.hid hres; replace hC := Lib.hid hC)
  have hN0 : NetAt w (w1.alloc (Obj.cells #[.int .i64 0, .bool false, .slice none 0 0] 24)) w1.heap.size 0 false [] := ⟨.slice none 0 0, heap_alloc_new w1 _, hb.size, Kd.R_nil _ _ _ _ _⟩
  have hbz : Below w1.heap.size w1 (w1.alloc (Obj.cells #[.int .i64 0, .bool false, .slice none 0 0] 24)) := below_alloc (Below.refl _ _) _
  have hBz := below_step hb hbz
  have hRz := Kd.R_below hR.out hbz
  have hrz := (hbz.block _ (blk_lt hres.out)).trans hres.out
  have hgr : w.heap.size < w1.heap.size := blk_lt hres.out
  generalize (w1.alloc (Obj.cells #[.int .i64 0, .bool false, .slice none 0 0] 24)) = Wz at *
  generalize w1.heap.size = g at *
  obtain ⟨q, hq⟩ : ∃ q, w.heap.size = q := ⟨_, rfl⟩
  rw [hq] at hrz ⊢
  have hgq : g ≠ q := by omega
  have HQ := Lib.hid hq
  replace hRz := Lib.hid hRz
  replace hrz := Lib.hid hrz
  replace hN0 := Lib.hid hN0
  clear hR hres hC hq hbz
  go_loopw [7, 8] (fun v7 v8 wr => ∃ (i : Nat) (begun : Bool) (n : Int) (b : Bool) (l : List S37), v8 = .int .i64 i ∧ v7 = .bool begun ∧ i ≤ X.length ∧ l.length ≤ 200 ∧ (begun = false → n = 0 ∧ b = false ∧ l = []) ∧ NetAt w wr g n b l ∧ Below w.heap.size w wr ∧ Keeps g Wz wr ∧ parseGo (X.drop i) i begun n b l = (r1, r2, r3, r4, r5)) (fun _ v8 _ => X.length - (intOf v8).toNat)
  case atStart => exact ⟨0, false, 0, false, [], rfl, rfl, Nat.zero_le _, by simp, fun _ => ⟨rfl, rfl, rfl⟩, hN0.out, hBz, Keeps.refl _ _, HP.out⟩
  case round =>
    obtain ⟨i, begun, n, b, l, rfl, rfl, hi, hl, hbg, hN', hB', hK', hgo⟩ := hrel
    have HN := Lib.hid hN'
    have HB := Lib.hid hB'
    have HK := Lib.hid hK'
    have HGo := Lib.hid hgo
    clear hK' hgo
    obtain ⟨vl, hgb, hge, hRl⟩ := hN'
    obtain ⟨Al, cl, rfl⟩ := Kd.R_slice hRl
    have hrr := HK.out _ _ _ _ hrz.out (by decide) (Ne.symm hgq)
    have hqe : w.heap.size ≤ q := Nat.le_of_eq HQ.out
    by_cases hlt : i < X.length
    case neg =>
      have hlt' : decide ((i : Int) < (X.length : Int)) = false := decide_eq_false (by omega)
      have hz := HGo.out
      rw [List.drop_eq_nil_of_le (by omega), parseGo] at hz
      have c0 := (blk_cell hgb 0).trans rfl
      have c1 := (blk_cell hgb 1).trans rfl
      have c2 := (blk_cell hgb 2).trans rfl
      have k0 := (blk_cell hrr 0).trans rfl
      have k1 := (blk_cell hrr 1).trans rfl
      have k2 := (blk_cell hrr 2).trans rfl
      have f0 := blk_frozen hrr 0
      have f1 := blk_frozen hrr 1
      have f2 := blk_frozen hrr 2
      cases begun
      · obtain ⟨rfl, rfl, rfl, rfl, rfl⟩ : 0 = r1 ∧ false = r2 ∧ [] = r3 ∧ 0 = r4 ∧ 50 = r5 := by simpa using hz
        have fz := net_copy (n := 0) (b := false) (v := .slice none 0 0) (l := []) rfl (Kd.R_nil _ _ _ _ _) hB' hrr hqe
        replace fz := Lib.hid fz
        clear hz hgb hrr hRl
        go_wp2
        (try simp only [Exit.inBlock, Exit.then])
        obtain ⟨z1, z2, z3, z4, z5⟩ := fz.out _ rfl
        refine bodyPost_ret (v := .tuple #[.agg #[.int .i64 0, .bool false, .slice none 0 0], .int .i64 0, .int .i64 50]) (by simp [results, Tryd.results16, go_sem, z1, z2, z3]) rfl ?_
        exact ⟨_, rfl, z4, z5⟩
      · obtain ⟨rfl, rfl, rfl, rfl, rfl⟩ : n = r1 ∧ b = r2 ∧ l = r3 ∧ 0 = r4 ∧ 0 = r5 := by simpa using hz
        have fz := net_copy (n := n) (b := b) rfl hRl hB' hrr hqe
        replace fz := Lib.hid fz
        clear hz hgb hrr hRl
        go_wp2
        (try simp only [Exit.inBlock, Exit.then])
        obtain ⟨z1, z2, z3, z4, z5⟩ := fz.out _ rfl
        refine bodyPost_ret (v := .tuple #[.agg #[.int .i64 n, .bool b, .slice Al l.length cl], .int .i64 0, .int .i64 0]) (by simp [results, Tryd.results16, go_sem, z1, z2, z3]) rfl ?_
        exact ⟨_, rfl, z4, z5⟩
    case pos =>
      have hlt' : decide ((i : Int) < (X.length : Int)) = true := decide_eq_true (by omega)
      have p1 : (0 ≤ (i : Int)) = True := eq_true (by omega)
      have q1 : ((i : Int) < (X.length : Int)) = True := eq_true (by omega)
      have hz := HGo.out
      rw [List.drop_eq_getElem_cons hlt, parseGo] at hz
      have hXi : rdOf ByteArray.empty X (i : Int) = X[i] := by simp [rdOf, hlt]
      have hsz := HLS.out _ (List.getElem_mem hlt)
      obtain ⟨cs1, hg1⟩ : ∃ cs, Wz.heap[g]? = some (.cells cs 24 (0, 0)) := by
        obtain ⟨v1, h1, _⟩ := hN0.out
        exact ⟨_, h1⟩
      have hRr := row_kept hRz.out HK.out hg1
      obtain ⟨A', c', e1, _, hCr⟩ := Kd.R_reads hRr
      injection e1 with e1 _ e2
      subst e1 e2
      obtain ⟨ad, rfl, x0⟩ := Kd.at_string hCr (i : Int) (by omega) (by omega)
      rw [hXi, Int.toNat_natCast] at x0
      generalize X[i] = s at hz hsz x0
      have hws : ∀ p ∈ wordsB s, p.size ≤ 4611686018427387904 := fun p hp => by have := word_le hp; omega
      have hidl : ∀ W, Calls Tryd.prog 34 #[.string s] W fun e w' => e = .returned (.bool (idleW (wordsB s))) ∧ Below W.heap.size W w' := fun W => by
        obtain ⟨k, hk⟩ := (refIdle_ev s hsz).rounds
        exact ebbtideref05_Idle.calls k s _ W hk
      have hwd : ∀ W, Calls Tryd.prog 35 #[.string s] W fun e w2 => ∃ v, e = .returned v ∧ Kd.R Kd.string 9 w2 W.heap.size (fun _ => True) v (wordsB s) ∧ Below W.heap.size W w2 := fun W => by
        obtain ⟨k, hk⟩ := (refWords s hsz).rounds
        exact ebbtideref04_Words.calls k s _ W hk
      generalize wordsB s = ws at hz hws hwd hidl
      have hX1 : wrap64 ((i : Int) + 1) = ((i + 1 : Nat) : Int) := w1n i (by omega)
      replace hz := Lib.hid hz
      replace hws := Lib.hid hws
      replace hwd := Lib.hid hwd
      replace hidl := Lib.hid hidl
      replace hX1 := Lib.hid hX1
      clear hRr hCr hXi
      by_cases hid : idleW ws = true
      case pos =>
        have hz2 := hz.out
        rw [if_pos hid] at hz2
        replace hz2 := Lib.hid hz2
        rw [hid] at hidl
        clear hz hid hgb hrr hRl hB'
        go_wp2_with (go_at_call 34; refine (hidl.out _).mono ?_; rintro e w2 ⟨rfl, hb2⟩)
        go_roundw
        case rel => exact ⟨i + 1, begun, n, b, l, by go_num, rfl, by omega, hl, hbg, HN.out.below hb2, below_step HB.out hb2, Keeps.trans HK.out (Keeps.below g hb2), hz2.out⟩
        case measure => simp [intOf]; omega
      case neg =>
        have hz2 := hz.out
        rw [if_neg hid] at hz2
        rw [Bool.eq_false_iff.2 hid] at hidl
        clear hz hid
        have hlen := lineF_len begun n b l ws hl
        have hstep : ∀ W2 : World, Below wr.heap.size wr W2 → ∀ (A2 : Option Addr) (c2 : Nat), ws.length ≤ c2 → Kd.C Kd.string W2 A2 ws.length ws →
            Calls Tryd.prog (if begun = true then 36 else 37) (if begun = true then #[.agg #[.int .i64 n, .bool b, .slice Al l.length cl], .slice A2 ws.length c2] else #[.slice A2 ws.length c2]) W2 fun e w3 => ∃ hn hbb hl A3 c3, e = .returned (.tuple #[.agg #[.int .i64 hn, .bool hbb, .slice A3 hl.length c3], .int .i64 (lineF begun n b l ws).1]) ∧
              Kd.R k37 37 w3 w.heap.size (fun _ => True) (.slice A3 hl.length c3) hl ∧ Below w.heap.size w w3 ∧ KeepsT W2 w3 ∧ ((lineF begun n b l ws).1 = 0 → hn = (lineF begun n b l ws).2.1 ∧ hbb = (lineF begun n b l ws).2.2.1 ∧ hl = (lineF begun n b l ws).2.2.2) := by
          intro W2 hb2 A2 c2 hc2 hC2
          cases begun
          · obtain ⟨rfl, rfl, rfl⟩ := hbg rfl
            obtain ⟨k, hk⟩ := (refHead_ev ws hws.out).rounds
            obtain ⟨e1, e2, e3⟩ := head_rel ws
            generalize hG : refHeadF ws = G at hk e1 e2 e3
            obtain ⟨h1, h2, h3, h4⟩ := G
            dsimp only at e1 e2 e3
            subst e2
            refine (ebbtideref05_Head.calls k A2 c2 ws h1 h2 [] h4 W2 hC2 hc2 hk).mono ?_
            rintro e w3 ⟨v, rfl, hR, hb3⟩
            obtain ⟨A3, c3, rfl⟩ := Kd.R_slice hR
            refine ⟨h1, h2, [], A3, c3, by simp [lineF, e1], Kd.R_lower hR (Nat.le_trans HB.out.size hb2.size), below_step (below_step HB.out hb2) hb3, fun k cs t fr hc _ => (hb3.block k (Array.getElem?_eq_some_iff.1 hc).1).trans hc, fun h => ?_⟩
            have := e3 (by simpa [lineF] using h)
            exact ⟨by simpa [lineF] using this.1, by simpa [lineF] using this.2, by simp [lineF]⟩
          · refine (refTail_walk n b l Al cl A2 c2 ws w W2 (Kd.R_below hRl hb2) (below_step HB.out hb2) hC2 hc2 hl hws.out).mono ?_
            rintro e w3 ⟨v, rfl, hR, hb3, hk3⟩
            obtain ⟨A3, c3, rfl⟩ := Kd.R_slice hR
            exact ⟨n, b, (tailF n l ws).2, A3, c3, by simp [lineF], hR, hb3, hk3, fun _ => by simp [lineF]⟩
        generalize lineF begun n b l ws = F at hz2 hstep hlen
        obtain ⟨fe, fn, fb, fl⟩ := F
        dsimp only at hz2 hstep hlen
        replace hstep := Lib.hid hstep
        by_cases he : fe = 0
        case pos =>
          have d9 : (fe == 0) = true := beq_iff_eq.mpr he
          have d10 : (fe != 0) = false := bne_eq_false_iff_eq.mpr he
          rw [if_pos he] at hz2
          replace hz2 := Lib.hid hz2
          have HE := Lib.hid he
          clear he hbg hrr hRl hB'
          cases begun
          all_goals
            go_wp2_with (first
              | (go_at_call 34; refine (hidl.out _).mono ?_; rintro e w2 ⟨rfl, hb2⟩; have x0 := pw_cell_below hb2 x0)
              | (go_at_call 35; refine (hwd.out _).mono ?_; rintro e w3 ⟨vw, rfl, hRw, hb3⟩; obtain ⟨Aw, cw, rfl, hcw, hCw⟩ := Kd.R_reads hRw; have hb23 := below_step hb2 hb3; have hg3 := (hb23.block g (blk_lt hgb)).trans hgb; have c0 := (blk_cell hg3 0).trans rfl; have c1 := (blk_cell hg3 1).trans rfl; have c2 := (blk_cell hg3 2).trans rfl; replace hRw := Lib.hid hRw; replace hCw := Lib.hid hCw; replace hg3 := Lib.hid hg3)
              | ((first | go_at_call 36 | go_at_call 37); refine (hstep.out w3 hb23 _ _ hcw hCw.out).mono ?_; rintro e w4 ⟨hn, hbb, hl', A3, c3, rfl, hR4, hB4, hK4, hrel⟩; have hg4 := hK4 _ _ _ _ hg3.out (by decide); have hst := net_store (n := hn) (b := hbb) rfl hR4 hB4 hg4 hge; have c0 := (blk_cell hg4 0).trans rfl; have c1 := (blk_cell hg4 1).trans rfl; have c2 := (blk_cell hg4 2).trans rfl; have f0 := blk_frozen hg4 0; have f1 := blk_frozen hg4 1; have f2 := blk_frozen hg4 2; replace hst := Lib.hid hst; replace hR4 := Lib.hid hR4; replace hrel := Lib.hid hrel; replace hg4 := Lib.hid hg4))
            go_roundw
            case rel =>
              obtain ⟨e1, e2, e3⟩ := hrel.out HE.out
              subst e1 e2 e3
              obtain ⟨y1, y2, y3⟩ := hst.out _ rfl
              exact ⟨i + 1, true, hn, hbb, hl', by go_num, rfl, by omega, hlen, (fun h => by cases h), y1, y2, Keeps.trans HK.out (Keeps.trans (Keeps.below g hb23) (Keeps.trans (fun k cs t fr hc ht _ => hK4 k cs t fr hc ht) y3)), hz2.out⟩
            case measure => simp [intOf]; omega
        case neg =>
          have d9 : (fe == 0) = false := beq_eq_false_iff_ne.mpr he
          have d10 : (fe != 0) = true := bne_iff_ne.mpr he
          rw [if_neg he] at hz2
          obtain ⟨rfl, rfl, rfl, rfl, rfl⟩ : 0 = r1 ∧ false = r2 ∧ [] = r3 ∧ ((i + 1 : Nat) : Int) = r4 ∧ fe = r5 := by simpa using hz2
          clear hz2 hbg hRl hB'
          cases begun
          all_goals
            go_wp2_with (first
              | (go_at_call 34; refine (hidl.out _).mono ?_; rintro e w2 ⟨rfl, hb2⟩; have x0 := pw_cell_below hb2 x0)
              | (go_at_call 35; refine (hwd.out _).mono ?_; rintro e w3 ⟨vw, rfl, hRw, hb3⟩; obtain ⟨Aw, cw, rfl, hcw, hCw⟩ := Kd.R_reads hRw; have hb23 := below_step hb2 hb3; have hg3 := (hb23.block g (blk_lt hgb)).trans hgb; have c0 := (blk_cell hg3 0).trans rfl; have c1 := (blk_cell hg3 1).trans rfl; have c2 := (blk_cell hg3 2).trans rfl; replace hRw := Lib.hid hRw; replace hCw := Lib.hid hCw; replace hg3 := Lib.hid hg3)
              | ((first | go_at_call 36 | go_at_call 37); refine (hstep.out w3 hb23 _ _ hcw hCw.out).mono ?_; rintro e w4 ⟨hn, hbb, hl', A3, c3, rfl, hR4, hB4, hK4, hrel⟩; have hg4 := hK4 _ _ _ _ hg3.out (by decide); have hst := net_store (n := hn) (b := hbb) rfl hR4 hB4 hg4 hge; have c0 := (blk_cell hg4 0).trans rfl; have c1 := (blk_cell hg4 1).trans rfl; have c2 := (blk_cell hg4 2).trans rfl; have f0 := blk_frozen hg4 0; have f1 := blk_frozen hg4 1; have f2 := blk_frozen hg4 2; replace hst := Lib.hid hst; replace hR4 := Lib.hid hR4; replace hrel := Lib.hid hrel; replace hg4 := Lib.hid hg4; have hq4 := hK4 _ _ _ _ ((hb23.block q (blk_lt hrr)).trans hrr) (by decide); have hqq : (((w4.setCell ⟨g, 0, none⟩ (.int .i64 hn)).setCell ⟨g, 1, none⟩ (.bool hbb)).setCell ⟨g, 2, none⟩ (.slice A3 hl'.length c3)).heap[q]? = some (.cells #[.int .i64 0, .bool false, .slice none 0 0] 24 (0, 0)) := (Below.heap_setCell _ ⟨g, 2, none⟩ _ q (Ne.symm hgq)).trans ((Below.heap_setCell _ ⟨g, 1, none⟩ _ q (Ne.symm hgq)).trans ((Below.heap_setCell _ ⟨g, 0, none⟩ _ q (Ne.symm hgq)).trans hq4)); have k0 := (blk_cell hqq 0).trans rfl; have k1 := (blk_cell hqq 1).trans rfl; have k2 := (blk_cell hqq 2).trans rfl; have f3 := blk_frozen hqq 0; have f4 := blk_frozen hqq 1; have f5 := blk_frozen hqq 2; replace hqq := Lib.hid hqq))
            (try simp only [Exit.inBlock, Exit.then])
            obtain ⟨z1, z2, z3, z4, z5⟩ := net_copy (n := 0) (b := false) (v := .slice none 0 0) (l := []) rfl (Kd.R_nil _ _ _ _ _) (hst.out _ rfl).2.1 hqq.out hqe _ rfl
            refine bodyPost_ret (v := .tuple #[.agg #[.int .i64 0, .bool false, .slice none 0 0], .int .i64 ((i + 1 : Nat) : Int), .int .i64 fe]) (by simp [results, Tryd.results16, go_sem, z1, z2, z3]; done) rfl ?_
            exact ⟨_, rfl, z4, z5⟩

theorem ebbtideref05_Parse.calls (a0 : ByteArray) (r1 : Int) (r2 : Bool) (r3 : List S37) (r4 r5 : Int) (w : World) (h : ebbtideref05_Parse.f a0 = some (r1, r2, r3, r4, r5)) :
    Calls Tryd.prog 16 #[.string a0] w fun e w' => ∃ v0_ : Value, e = .returned (.tuple #[.agg #[.int .i64 r1, .bool r2, v0_], .int .i64 r4, .int .i64 r5]) ∧ Kd.R k37 37 w' w.heap.size (fun _ => True) v0_ r3 ∧ Below w.heap.size w w' := by
  unfold ebbtideref05_Parse.f at h
  split at h
  case isFalse => cases h
  rename_i hs
  have hp := refParse_walk a0 w hs
  rw [Option.some.inj h] at hp
  exact hp
end Go.Proofs.YthalacoockoomaaDoor.H
