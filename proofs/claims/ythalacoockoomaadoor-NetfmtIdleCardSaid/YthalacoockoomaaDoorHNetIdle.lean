/- Layer netfmt: the plain laws on lines that say nothing, and on one arc more. -/
import Derived.Test.YthalacoockoomaaDoorHNetLines
import Derived.Test.YthalacoockoomaaDoorPrint10
namespace Go.Proofs.YthalacoockoomaaDoor.PureNet
open Go.RowKit Go.Proofs.YthalacoockoomaaDoor.H Go.Proofs.YthalacoockoomaaDoor.Print Go.Proofs.YthalacoockoomaaDoor.PrintB Go.Proofs.YthalacoockoomaaDoor.PureWord Go.Proofs.YthalacoockoomaaDoorW.PrintWords Go.Proofs.YthalacoockoomaaDoorW.PrintLast

/-! ### spread -/
def sp (l : List UInt8) : List UInt8 := l.flatMap fun c => if c = 32 then [32, 32, 32] else [c]
def spLine (l : List UInt8) : List UInt8 := [35, 32] ++ l ++ [10, 32, 10, 32] ++ sp l ++ [32, 10]
theorem sp_len (l : List UInt8) : (sp l).length ≤ 3 * l.length := by
  induction l with
  | nil => simp [sp]
  | cons x l ih =>
    unfold sp at ih ⊢
    rw [List.flatMap_cons, List.length_append, List.length_cons]
    split <;> simp only [List.length_cons, List.length_nil] <;> omega
theorem spLine_len (l : List UInt8) : (spLine l).length ≤ 4 * l.length + 8 := by
  have := sp_len l
  unfold spLine
  simp only [List.length_append, List.length_cons, List.length_nil]
  omega
theorem sp_take (l : List UInt8) (i : Nat) (h : i < l.length) : sp (l.take (i + 1)) = sp (l.take i) ++ (if l[i] = 32 then [32, 32, 32] else [l[i]]) := by
  unfold sp
  rw [List.take_succ_eq_append_getElem h, List.flatMap_append]
  simp
theorem flat_len (ls : List (List UInt8)) (m : Nat) (h : ∀ l ∈ ls, l.length ≤ m) : (ls.flatMap spLine).length ≤ (4 * m + 8) * ls.length := by
  induction ls with
  | nil => simp
  | cons x ls ih =>
    have h1 := spLine_len x
    have h2 := h x (by simp)
    have h3 := ih (fun l hl => h l (by simp [hl]))
    rw [List.flatMap_cons, List.length_append, List.length_cons, Nat.mul_succ]
    omega
theorem cut1 (l : List UInt8) (i : Nat) (h : i < l.length) : (mkB l).extract i (i + 1) = mkB [l[i]] := by
  rw [extract_seg, seg_succ (mkB l) i i (by rw [mkB_size]; exact h) (Nat.le_refl _), seg_self, List.nil_append]
  simp [mkB]
theorem spread1 (ls : List (List UInt8)) (j : Nat) (hj : j < ls.length) (hls : ls.length ≤ 4611686018427387) (A : List UInt8) (hA : A.length ≤ 4611686018427387904) (hm : ls[j].length ≤ 461168601842738790) (R : ByteArray)
    (hend : Ev (fun k => ebbtidelaw05_spread.l0 k (ls.map mkB) (mkB (A ++ sp ls[j] ++ [32, 10])) ((j + 1 : Nat) : Int)) R) : ∀ (d i : Nat), i + d = ls[j].length →
    Ev (fun k => ebbtidelaw05_spread.l1 k (ls.map mkB) (mkB (A ++ sp (ls[j].take i))) (j : Int) (i : Int)) R
  | 0, i, hi => by
    have htk : ls[j].take i = ls[j] := List.take_of_length_le (by omega)
    have hsp := sp_len ls[j]
    rw [htk]
    refine Ev.step (fun k => ?_) hend
    simp only [ebbtidelaw05_spread.l1]
    rw [if_pos (by omega), if_pos (by simp; omega), rdM ls j hj, if_neg (by rw [mkB_size]; omega), if_pos (by rw [mkB_size, List.length_append]; omega), w1 j (by omega)]
    rw [← mkB_append]
    rfl
  | d + 1, i, hi => by
    have hlt : i < ls[j].length := by omega
    have hsp := sp_len (ls[j].take i)
    have htl : (ls[j].take i).length ≤ i := List.length_take_le _ _
    have ih := spread1 ls j hj hls A hA hm R hend d (i + 1) (by omega)
    rw [sp_take _ i hlt] at ih
    have hbt : bt (mkB ls[j]) (i : Int) = (ls[j][i].toNat : Int) := by
      rw [bt_nat (mkB ls[j]) i (by rw [mkB_size]; exact hlt)]
      simp [mkB]
    refine Ev.step (fun k => ?_) ih
    simp only [ebbtidelaw05_spread.l1]
    rw [if_pos (by omega), if_pos (by simp; omega), rdM ls j hj, if_pos (by rw [mkB_size]; omega), if_pos (by omega), w1 i (by omega), if_pos (by omega), if_pos (by rw [mkB_size]; omega), Int.toNat_natCast, Int.toNat_natCast, cut1 _ i hlt,
      if_pos (by rw [mkB_size, mkB_size, List.length_append]; simp; omega), hbt, mkB_append, List.append_assoc]
    by_cases h32 : ls[j][i] = 32
    · rw [if_pos (by rw [h32]; rfl), if_pos (by rw [mkB_size]; simp; omega), if_pos h32]
      have e : (⟨#[32, 32]⟩ : ByteArray) = mkB [32, 32] := rfl
      rw [e, mkB_append, h32]
      simp
    · rw [if_neg (by intro e; exact h32 ((isByte _ 32 (by decide)).1 e)), if_neg h32]
theorem spread0 (ls : List (List UInt8)) (m : Nat) (hm : ∀ l ∈ ls, l.length ≤ m) (hb : (4 * m + 8) * (ls.length + 1) ≤ 4611686018427387) : ∀ (d j : Nat), j + d = ls.length →
    Ev (fun k => ebbtidelaw05_spread.l0 k (ls.map mkB) (mkB ((ls.take j).flatMap spLine)) (j : Int)) (mkB (ls.flatMap spLine))
  | 0, j, hj => by
    have htk : ls.take j = ls := List.take_of_length_le (by omega)
    rw [htk]
    refine Ev.step (f := fun _ => _) (fun k => ?_) (Ev.now _)
    simp only [ebbtidelaw05_spread.l0]
    rw [if_neg (by simp; omega)]
  | d + 1, j, hj => by
    have hlt : j < ls.length := by omega
    have hlm := hm _ (List.getElem_mem hlt)
    have hfl := flat_len (ls.take j) m (fun l hl => hm l (List.mem_of_mem_take hl))
    have htl : (ls.take j).length ≤ ls.length := by rw [List.length_take]; omega
    have hmul : (4 * m + 8) * (ls.take j).length ≤ (4 * m + 8) * (ls.length + 1) := Nat.mul_le_mul_left _ (by omega)
    have hmul2 : (4 * m + 8) * 1 ≤ (4 * m + 8) * (ls.length + 1) := Nat.mul_le_mul_left _ (by omega)
    have hmul3 : 8 * (ls.length + 1) ≤ (4 * m + 8) * (ls.length + 1) := Nat.mul_le_mul_right _ (by omega)
    have ih := spread0 ls m hm hb d (j + 1) (by omega)
    have e1 : (ls.take (j + 1)).flatMap spLine = ((ls.take j).flatMap spLine ++ [35, 32] ++ ls[j] ++ [10, 32, 10, 32]) ++ sp ls[j] ++ [32, 10] := by
      rw [List.take_succ_eq_append_getElem hlt, List.flatMap_append]
      simp [spLine]
    rw [e1] at ih
    have h1 := spread1 ls j hlt (by omega) ((ls.take j).flatMap spLine ++ [35, 32] ++ ls[j] ++ [10, 32, 10, 32]) (by simp only [List.length_append, List.length_cons, List.length_nil]; omega) (by omega) _ ih ls[j].length 0 (by omega)
    rw [List.take_zero] at h1
    refine Ev.step (fun k => ?_) h1
    simp only [ebbtidelaw05_spread.l0]
    have e2 : (⟨#[35, 32]⟩ : ByteArray) = mkB [35, 32] := rfl
    have e3 : (⟨#[10, 32, 10, 32]⟩ : ByteArray) = mkB [10, 32, 10, 32] := rfl
    rw [if_pos (by simp; omega), if_pos (by rw [mkB_size]; omega), if_pos (by omega), rdM ls j hlt, e2, e3, mkB_append, mkB_append, mkB_append, if_pos (by rw [mkB_size, mkB_size]; simp only [List.length_append, List.length_cons, List.length_nil]; omega), if_pos (by rw [mkB_size]; simp only [List.length_append, List.length_cons, List.length_nil]; omega)]
    simp [sp]
theorem spread_ev (s : ByteArray) (hs : s.size ≤ 2000) : Ev (fun k => ebbtidelaw05_spread.f k s) (mkB ((rawL s).flatMap spLine)) := by
  have h1 := lines_len s.data.toList []
  have h2 := lines_each s.data.toList []
  rw [size_len] at h1
  refine Ev.bind (refLines s (by omega)) ?_
  rw [linesB_raw]
  have hb : (4 * 2000 + 8) * ((rawL s).length + 1) ≤ 4611686018427387 := by unfold rawL; omega
  have := spread0 (rawL s) 2000 (fun l hl => by have := h2 l hl; rw [size_len] at this; simp at this; omega) hb (rawL s).length 0 (by omega)
  rw [List.take_zero] at this
  exact this

/-! ### the lines and the words of what is spread -/
theorem linesGo_app : ∀ (a r cur : List UInt8), 10 ∉ a → linesGo cur (a ++ r) = linesGo (cur ++ a) r
  | [], r, cur, _ => by simp
  | x :: a, r, cur, h => by
    have h1 : x ≠ 10 := fun e => h (by simp [e])
    have h2 : 10 ∉ a := fun e => h (by simp [e])
    rw [List.cons_append, linesGo, if_neg h1, linesGo_app a r _ h2, List.append_assoc]
    rfl
theorem sp_no10 (l : List UInt8) (h : 10 ∉ l) : 10 ∉ sp l := by
  unfold sp
  intro hm
  obtain ⟨c, hc, h2⟩ := List.mem_flatMap.1 hm
  split at h2
  · revert h2; decide
  · rw [List.mem_singleton] at h2
    exact h (h2 ▸ hc)
def three (l : List UInt8) : List (List UInt8) := [[35, 32] ++ l, [32], 32 :: (sp l ++ [32])]
theorem lines_spread : ∀ ls : List (List UInt8), (∀ l ∈ ls, 10 ∉ l) → linesGo [] (ls.flatMap spLine) = ls.flatMap three
  | [], _ => rfl
  | l :: ls, h => by
    have hl := h l (by simp)
    rw [List.flatMap_cons, List.flatMap_cons]
    have e : spLine l ++ ls.flatMap spLine = ([35, 32] ++ l) ++ 10 :: ([32] ++ 10 :: ((32 :: (sp l ++ [32])) ++ 10 :: ls.flatMap spLine)) := by simp [spLine]
    rw [e, lines_cut _ _ _ (by simp [hl]), lines_cut _ _ _ (by decide), lines_cut _ _ _ (by simp [sp_no10 l hl]), lines_spread ls (fun x hx => h x (by simp [hx]))]
    rfl
theorem words_sp : ∀ (l cur : List UInt8), wordsGo cur (sp l ++ [32]) = wordsGo cur l
  | [], cur => by
    show wordsGo cur [32] = wordsGo cur []
    simp only [wordsGo]
    by_cases h : cur = [] <;> simp [h]
  | x :: l, cur => by
    unfold sp
    rw [List.flatMap_cons]
    by_cases hx : x = 32
    · subst hx
      have ih := words_sp l []
      unfold sp at ih
      have e : ∀ r : List UInt8, wordsGo [] (32 :: r) = wordsGo [] r := fun r => by rw [wordsGo, if_pos rfl, if_pos rfl]
      rw [if_pos rfl]
      show wordsGo cur (32 :: 32 :: 32 :: (l.flatMap _ ++ [32])) = _
      rw [wordsGo, if_pos rfl, e, e, ih]
      conv => rhs; rw [wordsGo]
      rw [if_pos rfl]
    · have ih := words_sp l (cur ++ [x])
      unfold sp at ih
      rw [if_neg hx]
      show wordsGo cur (x :: (l.flatMap _ ++ [32])) = _
      rw [wordsGo, if_neg hx, ih]
      conv => rhs; rw [wordsGo]
      rw [if_neg hx]
theorem words3 (l : List UInt8) : wordsB (mkB (32 :: (sp l ++ [32]))) = wordsB (mkB l) := by
  rw [wordsB_eq, wordsB_eq, mkB_data, mkB_data, wordsGo, if_pos rfl, if_pos rfl, words_sp]
theorem idle2 : idleW (wordsB (mkB [32])) = true := by
  rw [wordsB_eq, mkB_data]
  rfl
theorem idle1 (l : List UInt8) : idleW (wordsB (mkB ([35, 32] ++ l))) = true := by
  rw [wordsB_eq, mkB_data]
  show idleW ((wordsGo [] (35 :: 32 :: l)).map mkB) = true
  rw [wordsGo, if_neg (by decide), List.nil_append, wordsGo, if_pos rfl, if_neg (by simp), List.map_cons]
  unfold idleW
  rw [rd0]
  have : bt (mkB [35]) 0 = 35 := rfl
  rw [this]
  simp
theorem parse_three : ∀ (ls : List (List UInt8)) (i : Nat) (begun : Bool) (n : Int) (b : Bool) (l : List S37),
    parseGo ((ls.flatMap three).map mkB) (3 * i) begun n b l = ((parseGo (ls.map mkB) i begun n b l).1, (parseGo (ls.map mkB) i begun n b l).2.1, (parseGo (ls.map mkB) i begun n b l).2.2.1, 3 * (parseGo (ls.map mkB) i begun n b l).2.2.2.1, (parseGo (ls.map mkB) i begun n b l).2.2.2.2)
  | [], i, begun, n, b, l => by
    simp only [List.flatMap_nil, List.map_nil]
    rw [parseGo, parseGo]
    split <;> rfl
  | x :: ls, i, begun, n, b, l => by
    have e : ((x :: ls).flatMap three).map mkB = mkB ([35, 32] ++ x) :: mkB [32] :: mkB (32 :: (sp x ++ [32])) :: (ls.flatMap three).map mkB := by simp [three]
    rw [e, parseGo, if_pos (idle1 x), parseGo, if_pos idle2, parseGo, words3, List.map_cons, parseGo]
    have ei : 3 * i + 1 + 1 + 1 = 3 * (i + 1) := by omega
    rw [ei]
    by_cases h1 : idleW (wordsB (mkB x)) = true
    · rw [if_pos h1, if_pos h1]
      exact parse_three ls (i + 1) begun n b l
    · rw [if_neg h1, if_neg h1]
      by_cases h2 : (lineF begun n b l (wordsB (mkB x))).1 = 0
      · rw [if_pos h2, if_pos h2]
        exact parse_three ls (i + 1) true _ _ _
      · rw [if_neg h2, if_neg h2]
        have : ((3 * (i + 1) : Nat) : Int) = 3 * ((i + 1 : Nat) : Int) := by omega
        rw [this]
theorem parse_line : ∀ (ls : List ByteArray) (i : Nat) (begun : Bool) (n : Int) (b : Bool) (l : List S37), 0 ≤ (parseGo ls i begun n b l).2.2.2.1 ∧ (parseGo ls i begun n b l).2.2.2.1 ≤ ((i + ls.length : Nat) : Int)
  | [], i, begun, n, b, l => by
    rw [parseGo]
    split
    · exact ⟨Int.le_refl _, Int.natCast_nonneg _⟩
    · exact ⟨Int.le_refl _, Int.natCast_nonneg _⟩
  | x :: ls, i, begun, n, b, l => by
    have q : i + 1 + ls.length = i + (x :: ls).length := by simp; omega
    rw [parseGo]
    split
    · have := parse_line ls (i + 1) begun n b l
      rw [q] at this
      exact this
    · split
      · have := parse_line ls (i + 1) true (lineF begun n b l (wordsB x)).2.1 (lineF begun n b l (wordsB x)).2.2.1 (lineF begun n b l (wordsB x)).2.2.2
        rw [q] at this
        exact this
      · show (0 : Int) ≤ ((i + 1 : Nat) : Int) ∧ ((i + 1 : Nat) : Int) ≤ _
        simp
        omega
end Go.Proofs.YthalacoockoomaaDoor.PureNet
