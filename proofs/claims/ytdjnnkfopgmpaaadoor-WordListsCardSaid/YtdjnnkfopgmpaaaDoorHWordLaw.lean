/- Plain laws on lines, words, numbers and numerals. No program in sight. -/
import Derived.Test.YtdjnnkfopgmpaaaDoorHWordPure
import Derived.Test.YtdjnnkfopgmpaaaDoorHSplit
import Derived.Lib.ItoaNum
namespace Go.Proofs.YtdjnnkfopgmpaaaDoor.H

/-! ### lines -/
/-- The lines loop of the reference: what stands since the last line end, and what is left. -/
def linesGo (cur : List UInt8) : List UInt8 → List (List UInt8)
  | [] => if cur = [] then [] else [cur]
  | x :: l => if x = 10 then cur :: linesGo [] l else linesGo (cur ++ [x]) l

def noEmptyEnd (ps : List (List UInt8)) : List (List UInt8) := if ps.getLast? = some [] then ps.dropLast else ps
theorem noEmptyEnd_cons (p : List UInt8) (ps : List (List UInt8)) (h : ps ≠ []) : noEmptyEnd (p :: ps) = p :: noEmptyEnd ps := by
  unfold noEmptyEnd
  obtain ⟨q, qs, rfl⟩ := List.exists_cons_of_ne_nil h
  rw [List.getLast?_cons_cons, List.dropLast_cons_cons]
  split <;> rfl

theorem linesGo_eq : ∀ (l cur : List UInt8), 10 ∉ cur → linesGo cur l = noEmptyEnd (splitL 10 (cur ++ l))
  | [], cur, h => by
    rw [List.append_nil, splitL_none 10 cur h, linesGo, noEmptyEnd]
    simp
  | x :: l, cur, h => by
    rw [linesGo]
    by_cases hx : x = 10
    · subst hx
      rw [if_pos rfl, splitL_cut 10 cur l h, noEmptyEnd_cons _ _ (splitL_ne 10 l), linesGo_eq l [] (by simp)]
      rfl
    · rw [if_neg hx, linesGo_eq l (cur ++ [x]) (by simp [h]; exact fun e => hx e.symm), List.append_assoc]
      rfl

theorem splitL_end (c : UInt8) : ∀ l : List UInt8, splitL c (l ++ [c]) = splitL c l ++ [[]]
  | [] => by simp [splitL]
  | x :: l => by
    rw [List.cons_append, splitL, splitL, splitL_end c l]
    by_cases hx : x = c
    · simp [hx]
    · rw [if_neg hx, if_neg hx]
      cases hs : splitL c l with
      | nil => exact absurd hs (splitL_ne c l)
      | cons p ps => simp

theorem splitL_last (c : UInt8) : ∀ l : List UInt8, (splitL c l).getLast? = some [] → l = [] ∨ ∃ a, l = a ++ [c]
  | [], _ => .inl rfl
  | x :: l, h => by
    refine .inr ?_
    rw [splitL] at h
    by_cases hx : x = c
    · subst hx
      rw [if_pos rfl] at h
      obtain ⟨p, ps, hp⟩ := List.exists_cons_of_ne_nil (splitL_ne x l)
      rw [hp, List.getLast?_cons_cons, ← hp] at h
      rcases splitL_last x l h with rfl | ⟨a, rfl⟩
      · exact ⟨[], rfl⟩
      · exact ⟨x :: a, rfl⟩
    · rw [if_neg hx] at h
      obtain ⟨p, ps, hp⟩ := List.exists_cons_of_ne_nil (splitL_ne c l)
      rw [hp] at h
      cases ps with
      | nil => simp at h
      | cons q qs =>
        simp only [List.getLast?_cons_cons] at h
        rcases splitL_last c l (by rw [hp, List.getLast?_cons_cons]; exact h) with rfl | ⟨a, rfl⟩
        · simp [splitL] at hp
        · exact ⟨x :: a, rfl⟩

theorem trimSuffix_cases (l : List UInt8) : (∃ a, l = a ++ [10] ∧ Lib.trimSuffix l [10] = a) ∨ ((∀ a, l ≠ a ++ [10]) ∧ Lib.trimSuffix l [10] = l) := by
  unfold Lib.trimSuffix Lib.hasSuffix
  by_cases h : [10] <:+ l
  · obtain ⟨a, rfl⟩ := h
    refine .inl ⟨a, rfl, ?_⟩
    rw [if_pos (List.isSuffixOf_iff_suffix.2 ⟨a, rfl⟩)]
    simp
  · refine .inr ⟨fun a e => h ⟨a, e.symm⟩, ?_⟩
    rw [if_neg (fun e => h (List.isSuffixOf_iff_suffix.1 e))]

theorem lines_trim (l : List UInt8) (h : l ≠ []) : splitL 10 (Lib.trimSuffix l [10]) = linesGo [] l := by
  rw [linesGo_eq l [] (by simp), List.nil_append]
  rcases trimSuffix_cases l with ⟨a, rfl, ht⟩ | ⟨hn, ht⟩
  · rw [ht, splitL_end]
    unfold noEmptyEnd
    simp
  · rw [ht]
    unfold noEmptyEnd
    rw [if_neg]
    intro e
    rcases splitL_last 10 l e with e | ⟨a, e⟩
    · exact h e
    · exact hn a e

/-! ### words -/
def wordsGo (cur : List UInt8) : List UInt8 → List (List UInt8)
  | [] => if cur = [] then [] else [cur]
  | x :: l => if x = 32 then (if cur = [] then wordsGo [] l else cur :: wordsGo [] l) else wordsGo (cur ++ [x]) l

theorem wordsGo_eq : ∀ (l cur : List UInt8), 32 ∉ cur → wordsGo cur l = (splitL 32 (cur ++ l)).filter fun p => decide (p ≠ [])
  | [], cur, h => by
    rw [List.append_nil, splitL_none 32 cur h, wordsGo]
    by_cases hc : cur = [] <;> simp [hc]
  | x :: l, cur, h => by
    rw [wordsGo]
    by_cases hx : x = 32
    · subst hx
      rw [if_pos rfl, splitL_cut 32 cur l h, wordsGo_eq l [] (by simp)]
      by_cases hc : cur = [] <;> simp [hc]
    · rw [if_neg hx, wordsGo_eq l (cur ++ [x]) (by simp [h]; exact fun e => hx e.symm), List.append_assoc]
      rfl

/-! ### numbers -/
def isDig (c : UInt8) : Prop := 48 ≤ (c.toNat : Int) ∧ (c.toNat : Int) ≤ 57
instance (c : UInt8) : Decidable (isDig c) := by unfold isDig; infer_instance
/-- The number that digits say, behind n. -/
def valF (n : Int) : List UInt8 → Int
  | [] => n
  | c :: l => valF (10 * n + ((c.toNat : Int) - 48)) l

theorem numGo_bad : ∀ (l : List UInt8) (n : Int), ¬ (∀ c ∈ l, isDig c) → numGo l n = none
  | [], _, h => absurd (fun c hc => by simp at hc) h
  | c :: l, n, h => by
    rw [numGo]
    by_cases hc : isDig c
    · have h1 := hc.1
      have h2 := hc.2
      rw [if_neg (by omega)]
      exact numGo_bad l _ (fun h' => h (fun d hd => by
        rcases List.mem_cons.1 hd with e | e
        · rw [e]; exact hc
        · exact h' d e))
    · rw [if_pos]
      unfold isDig at hc
      omega

theorem numGo_good : ∀ (l : List UInt8) (n : Int), (∀ c ∈ l, isDig c) → ∃ m, numGo l n = some m
  | [], n, _ => ⟨n, rfl⟩
  | c :: l, n, h => by
    have hc := h c (by simp)
    have h1 := hc.1
    have h2 := hc.2
    rw [numGo, if_neg (by omega)]
    exact numGo_good l _ (fun d hd => h d (by simp [hd]))

theorem pow10_le {a b : Nat} (h : a ≤ b) : (10 : Int) ^ a ≤ 10 ^ b := by
  have := Nat.pow_le_pow_right (n := 10) (by decide) h
  exact_mod_cast this

theorem numGo_val : ∀ (l : List UInt8) (n : Int) (a : Nat), (∀ c ∈ l, isDig c) → 0 ≤ n → n < 10 ^ a → a + l.length ≤ 18 → numGo l n = some (valF n l)
  | [], n, _, _, _, _, _ => rfl
  | c :: l, n, a, h, h0, ha, hl => by
    have hc := h c (by simp)
    have h1 := hc.1
    have h2 := hc.2
    rw [List.length_cons] at hl
    have hp : (10 : Int) ^ a ≤ 10 ^ 17 := pow10_le (by omega)
    have h17 : (10 : Int) ^ 17 = 100000000000000000 := by decide
    rw [numGo, if_neg (by omega), if_pos (by omega), valF]
    refine numGo_val l _ (a + 1) (fun d hd => h d (by simp [hd])) (by omega) ?_ (by omega)
    rw [Int.pow_succ]
    omega

theorem valF_append : ∀ (l r : List UInt8) (n : Int), valF n (l ++ r) = valF (valF n l) r
  | [], _, _ => rfl
  | c :: l, r, n => by rw [List.cons_append, valF, valF, valF_append l r]

theorem valF_lt : ∀ (l : List UInt8) (n : Int) (a : Nat), (∀ c ∈ l, isDig c) → 0 ≤ n → n < 10 ^ a → 0 ≤ valF n l ∧ valF n l < 10 ^ (a + l.length)
  | [], n, a, _, h0, ha => ⟨h0, by rw [valF]; simpa using ha⟩
  | c :: l, n, a, h, h0, ha => by
    have hc := h c (by simp)
    have h1 := hc.1
    have h2 := hc.2
    have := valF_lt l (10 * n + ((c.toNat : Int) - 48)) (a + 1) (fun d hd => h d (by simp [hd])) (by omega) (by rw [Int.pow_succ]; omega)
    rw [valF, List.length_cons]
    rw [show a + (l.length + 1) = a + 1 + l.length by omega]
    exact this

end Go.Proofs.YtdjnnkfopgmpaaaDoor.H
