/- WordBack, WordNumbers, WordTexts, WordSplits: the plain statements. -/
import Derived.Test.YtdjnnkfopgmpaaaDoorHPureTexts
namespace Go.Proofs.YtdjnnkfopgmpaaaDoor.PureWord
open Go.RowKit Go.Proofs.YtdjnnkfopgmpaaaDoor.H Go.Proofs.YtdjnnkfopgmpaaaDoor.Print Go.Proofs.YtdjnnkfopgmpaaaDoorW.PrintWords Go.Proofs.YtdjnnkfopgmpaaaDoorW.PrintLast

theorem head_app {a b : List UInt8} (h : a ≠ []) : (a ++ b).head? = a.head? := by
  cases a with
  | nil => exact absurd rfl h
  | cons x l => rfl
theorem snoc_of : ∀ {d : List UInt8}, d ≠ [] → ∃ d' c, d = d' ++ [c]
  | [x], _ => ⟨[], x, rfl⟩
  | x :: y :: l, _ => by
    obtain ⟨d', c, h⟩ := snoc_of (d := y :: l) (by simp)
    exact ⟨x :: d', c, by rw [h]; rfl⟩
theorem dig_of (d : Nat) (h : d < 10) : isDig (UInt8.ofNat (48 + d)) ∧ ((UInt8.ofNat (48 + d)).toNat : Int) = 48 + d := by
  have e : (UInt8.ofNat (48 + d)).toNat = 48 + d := by simp; omega
  unfold isDig
  omega

theorem dec_digs (u : Nat) : ∀ c ∈ Lib.decDigits u, isDig c := by
  induction u using Nat.strongRecOn with
  | _ u ih =>
    intro c hc
    rw [Lib.decDigits] at hc
    split at hc
    · rename_i h
      rw [List.mem_singleton] at hc
      rw [hc]
      exact (dig_of u h).1
    · rcases List.mem_append.1 hc with h | h
      · exact ih (u / 10) (by omega) c h
      · rw [List.mem_singleton] at h
        rw [h]
        exact (dig_of (u % 10) (by omega)).1
theorem dec_val (u : Nat) : valF 0 (Lib.decDigits u) = (u : Int) := by
  induction u using Nat.strongRecOn with
  | _ u ih =>
    rw [Lib.decDigits]
    split
    · rename_i h
      have := (dig_of u h).2
      simp only [valF]
      omega
    · rw [valF_append, ih (u / 10) (by omega)]
      have := (dig_of (u % 10) (by omega)).2
      simp only [valF]
      omega
theorem dec_ne (u : Nat) : Lib.decDigits u ≠ [] := by
  rw [Lib.decDigits]
  split <;> simp
theorem dec_head (u : Nat) (h : 0 < u) : (Lib.decDigits u).head? ≠ some 48 := by
  induction u using Nat.strongRecOn with
  | _ u ih =>
    rw [Lib.decDigits]
    split
    · rename_i h10
      have := (dig_of u h10).2
      intro e
      have e' := Option.some.inj e
      rw [e'] at this
      simp at this
      omega
    · rw [head_app (dec_ne _)]
      exact ih (u / 10) (by omega) (by omega)
theorem dec_len (u : Nat) : (Lib.decDigits u).length ≤ 18 ↔ u < 1000000000000000000 := by
  constructor
  · intro h
    have h1 := (valF_lt (Lib.decDigits u) 0 0 (dec_digs u) (by omega) (by decide)).2
    rw [dec_val] at h1
    have h2 : (10 : Int) ^ (0 + (Lib.decDigits u).length) ≤ 10 ^ 18 := pow10_le (by omega)
    have h18 : (10 : Int) ^ 18 = 1000000000000000000 := by decide
    omega
  · intro h
    exact decDigits_le 17 u (by omega)

theorem numEnd_dec (u : Nat) (neg : Bool) : numEnd (Lib.decDigits u).length neg (numGo (Lib.decDigits u) 0) = if u < 1000000000000000000 then (if neg then -(u : Int) else u, 0) else (0, 10) := by
  rw [numEnd_ref]
  by_cases h : u < 1000000000000000000
  · have hl := (dec_len u).2 h
    rw [if_pos h, refNum_short _ _ (by omega) _ _ _ (dec_digs u) (by omega), dec_val]
  · have hl := (dec_len u)
    rw [if_neg h, refNum_long _ _ (by omega) _ _ _ (dec_digs u)]

theorem numF_itoa (n : Int) : numF (Lib.itoa n) = if -1000000000000000000 < n ∧ n < 1000000000000000000 then (n, 0) else (0, 10) := by
  by_cases h0 : n < 0
  · have hu : 0 < n.natAbs := by omega
    have hi : Lib.itoa n = 45 :: Lib.decDigits n.natAbs := by unfold Lib.itoa; rw [if_pos h0]
    rw [hi]
    unfold numF
    rw [if_pos (by simp), List.tail_cons]
    unfold numTail
    rw [if_neg (dec_ne _), if_neg (fun e => dec_head _ hu e.1), numEnd_dec]
    by_cases h : -1000000000000000000 < n
    · rw [if_pos (show n.natAbs < 1000000000000000000 by omega), if_pos (show -1000000000000000000 < n ∧ n < 1000000000000000000 by omega)]
      simp
      omega
    · rw [if_neg (show ¬ n.natAbs < 1000000000000000000 by omega), if_neg (show ¬ (-1000000000000000000 < n ∧ n < 1000000000000000000) by omega)]
  · have hi : Lib.itoa n = Lib.decDigits n.toNat := by unfold Lib.itoa; rw [if_neg h0]
    rw [hi]
    have hh : ¬ (Lib.decDigits n.toNat).head? = some 45 := by
      intro e
      have hd := dec_digs n.toNat 45 (List.mem_of_head? e)
      revert hd
      decide
    unfold numF
    rw [if_neg hh]
    unfold numTail
    rw [if_neg (dec_ne _), if_neg, numEnd_dec]
    · by_cases h : n < 1000000000000000000
      · rw [if_pos (show n.toNat < 1000000000000000000 by omega), if_pos (show -1000000000000000000 < n ∧ n < 1000000000000000000 by omega)]
        simp
        omega
      · rw [if_neg (show ¬ n.toNat < 1000000000000000000 by omega), if_neg (show ¬ (-1000000000000000000 < n ∧ n < 1000000000000000000) by omega)]
    · rintro ⟨h1, h2⟩
      by_cases hz : 0 < n.toNat
      · exact dec_head _ hz h1
      · have : n.toNat = 0 := by omega
        rw [this] at h2
        simp [Lib.decDigits] at h2

theorem dec_back : ∀ (k : Nat) (d : List UInt8), d.length = k → d ≠ [] → (∀ c ∈ d, isDig c) → (d.head? = some 48 → d = [48]) → Lib.decDigits (valF 0 d).toNat = d
  | 0, d, hk, hne, _, _ => absurd (List.length_eq_zero_iff.1 hk) hne
  | k + 1, d, hk, hne, hd, hz => by
    obtain ⟨d', c, rfl⟩ : ∃ d' c, d = d' ++ [c] := snoc_of hne
    have hc := hd c (by simp)
    have h1 := hc.1
    have h2 := hc.2
    have hv : valF 0 (d' ++ [c]) = 10 * valF 0 d' + ((c.toNat : Int) - 48) := by rw [valF_append]; rfl
    have hcb : UInt8.ofNat (48 + (c.toNat - 48)) = c := by
      apply UInt8.toNat_inj.1
      simp
      omega
    by_cases hd0 : d' = []
    · subst hd0
      rw [hv]
      have e : (10 * valF 0 [] + ((c.toNat : Int) - 48)).toNat = c.toNat - 48 := by simp [valF]; omega
      rw [e, Lib.decDigits, dif_pos (by omega), hcb]
      rfl
    · have hds : ∀ x ∈ d', isDig x := fun x hx => hd x (by simp [hx])
      have hh : d'.head? ≠ some 48 := by
        intro e
        have := hz (by rw [head_app hd0]; exact e)
        have hl := congrArg List.length this
        have hp := List.length_pos_iff.2 hd0
        simp at hl
        exact hd0 hl
      have ih := dec_back k d' (by simpa using hk) hd0 hds (fun e => absurd e hh)
      have h0 := (valF_lt d' 0 0 hds (by omega) (by decide)).1
      have hpos : 0 < (valF 0 d').toNat := by
        rcases Nat.eq_zero_or_pos (valF 0 d').toNat with e | e
        · rw [e] at ih
          have : d' = [48] := by rw [← ih]; simp [Lib.decDigits]
          rw [this] at hh
          exact absurd rfl hh
        · exact e
      rw [hv]
      have e1 : (10 * valF 0 d' + ((c.toNat : Int) - 48)).toNat = 10 * (valF 0 d').toNat + (c.toNat - 48) := by omega
      rw [e1, Lib.decDigits, dif_neg (by omega)]
      have e2 : (10 * (valF 0 d').toNat + (c.toNat - 48)) / 10 = (valF 0 d').toNat := by omega
      have e3 : (10 * (valF 0 d').toNat + (c.toNat - 48)) % 10 = c.toNat - 48 := by omega
      rw [e2, e3, ih, hcb]

/-- What is told of a text that says a number. -/
theorem numTail_back (d : List UInt8) (neg : Bool) (k e : Int) (h : numTail d neg = (k, e)) :
    (e ≠ 0 ∧ k = 0) ∨ (e = 0 ∧ d ≠ [] ∧ (∀ c ∈ d, isDig c) ∧ (d.head? = some 48 → d = [48] ∧ neg = false) ∧ k = if neg then -(valF 0 d) else valF 0 d) ∧ d.length ≤ 18 := by
  unfold numTail at h
  by_cases h0 : d = []
  · rw [if_pos h0] at h
    cases h
    exact .inl ⟨by decide, rfl⟩
  · rw [if_neg h0] at h
    by_cases h1 : d.head? = some 48 ∧ (d ≠ [48] ∨ neg = true)
    · rw [if_pos h1] at h
      cases h
      exact .inl ⟨by decide, rfl⟩
    · rw [if_neg h1, numEnd_ref] at h
      by_cases hd : ∀ c ∈ d, isDig c
      · by_cases hl : 18 < d.length
        · rw [refNum_long _ _ hl _ _ _ hd] at h
          cases h
          exact .inl ⟨by decide, rfl⟩
        · rw [refNum_short _ _ hl _ _ _ hd (by omega)] at h
          injection h with hk he
          refine .inr ⟨⟨he.symm, h0, hd, fun e => ?_, hk.symm⟩, by omega⟩
          constructor
          · exact Classical.byContradiction fun hx => h1 ⟨e, .inl hx⟩
          · cases neg
            · rfl
            · exact absurd ⟨e, .inr rfl⟩ h1
      · rw [refNum_bad _ _ _ _ _ hd] at h
        cases h
        exact .inl ⟨by decide, rfl⟩

theorem numF_back (s : List UInt8) (k e : Int) (h : numF s = (k, e)) : (e ≠ 0 ∧ k = 0) ∨ (e = 0 ∧ Lib.itoa k = s ∧ inRange k) := by
  have h18 : (10 : Int) ^ 18 = 1000000000000000000 := by decide
  unfold numF at h
  by_cases h45 : s.head? = some 45
  · rw [if_pos h45] at h
    rcases numTail_back _ _ _ _ h with h | ⟨⟨he, hne, hd, hz, hk⟩, hl⟩
    · exact .inl h
    · right
      have hs : s = 45 :: s.tail := by
        cases s with
        | nil => simp at h45
        | cons x l => simp at h45; simp [h45]
      have hb := dec_back _ s.tail rfl hne hd (fun e => (hz e).1)
      have hv := valF_lt s.tail 0 0 hd (by omega) (by decide)
      have hp : (10 : Int) ^ (0 + s.tail.length) ≤ 10 ^ 18 := pow10_le (by omega)
      have hvpos : 0 < valF 0 s.tail := by
        rcases Int.lt_or_le 0 (valF 0 s.tail) with h | h
        · exact h
        · have : (valF 0 s.tail).toNat = 0 := by omega
          rw [this] at hb
          have e48 : s.tail = [48] := by rw [← hb]; simp [Lib.decDigits]
          have := (hz (by rw [e48]; rfl)).2
          cases this
      simp only [if_true] at hk
      refine ⟨he, ?_, by unfold inRange; omega⟩
      unfold Lib.itoa
      rw [if_pos (by omega)]
      conv => rhs; rw [hs, ← hb]
      congr 2
      omega
  · rw [if_neg h45] at h
    rcases numTail_back _ _ _ _ h with h | ⟨⟨he, hne, hd, hz, hk⟩, hl⟩
    · exact .inl h
    · right
      have hb := dec_back _ s rfl hne hd (fun e => (hz e).1)
      have hv := valF_lt s 0 0 hd (by omega) (by decide)
      have hp : (10 : Int) ^ (0 + s.length) ≤ 10 ^ 18 := pow10_le (by omega)
      simp at hk
      refine ⟨he, ?_, by unfold inRange; omega⟩
      unfold Lib.itoa
      rw [if_neg (by omega), hk, hb]

/-! ### the statements -/
theorem WordNumbers (a0 : ByteArray) (h : a0.size ≤ 140737488351232) : ∃ k, ebbtidelaw04_WordNumbers.f k a0 = some true := by
  refine Ev.rounds (g := fun k => ebbtidelaw04_WordNumbers.f k a0) ?_
  refine Ev.congr (f := fun k => (ebbtideref04_Number.f k a0).bind fun bt143 => (if (numF a0.data.toList).1 = bt143.1 then (some ((numF a0.data.toList).2 == bt143.2)) else (some false))) (fun k => ?_) ?_
  · simp only [ebbtidelaw04_WordNumbers.f, word_Number.f, awake_ok, Option.bind_some, if_true]
  · refine Ev.bind (refNumber a0 (by omega)) ?_
    refine Ev.congr (fun k => ?_) (Ev.now true)
    rw [if_pos rfl]
    simp

theorem WordSplits (a0 : ByteArray) (h : a0.size ≤ 4294967280) : ∃ k, ebbtidelaw04_WordSplits.f k a0 = some true := by
  have h1 : word_Lines.f a0 = some (linesB a0) := by unfold word_Lines.f; rw [if_pos h]
  have h2 : word_Words.f a0 = some (wordsB a0) := by unfold word_Words.f; rw [if_pos (by omega)]
  have hl1 : (linesB a0).length ≤ 4611686018427387904 := by
    unfold linesB
    split
    · simp
    · have := piecesB_length 10 (cutEnd a0)
      have := cutEnd_size a0
      omega
  have hl2 : (wordsB a0).length ≤ 4611686018427387904 := by
    unfold wordsB
    have := List.length_filter_le (fun p : ByteArray => decide (p.toList ≠ [])) (piecesB 32 a0)
    have := piecesB_length 32 a0
    omega
  refine Ev.rounds (g := fun k => ebbtidelaw04_WordSplits.f k a0) ?_
  refine Ev.congr (f := fun k => (ebbtideref04_Lines.f k a0).bind fun t130 => ((ebbtideref04_Same.f k (linesB a0) t130).bind fun t133 => (if t133 = true then ((ebbtideref04_Words.f k a0).bind fun t137 => ((ebbtideref04_Same.f k (wordsB a0) t137).bind fun t140 => (some t140))) else (some false)))) (fun k => ?_) ?_
  · simp only [ebbtidelaw04_WordSplits.f, h1, h2, awake_ok, Option.bind_some, if_true]
  · refine Ev.bind (refLines a0 h) (Ev.bind (same_self _ hl1) ?_)
    refine Ev.congr (f := fun k => (ebbtideref04_Words.f k a0).bind fun t137 => ((ebbtideref04_Same.f k (wordsB a0) t137).bind fun t140 => (some t140))) (fun k => by rw [if_pos rfl]) ?_
    exact Ev.bind (refWords a0 h) (Ev.bind (same_self _ hl2) (Ev.now true))

theorem WordTexts (a0 : Int) (a1 : ByteArray) (l2 : List Int) (h0 : inRange a0) (h1 : a1.size ≤ 140737488340000) (h2 : ∀ n ∈ l2, inRange n) : ∃ k, ebbtidelaw04_WordTexts.f k a0 a1 l2 = some true := by
  by_cases hl : l2.length > 300
  · refine ⟨0, ?_⟩
    simp only [ebbtidelaw04_WordTexts.f, awake_ok, Option.bind_some]
    rw [if_pos (by omega)]
  · have ht : word_Text.f a0 = some (mkB (Lib.itoa a0)) := by unfold word_Text.f; rw [if_pos h0]
    have hr : word_Row.f a1 l2 = some (rowB a1 l2) := by unfold word_Row.f; rw [if_pos ⟨by omega, h2⟩]
    refine Ev.rounds (g := fun k => ebbtidelaw04_WordTexts.f k a0 a1 l2) ?_
    refine Ev.congr (f := fun k => (ebbtideref04_Text.f k a0).bind fun t165 => (if (mkB (Lib.itoa a0)).toList = t165.toList then ((ebbtideref04_Row.f k a1 l2).bind fun t167 => (some ((rowB a1 l2).toList == t167.toList))) else (some false))) (fun k => ?_) ?_
    · simp only [ebbtidelaw04_WordTexts.f, ht, hr, awake_ok, Option.bind_some, if_true]
      rw [if_neg (by omega)]
    · refine Ev.bind (refText a0 h0) ?_
      refine Ev.congr (f := fun k => (ebbtideref04_Row.f k a1 l2).bind fun t167 => (some ((rowB a1 l2).toList == t167.toList))) (fun k => by rw [if_pos rfl]) ?_
      refine Ev.bind (refRow a1 l2 h2 (by omega)) ?_
      refine Ev.congr (fun k => ?_) (Ev.now true)
      simp

theorem WordBack (a0 : Int) (a1 : ByteArray) (h0 : inRange a0) : ∃ k, ebbtidelaw04_WordBack.f k a0 a1 = some true := by
  have ht : word_Text.f a0 = some (mkB (Lib.itoa a0)) := by unfold word_Text.f; rw [if_pos h0]
  have hn : word_Number.f (mkB (Lib.itoa a0)) = some (if -1000000000000000000 < a0 ∧ a0 < 1000000000000000000 then (a0, 0) else (0, 10)) := by
    unfold word_Number.f
    rw [mkB_data, numF_itoa]
  have hj1 : ∀ k, ebbtidelaw04_WordBack.j1 (k + 1) a1 true false = some true := fun k => by
    simp only [ebbtidelaw04_WordBack.j1]
    rw [if_neg (by decide)]
    simp only [word_Number.f, Option.bind_some, if_true]
    rcases numF_back a1.data.toList (numF a1.data.toList).1 (numF a1.data.toList).2 rfl with ⟨he, hk⟩ | ⟨he, hs, hr⟩
    · rw [if_neg he, if_pos hk]
    · rw [if_pos he]
      unfold word_Text.f
      rw [if_pos hr]
      simp [hs, mkB_of]
  refine ⟨2, ?_⟩
  simp only [ebbtidelaw04_WordBack.f, awake_ok, ht, hn, Option.bind_some, if_true]
  by_cases hlo : a0 > -1000000000000000000
  · rw [if_pos hlo]
    by_cases hhi : a0 < 1000000000000000000
    · rw [if_pos ⟨by omega, hhi⟩]
      simp only [ebbtidelaw04_WordBack.j0]
      rw [decide_eq_true hhi]
      simp [hj1]
    · rw [if_neg (by omega)]
      simp only [ebbtidelaw04_WordBack.j0]
      rw [decide_eq_false hhi]
      simp [hj1]
  · rw [if_neg hlo, if_neg (by omega)]
    simp only [ebbtidelaw04_WordBack.j0]
    simp [hj1]
end Go.Proofs.YtdjnnkfopgmpaaaDoor.PureWord
