/- WordJoins, WordLists: the plain statements. -/
import Derived.Test.YtdjnnkfopgmpaaaDoorHPureRows
namespace Go.Proofs.YtdjnnkfopgmpaaaDoor.PureWord
open Go.RowKit Go.Proofs.YtdjnnkfopgmpaaaDoor.H Go.Proofs.YtdjnnkfopgmpaaaDoor.Print Go.Proofs.YtdjnnkfopgmpaaaDoorW.PrintWords Go.Proofs.YtdjnnkfopgmpaaaDoorW.PrintLast

/-! ### lines are joined again -/
def joinL (ps : List (List UInt8)) : List UInt8 := ps.flatMap fun p => p ++ [10]
theorem join_lines : ∀ (l cur : List UInt8), joinL (linesGo cur l) = cur ++ l ∨ joinL (linesGo cur l) = cur ++ l ++ [10]
  | [], cur => by
    rw [linesGo]
    split
    · rename_i h
      subst h
      exact .inl rfl
    · exact .inr (by simp [joinL])
  | x :: l, cur => by
    rw [linesGo]
    split
    · rename_i h
      subst h
      rcases join_lines l [] with e | e
      · exact .inl (by simp only [joinL, List.flatMap_cons] at e ⊢; rw [e]; simp)
      · exact .inr (by simp only [joinL, List.flatMap_cons] at e ⊢; rw [e]; simp)
    · rcases join_lines l (cur ++ [x]) with e | e
      · exact .inl (by rw [e]; simp)
      · exact .inr (by rw [e]; simp)
theorem lines_no10 : ∀ (l cur : List UInt8), 10 ∉ cur → ∀ p ∈ linesGo cur l, 10 ∉ p
  | [], cur, hc, p, hp => by
    rw [linesGo] at hp
    split at hp
    · cases hp
    · rw [List.mem_singleton.1 hp]; exact hc
  | x :: l, cur, hc, p, hp => by
    rw [linesGo] at hp
    split at hp
    · rcases List.mem_cons.1 hp with e | e
      · rw [e]; exact hc
      · exact lines_no10 l [] (by simp) p e
    · rename_i h
      refine lines_no10 l _ ?_ p hp
      intro hm
      rcases List.mem_append.1 hm with e | e
      · exact hc e
      · exact h (List.mem_singleton.1 e).symm
theorem words_good : ∀ (l cur : List UInt8), 32 ∉ cur → ∀ p ∈ wordsGo cur l, p ≠ [] ∧ 32 ∉ p
  | [], cur, hc, p, hp => by
    rw [wordsGo] at hp
    split at hp
    · cases hp
    · rename_i h
      rw [List.mem_singleton.1 hp]; exact ⟨h, hc⟩
  | x :: l, cur, hc, p, hp => by
    rw [wordsGo] at hp
    split at hp
    · split at hp
      · exact words_good l [] (by simp) p hp
      · rename_i h
        rcases List.mem_cons.1 hp with e | e
        · rw [e]; exact ⟨h, hc⟩
        · exact words_good l [] (by simp) p e
    · rename_i h
      refine words_good l _ ?_ p hp
      intro hm
      rcases List.mem_append.1 hm with e | e
      · exact hc e
      · exact h (List.mem_singleton.1 e).symm
def sumLen (ps : List (List UInt8)) : Nat := (ps.map List.length).sum
theorem words_sum : ∀ (l cur : List UInt8), sumLen (wordsGo cur l) + l.count 32 = cur.length + l.length
  | [], cur => by
    rw [wordsGo]
    split
    · rename_i h
      simp [sumLen, h]
    · simp [sumLen]
  | x :: l, cur => by
    rw [wordsGo]
    split
    · rename_i h
      subst h
      have ih := words_sum l []
      split
      · rename_i h
        subst h
        simp at ih ⊢
        omega
      · simp [sumLen] at ih ⊢
        omega
    · rename_i h
      have ih := words_sum l (cur ++ [x])
      rw [List.count_cons_of_ne (by exact h)]
      simp at ih ⊢
      omega

theorem rdOf_map (P : List (List UInt8)) (i : Nat) (h : i < P.length) : rdOf ByteArray.empty (P.map mkB) (i : Int) = mkB P[i] := by
  simp [rdOf, h]
theorem bt_mk (l : List UInt8) (i : Nat) (h : i < l.length) : bt (mkB l) (i : Int) = (l[i].toNat : Int) := bt_nat (mkB l) i (by rw [mkB_size]; exact h)

/-! ### the loops of WordJoins -/
theorem count_go (a0 : ByteArray) (c9 : Int) (ha : a0.size ≤ 4000) (hs : c9 + (a0.data.toList.count 32 : Nat) = a0.size) (h9 : 0 ≤ c9) : ∀ (d i : Nat), i + d = a0.size →
    Ev (fun k => ebbtidelaw04_WordJoins.l4 k a0 true c9 ((a0.data.toList.take i).count 32 : Nat) (i : Int)) true
  | 0, i, hi => by
    have hie : i = a0.size := by omega
    subst hie
    rw [List.take_of_length_le (by rw [size_len]; exact Nat.le_refl _)]
    refine Ev.step (f := fun _ => _) (fun k => ?_) (Ev.now true)
    simp only [ebbtidelaw04_WordJoins.l4]
    rw [if_neg (by omega), if_pos trivial, hs, wI (by omega) (by omega)]
    simp
  | d + 1, i, hi => by
    have hlt : i < a0.size := by omega
    have hlt' : i < a0.data.toList.length := by rw [size_len]; exact hlt
    have hb := bt_nat a0 i hlt
    have ih := count_go a0 c9 ha hs h9 d (i + 1) (by omega)
    rw [List.take_succ_eq_append_getElem hlt', List.count_append] at ih
    have hc : (a0.data.toList.take i).count 32 ≤ 4000 := by
      have := List.count_le_length (a := (32 : UInt8)) (l := a0.data.toList.take i)
      rw [List.length_take, size_len] at this
      omega
    generalize hcc : a0.data.toList[i]'hlt' = c at hb ih
    by_cases h32 : c = 32
    · refine Ev.step (fun k => ?_) ih
      simp only [ebbtidelaw04_WordJoins.l4]
      rw [if_pos (by omega), if_pos (by omega), if_pos (by rw [hb, h32]; rfl), w1 i (by omega), w1 _ (by omega), h32]
      rfl
    · refine Ev.step (fun k => ?_) ih
      simp only [ebbtidelaw04_WordJoins.l4]
      rw [if_pos (by omega), if_pos (by omega), if_neg (by rw [hb]; intro e; exact h32 ((isByte _ 32 (by decide)).1 e)), w1 i (by omega), List.count_singleton]
      simp [h32]

theorem word_in (a0 : ByteArray) (P : List (List UInt8)) (i : Nat) (hi : i < P.length) (hn : 32 ∉ P[i]) (hl : P[i].length ≤ 4000) (hP : i ≤ 4000) (c : Nat) (hc : c ≤ 4000)
    (hnext : Ev (fun k => ebbtidelaw04_WordJoins.l2 k a0 true (P.map mkB) ((c + P[i].length : Nat) : Int) 0 ((i + 1 : Nat) : Int)) true) : ∀ (d j : Nat), j + d = P[i].length →
    Ev (fun k => ebbtidelaw04_WordJoins.l3 k a0 true (P.map mkB) ((c + j : Nat) : Int) 0 (i : Int) (j : Int)) true
  | 0, j, hj => by
    have hje : j = P[i].length := by omega
    rw [← hje] at hnext
    refine Ev.step (fun k => ?_) hnext
    simp only [ebbtidelaw04_WordJoins.l3]
    rw [rdOf_map P i hi, if_pos (by omega), if_pos (by simpa using hi), if_neg (by rw [mkB_size]; omega), w1 i (by omega)]
  | d + 1, j, hj => by
    have hlt : j < P[i].length := by omega
    refine Ev.step (fun k => ?_) (word_in a0 P i hi hn hl hP c hc hnext d (j + 1) (by omega))
    simp only [ebbtidelaw04_WordJoins.l3]
    rw [rdOf_map P i hi, if_pos (by omega), if_pos (by simpa using hi), if_pos (by rw [mkB_size]; omega), if_pos (by omega),
      if_neg (by rw [bt_mk _ _ hlt]; intro e; exact hn (by have e2 : P[i][j] = 32 := (isByte _ 32 (by decide)).1 e; rw [← e2]; exact List.getElem_mem hlt)), w1 j (by omega), w1 (c + j) (by omega)]
    rfl

theorem sumLen_drop (P : List (List UInt8)) (i : Nat) (hi : i < P.length) : sumLen (P.drop i) = P[i].length + sumLen (P.drop (i + 1)) := by
  rw [List.drop_eq_getElem_cons hi]
  unfold sumLen
  rw [List.map_cons, List.sum_cons]
theorem sumLen_len (P : List (List UInt8)) (h : ∀ p ∈ P, p ≠ []) : P.length ≤ sumLen P := by
  induction P with
  | nil => simp
  | cons p P ih =>
    have h1 := ih (fun q hq => h q (List.mem_cons_of_mem _ hq))
    have h2 := List.length_pos_iff.2 (h p (List.mem_cons_self ..))
    simp [sumLen] at h1 ⊢
    omega

theorem words_go (a0 : ByteArray) (P : List (List UInt8)) (ha : a0.size ≤ 4000) (hg : ∀ p ∈ P, p ≠ [] ∧ 32 ∉ p) (hs : sumLen P + a0.data.toList.count 32 = a0.size) : ∀ (d i c : Nat), i + d = P.length → c + sumLen (P.drop i) = sumLen P →
    Ev (fun k => ebbtidelaw04_WordJoins.l2 k a0 true (P.map mkB) (c : Int) 0 (i : Int)) true
  | 0, i, c, hi, hc => by
    rw [List.drop_eq_nil_of_le (by omega)] at hc
    simp [sumLen] at hc
    have h := count_go a0 c ha (by simp only [sumLen] at hs; omega) (by omega) a0.size 0 (by omega)
    refine Ev.step (fun k => ?_) h
    simp only [ebbtidelaw04_WordJoins.l2]
    rw [if_neg (by simp; omega)]
    rfl
  | d + 1, i, c, hi, hc => by
    have hlt : i < P.length := by omega
    have hgi := hg _ (List.getElem_mem hlt)
    have hlen := sumLen_len P (fun p hp => (hg p hp).1)
    rw [sumLen_drop P i hlt] at hc
    have h := word_in a0 P i hlt hgi.2 (by omega) (by omega) c (by omega) (words_go a0 P ha hg hs d (i + 1) (c + P[i].length) (by omega) (by omega)) P[i].length 0 (by omega)
    refine Ev.step (fun k => ?_) h
    simp only [ebbtidelaw04_WordJoins.l2]
    rw [if_pos (by simpa using hlt), if_pos (by omega), rdOf_map P i hlt, if_neg (by rw [ByteArray.toList_eq, mkB_data]; exact hgi.1)]
    rfl

theorem line_in (a0 : ByteArray) (P : List (List UInt8)) (i : Nat) (hi : i < P.length) (hn : 10 ∉ P[i]) (hl : P[i].length ≤ 5000) (hP : i ≤ 5000) (acc : List UInt8) (hc : acc.length ≤ 5000)
    (hnext : Ev (fun k => ebbtidelaw04_WordJoins.l0 k a0 true (P.map mkB) (mkB (acc ++ P[i] ++ [10])) ((i + 1 : Nat) : Int)) true) : ∀ (d j : Nat), j + d = P[i].length →
    Ev (fun k => ebbtidelaw04_WordJoins.l1 k a0 true (P.map mkB) (mkB acc) (i : Int) (j : Int)) true
  | 0, j, hj => by
    refine Ev.step (fun k => ?_) hnext
    simp only [ebbtidelaw04_WordJoins.l1]
    rw [rdOf_map P i hi, if_pos (by omega), if_pos (by simpa using hi), if_neg (by rw [mkB_size]; omega), if_pos (by simp only [mkB_size]; omega),
      if_pos (by rw [mkB_append, mkB_size, List.length_append]; omega), w1 i (by omega), mkB_append, show (⟨#[10]⟩ : ByteArray) = mkB [10] from rfl, mkB_append]
  | d + 1, j, hj => by
    have hlt : j < P[i].length := by omega
    refine Ev.step (fun k => ?_) (line_in a0 P i hi hn hl hP acc hc hnext d (j + 1) (by omega))
    simp only [ebbtidelaw04_WordJoins.l1]
    rw [rdOf_map P i hi, if_pos (by omega), if_pos (by simpa using hi), if_pos (by rw [mkB_size]; omega), if_pos (by omega),
      if_neg (by rw [bt_mk _ _ hlt]; intro e; exact hn (by have e2 : P[i][j] = 10 := (isByte _ 10 (by decide)).1 e; rw [← e2]; exact List.getElem_mem hlt)), w1 j (by omega)]

theorem lines_go (a0 : ByteArray) (P : List (List UInt8)) (hg : ∀ p ∈ P, 10 ∉ p) (hs : (joinL P).length ≤ 4001)
    (hend : Ev (fun k => ebbtidelaw04_WordJoins.l0 k a0 true (P.map mkB) (mkB (joinL P)) (P.length : Int)) true) : ∀ (d i : Nat) (acc : List UInt8), i + d = P.length → acc ++ joinL (P.drop i) = joinL P → i ≤ acc.length →
    Ev (fun k => ebbtidelaw04_WordJoins.l0 k a0 true (P.map mkB) (mkB acc) (i : Int)) true
  | 0, i, acc, hi, hc, _ => by
    have hie : i = P.length := by omega
    subst hie
    rw [List.drop_eq_nil_of_le (Nat.le_refl _)] at hc
    simp [joinL] at hc
    rw [hc]
    exact hend
  | d + 1, i, acc, hi, hc, hx => by
    have hlt : i < P.length := by omega
    rw [List.drop_eq_getElem_cons hlt] at hc
    have hc' : (acc ++ P[i] ++ [10]) ++ joinL (P.drop (i + 1)) = joinL P := by
      rw [← hc]
      simp only [joinL, List.flatMap_cons, List.append_assoc]
    have hlen : (acc ++ P[i] ++ [10]).length + (joinL (P.drop (i + 1))).length = (joinL P).length := by rw [← hc']; simp only [List.length_append]
    simp at hlen
    have h := line_in a0 P i hlt (hg _ (List.getElem_mem hlt)) (by omega) (by omega) acc (by omega) (lines_go a0 P hg hs hend d (i + 1) (acc ++ P[i] ++ [10]) (by omega) hc' (by simp; omega)) P[i].length 0 (by omega)
    refine Ev.step (fun k => ?_) h
    simp only [ebbtidelaw04_WordJoins.l0]
    rw [if_pos (by simpa using hlt)]
    rfl

theorem joins_words (a0 : ByteArray) (ha : a0.size ≤ 4000) : Ev (fun k => ebbtidelaw04_WordJoins.j2 k a0 true false) true := by
  have hw : word_Words.f a0 = some ((wordsGo [] a0.data.toList).map mkB) := by
    unfold word_Words.f
    rw [if_pos (by omega), wordsB_eq]
  have hs := words_sum a0.data.toList []
  rw [size_len] at hs
  refine Ev.step (fun k => ?_) (words_go a0 (wordsGo [] a0.data.toList) ha (words_good _ _ (by simp)) (by simpa using hs) _ 0 0 (Nat.zero_add _) (by simp))
  simp only [ebbtidelaw04_WordJoins.j2]
  rw [if_neg (by decide), hw, Option.bind_some]
  rfl

theorem WordJoins (a0 : ByteArray) : ∃ k, ebbtidelaw04_WordJoins.f k a0 = some true := by
  refine Ev.rounds (g := fun k => ebbtidelaw04_WordJoins.f k a0) ?_
  by_cases ha : a0.size ≤ 4000
  · have hl : word_Lines.f a0 = some ((linesGo [] a0.data.toList).map mkB) := by
      unfold word_Lines.f
      rw [if_pos (by omega), linesB_eq]
    have hj := join_lines a0.data.toList []
    rw [List.nil_append] at hj
    have hlen : (joinL (linesGo [] a0.data.toList)).length ≤ 4001 := by
      rcases hj with e | e
      · rw [e, size_len]; omega
      · rw [e, List.length_append, size_len]; simp; omega
    have hend : Ev (fun k => ebbtidelaw04_WordJoins.l0 k a0 true ((linesGo [] a0.data.toList).map mkB) (mkB (joinL (linesGo [] a0.data.toList))) ((linesGo [] a0.data.toList).length : Int)) true := by
      refine Ev.step (fun k => ?_) (joins_words a0 ha)
      simp only [ebbtidelaw04_WordJoins.l0]
      rw [if_neg (by simp), ByteArray.toList_eq, mkB_data]
      rcases hj with e | e
      · rw [if_pos (by rw [e, ByteArray.toList_eq])]
      · rw [if_neg (by
          rw [e, ByteArray.toList_eq]
          intro h
          have := congrArg List.length h
          simp at this), if_pos (by omega)]
        have e2 : (a0 ++ (⟨#[10]⟩ : ByteArray)).toList = a0.data.toList ++ [10] := by
          rw [ByteArray.toList_eq]
          simp
        rw [e2, e, bne_self_eq_false]
    have h := lines_go a0 (linesGo [] a0.data.toList) (lines_no10 _ _ (by simp)) hlen hend _ 0 [] (Nat.zero_add _) (by simp) (Nat.zero_le _)
    refine Ev.congr (fun k => ?_) h
    unfold ebbtidelaw04_WordJoins.f
    rw [awake_ok, Option.bind_some, if_pos rfl, if_neg (by omega), hl, Option.bind_some]
    rfl
  · refine Ev.congr (fun k => ?_) (Ev.now true)
    unfold ebbtidelaw04_WordJoins.f
    rw [awake_ok, Option.bind_some, if_pos rfl, if_pos (by omega)]

/-! ### numbers of texts -/
def numsGo : List ByteArray → List Int → List Int × Int
  | [], acc => (acc, 0)
  | s :: r, acc => if (numF s.data.toList).2 = 0 then numsGo r (acc ++ [(numF s.data.toList).1]) else ([], (numF s.data.toList).2)

theorem rdOf_at (l : List ByteArray) (i : Nat) (h : i < l.length) : rdOf ByteArray.empty l (i : Int) = l[i] := by simp [rdOf, h]
theorem set_next (acc : List Int) (n : Nat) (v : Int) : (acc ++ List.replicate (n + 1) 0).set acc.length v = acc ++ [v] ++ List.replicate n 0 := by
  rw [List.set_append_right _ _ (Nat.le_refl _), Nat.sub_self, List.replicate_succ, List.set_cons_zero, List.append_assoc]
  rfl

theorem nums_go (l : List ByteArray) (hl : l.length ≤ 300) : ∀ (d i : Nat) (acc : List Int), i + d = l.length → acc.length = i →
    Ev (fun k => word_Numbers.l0 k l (acc ++ List.replicate d 0) (l.length : Int) (i : Int)) (numsGo (l.drop i) acc)
  | 0, i, acc, hi, ha => by
    rw [List.drop_eq_nil_of_le (by omega), numsGo]
    refine Ev.step (f := fun _ => _) (fun k => ?_) (Ev.now _)
    simp only [word_Numbers.l0]
    rw [if_neg (by omega), List.replicate_zero, List.append_nil]
  | d + 1, i, acc, hi, ha => by
    have hlt : i < l.length := by omega
    rw [List.drop_eq_getElem_cons hlt, numsGo]
    by_cases hz : (numF l[i].data.toList).2 = 0
    · rw [if_pos hz]
      refine Ev.step (fun k => ?_) (nums_go l hl d (i + 1) (acc ++ [(numF l[i].data.toList).1]) (by omega) (by simp [ha]))
      simp only [word_Numbers.l0]
      rw [if_pos (by omega), if_pos (by omega), if_pos (by omega), rdOf_at l i hlt, word_Number.f, Option.bind_some, if_pos hz, if_pos (by simp; omega), Int.toNat_natCast, w1 i (by omega), ← set_next, ha]
    · rw [if_neg hz]
      refine Ev.step (f := fun _ => _) (fun k => ?_) (Ev.now _)
      simp only [word_Numbers.l0]
      rw [if_pos (by omega), if_pos (by omega), if_pos (by omega), rdOf_at l i hlt, word_Number.f, Option.bind_some, if_neg hz]

theorem refNums_go (l : List ByteArray) (hl : l.length ≤ 300) (hs : ∀ s ∈ l, s.size ≤ 4611686018427387904) : ∀ (d i : Nat) (acc : List Int), i + d = l.length → acc.length = i →
    Ev (fun k => ebbtideref04_Numbers.l0 k l acc (i : Int)) (numsGo (l.drop i) acc)
  | 0, i, acc, hi, ha => by
    rw [List.drop_eq_nil_of_le (by omega), numsGo]
    refine Ev.step (f := fun _ => _) (fun k => ?_) (Ev.now _)
    simp only [ebbtideref04_Numbers.l0]
    rw [if_neg (by omega)]
  | d + 1, i, acc, hi, ha => by
    have hlt : i < l.length := by omega
    rw [List.drop_eq_getElem_cons hlt, numsGo]
    refine Ev.step (f := fun k => (ebbtideref04_Number.f k l[i]).bind fun bt209 => (if bt209.2 = 0 then (if acc.length < 17592186044416 then (ebbtideref04_Numbers.l0 k l (acc ++ [bt209.1]) ((i + 1 : Nat) : Int)) else (none)) else (some (([] : List Int), bt209.2)))) (fun k => ?_) (Ev.bind (refNumber l[i] (hs _ (List.getElem_mem hlt))) ?_)
    · simp only [ebbtideref04_Numbers.l0]
      rw [if_pos (by omega), if_pos (by omega), rdOf_at l i hlt, w1 i (by omega)]
    · by_cases hz : (numF l[i].data.toList).2 = 0
      · rw [if_pos hz]
        refine Ev.congr (fun k => ?_) (refNums_go l hl hs d (i + 1) (acc ++ [(numF l[i].data.toList).1]) (by omega) (by simp [ha]))
        rw [if_pos hz, if_pos (by omega)]
      · rw [if_neg hz]
        refine Ev.congr (fun k => ?_) (Ev.now _)
        rw [if_neg hz]

theorem sameInts_go (a : List Int) (ha : a.length ≤ 4611686018427387904) : ∀ (d i : Nat), i + d = a.length → Ev (fun k => ebbtideref03_SameInts.l0 k a a (i : Int)) true
  | 0, i, hi => by
    refine Ev.step (f := fun _ => _) (fun k => ?_) (Ev.now _)
    simp only [ebbtideref03_SameInts.l0]
    rw [if_neg (by omega)]
  | d + 1, i, hi => by
    refine Ev.step (f := fun k => ebbtideref03_SameInts.l0 k a a ((i + 1 : Nat) : Int)) (fun k => ?_) (sameInts_go a ha d (i + 1) (by omega))
    simp only [ebbtideref03_SameInts.l0]
    rw [if_pos (by omega), if_pos (by omega), if_pos (by omega), if_pos trivial, w1 i (by omega)]
theorem sameInts_self (a : List Int) (ha : a.length ≤ 4611686018427387904) : Ev (fun k => ebbtideref03_SameInts.f k a a) true := by
  refine Ev.congr (fun k => ?_) (sameInts_go a ha a.length 0 (by omega))
  unfold ebbtideref03_SameInts.f
  rw [if_pos rfl]
  rfl

theorem numsGo_len : ∀ (l : List ByteArray) (acc : List Int), (numsGo l acc).1.length ≤ acc.length + l.length
  | [], acc => by simp [numsGo]
  | s :: r, acc => by
    rw [numsGo]
    split
    · have := numsGo_len r (acc ++ [(numF s.data.toList).1])
      simp at this ⊢
      omega
    · simp

theorem WordLists (l0 : List ByteArray) (hs : ∀ s ∈ l0, s.size ≤ 4611686018427387904) : ∃ k, ebbtidelaw04_WordLists.f k l0 = some true := by
  refine Ev.rounds (g := fun k => ebbtidelaw04_WordLists.f k l0) ?_
  by_cases hl : l0.length ≤ 300
  · have h1 : Ev (fun k => word_Numbers.f k l0) (numsGo l0 []) := by
      refine Ev.congr (fun k => ?_) (nums_go l0 hl l0.length 0 [] (by omega) rfl)
      unfold word_Numbers.f
      rw [if_pos (by omega), if_pos (by rw [Int.toNat_natCast]; omega), Int.toNat_natCast, List.nil_append]
      rfl
    have h2 : Ev (fun k => ebbtideref04_Numbers.f k l0) (numsGo l0 []) := by
      refine Ev.congr (fun k => ?_) (refNums_go l0 hl hs l0.length 0 [] (by omega) rfl)
      unfold ebbtideref04_Numbers.f
      rfl
    have hlen := numsGo_len l0 []
    refine Ev.congr (f := fun k => (word_Numbers.f k l0).bind fun bt217 => ((ebbtideref04_Numbers.f k l0).bind fun bt221 => ((ebbtideref03_SameInts.f k bt217.1 bt221.1).bind fun t226 => (if t226 = true then (some (bt217.2 == bt221.2)) else (some false))))) (fun k => ?_) ?_
    · unfold ebbtidelaw04_WordLists.f
      rw [if_neg (by omega), awake_ok]
      rfl
    · refine Ev.bind h1 (Ev.bind h2 (Ev.bind (sameInts_self _ (by simp at hlen; omega)) ?_))
      refine Ev.congr (fun k => ?_) (Ev.now true)
      rw [if_pos rfl]
      simp
  · refine Ev.congr (fun k => ?_) (Ev.now true)
    unfold ebbtidelaw04_WordLists.f
    rw [if_pos (by omega), awake_ok, Option.bind_some]
end Go.Proofs.YtdjnnkfopgmpaaaDoor.PureWord
