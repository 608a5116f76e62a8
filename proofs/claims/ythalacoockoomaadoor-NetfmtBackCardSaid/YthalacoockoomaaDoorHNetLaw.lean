/- Layer netfmt: the plain laws on texts that are told of networks. -/
import Derived.Test.YthalacoockoomaaDoorHNetPure
namespace Go.Proofs.YthalacoockoomaaDoor.PureNet
open Go.RowKit Go.Proofs.YthalacoockoomaaDoor.H Go.Proofs.YthalacoockoomaaDoor.Print Go.Proofs.YthalacoockoomaaDoor.PrintB Go.Proofs.YthalacoockoomaaDoor.PureWord Go.Proofs.YthalacoockoomaaDoorW.PrintWords Go.Proofs.YthalacoockoomaaDoorW.PrintLast

theorem print_f (n : Int) (b : Bool) (l : List S37) : netfmt_Print.f n b l = some (if checkF n l = 0 then (mkB (netL n b l), 0) else (⟨#[]⟩, checkF n l)) := rfl
/-! ### what is told is read as it was -/
theorem lines_cut : ∀ (a r cur : List UInt8), 10 ∉ a → linesGo cur (a ++ 10 :: r) = (cur ++ a) :: linesGo [] r
  | [], r, cur, _ => by rw [List.nil_append, linesGo, if_pos rfl, List.append_nil]
  | x :: a, r, cur, h => by
    have h1 : x ≠ 10 := fun e => h (by simp [e])
    have h2 : 10 ∉ a := fun e => h (by simp [e])
    rw [List.cons_append, linesGo, if_neg h1, lines_cut a r _ h2, List.append_assoc]
    rfl
theorem dec_not (u : Nat) (c : UInt8) (hc : ¬ isDig c) : c ∉ Lib.decDigits u := fun h => hc (dec_digs u c h)
theorem itoa_not (n : Int) (c : UInt8) (hc : ¬ isDig c) (h45 : c ≠ 45) : c ∉ Lib.itoa n := by
  unfold Lib.itoa
  split
  · intro h
    rcases List.mem_cons.1 h with e | e
    · exact h45 e
    · exact dec_not _ c hc e
  · exact dec_not _ c hc
theorem itoa_ne (n : Int) : Lib.itoa n ≠ [] := by
  unfold Lib.itoa
  split
  · simp
  · exact dec_ne _
theorem splitL_rows (a : List UInt8) (ha : 32 ∉ a) : ∀ l : List Int, splitL 32 (a ++ l.flatMap fun n => 32 :: Lib.itoa n) = a :: l.map Lib.itoa
  | [] => by simp [splitL_none 32 a ha]
  | n :: l => by
    rw [List.flatMap_cons, List.cons_append, splitL_cut 32 a _ ha, splitL_rows (Lib.itoa n) (itoa_not n 32 (by decide) (by decide)) l]
    rfl
theorem words_of_row (w : List UInt8) (hw : w ≠ []) (h32 : 32 ∉ w) (l : List Int) : wordsGo [] (rowHead w l) = w :: l.map Lib.itoa := by
  rw [wordsGo_eq _ _ (by simp), List.nil_append]
  unfold rowHead
  rw [splitL_rows w h32 l, List.filter_eq_self]
  intro p hp
  rcases List.mem_cons.1 hp with e | e
  · simpa [e] using hw
  · obtain ⟨n, _, rfl⟩ := List.mem_map.1 e
    simpa using itoa_ne n
theorem row_no10 (w : List UInt8) (h10 : 10 ∉ w) (l : List Int) : 10 ∉ rowHead w l := by
  unfold rowHead
  intro h
  rcases List.mem_append.1 h with h | h
  · exact h10 h
  · obtain ⟨n, _, hn⟩ := List.mem_flatMap.1 h
    rcases List.mem_cons.1 hn with e | e
    · revert e; decide
    · exact itoa_not n 10 (by decide) (by decide) e

def kindW (b : Bool) : List UInt8 := if b = true then [104, 111, 108, 100] else [102, 114, 101, 101]
def headW (n : Int) (b : Bool) : List UInt8 := [110, 101, 116] ++ 32 :: (Lib.itoa n ++ 32 :: kindW b)
theorem netHead_eq (n : Int) (b : Bool) : netHead n b = headW n b ++ [10] := by
  unfold netHead headW kindW
  cases b <;> simp
theorem kindW_no (b : Bool) : 10 ∉ kindW b ∧ 32 ∉ kindW b ∧ kindW b ≠ [] := by cases b <;> decide
theorem headW_no10 (n : Int) (b : Bool) : 10 ∉ headW n b := by
  unfold headW
  have h1 := itoa_not n 10 (by decide) (by decide)
  have h2 := (kindW_no b).1
  simp [h1, h2]
theorem head_words (n : Int) (b : Bool) : wordsGo [] (headW n b) = [[110, 101, 116], Lib.itoa n, kindW b] := by
  rw [wordsGo_eq _ _ (by simp), List.nil_append]
  unfold headW
  rw [splitL_cut 32 _ _ (by decide), splitL_cut 32 _ _ (itoa_not n 32 (by decide) (by decide)), splitL_none 32 _ (kindW_no b).2.1]
  simp [itoa_ne n, (kindW_no b).2.2]
theorem lines_arcs : ∀ l : List S37, linesGo [] (l.flatMap arcL) = l.map fun a => rowHead [97, 114, 99] (arcInts a)
  | [] => rfl
  | a :: l => by
    rw [List.flatMap_cons]
    unfold arcL
    rw [List.append_assoc]
    show linesGo [] (rowHead [97, 114, 99] (arcInts a) ++ 10 :: l.flatMap arcL) = _
    rw [lines_cut _ _ _ (row_no10 _ (by decide) _), lines_arcs l]
    rfl
theorem lines_net (n : Int) (b : Bool) (l : List S37) : linesB (mkB (netL n b l)) = mkB (headW n b) :: l.map fun a => mkB (rowHead [97, 114, 99] (arcInts a)) := by
  rw [linesB_eq, mkB_data]
  unfold netL
  rw [netHead_eq, List.append_assoc]
  show (linesGo [] (headW n b ++ 10 :: l.flatMap arcL)).map mkB = _
  rw [lines_cut _ _ _ (headW_no10 n b), lines_arcs l, List.map_cons, List.map_map]
  rfl
theorem rd0 (x : ByteArray) (l : List ByteArray) : rdOf ByteArray.empty (x :: l) 0 = x := rfl
theorem rd1 (x y : ByteArray) (l : List ByteArray) : rdOf ByteArray.empty (x :: y :: l) 1 = y := rfl
theorem rd2 (x y z : ByteArray) (l : List ByteArray) : rdOf ByteArray.empty (x :: y :: z :: l) 2 = z := rfl
theorem mkB_toList (l : List UInt8) : (mkB l).toList = l := by rw [ByteArray.toList_eq, mkB_data]
theorem line_head (n : Int) (b : Bool) (hn : 1 ≤ n ∧ n ≤ 50) : idleW (wordsB (mkB (headW n b))) = false ∧ headF 0 false (wordsB (mkB (headW n b))) = (0, n, b) := by
  rw [wordsB_eq, mkB_data, head_words]
  refine ⟨by simp [idleW, rd0]; decide, ?_⟩
  have hnum : numF (Lib.itoa n) = (n, 0) := by rw [numF_itoa, if_pos ⟨by omega, by omega⟩]
  have hnod : nodesF n = 0 := by unfold nodesF; rw [if_neg (by omega), if_neg (by omega)]
  simp only [List.map_cons, List.map_nil]
  have hok : headOk [mkB [110, 101, 116], mkB (Lib.itoa n), mkB (kindW b)] = true := by
    unfold headOk
    rw [rd0, rd2, mkB_toList, mkB_toList]
    cases b <;> simp [kindW]
  unfold headF
  rw [if_pos hok]
  unfold headE numAt
  rw [rd1, mkB_data, hnum, rd2, mkB_toList]
  simp only [if_true, hnod]
  cases b <;> rfl
theorem nums_itoa : ∀ (l acc : List Int), (∀ x ∈ l, -1000000000000000000 < x ∧ x < 1000000000000000000) → numsGo (l.map fun n => mkB (Lib.itoa n)) acc = (acc ++ l, 0)
  | [], acc, _ => by simp [numsGo]
  | x :: l, acc, h => by
    have hx := h x (by simp)
    rw [List.map_cons, numsGo, mkB_data, numF_itoa, if_pos hx, if_pos rfl, nums_itoa l _ (fun y hy => h y (by simp [hy]))]
    simp
theorem nums_bad : ∀ (l acc : List Int), ¬ (∀ x ∈ l, -1000000000000000000 < x ∧ x < 1000000000000000000) → (numsGo (l.map fun n => mkB (Lib.itoa n)) acc).2 = 10
  | [], acc, h => absurd (fun x hx => by cases hx) h
  | x :: l, acc, h => by
    rw [List.map_cons, numsGo, mkB_data, numF_itoa]
    by_cases hx : -1000000000000000000 < x ∧ x < 1000000000000000000
    · rw [if_pos hx, if_pos rfl]
      refine nums_bad l _ (fun h2 => h (fun y hy => ?_))
      rcases List.mem_cons.1 hy with e | e
      · exact e ▸ hx
      · exact h2 y e
    · rw [if_neg hx]
      rfl
theorem arc_words (a : S37) : wordsB (mkB (rowHead [97, 114, 99] (arcInts a))) = mkB [97, 114, 99] :: (arcInts a).map fun n => mkB (Lib.itoa n) := by
  rw [wordsB_eq, mkB_data, words_of_row _ (by decide) (by decide), List.map_cons, List.map_map]
  rfl
theorem line_idle (a : S37) : idleW (wordsB (mkB (rowHead [97, 114, 99] (arcInts a)))) = false := by
  rw [arc_words]
  unfold idleW
  rw [rd0]
  have e : bt (mkB [97, 114, 99]) 0 = 97 := rfl
  rw [e]
  simp
  omega
theorem line_tail (n : Int) (l : List S37) (a : S37) : tailF n l (wordsB (mkB (rowHead [97, 114, 99] (arcInts a)))) =
    if ∀ x ∈ arcInts a, -1000000000000000000 < x ∧ x < 1000000000000000000 then (if arcF n a = 0 then (if l.length = 200 then (2, l) else (0, l ++ [a])) else (arcF n a, l)) else (10, l) := by
  rw [arc_words]
  unfold tailF
  rw [if_pos (by rw [rd0, mkB_toList]; simp [arcInts]), List.drop_succ_cons, List.drop_zero]
  by_cases h : ∀ x ∈ arcInts a, -1000000000000000000 < x ∧ x < 1000000000000000000
  · rw [if_pos h, nums_itoa _ _ h]
    rfl
  · rw [if_neg h, nums_bad _ _ h]
    rfl
theorem arc_small {n : Int} {a : S37} (hn : n ≤ 50) (h : arcF n a = 0) : ∀ x ∈ arcInts a, -1000000000000000000 < x ∧ x < 1000000000000000000 := by
  obtain ⟨h1, h2, h3, h4⟩ := arcF_ok h
  intro x hx
  simp only [arcInts, List.mem_cons, List.mem_nil_iff, or_false] at hx
  rcases hx with rfl | rfl | rfl | rfl <;> omega
theorem parse_arcs (n : Int) (b : Bool) (hn : n ≤ 50) : ∀ (r l : List S37) (i : Nat), (∀ a ∈ r, arcF n a = 0) → l.length + r.length ≤ 200 →
    parseGo (r.map fun a => mkB (rowHead [97, 114, 99] (arcInts a))) i true n b l = (n, b, l ++ r, 0, 0)
  | [], l, i, _, _ => by rw [List.map_nil, parseGo, if_pos rfl, List.append_nil]
  | a :: r, l, i, h, hl => by
    have ha := h a (by simp)
    have hlen : l.length ≠ 200 := by simp at hl; omega
    have hline : lineF true n b l (wordsB (mkB (rowHead [97, 114, 99] (arcInts a)))) = (0, n, b, l ++ [a]) := by
      unfold lineF
      rw [if_pos rfl, line_tail, if_pos (arc_small hn ha), if_pos ha, if_neg hlen]
    rw [List.map_cons, parseGo, if_neg (by rw [line_idle]; decide), hline, if_pos rfl]
    rw [parse_arcs n b hn r (l ++ [a]) (i + 1) (fun y hy => h y (by simp [hy])) (by simp at hl ⊢; omega), List.append_assoc]
    rfl
theorem parse_net (n : Int) (b : Bool) (l : List S37) (h : checkF n l = 0) : parseF (mkB (netL n b l)) = (n, b, l, 0, 0) := by
  obtain ⟨hn, hl, ha⟩ := check_ok h
  obtain ⟨h1, h2⟩ := line_head n b hn
  unfold parseF
  have h3 : lineF false 0 false [] (wordsB (mkB (headW n b))) = (0, n, b, []) := by
    unfold lineF
    rw [if_neg (by decide), h2]
  rw [lines_net, parseGo, if_neg (by rw [h1]; decide), h3, if_pos rfl]
  exact parse_arcs n b hn.2 l [] 1 ha (by simp; omega)
theorem net_size (n : Int) (b : Bool) (l : List S37) (h : checkF n l = 0) : (mkB (netL n b l)).size ≤ 20000 := by
  obtain ⟨hn, hl, ha⟩ := check_ok h
  have h1 := arcs_len l (fun a h => arcInts_ok (by omega) (ha a h))
  have h2 := netHead_le n b ⟨by omega, by omega⟩
  rw [mkB_size]
  unfold netL
  rw [List.length_append]
  omega

/-! ### what is read is right -/
theorem lineF_ok (begun : Bool) (n : Int) (b : Bool) (l : List S37) (ws : List ByteArray) (hb : begun = true → checkF n l = 0) (h0 : begun = false → l = []) (h : (lineF begun n b l ws).1 = 0) :
    checkF (lineF begun n b l ws).2.1 (lineF begun n b l ws).2.2.2 = 0 := by
  unfold lineF at h ⊢
  cases begun
  · rw [if_neg (by decide)] at h ⊢
    rw [h0 rfl]
    have h' : (headF n b ws).1 = 0 := h
    show checkF (headF n b ws).2.1 [] = 0
    clear h
    unfold headF at h' ⊢
    split at h'
    · rename_i hk
      rw [if_pos hk]
      show checkF (numAt ws 1).1 [] = 0
      have h2 : headE ws = 0 := h'
      unfold headE at h2
      split at h2
      · unfold checkF
        rw [if_pos h2]
        rfl
      · rename_i hne
        exact absurd h2 hne
    · exact absurd h' (by simp)
  · rw [if_pos rfl] at h ⊢
    have hc := hb rfl
    have key : ∀ xs : List S37, ∀ a, xs.length ≤ 199 → arcsF n xs = 0 → arcF n a = 0 → arcsF n (xs ++ [a]) = 0 := by
      intro xs
      induction xs with
      | nil => intro a _ _ ha; simp [arcsF, ha]
      | cons y xs ih =>
        intro a hl h1 ha
        have hy := arcsF_ok h1 y (by simp)
        rw [List.cons_append, arcsF, if_pos hy]
        rw [arcsF, if_pos hy] at h1
        exact ih a (by simp at hl; omega) h1 ha
    unfold tailF at h ⊢
    split at h
    · rename_i k1
      rw [if_pos k1]
      split at h
      · rename_i k2
        rw [if_pos k2]
        split at h
        · rename_i k3
          rw [if_pos k3]
          split at h
          · exact absurd h (by simp)
          · rename_i k4
            rw [if_neg k4]
            unfold checkF at hc ⊢
            split at hc
            · rename_i k5
              rw [if_pos k5]
              split at hc
              · exact absurd hc (by decide)
              · rename_i k6
                rw [if_neg (by simp; omega)]
                exact key l _ (by omega) hc k3
            · rename_i k5
              exact absurd hc k5
        · rename_i k3
          exact absurd h k3
      · rename_i k2
        exact absurd h k2
    · exact absurd h (by simp)
theorem parseGo_ok : ∀ (ls : List ByteArray) (i : Nat) (begun : Bool) (n : Int) (b : Bool) (l : List S37), (begun = true → checkF n l = 0) → (begun = false → l = []) →
    ((parseGo ls i begun n b l).2.2.2.2 = 0 → (parseGo ls i begun n b l).2.2.2.1 = 0 ∧ checkF (parseGo ls i begun n b l).1 (parseGo ls i begun n b l).2.2.1 = 0) ∧
    ((parseGo ls i begun n b l).2.2.2.2 ≠ 0 → (parseGo ls i begun n b l).1 = 0 ∧ (parseGo ls i begun n b l).2.1 = false ∧ (parseGo ls i begun n b l).2.2.1 = [])
  | [], i, begun, n, b, l, hb, h0 => by
    rw [parseGo]
    split
    · rename_i e
      exact ⟨fun _ => ⟨rfl, hb e⟩, fun h => absurd rfl h⟩
    · exact ⟨fun h => absurd h (by decide), fun _ => ⟨rfl, rfl, rfl⟩⟩
  | t :: r, i, begun, n, b, l, hb, h0 => by
    rw [parseGo]
    split
    · exact parseGo_ok r _ _ _ _ _ hb h0
    · split
      · rename_i e
        exact parseGo_ok r _ _ _ _ _ (fun _ => lineF_ok begun n b l _ hb h0 e) (fun h => absurd h (by decide))
      · rename_i e
        exact ⟨fun h => absurd h e, fun _ => ⟨rfl, rfl, rfl⟩⟩
theorem parseF_ok (s : ByteArray) : ((parseF s).2.2.2.2 = 0 → (parseF s).2.2.2.1 = 0 ∧ checkF (parseF s).1 (parseF s).2.2.1 = 0) ∧ ((parseF s).2.2.2.2 ≠ 0 → (parseF s).1 = 0 ∧ (parseF s).2.1 = false ∧ (parseF s).2.2.1 = []) :=
  parseGo_ok _ _ _ _ _ _ (fun h => absurd h (by decide)) (fun _ => rfl)
end Go.Proofs.YthalacoockoomaaDoor.PureNet
