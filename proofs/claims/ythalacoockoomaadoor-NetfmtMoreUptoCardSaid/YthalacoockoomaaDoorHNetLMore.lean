/- Layer netfmt: NetfmtMore: the plain law. -/
import Derived.Test.YthalacoockoomaaDoorHNetLines
import Derived.Test.YthalacoockoomaaDoorPBMore
namespace Go.Proofs.YthalacoockoomaaDoor.PureNet
open Go.RowKit Go.Proofs.YthalacoockoomaaDoor.H Go.Proofs.YthalacoockoomaaDoor.Print Go.Proofs.YthalacoockoomaaDoor.PrintB Go.Proofs.YthalacoockoomaaDoor.PureWord Go.Proofs.YthalacoockoomaaDoorW.PrintWords Go.Proofs.YthalacoockoomaaDoorW.PrintLast

def endL (l : List UInt8) : List UInt8 := l ++ [10]
theorem endl_len (ls : List (List UInt8)) (m : Nat) (h : ∀ l ∈ ls, l.length ≤ m) : (ls.flatMap endL).length ≤ (m + 1) * ls.length := by
  induction ls with
  | nil => simp
  | cons x ls ih =>
    have h2 := h x (by simp)
    have h3 := ih (fun l hl => h l (by simp [hl]))
    rw [List.flatMap_cons, List.length_append, List.length_cons, Nat.mul_succ]
    unfold endL at *
    simp at *
    omega
theorem lines_more : ∀ (ls : List (List UInt8)) (r : List UInt8), (∀ l ∈ ls, 10 ∉ l) → linesGo [] (ls.flatMap endL ++ r) = ls ++ linesGo [] r
  | [], r, _ => rfl
  | l :: ls, r, h => by
    rw [List.flatMap_cons, List.append_assoc]
    unfold endL
    rw [List.append_assoc]
    show linesGo [] (l ++ 10 :: (ls.flatMap endL ++ r)) = _
    rw [lines_cut _ _ _ (h l (by simp)), lines_more ls r (fun x hx => h x (by simp [hx]))]
    rfl
theorem parse_app (r : List ByteArray) : ∀ (ls : List ByteArray) (i : Nat) (begun : Bool) (n : Int) (b : Bool) (l : List S37), (parseGo ls i begun n b l).2.2.2.2 = 0 →
    parseGo (ls ++ r) i begun n b l = parseGo r (i + ls.length) true (parseGo ls i begun n b l).1 (parseGo ls i begun n b l).2.1 (parseGo ls i begun n b l).2.2.1
  | [], i, begun, n, b, l, h => by
    rw [parseGo] at h ⊢
    split at h
    · rename_i e
      rw [if_pos e, e]
      rfl
    · exact absurd h (by decide)
  | x :: ls, i, begun, n, b, l, h => by
    have q : i + (x :: ls).length = i + 1 + ls.length := by simp; omega
    rw [List.cons_append, q]
    rw [parseGo] at h ⊢
    conv => rhs; rw [parseGo]
    by_cases h1 : idleW (wordsB x) = true
    · rw [if_pos h1] at h
      rw [if_pos h1, if_pos h1]
      exact parse_app r ls (i + 1) begun n b l h
    · rw [if_neg h1] at h
      rw [if_neg h1, if_neg h1]
      by_cases h2 : (lineF begun n b l (wordsB x)).1 = 0
      · rw [if_pos h2] at h
        rw [if_pos h2, if_pos h2]
        exact parse_app r ls (i + 1) true _ _ _ h
      · rw [if_neg h2] at h
        exact absurd h h2
/-- What becomes of a network that is read when one arc more is told. -/
def moreE (n : Int) (l : List S37) (a : S37) : Int := (tailF n l (wordsB (mkB (rowHead [97, 114, 99] (arcInts a))))).1
theorem more_ok {n : Int} {l : List S37} {a : S37} (h : moreE n l a = 0) : (tailF n l (wordsB (mkB (rowHead [97, 114, 99] (arcInts a))))).2 = l ++ [a] := by
  unfold moreE at h
  rw [line_tail] at h ⊢
  split at h
  · rename_i k1
    rw [if_pos k1]
    split at h
    · rename_i k2
      rw [if_pos k2]
      split at h
      · exact absurd h (by simp)
      · rename_i k3
        rw [if_neg k3]
    · rename_i k2
      exact absurd h k2
  · exact absurd h (by simp)
theorem parse_more (ls : List ByteArray) (n : Int) (b : Bool) (l : List S37) (a : S37) (i : Int) (h : parseGo ls 0 false 0 false [] = (n, b, l, i, 0)) :
    parseGo (ls ++ [mkB (rowHead [97, 114, 99] (arcInts a))]) 0 false 0 false [] = if moreE n l a = 0 then (n, b, l ++ [a], 0, 0) else (0, false, [], ((ls.length + 1 : Nat) : Int), moreE n l a) := by
  rw [parse_app _ ls 0 false 0 false [] (by rw [h]), h]
  show parseGo [mkB (rowHead [97, 114, 99] (arcInts a))] (0 + ls.length) true n b l = _
  rw [parseGo, if_neg (by rw [line_idle]; decide)]
  unfold lineF
  rw [if_pos rfl]
  show (if moreE n l a = 0 then _ else _) = _
  by_cases h1 : moreE n l a = 0
  · rw [if_pos h1, if_pos h1, parseGo, if_pos rfl]
    show (n, b, (tailF n l _).2, (0 : Int), (0 : Int)) = _
    rw [more_ok h1]
  · rw [if_neg h1, if_neg h1, Nat.zero_add]
    rfl
theorem more_go (ls : List (List UInt8)) (m : Nat) (hm : ∀ l ∈ ls, l.length ≤ m) (hb : (m + 1) * (ls.length + 1) ≤ 4611686018427387) (x0 x1 x2 x3 y0 : Int) (y1 : Bool) (y2 : List S37) (R : Bool)
    (hend : Ev (fun k => ebbtidelaw05_NetfmtMore.l0 k true (ls.map mkB) (mkB (ls.flatMap endL)) ((ls.length : Nat) : Int) x0 x1 x2 x3 y0 y1 y2) R) : ∀ (d j : Nat), j + d = ls.length →
    Ev (fun k => ebbtidelaw05_NetfmtMore.l0 k true (ls.map mkB) (mkB ((ls.take j).flatMap endL)) (j : Int) x0 x1 x2 x3 y0 y1 y2) R
  | 0, j, hj => by
    have htk : ls.take j = ls := List.take_of_length_le (by omega)
    have : j = ls.length := by omega
    rw [htk, this]
    exact hend
  | d + 1, j, hj => by
    have hlt : j < ls.length := by omega
    have hlm := hm _ (List.getElem_mem hlt)
    have hfl := endl_len (ls.take j) m (fun l hl => hm l (List.mem_of_mem_take hl))
    have htl : (ls.take j).length ≤ ls.length := by rw [List.length_take]; omega
    have hmul : (m + 1) * (ls.take j).length ≤ (m + 1) * (ls.length + 1) := Nat.mul_le_mul_left _ (by omega)
    have hmul2 : (m + 1) * 1 ≤ (m + 1) * (ls.length + 1) := Nat.mul_le_mul_left _ (by omega)
    have hmul3 : 1 * (ls.length + 1) ≤ (m + 1) * (ls.length + 1) := Nat.mul_le_mul_right _ (by omega)
    have ih := more_go ls m hm hb x0 x1 x2 x3 y0 y1 y2 R hend d (j + 1) (by omega)
    have e1 : (ls.take (j + 1)).flatMap endL = (ls.take j).flatMap endL ++ ls[j] ++ [10] := by
      rw [List.take_succ_eq_append_getElem hlt, List.flatMap_append]
      simp [endL]
    rw [e1] at ih
    refine Ev.step (fun k => ?_) ih
    simp only [ebbtidelaw05_NetfmtMore.l0]
    have e2 : (⟨#[10]⟩ : ByteArray) = mkB [10] := rfl
    rw [if_pos (by simp; omega), if_pos (by omega), rdM ls j hlt, e2, mkB_append, mkB_append, if_pos (by rw [mkB_size, mkB_size]; omega), if_pos (by rw [mkB_size, List.length_append]; omega), w1 j (by omega)]
theorem NetfmtMore (a0 : ByteArray) (x0 x1 x2 x3 : Int) (hs : a0.size ≤ 4294967280) (h0 : inRange x0) (h1 : inRange x1) (h2 : inRange x2) (h3 : inRange x3) : ∃ k, ebbtidelaw05_NetfmtMore.f k a0 x0 x1 x2 x3 = some true := by
  refine Ev.rounds (g := fun k => ebbtidelaw05_NetfmtMore.f k a0 x0 x1 x2 x3) ?_
  have hl := parseF_len a0
  obtain ⟨y, hy⟩ : ∃ y, y = parseF a0 := ⟨_, rfl⟩
  obtain ⟨n, b, l, i, e⟩ := y
  rw [← hy] at hl
  have hf : ∀ k, ebbtidelaw05_NetfmtMore.f k a0 x0 x1 x2 x3 = (if (a0.size : Int) > 2000 then (ebbtidelaw05_NetfmtMore.j0 k a0 true true x0 x1 x2 x3 n b l) else (ebbtidelaw05_NetfmtMore.j0 k a0 true (e != 0) x0 x1 x2 x3 n b l)) := fun k => by
    unfold ebbtidelaw05_NetfmtMore.f
    rw [awake_ok, Option.bind_some, if_pos rfl, parse_f _ hs, Option.bind_some, ← hy]
  have hskip : Ev (fun k => ebbtidelaw05_NetfmtMore.j0 k a0 true true x0 x1 x2 x3 n b l) true := by
    refine Ev.step (f := fun _ => _) (fun k => ?_) (Ev.now true)
    simp only [ebbtidelaw05_NetfmtMore.j0]
    rw [if_pos trivial]
  by_cases hsz : a0.size ≤ 2000
  case neg =>
    refine Ev.congr (fun k => ?_) hskip
    rw [hf, if_pos (by omega)]
  by_cases he : e = 0
  case neg =>
    refine Ev.congr (fun k => ?_) hskip
    rw [hf, if_neg (by omega), bne_iff_ne.mpr he]
  subst he
  have hr : ∀ x ∈ arcInts ⟨x0, x1, x2, x3⟩, inRange x := by
    intro x hx
    simp only [arcInts, List.mem_cons, List.mem_nil_iff, or_false] at hx
    rcases hx with rfl | rfl | rfl | rfl <;> assumption
  have k1 := lines_len a0.data.toList []
  have k2 := lines_each a0.data.toList []
  rw [size_len] at k1
  have hraw : (rawL a0).length ≤ 2001 := by unfold rawL; omega
  have hm : ∀ l ∈ rawL a0, l.length ≤ 2000 := fun l hl => by have := k2 l hl; rw [size_len] at this; simp at this; omega
  have hfl := endl_len (rawL a0) 2000 hm
  have hfl2 : (2000 + 1) * (rawL a0).length ≤ (2000 + 1) * 2001 := Nat.mul_le_mul_left _ hraw
  have hal := arcL_le ⟨x0, x1, x2, x3⟩ hr
  have hparse : parseF (mkB ((rawL a0).flatMap endL) ++ mkB (arcL ⟨x0, x1, x2, x3⟩)) = if moreE n l ⟨x0, x1, x2, x3⟩ = 0 then (n, b, l ++ [⟨x0, x1, x2, x3⟩], 0, 0) else (0, false, [], (((rawL a0).length + 1 : Nat) : Int), moreE n l ⟨x0, x1, x2, x3⟩) := by
    unfold parseF
    rw [mkB_append, linesB_eq, mkB_data, lines_more (rawL a0) _ (lines_no10 a0.data.toList [] (by simp))]
    unfold arcL
    rw [lines_cut _ [] [] (row_no10 _ (by decide) _), List.map_append, ← linesB_raw]
    have := parse_more (linesB a0) n b l ⟨x0, x1, x2, x3⟩ i hy.symm
    have hlen : (linesB a0).length = (rawL a0).length := by rw [linesB_raw, List.length_map]
    rw [hlen] at this
    exact this
  have hsize : (mkB ((rawL a0).flatMap endL) ++ mkB (arcL ⟨x0, x1, x2, x3⟩)).size ≤ 4294967280 := by
    rw [mkB_append, mkB_size, List.length_append]
    omega
  have hend : Ev (fun k => ebbtidelaw05_NetfmtMore.l0 k true ((rawL a0).map mkB) (mkB ((rawL a0).flatMap endL)) (((rawL a0).length : Nat) : Int) x0 x1 x2 x3 n b l) true := by
    have hgoal : Ev (fun k => (netfmt_Parse.f (mkB ((rawL a0).flatMap endL) ++ mkB (arcL ⟨x0, x1, x2, x3⟩))).bind fun bt231 => (if bt231.2.2.2.2 = 0 then (if l.length < 4398046511104 then (if true = true then ((ebbtideref05_Same.f k n b (l ++ [(⟨x0, x1, x2, x3⟩ : S37)]) bt231.1 bt231.2.1 bt231.2.2.1).bind fun t242 => (some t242)) else (some false)) else (none)) else (if true = true then (if bt231.2.2.2.1 = (wrap64 ((((rawL a0).map mkB).length : Int) + 1)) then ((ebbtideref05_Same.f k bt231.1 bt231.2.1 bt231.2.2.1 0 false ([] : List (S37))).bind fun t243 => (some t243)) else (some false)) else (some false)))) true := by
      by_cases hz : moreE n l ⟨x0, x1, x2, x3⟩ = 0
      · rw [if_pos hz] at hparse
        refine Ev.congr (f := fun k => (ebbtideref05_Same.f k n b (l ++ [(⟨x0, x1, x2, x3⟩ : S37)]) n b (l ++ [(⟨x0, x1, x2, x3⟩ : S37)])).bind fun t242 => (some t242)) (fun k => ?_) (Ev.bind (same_net n b _ (by have : l.length ≤ 200 := hl; simp; omega)) (Ev.now true))
        rw [parse_f _ hsize, Option.bind_some, hparse, if_pos rfl, if_pos (by have : l.length ≤ 200 := hl; omega), if_pos rfl]
      · rw [if_neg hz] at hparse
        refine Ev.congr (f := fun k => (ebbtideref05_Same.f k 0 false [] 0 false []).bind fun t243 => (some t243)) (fun k => ?_) (Ev.bind (same_net 0 false [] (by simp)) (Ev.now true))
        rw [parse_f _ hsize, Option.bind_some, hparse, if_neg hz, if_pos rfl, List.length_map, w1 _ (by omega), if_pos rfl]
    refine Ev.step (f := fun k => (ebbtideref04_Row.f k (⟨#[97, 114, 99]⟩ : ByteArray) (arcInts ⟨x0, x1, x2, x3⟩)).bind fun t230 => (if (mkB ((rawL a0).flatMap endL)).size + t230.size ≤ 9223372036854775807 then ((netfmt_Parse.f (mkB ((rawL a0).flatMap endL) ++ t230)).bind fun bt231 => (if bt231.2.2.2.2 = 0 then (if l.length < 4398046511104 then (if true = true then ((ebbtideref05_Same.f k n b (l ++ [(⟨x0, x1, x2, x3⟩ : S37)]) bt231.1 bt231.2.1 bt231.2.2.1).bind fun t242 => (some t242)) else (some false)) else (none)) else (if true = true then (if bt231.2.2.2.1 = (wrap64 ((((rawL a0).map mkB).length : Int) + 1)) then ((ebbtideref05_Same.f k bt231.1 bt231.2.1 bt231.2.2.1 0 false ([] : List (S37))).bind fun t243 => (some t243)) else (some false)) else (some false)))) else (none))) (fun k => ?_) (Ev.bind (refRow ⟨#[97, 114, 99]⟩ _ hr (by simp [arcInts, ByteArray.size])) ?_)
    · simp only [ebbtidelaw05_NetfmtMore.l0]
      rw [if_neg (by simp), Option.bind_some, if_pos (by simp)]
      rfl
    · have e : rowB ⟨#[97, 114, 99]⟩ (arcInts ⟨x0, x1, x2, x3⟩) = mkB (arcL ⟨x0, x1, x2, x3⟩) := rfl
      rw [e]
      refine Ev.congr (fun k => ?_) hgoal
      rw [if_pos (by rw [mkB_size, mkB_size]; omega)]
  have hgo := more_go (rawL a0) 2000 hm (by omega) x0 x1 x2 x3 n b l true hend (rawL a0).length 0 (by omega)
  rw [List.take_zero] at hgo
  refine Ev.congr (f := fun k => ebbtidelaw05_NetfmtMore.j0 k a0 true false x0 x1 x2 x3 n b l) (fun k => by rw [hf, if_neg (by omega)]; rfl) ?_
  refine Ev.step (f := fun k => (ebbtideref04_Lines.f k a0).bind fun t220 => (ebbtidelaw05_NetfmtMore.l0 k true t220 (⟨#[]⟩ : ByteArray) 0 x0 x1 x2 x3 n b l)) (fun k => ?_) (Ev.bind (refLines a0 (by omega)) ?_)
  · simp only [ebbtidelaw05_NetfmtMore.j0]
    rw [if_neg (by decide)]
  · rw [linesB_raw]
    exact hgo
end Go.Proofs.YthalacoockoomaaDoor.PureNet
