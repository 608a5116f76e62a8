/- WordRows, WordJoins, WordLists: the plain statements. -/
import Derived.Test.YtdjnnkfopgmpaaaDoorHPureBack
namespace Go.Proofs.YtdjnnkfopgmpaaaDoor.PureWord
open Go.RowKit Go.Proofs.YtdjnnkfopgmpaaaDoor.H Go.Proofs.YtdjnnkfopgmpaaaDoor.Print Go.Proofs.YtdjnnkfopgmpaaaDoorW.PrintWords Go.Proofs.YtdjnnkfopgmpaaaDoorW.PrintLast

/-! ### rows -/
theorem dec_not (u : Nat) (c : UInt8) (hc : ¬ isDig c) : c ∉ Lib.decDigits u := fun h => hc (dec_digs u c h)
theorem itoa_not (n : Int) (c : UInt8) (hc : ¬ isDig c) (h45 : c ≠ 45) : c ∉ Lib.itoa n := by
  unfold Lib.itoa
  split
  · intro h
    rcases List.mem_cons.1 h with e | e
    · exact h45 e
    · exact dec_not _ c hc e
  · exact dec_not _ c hc
theorem itoa_ne (n : Int) : Lib.itoa n ≠ [] := by
  unfold Lib.itoa
  split
  · simp
  · exact dec_ne _

theorem splitL_rows (a : List UInt8) (ha : 32 ∉ a) : ∀ l : List Int, splitL 32 (a ++ l.flatMap fun n => 32 :: Lib.itoa n) = a :: l.map Lib.itoa
  | [] => by simp [splitL_none 32 a ha]
  | n :: l => by
    rw [List.flatMap_cons, List.cons_append, splitL_cut 32 a _ ha, splitL_rows (Lib.itoa n) (itoa_not n 32 (by decide) (by decide)) l]
    rfl

theorem words_of_row (w : List UInt8) (hw : w ≠ []) (h32 : 32 ∉ w) (l : List Int) : wordsGo [] (rowHead w l) = w :: l.map Lib.itoa := by
  rw [wordsGo_eq _ _ (by simp), List.nil_append]
  unfold rowHead
  rw [splitL_rows w h32 l, List.filter_eq_self]
  intro p hp
  rcases List.mem_cons.1 hp with e | e
  · simpa [e] using hw
  · obtain ⟨n, _, rfl⟩ := List.mem_map.1 e
    simpa using itoa_ne n

theorem row_no10 (w : List UInt8) (h10 : 10 ∉ w) (l : List Int) : 10 ∉ rowHead w l := by
  unfold rowHead
  intro h
  rcases List.mem_append.1 h with h | h
  · exact h10 h
  · obtain ⟨n, _, hn⟩ := List.mem_flatMap.1 h
    rcases List.mem_cons.1 hn with e | e
    · revert e; decide
    · exact itoa_not n 10 (by decide) (by decide) e

theorem lines_of_row (a : List UInt8) (h10 : 10 ∉ a) : linesGo [] (a ++ [10]) = [a] := by
  rw [linesGo_eq _ _ (by simp), List.nil_append, splitL_end, splitL_none 10 a h10]
  rfl

theorem clean_go (w : ByteArray) (l : List Int) (hw : w.size ≤ 4611686018427387904) (hend : Ev (fun k => ebbtidelaw04_WordRows.l0 k w l true (w.size : Int)) true) : ∀ (d i : Nat), i + d = w.size → (∀ c ∈ w.data.toList.take i, c ≠ 32 ∧ c ≠ 10) → Ev (fun k => ebbtidelaw04_WordRows.l0 k w l true (i : Int)) true
  | 0, i, hi, hc => by
    have hie : i = w.size := by omega
    subst hie
    exact hend
  | d + 1, i, hi, hc => by
    have hlt : i < w.size := by omega
    have hb := bt_nat w i hlt
    generalize hcc : w.data.toList[i]'(by simpa using hlt) = c at hb
    by_cases h32 : c = 32
    · refine Ev.step (f := fun _ => _) (fun k => ?_) (Ev.now true)
      simp only [ebbtidelaw04_WordRows.l0]
      rw [if_pos (by omega), if_pos (by omega), if_pos (by rw [hb, h32]; rfl)]
    · by_cases h10 : c = 10
      · refine Ev.step (f := fun _ => _) (fun k => ?_) (Ev.now true)
        simp only [ebbtidelaw04_WordRows.l0]
        rw [if_pos (by omega), if_pos (by omega), if_neg (by rw [hb]; intro e; exact h32 ((isByte _ 32 (by decide)).1 e)), if_pos (by rw [hb, h10]; rfl)]
      · have ih := clean_go w l hw hend d (i + 1) (by omega) (by
          rw [List.take_succ_eq_append_getElem (by simpa using hlt), hcc]
          intro x hx
          rcases List.mem_append.1 hx with h | h
          · exact hc x h
          · rw [List.mem_singleton] at h
            rw [h]
            exact ⟨h32, h10⟩)
        refine Ev.step (f := fun k => ebbtidelaw04_WordRows.l0 k w l true ((i + 1 : Nat) : Int)) (fun k => ?_) ih
        simp only [ebbtidelaw04_WordRows.l0]
        rw [if_pos (by omega), if_pos (by omega), if_neg (by rw [hb]; intro e; exact h32 ((isByte _ 32 (by decide)).1 e)), if_neg (by rw [hb]; intro e; exact h10 ((isByte _ 10 (by decide)).1 e)), w1 i (by omega)]

theorem texts_go (a : ByteArray) (l : List Int) (hr : ∀ n ∈ l, inRange n) (hl : l.length ≤ 200) : ∀ (d i : Nat), i + d = l.length → Ev (fun k => ebbtidelaw04_WordRows.l1 k l true (a :: l.map fun n => mkB (Lib.itoa n)) (i : Int)) true
  | 0, i, hi => by
    refine Ev.step (f := fun _ => _) (fun k => ?_) (Ev.now true)
    simp only [ebbtidelaw04_WordRows.l1]
    rw [if_neg (by omega)]
  | d + 1, i, hi => by
    have hlt : i < l.length := by omega
    have hrd : rd l (i : Int) = l[i] := by simp [rd, hlt]
    have hin := hr _ (List.getElem_mem hlt)
    have ht : word_Text.f l[i] = some (mkB (Lib.itoa l[i])) := by unfold word_Text.f; rw [if_pos hin]
    refine Ev.step (f := fun k => ebbtidelaw04_WordRows.l1 k l true (a :: l.map fun n => mkB (Lib.itoa n)) ((i + 1 : Nat) : Int)) (fun k => ?_) (texts_go a l hr hl d (i + 1) (by omega))
    simp only [ebbtidelaw04_WordRows.l1]
    rw [if_pos (by omega), w1 i (by omega), if_pos (by omega), if_pos (by simp; omega), if_pos (by omega), hrd, ht]
    simp only [Option.bind_some]
    rw [if_pos]
    simp [rdOf, hlt]

theorem row_end (a0 : ByteArray) (l1 : List Int) (h0 : a0.size ≤ 1048576) (h1 : ∀ n ∈ l1, inRange n) (hl : l1.length ≤ 200) (hw : a0.toList ≠ []) (hcl : ∀ c ∈ a0.data.toList, c ≠ 32 ∧ c ≠ 10) :
    Ev (fun k => ebbtidelaw04_WordRows.l0 k a0 l1 true (a0.size : Int)) true := by
  have hrow : word_Row.f a0 l1 = some (rowB a0 l1) := by unfold word_Row.f; rw [if_pos ⟨by omega, h1⟩]
  have hrs := rowHead_le a0.data.toList l1 h1
  rw [size_len] at hrs
  have hlines : word_Lines.f (rowB a0 l1) = some [mkB (rowHead a0.data.toList l1)] := by
    unfold word_Lines.f
    rw [if_pos (by unfold rowB; rw [mkB_size, List.length_append]; simp; omega), linesB_eq]
    unfold rowB
    rw [mkB_data, lines_of_row _ (row_no10 _ (fun h => (hcl 10 h).2 rfl) _), List.map_cons, List.map_nil]
  have hwords : word_Words.f (mkB (rowHead a0.data.toList l1)) = some (a0 :: l1.map fun n => mkB (Lib.itoa n)) := by
    unfold word_Words.f
    rw [if_pos (by rw [mkB_size]; omega), wordsB_eq, mkB_data, words_of_row _ (by rw [← ByteArray.toList_eq]; exact hw) (fun h => (hcl 32 h).1 rfl), List.map_cons, List.map_map, mkB_of]
    rfl
  have e0 : ∀ b : ByteArray, rdOf ByteArray.empty [b] 0 = b := fun b => rfl
  have e1 : ∀ (b : ByteArray) l, rdOf ByteArray.empty (b :: l) 0 = b := fun b l => rfl
  refine Ev.step (f := fun k => ebbtidelaw04_WordRows.j2 k l1 true (a0 :: l1.map fun n => mkB (Lib.itoa n)) false) (fun k => ?_) ?_
  · simp only [ebbtidelaw04_WordRows.l0]
    rw [if_neg (by omega), hrow, Option.bind_some, hlines, Option.bind_some, if_pos (by simp), if_pos (by simp), e0, hwords, Option.bind_some, if_pos (by rw [w1 _ (by omega)]; simp), if_pos (by simp), e1, bne_self_eq_false]
  · refine Ev.step (f := fun k => ebbtidelaw04_WordRows.l1 k l1 true (a0 :: l1.map fun n => mkB (Lib.itoa n)) ((0 : Nat) : Int)) (fun k => ?_) (texts_go a0 l1 h1 (by omega) l1.length 0 (by omega))
    simp only [ebbtidelaw04_WordRows.j2]
    rw [if_neg (by decide), Int.natCast_zero]

theorem row_stop (a0 : ByteArray) (l1 : List Int) (h0 : a0.size ≤ 1048576) : ∀ (d i : Nat), i + d = a0.size → ¬ (∀ c ∈ a0.data.toList.drop i, c ≠ 32 ∧ c ≠ 10) → Ev (fun k => ebbtidelaw04_WordRows.l0 k a0 l1 true (i : Int)) true
  | 0, i, hi, hc => absurd (fun c hcc => by rw [List.drop_eq_nil_of_le (by rw [size_len]; omega)] at hcc; simp at hcc) hc
  | d + 1, i, hi, hc => by
    have hlt : i < a0.size := by omega
    have hb := bt_nat a0 i hlt
    have hdr := drop_at a0 i hlt
    generalize hcc : a0.data.toList[i]'(by simpa using hlt) = c at hb hdr
    by_cases h32 : c = 32
    · refine Ev.step (f := fun _ => _) (fun k => ?_) (Ev.now true)
      simp only [ebbtidelaw04_WordRows.l0]
      rw [if_pos (by omega), if_pos (by omega), if_pos (by rw [hb, h32]; rfl)]
    · by_cases h10 : c = 10
      · refine Ev.step (f := fun _ => _) (fun k => ?_) (Ev.now true)
        simp only [ebbtidelaw04_WordRows.l0]
        rw [if_pos (by omega), if_pos (by omega), if_neg (by rw [hb]; intro e; exact h32 ((isByte _ 32 (by decide)).1 e)), if_pos (by rw [hb, h10]; rfl)]
      · refine Ev.step (f := fun k => ebbtidelaw04_WordRows.l0 k a0 l1 true ((i + 1 : Nat) : Int)) (fun k => ?_) (row_stop a0 l1 h0 d (i + 1) (by omega) (fun h => hc (fun x hx => by
          rw [hdr] at hx
          rcases List.mem_cons.1 hx with e | e
          · rw [e]; exact ⟨h32, h10⟩
          · exact h x e)))
        simp only [ebbtidelaw04_WordRows.l0]
        rw [if_pos (by omega), if_pos (by omega), if_neg (by rw [hb]; intro e; exact h32 ((isByte _ 32 (by decide)).1 e)), if_neg (by rw [hb]; intro e; exact h10 ((isByte _ 10 (by decide)).1 e)), w1 i (by omega)]

theorem row_all (a0 : ByteArray) (l1 : List Int) (h0 : a0.size ≤ 1048576) (h1 : ∀ n ∈ l1, inRange n) (hl : l1.length ≤ 200) (hw : a0.toList ≠ []) :
    Ev (fun k => ebbtidelaw04_WordRows.l0 k a0 l1 true ((0 : Nat) : Int)) true := by
  by_cases hcl : ∀ c ∈ a0.data.toList, c ≠ 32 ∧ c ≠ 10
  · exact clean_go a0 l1 (by omega) (row_end a0 l1 h0 h1 hl hw hcl) a0.size 0 (by omega) (by simp)
  · exact row_stop a0 l1 h0 a0.size 0 (by omega) (by simpa using hcl)

theorem row_skip (a0 : ByteArray) (l1 : List Int) : Ev (fun k => ebbtidelaw04_WordRows.j0 k a0 l1 true true) true := by
  refine Ev.step (f := fun _ => _) (fun k => ?_) (Ev.now true)
  simp only [ebbtidelaw04_WordRows.j0]
  rw [if_pos trivial]

theorem rows_f (k : Nat) (a0 : ByteArray) (l1 : List Int) : ebbtidelaw04_WordRows.f k a0 l1 = (if (l1.length : Int) > 200 then (ebbtidelaw04_WordRows.j0 k a0 l1 true true) else (ebbtidelaw04_WordRows.j0 k a0 l1 true (a0.toList == ([] : List UInt8)))) := by
  unfold ebbtidelaw04_WordRows.f
  rw [awake_ok, Option.bind_some, if_pos rfl]

theorem WordRows (a0 : ByteArray) (l1 : List Int) (h0 : a0.size ≤ 1048576) (h1 : ∀ n ∈ l1, inRange n) : ∃ k, ebbtidelaw04_WordRows.f k a0 l1 = some true := by
  refine Ev.rounds (g := fun k => ebbtidelaw04_WordRows.f k a0 l1) ?_
  by_cases hl : l1.length > 200
  · refine Ev.congr (fun k => ?_) (row_skip a0 l1)
    rw [rows_f, if_pos (by omega)]
  · by_cases hw : a0.toList = []
    · refine Ev.congr (fun k => ?_) (row_skip a0 l1)
      rw [rows_f, if_neg (by omega), beq_iff_eq.2 hw]
    · refine Ev.congr (f := fun k => ebbtidelaw04_WordRows.j0 k a0 l1 true false) (fun k => ?_) ?_
      · rw [rows_f, if_neg (by omega), beq_eq_false_iff_ne.2 hw]
      refine Ev.step (f := fun k => ebbtidelaw04_WordRows.l0 k a0 l1 true ((0 : Nat) : Int)) (fun k => ?_) (row_all a0 l1 h0 h1 (by omega) hw)
      simp only [ebbtidelaw04_WordRows.j0]
      rw [if_neg (by decide), Int.natCast_zero]
end Go.Proofs.YtdjnnkfopgmpaaaDoor.PureWord
