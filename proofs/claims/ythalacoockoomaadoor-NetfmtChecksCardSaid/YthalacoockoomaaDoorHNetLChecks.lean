/- Layer netfmt: NetfmtChecks: the plain law. -/
import Derived.Test.YthalacoockoomaaDoorHNetLaw
import Derived.Test.YthalacoockoomaaDoorPBChecks
namespace Go.Proofs.YthalacoockoomaaDoor.PureNet
open Go.RowKit Go.Proofs.YthalacoockoomaaDoor.H Go.Proofs.YthalacoockoomaaDoor.Print Go.Proofs.YthalacoockoomaaDoor.PrintB Go.Proofs.YthalacoockoomaaDoor.PureWord Go.Proofs.YthalacoockoomaaDoorW.PrintWords Go.Proofs.YthalacoockoomaaDoorW.PrintLast

/-! ### the reference's Check and Spell -/
theorem refArc_ev (n : Int) (a : S37) : Ev (fun k => ebbtideref05_Arc.f k n a.f0 a.f1 a.f2 a.f3) (arcF n a) := by
  obtain ⟨k, hk⟩ := refArc_f n a
  exact Ev.of (fun k => ebbtideref05_Arc.mono _ _ _ _ _ k) hk
theorem refArcs_go (n : Int) (b : Bool) (l : List S37) (hl : l.length ≤ 200) : ∀ (d i : Nat), i + d = l.length → Ev (fun k => ebbtideref05_Check.l0 k (i : Int) n b l) (arcsF n (l.drop i))
  | 0, i, hi => by
    rw [List.drop_eq_nil_of_le (by omega), arcsF]
    refine Ev.step (f := fun _ => _) (fun k => ?_) (Ev.now _)
    simp only [ebbtideref05_Check.l0]
    rw [if_neg (by omega)]
  | d + 1, i, hi => by
    have hlt : i < l.length := by omega
    rw [List.drop_eq_getElem_cons hlt, arcsF]
    refine Ev.step (f := fun k => (ebbtideref05_Arc.f k n l[i].f0 l[i].f1 l[i].f2 l[i].f3).bind fun t106 => (if t106 = 0 then (ebbtideref05_Check.l0 k ((i + 1 : Nat) : Int) n b l) else (some t106))) (fun k => ?_) (Ev.bind (refArc_ev n l[i]) ?_)
    · simp only [ebbtideref05_Check.l0]
      rw [if_pos (by omega), if_pos (by omega), rd_at l i hlt, w1n i (by omega)]
    · by_cases h : arcF n l[i] = 0
      · rw [if_pos h]
        refine Ev.congr (fun k => ?_) (refArcs_go n b l hl d (i + 1) (by omega))
        rw [if_pos h]
      · rw [if_neg h]
        refine Ev.congr (fun k => ?_) (Ev.now _)
        rw [if_neg h]
theorem refCheck_ev (n : Int) (b : Bool) (l : List S37) : Ev (fun k => ebbtideref05_Check.f k n b l) (checkF n l) := by
  unfold checkF
  by_cases h : nodesF n = 0
  · rw [if_pos h]
    by_cases hl : l.length > 200
    · rw [if_pos hl]
      refine Ev.congr (fun k => ?_) (Ev.now _)
      unfold ebbtideref05_Check.f
      rw [refNodes_f, Option.bind_some, if_pos h, if_pos (by omega)]
    · rw [if_neg hl]
      refine Ev.congr (fun k => ?_) (refArcs_go n b l (by omega) l.length 0 (by omega))
      unfold ebbtideref05_Check.f
      rw [refNodes_f, Option.bind_some, if_pos h, if_neg (by omega)]
      rfl
  · rw [if_neg h]
    refine Ev.congr (fun k => ?_) (Ev.now _)
    unfold ebbtideref05_Check.f
    rw [refNodes_f, Option.bind_some, if_neg h]

theorem inR {n : Int} (h1 : 0 ≤ n) (h2 : n ≤ 9223372036854775807) : inRange n := ⟨by omega, h2⟩
theorem spell_go (n : Int) (b : Bool) (l : List S37) (hl : l.length ≤ 200) (hr : ∀ a ∈ l, ∀ x ∈ arcInts a, inRange x) (pre : List UInt8) (hp : pre.length ≤ 1000) : ∀ (d i : Nat), i + d = l.length →
    Ev (fun k => ebbtideref05_Spell.l0 k (mkB (pre ++ (l.take i).flatMap arcL)) (i : Int) n b l) (mkB (pre ++ l.flatMap arcL))
  | 0, i, hi => by
    have htk : l.take i = l := List.take_of_length_le (by omega)
    rw [htk]
    refine Ev.step (f := fun _ => _) (fun k => ?_) (Ev.now _)
    simp only [ebbtideref05_Spell.l0]
    rw [if_neg (by omega)]
  | d + 1, i, hi => by
    have hlt : i < l.length := by omega
    have hin := hr _ (List.getElem_mem hlt)
    have ih := spell_go n b l hl hr pre hp d (i + 1) (by omega)
    have h1 := arcs_len (l.take i) (fun a ha => hr a (List.mem_of_mem_take ha))
    have h2 : (l.take i).length ≤ i := List.length_take_le _ _
    have h3 := arcL_le l[i] hin
    rw [arcs_take l i hlt, ← List.append_assoc, ← mkB_append] at ih
    refine Ev.step (f := fun k => (ebbtideref04_Row.f k (⟨#[97, 114, 99]⟩ : ByteArray) (arcInts l[i])).bind fun t140 => (if (mkB (pre ++ (l.take i).flatMap arcL)).size + t140.size ≤ 9223372036854775807 then (ebbtideref05_Spell.l0 k (mkB (pre ++ (l.take i).flatMap arcL) ++ t140) ((i + 1 : Nat) : Int) n b l) else (none))) (fun k => ?_) ?_
    · simp only [ebbtideref05_Spell.l0]
      rw [if_pos (by omega), if_pos (by omega), Option.bind_some, if_pos (by simp), rd_at l i hlt, w1 i (by omega)]
      rfl
    · refine Ev.bind (refRow ⟨#[97, 114, 99]⟩ (arcInts l[i]) hin (by simp [arcInts, ByteArray.size])) ?_
      have e : rowB ⟨#[97, 114, 99]⟩ (arcInts l[i]) = mkB (arcL l[i]) := rfl
      rw [e]
      refine Ev.congr (fun k => ?_) ih
      rw [if_pos (by rw [mkB_size, mkB_size, List.length_append]; omega)]
theorem spell_ev (n : Int) (b : Bool) (l : List S37) (h : checkF n l = 0) : Ev (fun k => ebbtideref05_Spell.f k n b l) (mkB (netL n b l)) := by
  obtain ⟨hn, hl, ha⟩ := check_ok h
  have hr : ∀ a ∈ l, ∀ x ∈ arcInts a, inRange x := fun a h => arcInts_ok (by omega) (ha a h)
  have hin : inRange n := ⟨by omega, by omega⟩
  have hi := itoa_le n hin
  have hh := netHead_le n b hin
  have hgo := spell_go n b l hl hr (netHead n b) (by omega) l.length 0 (by omega)
  simp only [List.take_zero, List.flatMap_nil, List.append_nil] at hgo
  have e4 : (⟨#[110, 101, 116, 32]⟩ : ByteArray) = mkB [110, 101, 116, 32] := rfl
  have e5 : (⟨#[32, 104, 111, 108, 100, 10]⟩ : ByteArray) = mkB [32, 104, 111, 108, 100, 10] := rfl
  have e6 : (⟨#[32, 102, 114, 101, 101, 10]⟩ : ByteArray) = mkB [32, 102, 114, 101, 101, 10] := rfl
  unfold netL
  have hj : Ev (fun k => ebbtideref05_Spell.j0 k (mkB (netHead n b)) n b l) (mkB (netHead n b ++ l.flatMap arcL)) := by
    refine Ev.step (fun k => ?_) hgo
    simp only [ebbtideref05_Spell.j0]
    rfl
  refine Ev.bind (refText n hin) ?_
  refine Ev.congr (fun k => ?_) hj
  rw [if_pos (by rw [mkB_size]; omega), e4, e5, e6, mkB_append, mkB_append, mkB_append]
  cases b
  · rw [if_neg (by decide), if_pos (by rw [mkB_size, List.length_append]; simp; omega)]
    rfl
  · rw [if_pos rfl, if_pos (by rw [mkB_size, List.length_append]; simp; omega)]
    rfl
theorem refPrint_ev (n : Int) (b : Bool) (l : List S37) : Ev (fun k => ebbtideref05_Print.f k n b l) (if checkF n l = 0 then (mkB (netL n b l), 0) else (⟨#[]⟩, checkF n l)) := by
  refine Ev.bind (refCheck_ev n b l) ?_
  by_cases h : checkF n l = 0
  · rw [if_pos h]
    refine Ev.congr (f := fun k => (ebbtideref05_Spell.f k n b l).bind fun t => some (t, 0)) (fun k => ?_) (Ev.bind (spell_ev n b l h) (Ev.now _))
    rw [if_pos h]
  · rw [if_neg h]
    refine Ev.congr (fun k => ?_) (Ev.now _)
    rw [if_neg h]

theorem NetfmtChecks (n : Int) (b : Bool) (l : List S37) : ∃ k, ebbtidelaw05_NetfmtChecks.f k n b l = some true := by
  refine Ev.rounds (g := fun k => ebbtidelaw05_NetfmtChecks.f k n b l) ?_
  refine Ev.congr (f := fun k => (ebbtideref05_Print.f k n b l).bind fun bt122 => ((netfmt_Check.f k n b l).bind fun t125 => ((ebbtideref05_Check.f k n b l).bind fun t126 => (if t125 = t126 then (if (if checkF n l = 0 then (mkB (netL n b l), (0 : Int)) else (⟨#[]⟩, checkF n l)).1.toList = bt122.1.toList then (some ((if checkF n l = 0 then (mkB (netL n b l), (0 : Int)) else (⟨#[]⟩, checkF n l)).2 == bt122.2)) else (some false)) else (some false))))) (fun k => ?_)
    (Ev.bind (refPrint_ev n b l) (Ev.bind (check_ev n b l) (Ev.bind (refCheck_ev n b l) ?_)))
  · unfold ebbtidelaw05_NetfmtChecks.f
    rw [print_f, Option.bind_some, awake_ok]
    simp only [Option.bind_some, if_true]
  · refine Ev.congr (fun k => ?_) (Ev.now true)
    rw [if_pos rfl, if_pos rfl, beq_self_eq_true]
end Go.Proofs.YthalacoockoomaaDoor.PureNet
