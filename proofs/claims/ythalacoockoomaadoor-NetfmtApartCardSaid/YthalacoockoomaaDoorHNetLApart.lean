/- Layer netfmt: NetfmtApart: the plain law. -/
import Derived.Test.YthalacoockoomaaDoorHNetLaw
import Derived.Test.YthalacoockoomaaDoorPBApart
namespace Go.Proofs.YthalacoockoomaaDoor.PureNet
open Go.RowKit Go.Proofs.YthalacoockoomaaDoor.H Go.Proofs.YthalacoockoomaaDoor.Print Go.Proofs.YthalacoockoomaaDoor.PrintB Go.Proofs.YthalacoockoomaaDoor.PureWord Go.Proofs.YthalacoockoomaaDoorW.PrintWords Go.Proofs.YthalacoockoomaaDoorW.PrintLast

/-! ### texts of unlike networks -/
theorem s_ext (x y : S37) : x = y ↔ x.f0 = y.f0 ∧ x.f1 = y.f1 ∧ x.f2 = y.f2 ∧ x.f3 = y.f3 := by
  cases x
  cases y
  simp
instance decArc : DecidableEq S37 := fun x y => decidable_of_iff _ (s_ext x y).symm
def sameB (n : Int) (b : Bool) (l : List S37) (m : Int) (c : Bool) (r : List S37) : Bool := decide (n = m ∧ b = c ∧ l = r)
theorem sameArcs_any (a c : List S37) (ha : a.length ≤ 4611686018427387904) (hac : a.length = c.length) : ∀ (d i : Nat), i + d = a.length → Ev (fun k => ebbtideref03_SameArcs.l0 k a c (i : Int)) (decide (a.drop i = c.drop i))
  | 0, i, hi => by
    rw [List.drop_eq_nil_of_le (by omega), List.drop_eq_nil_of_le (by omega)]
    refine Ev.step (f := fun _ => _) (fun k => ?_) (Ev.now _)
    simp only [ebbtideref03_SameArcs.l0]
    rw [if_neg (by omega)]
    simp
  | d + 1, i, hi => by
    have hlt : i < a.length := by omega
    have hlt2 : i < c.length := by omega
    rw [List.drop_eq_getElem_cons hlt, List.drop_eq_getElem_cons hlt2]
    by_cases h : a[i] = c[i]
    · have e : decide (a[i] :: a.drop (i + 1) = c[i] :: c.drop (i + 1)) = decide (a.drop (i + 1) = c.drop (i + 1)) := decide_eq_decide.mpr ⟨fun e => (List.cons.inj e).2, fun e => by rw [e, h]⟩
      rw [e]
      refine Ev.step (f := fun k => ebbtideref03_SameArcs.l0 k a c ((i + 1 : Nat) : Int)) (fun k => ?_) (sameArcs_any a c ha hac d (i + 1) (by omega))
      simp only [ebbtideref03_SameArcs.l0]
      rw [if_pos (by omega), if_pos (by omega), if_pos (by omega), rd_at a i hlt, rd_at c i hlt2, h, if_neg (by simp), w1n i (by omega)]
    · have e : decide (a[i] :: a.drop (i + 1) = c[i] :: c.drop (i + 1)) = false := decide_eq_false (fun e => h (List.cons.inj e).1)
      rw [e]
      refine Ev.step (f := fun _ => _) (fun k => ?_) (Ev.now false)
      simp only [ebbtideref03_SameArcs.l0]
      rw [if_pos (by omega), if_pos (by omega), if_pos (by omega), rd_at a i hlt, rd_at c i hlt2, if_pos]
      rw [s_ext] at h
      by_cases h0 : a[i].f0 = c[i].f0
      · by_cases h1 : a[i].f1 = c[i].f1
        · by_cases h2 : a[i].f2 = c[i].f2
          · have h3 : ¬ a[i].f3 = c[i].f3 := fun h3 => h ⟨h0, h1, h2, h3⟩
            simp [h3]
          · simp [h2]
        · simp [h1]
      · simp [h0]
theorem same_any (n : Int) (b : Bool) (l : List S37) (m : Int) (c : Bool) (r : List S37) (hl : l.length ≤ 4611686018427387904) : Ev (fun k => ebbtideref05_Same.f k n b l m c r) (sameB n b l m c r) := by
  unfold sameB
  by_cases h0 : n = m
  · by_cases h1 : b = c
    · by_cases h2 : l.length = r.length
      · have hgo := sameArcs_any l r hl h2 l.length 0 (by omega)
        rw [List.drop_zero, List.drop_zero] at hgo
        have e : decide (n = m ∧ b = c ∧ l = r) = decide (l = r) := by simp [h0, h1]
        rw [e]
        refine Ev.congr (f := fun k => (ebbtideref03_SameArcs.l0 k l r ((0 : Nat) : Int)).bind fun t => some t) (fun k => ?_) (Ev.bind hgo (Ev.now _))
        unfold ebbtideref05_Same.f ebbtideref03_SameArcs.f
        rw [if_pos h0, if_pos (by simp [h1]), if_pos (by omega)]
        rfl
      · have e : decide (n = m ∧ b = c ∧ l = r) = false := by
          simp only [decide_eq_false_iff_not]
          rintro ⟨_, _, rfl⟩
          exact h2 rfl
        rw [e]
        refine Ev.congr (fun k => ?_) (Ev.now false)
        unfold ebbtideref05_Same.f ebbtideref03_SameArcs.f
        rw [if_pos h0, if_pos (by simp [h1]), if_neg (by omega)]
        rfl
    · have e : decide (n = m ∧ b = c ∧ l = r) = false := by simp [h1]
      rw [e]
      refine Ev.congr (fun k => ?_) (Ev.now false)
      unfold ebbtideref05_Same.f
      rw [if_pos h0, if_neg (by simp [h1])]
  · have e : decide (n = m ∧ b = c ∧ l = r) = false := by simp [h0]
    rw [e]
    refine Ev.congr (fun k => ?_) (Ev.now false)
    unfold ebbtideref05_Same.f
    rw [if_neg h0]
theorem NetfmtApart (n : Int) (b : Bool) (l : List S37) (m : Int) (c : Bool) (r : List S37) : ∃ k, ebbtidelaw05_NetfmtApart.f k n b l m c r = some true := by
  refine Ev.rounds (g := fun k => ebbtidelaw05_NetfmtApart.f k n b l m c r) ?_
  by_cases h1 : checkF n l = 0
  · by_cases h2 : checkF m r = 0
    · have hl := (check_ok h1).2.1
      refine Ev.congr (f := fun k => (ebbtideref05_Same.f k n b l m c r).bind fun t190 => (some (((mkB (netL n b l)).toList == (mkB (netL m c r)).toList) == t190))) (fun k => ?_) (Ev.bind (same_any n b l m c r (by omega)) ?_)
      · unfold ebbtidelaw05_NetfmtApart.f
        rw [awake_ok, Option.bind_some, if_pos rfl, print_f, print_f, if_pos h1, if_pos h2, Option.bind_some, Option.bind_some, if_pos rfl, if_pos rfl]
      · refine Ev.congr (fun k => ?_) (Ev.now true)
        congr 1
        rw [mkB_toList, mkB_toList]
        unfold sameB
        by_cases h : n = m ∧ b = c ∧ l = r
        · obtain ⟨rfl, rfl, rfl⟩ := h
          simp
        · have hne : netL n b l ≠ netL m c r := by
            intro e
            have q1 := parse_net n b l h1
            rw [e, parse_net m c r h2] at q1
            simp only [Prod.mk.injEq, and_true] at q1
            exact h ⟨q1.1.symm, q1.2.1.symm, q1.2.2.symm⟩
          simp [h, hne]
    · refine Ev.congr (fun k => ?_) (Ev.now true)
      unfold ebbtidelaw05_NetfmtApart.f
      rw [awake_ok, Option.bind_some, if_pos rfl, print_f, print_f, if_pos h1, if_neg h2, Option.bind_some, Option.bind_some, if_pos rfl, if_neg h2]
  · refine Ev.congr (fun k => ?_) (Ev.now true)
    unfold ebbtidelaw05_NetfmtApart.f
    rw [awake_ok, Option.bind_some, if_pos rfl, print_f, print_f, if_neg h1, Option.bind_some, Option.bind_some, if_neg h1]
end Go.Proofs.YthalacoockoomaaDoor.PureNet
