/- Layer netfmt: NetfmtIdle: the plain law. -/
import Derived.Test.YthalacoockoomaaDoorHNetIdle
import Derived.Test.YthalacoockoomaaDoorPBIdle
namespace Go.Proofs.YthalacoockoomaaDoor.PureNet
open Go.RowKit Go.Proofs.YthalacoockoomaaDoor.H Go.Proofs.YthalacoockoomaaDoor.Print Go.Proofs.YthalacoockoomaaDoor.PrintB Go.Proofs.YthalacoockoomaaDoor.PureWord Go.Proofs.YthalacoockoomaaDoorW.PrintWords Go.Proofs.YthalacoockoomaaDoorW.PrintLast

theorem NetfmtIdle (a0 : ByteArray) : ∃ k, ebbtidelaw05_NetfmtIdle.f k a0 = some true := by
  refine Ev.rounds (g := fun k => ebbtidelaw05_NetfmtIdle.f k a0) ?_
  by_cases hs : a0.size ≤ 2000
  · have hl := parseF_len a0
    have h1 := lines_len a0.data.toList []
    have h2 := lines_each a0.data.toList []
    rw [size_len] at h1
    have hfl := flat_len (rawL a0) 2000 (fun l hl => by have := h2 l hl; rw [size_len] at this; simp at this; omega)
    have hline := parse_line (linesB a0) 0 false 0 false []
    have hll : (linesB a0).length ≤ 2001 := by rw [linesB_raw, List.length_map]; unfold rawL; omega
    have hp : parseF (mkB ((rawL a0).flatMap spLine)) = ((parseF a0).1, (parseF a0).2.1, (parseF a0).2.2.1, 3 * (parseF a0).2.2.2.1, (parseF a0).2.2.2.2) := by
      have := parse_three (rawL a0) 0 false 0 false []
      unfold parseF
      rw [linesB_eq, mkB_data, lines_spread (rawL a0) (lines_no10 a0.data.toList [] (by simp)), linesB_raw a0]
      exact this
    have hw : wrap64 (3 * (parseF a0).2.2.2.1) = 3 * (parseF a0).2.2.2.1 := by
      have : 0 ≤ (parseF a0).2.2.2.1 ∧ (parseF a0).2.2.2.1 ≤ ((0 + (linesB a0).length : Nat) : Int) := hline
      unfold wrap64
      omega
    refine Ev.congr (f := fun k => (ebbtidelaw05_spread.f k a0).bind fun t200 => ((netfmt_Parse.f t200).bind fun bt201 => (if (parseF a0).2.2.2.2 = bt201.2.2.2.2 then ((ebbtideref05_Same.f k (parseF a0).1 (parseF a0).2.1 (parseF a0).2.2.1 bt201.1 bt201.2.1 bt201.2.2.1).bind fun t209 => (if t209 = true then (some (bt201.2.2.2.1 == (wrap64 (3 * (parseF a0).2.2.2.1)))) else (some false))) else (some false)))) (fun k => ?_) (Ev.bind (spread_ev a0 hs) ?_)
    · unfold ebbtidelaw05_NetfmtIdle.f
      rw [awake_ok, Option.bind_some, if_pos rfl, if_neg (by omega), parse_f _ (by omega), Option.bind_some]
    · have hpf := parse_f (mkB ((rawL a0).flatMap spLine)) (by
        rw [mkB_size]
        have : (rawL a0).length ≤ 2001 := by unfold rawL; omega
        have h3 : (4 * 2000 + 8) * (rawL a0).length ≤ (4 * 2000 + 8) * 2001 := Nat.mul_le_mul_left _ this
        omega)
      refine Ev.congr (f := fun k => (ebbtideref05_Same.f k (parseF a0).1 (parseF a0).2.1 (parseF a0).2.2.1 (parseF a0).1 (parseF a0).2.1 (parseF a0).2.2.1).bind fun t209 => (if t209 = true then (some true) else (some false))) (fun k => ?_) (Ev.bind (same_net _ _ _ (by omega)) ?_)
      · rw [hpf, Option.bind_some, hp, if_pos rfl, hw, beq_self_eq_true]
      · refine Ev.congr (fun k => ?_) (Ev.now true)
        rw [if_pos rfl]
  · refine Ev.congr (fun k => ?_) (Ev.now true)
    unfold ebbtidelaw05_NetfmtIdle.f
    rw [awake_ok, Option.bind_some, if_pos rfl, if_pos (by omega)]
end Go.Proofs.YthalacoockoomaaDoor.PureNet
