/- Layer netfmt: NetfmtParses: the plain law. -/
import Derived.Test.YthalacoockoomaaDoorHNetPure
import Derived.Test.YthalacoockoomaaDoorPBParses
namespace Go.Proofs.YthalacoockoomaaDoor.PureNet
open Go.RowKit Go.Proofs.YthalacoockoomaaDoor.H Go.Proofs.YthalacoockoomaaDoor.Print Go.Proofs.YthalacoockoomaaDoor.PrintB Go.Proofs.YthalacoockoomaaDoor.PureWord Go.Proofs.YthalacoockoomaaDoorW.PrintWords Go.Proofs.YthalacoockoomaaDoorW.PrintLast

theorem NetfmtParses (a0 : ByteArray) (h : a0.size ≤ 4294967280) : ∃ k, ebbtidelaw05_NetfmtParses.f k a0 = some true := by
  have hl := parseF_len a0
  refine Ev.rounds (g := fun k => ebbtidelaw05_NetfmtParses.f k a0) ?_
  refine Ev.congr (f := fun k => (ebbtideref05_Same.f k (parseF a0).1 (parseF a0).2.1 (parseF a0).2.2.1 (parseF a0).1 (parseF a0).2.1 (parseF a0).2.2.1).bind fun t144 => (if t144 = true then (some true) else (some false))) (fun k => ?_) (Ev.bind (same_net _ _ _ (by omega)) ?_)
  · unfold ebbtidelaw05_NetfmtParses.f
    rw [parse_f a0 h, Option.bind_some, refParse_f a0 h, Option.bind_some, awake_ok, Option.bind_some, if_pos rfl, if_pos rfl, beq_self_eq_true]
  · refine Ev.congr (fun k => ?_) (Ev.now true)
    rw [if_pos rfl]
end Go.Proofs.YthalacoockoomaaDoor.PureNet
