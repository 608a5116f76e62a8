/- Layer netfmt: NetfmtBack: the plain law. -/
import Derived.Test.YthalacoockoomaaDoorHNetLaw
import Derived.Test.YthalacoockoomaaDoorPBBack
namespace Go.Proofs.YthalacoockoomaaDoor.PureNet
open Go.RowKit Go.Proofs.YthalacoockoomaaDoor.H Go.Proofs.YthalacoockoomaaDoor.Print Go.Proofs.YthalacoockoomaaDoor.PrintB Go.Proofs.YthalacoockoomaaDoor.PureWord Go.Proofs.YthalacoockoomaaDoorW.PrintWords Go.Proofs.YthalacoockoomaaDoorW.PrintLast

theorem NetfmtBack (n : Int) (b : Bool) (l : List S37) : ∃ k, ebbtidelaw05_NetfmtBack.f k n b l = some true := by
  refine Ev.rounds (g := fun k => ebbtidelaw05_NetfmtBack.f k n b l) ?_
  by_cases h : checkF n l = 0
  · refine Ev.congr (f := fun k => (ebbtideref05_Same.f k n b l n b l).bind fun t157 => (some t157)) (fun k => ?_) (Ev.bind (same_net n b l (by have := (check_ok h).2.1; omega)) (Ev.now true))
    unfold ebbtidelaw05_NetfmtBack.f
    rw [awake_ok, Option.bind_some, if_pos rfl, print_f, if_pos h, Option.bind_some, if_pos rfl, parse_f _ (by have := net_size n b l h; show (mkB (netL n b l)).size ≤ _; omega), Option.bind_some, parse_net n b l h, if_pos rfl, if_pos rfl]
  · refine Ev.congr (f := fun k => (netfmt_Check.f k n b l).bind fun t158 => (some (t158 == checkF n l))) (fun k => ?_) (Ev.bind (check_ev n b l) ?_)
    · unfold ebbtidelaw05_NetfmtBack.f
      rw [awake_ok, Option.bind_some, if_pos rfl, print_f, if_neg h, Option.bind_some, if_neg h, if_pos (show (⟨#[]⟩ : ByteArray).toList = [] by rw [ByteArray.toList_eq])]
    · rw [beq_self_eq_true]
      exact Ev.now true
end Go.Proofs.YthalacoockoomaaDoor.PureNet
