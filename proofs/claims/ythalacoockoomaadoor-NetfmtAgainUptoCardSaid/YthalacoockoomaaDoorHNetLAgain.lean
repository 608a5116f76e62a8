/- Layer netfmt: NetfmtAgain: the plain law. -/
import Derived.Test.YthalacoockoomaaDoorHNetLaw
import Derived.Test.YthalacoockoomaaDoorPBAgain
namespace Go.Proofs.YthalacoockoomaaDoor.PureNet
open Go.RowKit Go.Proofs.YthalacoockoomaaDoor.H Go.Proofs.YthalacoockoomaaDoor.Print Go.Proofs.YthalacoockoomaaDoor.PrintB Go.Proofs.YthalacoockoomaaDoor.PureWord Go.Proofs.YthalacoockoomaaDoorW.PrintWords Go.Proofs.YthalacoockoomaaDoorW.PrintLast

theorem NetfmtAgain (a0 : ByteArray) (hs : a0.size ≤ 4294967280) : ∃ k, ebbtidelaw05_NetfmtAgain.f k a0 = some true := by
  have hl := parseF_len a0
  obtain ⟨p1, p2⟩ := parseF_ok a0
  refine Ev.rounds (g := fun k => ebbtidelaw05_NetfmtAgain.f k a0) ?_
  obtain ⟨x, hx⟩ : ∃ x : Int × Bool × List S37 × Int × Int, x = parseF a0 := ⟨_, rfl⟩
  obtain ⟨n, b, l, i, e⟩ := x
  rw [← hx] at p1 p2 hl
  by_cases h : e = 0
  · subst h
    obtain ⟨q1, q2⟩ := p1 rfl
    have q1' : i = 0 := q1
    have q2' : checkF n l = 0 := q2
    subst q1'
    refine Ev.congr (f := fun k => (netfmt_Check.f k n b l).bind fun t181 => (if t181 = 0 then ((ebbtideref05_Same.f k n b l n b l).bind fun t182 => (if t182 = true then (some true) else (some false))) else (some false))) (fun k => ?_)
      (Ev.bind (check_ev n b l) ?_)
    · unfold ebbtidelaw05_NetfmtAgain.f
      rw [awake_ok, Option.bind_some, if_pos rfl, parse_f _ hs, Option.bind_some, ← hx, if_pos rfl, print_f, if_pos q2', Option.bind_some, parse_f _ (by have := net_size n b l q2'; show (mkB (netL n b l)).size ≤ _; omega), Option.bind_some, parse_net n b l q2']
      simp only [print_f, if_pos q2', Option.bind_some, if_true, beq_self_eq_true]
    · rw [q2']
      refine Ev.congr (f := fun k => (ebbtideref05_Same.f k n b l n b l).bind fun t182 => if t182 = true then some true else some false) (fun k => if_pos rfl) (Ev.bind (same_net n b l (by have : l.length ≤ 200 := hl; omega)) ?_)
      refine Ev.congr (fun k => ?_) (Ev.now true)
      rw [if_pos rfl]
  · obtain ⟨q1, q2, q3⟩ := p2 h
    have q1' : n = 0 := q1
    have q2' : b = false := q2
    have q3' : l = [] := q3
    subst q1' q2' q3'
    refine Ev.congr (f := fun k => (ebbtideref05_Same.f k 0 false [] 0 false []).bind fun t168 => (some t168)) (fun k => ?_) (Ev.bind (same_net 0 false [] (by simp)) (Ev.now true))
    unfold ebbtidelaw05_NetfmtAgain.f
    rw [awake_ok, Option.bind_some, if_pos rfl, parse_f _ hs, Option.bind_some, ← hx, if_neg h]
end Go.Proofs.YthalacoockoomaaDoor.PureNet
