/- Layer netfmt: plain laws on lines. -/
import Derived.Test.YthalacoockoomaaDoorHNetLaw
namespace Go.Proofs.YthalacoockoomaaDoor.PureNet
open Go.RowKit Go.Proofs.YthalacoockoomaaDoor.H Go.Proofs.YthalacoockoomaaDoor.Print Go.Proofs.YthalacoockoomaaDoor.PrintB Go.Proofs.YthalacoockoomaaDoor.PureWord Go.Proofs.YthalacoockoomaaDoorW.PrintWords Go.Proofs.YthalacoockoomaaDoorW.PrintLast

/-! ### lines -/
theorem lines_no10 : ∀ (l cur : List UInt8), 10 ∉ cur → ∀ p ∈ linesGo cur l, 10 ∉ p
  | [], cur, h, p, hp => by
    rw [linesGo] at hp
    split at hp
    · cases hp
    · rw [List.mem_singleton] at hp
      rw [hp]
      exact h
  | x :: l, cur, h, p, hp => by
    rw [linesGo] at hp
    split at hp
    · rcases List.mem_cons.1 hp with e | e
      · rw [e]
        exact h
      · exact lines_no10 l [] (by simp) p e
    · rename_i hx
      exact lines_no10 l (cur ++ [x]) (by simp [h]; exact fun e => hx e.symm) p hp
theorem lines_len : ∀ (l cur : List UInt8), (linesGo cur l).length ≤ l.length + 1
  | [], cur => by
    rw [linesGo]
    split <;> simp
  | x :: l, cur => by
    rw [linesGo]
    split
    · have := lines_len l []
      simp
      omega
    · have := lines_len l (cur ++ [x])
      simp
      omega
theorem lines_each : ∀ (l cur : List UInt8), ∀ p ∈ linesGo cur l, p.length ≤ cur.length + l.length
  | [], cur, p, hp => by
    rw [linesGo] at hp
    split at hp
    · cases hp
    · rw [List.mem_singleton] at hp
      simp [hp]
  | x :: l, cur, p, hp => by
    rw [linesGo] at hp
    split at hp
    · rcases List.mem_cons.1 hp with e | e
      · simp [e]
      · have := lines_each l [] p e
        simp at this ⊢
        omega
    · have := lines_each l (cur ++ [x]) p hp
      simp at this ⊢
      omega
def rawL (s : ByteArray) : List (List UInt8) := linesGo [] s.data.toList
theorem linesB_raw (s : ByteArray) : linesB s = (rawL s).map mkB := linesB_eq s
theorem rdM (ls : List (List UInt8)) (j : Nat) (h : j < ls.length) : rdOf ByteArray.empty (ls.map mkB) (j : Int) = mkB ls[j] := by simp [rdOf, h]
end Go.Proofs.YthalacoockoomaaDoor.PureNet
