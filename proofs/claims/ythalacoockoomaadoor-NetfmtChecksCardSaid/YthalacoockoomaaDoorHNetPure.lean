/- Layer netfmt: the plain laws. -/
import Derived.Test.YthalacoockoomaaDoorPBawake
namespace Go.Proofs.YthalacoockoomaaDoor.PureNet
open Go.RowKit Go.Proofs.YthalacoockoomaaDoor.H Go.Proofs.YthalacoockoomaaDoor.Print Go.Proofs.YthalacoockoomaaDoor.PrintB Go.Proofs.YthalacoockoomaaDoor.PureWord Go.Proofs.YthalacoockoomaaDoorW.PrintWords Go.Proofs.YthalacoockoomaaDoorW.PrintLast

theorem sameArcs_go (a : List S37) (ha : a.length ≤ 4611686018427387904) : ∀ (d i : Nat), i + d = a.length → Ev (fun k => ebbtideref03_SameArcs.l0 k a a (i : Int)) true
  | 0, i, hi => by
    refine Ev.step (f := fun _ => _) (fun k => ?_) (Ev.now _)
    simp only [ebbtideref03_SameArcs.l0]
    rw [if_neg (by omega)]
  | d + 1, i, hi => by
    refine Ev.step (f := fun k => ebbtideref03_SameArcs.l0 k a a ((i + 1 : Nat) : Int)) (fun k => ?_) (sameArcs_go a ha d (i + 1) (by omega))
    simp only [ebbtideref03_SameArcs.l0]
    rw [if_pos (by omega), if_pos (by omega), if_pos (by omega), if_neg (by simp), w1n i (by omega)]
theorem same_net (n : Int) (b : Bool) (l : List S37) (hl : l.length ≤ 4611686018427387904) : Ev (fun k => ebbtideref05_Same.f k n b l n b l) true := by
  refine Ev.congr (f := fun k => (ebbtideref03_SameArcs.f k l l).bind fun t245 => (some t245)) (fun k => ?_) (Ev.bind (Ev.congr (fun k => ?_) (sameArcs_go l hl l.length 0 (by omega))) (Ev.now true))
  · unfold ebbtideref05_Same.f
    rw [if_pos rfl, if_pos (by simp)]
  · unfold ebbtideref03_SameArcs.f
    rw [if_pos rfl]
    rfl

theorem awake_p1 : parseF ⟨#[110, 101, 116, 32, 50, 32, 104, 111, 108, 100, 10, 97, 114, 99, 32, 48, 32, 49, 32, 53, 32, 51, 10]⟩ = (2, true, [⟨0, 1, 5, 3⟩], 0, 0) := by kernel_rfl
theorem awake_p2 : parseF ⟨#[110, 101, 116, 32, 50, 32, 102, 114, 101, 101, 10, 10, 97, 114, 99, 32, 48, 32, 50, 32, 53, 32, 51]⟩ = (0, false, [], 3, 51) := by kernel_rfl

theorem awake_t : netL 2 true [⟨0, 1, 5, 3⟩] = [110, 101, 116, 32, 50, 32, 104, 111, 108, 100, 10, 97, 114, 99, 32, 48, 32, 49, 32, 53, 32, 51, 10] := by
  have d : ∀ n : Nat, n < 10 → Lib.itoa (n : Int) = [UInt8.ofNat (48 + n)] := by
    intro n hn
    unfold Lib.itoa
    rw [if_neg (by omega), Int.toNat_natCast, Lib.decDigits, dif_pos hn]
  have h0 : Lib.itoa 0 = [48] := d 0 (by decide)
  have h1 : Lib.itoa 1 = [49] := d 1 (by decide)
  have h2 : Lib.itoa 2 = [50] := d 2 (by decide)
  have h3 : Lib.itoa 3 = [51] := d 3 (by decide)
  have h5 : Lib.itoa 5 = [53] := d 5 (by decide)
  simp [netL, netHead, arcL, arcInts, rowHead, h0, h1, h2, h3, h5]
theorem parse_f (s : ByteArray) (h : s.size ≤ 4294967280) : netfmt_Parse.f s = some (parseF s) := by unfold netfmt_Parse.f; rw [if_pos h]
theorem refParse_f (s : ByteArray) (h : s.size ≤ 4294967280) : ebbtideref05_Parse.f s = some (parseF s) := by unfold ebbtideref05_Parse.f; rw [if_pos h]
theorem awake_c : checkF 2 [⟨0, 1, 5, 3⟩] = 0 := by decide
theorem awake_ok : ebbtidelaw05_awake.f = some true := by
  unfold ebbtidelaw05_awake.f
  rw [parse_f _ (by decide), awake_p1, Option.bind_some, parse_f _ (by decide), awake_p2]
  unfold netfmt_Print.f
  rw [Option.bind_some, if_pos awake_c, Option.bind_some, if_pos rfl, if_pos rfl, if_pos rfl, if_pos (by rw [ByteArray.toList_eq, mkB_data, awake_t]), if_pos rfl]
  rfl
theorem parseGo_len : ∀ (ls : List ByteArray) (i : Nat) (begun : Bool) (n : Int) (b : Bool) (l : List S37), l.length ≤ 200 → (parseGo ls i begun n b l).2.2.1.length ≤ 200
  | [], i, begun, n, b, l, h => by
    rw [parseGo]
    split
    · exact h
    · simp
  | t :: r, i, begun, n, b, l, h => by
    rw [parseGo]
    split
    · exact parseGo_len r _ _ _ _ _ h
    · split
      · exact parseGo_len r _ _ _ _ _ (lineF_len begun n b l _ h)
      · simp
theorem parseF_len (s : ByteArray) : (parseF s).2.2.1.length ≤ 200 := parseGo_len _ _ _ _ _ _ (by simp)

end Go.Proofs.YthalacoockoomaaDoor.PureNet
