/-
  No cell of these rows narrows 'for every input' (looked for: loops, veiled, ifaces, maps, wideKeys, modest, calm, conditions, laid).
  DERIVED. THE GIVEN ROWS OF THIS SEAT. 4 by the template 'for every input the law returns true; each argument reads behind the call as it read before'; 0 by the template 'total and deterministic' (their statements: YtcgdloldkcmhnaaGreatTotals.lean).
  GIVEN WITH THE SEED: the statements are not yours to turn. If you find one false, say at which input.
  Laid BY PROGRAM, IN A SANDBOX (cutbox-rows.mjs): the forced cells as the released guide's own fill.sh prints them over the translation 92837a3492e6c200… (all of the seat's roots in one cut). By AI agents, Wed Nov 11 2026. No macro, syntax, notation, axiom, sorry.
-/
import Derived.Test.YtcgdloldkcmhnaaGreatChecked
import GoSem.Claim
import GoSem.ClaimJoined
import GoSem.ClaimMapViews
import Derived.JoinedTies
import Derived.KernelRfl
namespace Go.Proofs.YtcgdloldkcmhnaaGreat
/- THE CELL 'sum', in the pinned program and in every row, IS THE sha256 OF THE DUMP (.gsa) THAT YtcgdloldkcmhnaaGreatProg.lean LOADS. Nothing in Lean hashes anything: it is a label: what it is worth is what the hold of that sum in a sandbox is worth. -/
noncomputable def Tryz.pinned : Pinned := { name := "ytcgdloldkcmhnaagreat", sum := "92837a3492e6c2007db63f074a447f2aaa1cd5c509f0170242211754483a4a3e", checked := Tryz.checked }
namespace Rows
def none {H : Type} : Left H := { results := [], args := [] }

/-- 'ebbtidelaw21.EvacPlans': WHATEVER THE INPUT: true; the input reads as it did. -/
def evacPlansSpec : ChangeSpec := { name := "evacPlans", fn := fun _ => fun
  | [d] => { results := [.lit (.bool true)], args := [d] }
  | _ => none }
def evacPlansRow : OpenClaim := { program := "ytcgdloldkcmhnaagreat", sum := "92837a3492e6c2007db63f074a447f2aaa1cd5c509f0170242211754483a4a3e", func := "ebbtide/ebbtidelaw21.EvacPlans", spec := "evacPlans", inPlace := ["math/bits.Add64"], unfollowed := true, recurses := true, plainKeys := false, apart := false }
def EvacPlansSaid : Prop := evacPlansRow.holds Tryz.pinned (OpenSpec.ofChange evacPlansSpec)

/-- ITS FALSE NEIGHBOUR: 'it returns false'. Refute it at one input. -/
def evacPlansWrong : ChangeSpec := { name := "evacPlans", fn := fun _ => fun
  | [d] => { results := [.lit (.bool false)], args := [d] }
  | _ => none }
def EvacPlansWrongFalsely : Prop := evacPlansRow.holds Tryz.pinned (OpenSpec.ofChange evacPlansWrong)

/-- 'ebbtidelaw21.EvacRefuses': WHATEVER THE INPUT: true; the input reads as it did. -/
def evacRefusesSpec : ChangeSpec := { name := "evacRefuses", fn := fun _ => fun
  | [d1, d2, d3, d4] => { results := [.lit (.bool true)], args := [d1, d2, d3, d4] }
  | _ => none }
def evacRefusesRow : OpenClaim := { program := "ytcgdloldkcmhnaagreat", sum := "92837a3492e6c2007db63f074a447f2aaa1cd5c509f0170242211754483a4a3e", func := "ebbtide/ebbtidelaw21.EvacRefuses", spec := "evacRefuses", inPlace := ["math/bits.Add64"], unfollowed := true, recurses := true, plainKeys := false, apart := false }
def EvacRefusesSaid : Prop := evacRefusesRow.holds Tryz.pinned (OpenSpec.ofChange evacRefusesSpec)

/-- ITS FALSE NEIGHBOUR: 'it returns false'. Refute it at one input. -/
def evacRefusesWrong : ChangeSpec := { name := "evacRefuses", fn := fun _ => fun
  | [d1, d2, d3, d4] => { results := [.lit (.bool false)], args := [d1, d2, d3, d4] }
  | _ => none }
def EvacRefusesWrongFalsely : Prop := evacRefusesRow.holds Tryz.pinned (OpenSpec.ofChange evacRefusesWrong)

/-- 'ebbtidelaw21.EvacChecks': WHATEVER THE INPUT: true; the input reads as it did. -/
def evacChecksSpec : ChangeSpec := { name := "evacChecks", fn := fun _ => fun
  | [d1, d2, d3, d4, d5, d6] => { results := [.lit (.bool true)], args := [d1, d2, d3, d4, d5, d6] }
  | _ => none }
def evacChecksRow : OpenClaim := { program := "ytcgdloldkcmhnaagreat", sum := "92837a3492e6c2007db63f074a447f2aaa1cd5c509f0170242211754483a4a3e", func := "ebbtide/ebbtidelaw21.EvacChecks", spec := "evacChecks", inPlace := ["math/bits.Add64"], unfollowed := true, recurses := true, plainKeys := false, apart := false }
def EvacChecksSaid : Prop := evacChecksRow.holds Tryz.pinned (OpenSpec.ofChange evacChecksSpec)

/-- ITS FALSE NEIGHBOUR: 'it returns false'. Refute it at one input. -/
def evacChecksWrong : ChangeSpec := { name := "evacChecks", fn := fun _ => fun
  | [d1, d2, d3, d4, d5, d6] => { results := [.lit (.bool false)], args := [d1, d2, d3, d4, d5, d6] }
  | _ => none }
def EvacChecksWrongFalsely : Prop := evacChecksRow.holds Tryz.pinned (OpenSpec.ofChange evacChecksWrong)

/-- 'ebbtidelaw21.EvacSmall': WHATEVER THE INPUT: true; the input reads as it did. -/
def evacSmallSpec : ChangeSpec := { name := "evacSmall", fn := fun _ => fun
  | [d] => { results := [.lit (.bool true)], args := [d] }
  | _ => none }
def evacSmallRow : OpenClaim := { program := "ytcgdloldkcmhnaagreat", sum := "92837a3492e6c2007db63f074a447f2aaa1cd5c509f0170242211754483a4a3e", func := "ebbtide/ebbtidelaw21.EvacSmall", spec := "evacSmall", inPlace := ["math/bits.Add64"], unfollowed := true, recurses := true, plainKeys := false, apart := false }
def EvacSmallSaid : Prop := evacSmallRow.holds Tryz.pinned (OpenSpec.ofChange evacSmallSpec)

/-- ITS FALSE NEIGHBOUR: 'it returns false'. Refute it at one input. -/
def evacSmallWrong : ChangeSpec := { name := "evacSmall", fn := fun _ => fun
  | [d] => { results := [.lit (.bool false)], args := [d] }
  | _ => none }
def EvacSmallWrongFalsely : Prop := evacSmallRow.holds Tryz.pinned (OpenSpec.ofChange evacSmallWrong)

/- THE SECOND FORM. 'bulk': how many values and letters a reading holds, each counted each time it is reached (what is shared counts as often as it is met; a slice's spare places count too). A statement '..UptoSaid' is the law's where the arguments, and the package variables that the reading takes, are together of bulk at most 1048576: NARROWER than '..Said'. Prove '..Said' where nothing that the law and all that it calls make is longer than what came in: it says more and counts as full. Else prove '..UptoSaid'. A law counts once. -/
mutual
def uptoBulk {H : Type} : DataW H → Nat
  | .lit (.string bytes) => bytes.length + 1
  | .lit _ => 1
  | .nil => 1
  | .ptr d => uptoBulk d + 1
  | .slice elems spare => uptoBulkAll elems + uptoBulkAll spare + 1
  | .agg parts => uptoBulkAll parts + 1
  | .iface _ d => uptoBulk d + 1
  | .map entries => uptoBulkEntries entries + 1
  | .held _ => 1
def uptoBulkAll {H : Type} : List (DataW H) → Nat
  | [] => 0
  | d :: r => uptoBulk d + uptoBulkAll r
def uptoBulkEntries {H : Type} : List (Lit × DataW H) → Nat
  | [] => 0
  | x :: r => uptoBulkEntry x + uptoBulkEntries r
def uptoBulkEntry {H : Type} : Lit × DataW H → Nat
  | (.string bytes, d) => bytes.length + uptoBulk d + 1
  | (_, d) => uptoBulk d + 1
 end
def uptoSmall : (H : Type) → List (DataW H) → Bool := fun _ ds => decide (uptoBulkAll ds ≤ 1048576)
def OpenSpec.upto (s : _root_.Go.ChangeSpec) : _root_.Go.OpenSpec := { _root_.Go.OpenSpec.ofChange s with cond := some uptoSmall }

/-- 'ebbtidelaw21.EvacPlans', WHERE WHAT IT READS IS OF BULK AT MOST 1048576: true; the input reads as it did. -/
def evacPlansUptoRow : OpenClaim := { program := "ytcgdloldkcmhnaagreat", sum := "92837a3492e6c2007db63f074a447f2aaa1cd5c509f0170242211754483a4a3e", func := "ebbtide/ebbtidelaw21.EvacPlans", spec := "evacPlans", inPlace := ["math/bits.Add64"], unfollowed := true, recurses := true, plainKeys := false, apart := false, narrowed := true }
def EvacPlansUptoSaid : Prop := evacPlansUptoRow.holds Tryz.pinned (OpenSpec.upto evacPlansSpec)

/-- 'ebbtidelaw21.EvacRefuses', WHERE WHAT IT READS IS OF BULK AT MOST 1048576: true; the input reads as it did. -/
def evacRefusesUptoRow : OpenClaim := { program := "ytcgdloldkcmhnaagreat", sum := "92837a3492e6c2007db63f074a447f2aaa1cd5c509f0170242211754483a4a3e", func := "ebbtide/ebbtidelaw21.EvacRefuses", spec := "evacRefuses", inPlace := ["math/bits.Add64"], unfollowed := true, recurses := true, plainKeys := false, apart := false, narrowed := true }
def EvacRefusesUptoSaid : Prop := evacRefusesUptoRow.holds Tryz.pinned (OpenSpec.upto evacRefusesSpec)

/-- 'ebbtidelaw21.EvacChecks', WHERE WHAT IT READS IS OF BULK AT MOST 1048576: true; the input reads as it did. -/
def evacChecksUptoRow : OpenClaim := { program := "ytcgdloldkcmhnaagreat", sum := "92837a3492e6c2007db63f074a447f2aaa1cd5c509f0170242211754483a4a3e", func := "ebbtide/ebbtidelaw21.EvacChecks", spec := "evacChecks", inPlace := ["math/bits.Add64"], unfollowed := true, recurses := true, plainKeys := false, apart := false, narrowed := true }
def EvacChecksUptoSaid : Prop := evacChecksUptoRow.holds Tryz.pinned (OpenSpec.upto evacChecksSpec)

/-- 'ebbtidelaw21.EvacSmall', WHERE WHAT IT READS IS OF BULK AT MOST 1048576: true; the input reads as it did. -/
def evacSmallUptoRow : OpenClaim := { program := "ytcgdloldkcmhnaagreat", sum := "92837a3492e6c2007db63f074a447f2aaa1cd5c509f0170242211754483a4a3e", func := "ebbtide/ebbtidelaw21.EvacSmall", spec := "evacSmall", inPlace := ["math/bits.Add64"], unfollowed := true, recurses := true, plainKeys := false, apart := false, narrowed := true }
def EvacSmallUptoSaid : Prop := evacSmallUptoRow.holds Tryz.pinned (OpenSpec.upto evacSmallSpec)

end Rows
end Go.Proofs.YtcgdloldkcmhnaaGreat
