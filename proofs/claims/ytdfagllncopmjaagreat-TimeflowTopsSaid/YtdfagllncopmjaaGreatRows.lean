/-
  No cell of these rows narrows 'for every input' (looked for: loops, veiled, ifaces, maps, wideKeys, modest, calm, conditions, laid).
  DERIVED. THE GIVEN ROWS OF THIS SEAT. 6 by the template 'for every input the law returns true; each argument reads behind the call as it read before'; 0 by the template 'total and deterministic' (their statements: YtdfagllncopmjaaGreatTotals.lean).
  GIVEN WITH THE SEED: the statements are not yours to turn. If you find one false, say at which input.
  Laid BY PROGRAM, IN A SANDBOX (cutbox-rows.mjs): the forced cells as the released guide's own fill.sh prints them over the translation c2794d7696acd3d5… (all of the seat's roots in one cut). By AI agents, Wed Nov 11 2026. No macro, syntax, notation, axiom, sorry.
-/
import Derived.Test.YtdfagllncopmjaaGreatChecked
import GoSem.Claim
import GoSem.ClaimJoined
import GoSem.ClaimMapViews
import Derived.JoinedTies
import Derived.KernelRfl
namespace Go.Proofs.YtdfagllncopmjaaGreat
/- THE CELL 'sum', in the pinned program and in every row, IS THE sha256 OF THE DUMP (.gsa) THAT YtdfagllncopmjaaGreatProg.lean LOADS. Nothing in Lean hashes anything: it is a label: what it is worth is what the hold of that sum in a sandbox is worth. -/
noncomputable def Tryz.pinned : Pinned := { name := "ytdfagllncopmjaagreat", sum := "c2794d7696acd3d5a62f3c0651bf399d7b7463beafb9f5089c96628db0f00577", checked := Tryz.checked }
namespace Rows
def none {H : Type} : Left H := { results := [], args := [] }

/-- 'ebbtidelaw16.TimeflowMost': WHATEVER THE INPUT: true; the input reads as it did. -/
def timeflowMostSpec : ChangeSpec := { name := "timeflowMost", fn := fun _ => fun
  | [d] => { results := [.lit (.bool true)], args := [d] }
  | _ => none }
def timeflowMostRow : OpenClaim := { program := "ytdfagllncopmjaagreat", sum := "c2794d7696acd3d5a62f3c0651bf399d7b7463beafb9f5089c96628db0f00577", func := "ebbtide/ebbtidelaw16.TimeflowMost", spec := "timeflowMost", inPlace := ["math/bits.Add64"], unfollowed := true, recurses := true, plainKeys := false, apart := false }
def TimeflowMostSaid : Prop := timeflowMostRow.holds Tryz.pinned (OpenSpec.ofChange timeflowMostSpec)

/-- ITS FALSE NEIGHBOUR: 'it returns false'. Refute it at one input. -/
def timeflowMostWrong : ChangeSpec := { name := "timeflowMost", fn := fun _ => fun
  | [d] => { results := [.lit (.bool false)], args := [d] }
  | _ => none }
def TimeflowMostWrongFalsely : Prop := timeflowMostRow.holds Tryz.pinned (OpenSpec.ofChange timeflowMostWrong)

/-- 'ebbtidelaw16.TimeflowCuts': WHATEVER THE INPUT: true; the input reads as it did. -/
def timeflowCutsSpec : ChangeSpec := { name := "timeflowCuts", fn := fun _ => fun
  | [d] => { results := [.lit (.bool true)], args := [d] }
  | _ => none }
def timeflowCutsRow : OpenClaim := { program := "ytdfagllncopmjaagreat", sum := "c2794d7696acd3d5a62f3c0651bf399d7b7463beafb9f5089c96628db0f00577", func := "ebbtide/ebbtidelaw16.TimeflowCuts", spec := "timeflowCuts", inPlace := ["math/bits.Add64"], unfollowed := true, recurses := true, plainKeys := false, apart := false }
def TimeflowCutsSaid : Prop := timeflowCutsRow.holds Tryz.pinned (OpenSpec.ofChange timeflowCutsSpec)

/-- ITS FALSE NEIGHBOUR: 'it returns false'. Refute it at one input. -/
def timeflowCutsWrong : ChangeSpec := { name := "timeflowCuts", fn := fun _ => fun
  | [d] => { results := [.lit (.bool false)], args := [d] }
  | _ => none }
def TimeflowCutsWrongFalsely : Prop := timeflowCutsRow.holds Tryz.pinned (OpenSpec.ofChange timeflowCutsWrong)

/-- 'ebbtidelaw16.TimeflowRefuses': WHATEVER THE INPUT: true; the input reads as it did. -/
def timeflowRefusesSpec : ChangeSpec := { name := "timeflowRefuses", fn := fun _ => fun
  | [d1, d2, d3, d4] => { results := [.lit (.bool true)], args := [d1, d2, d3, d4] }
  | _ => none }
def timeflowRefusesRow : OpenClaim := { program := "ytdfagllncopmjaagreat", sum := "c2794d7696acd3d5a62f3c0651bf399d7b7463beafb9f5089c96628db0f00577", func := "ebbtide/ebbtidelaw16.TimeflowRefuses", spec := "timeflowRefuses", inPlace := ["math/bits.Add64"], unfollowed := true, recurses := true, plainKeys := false, apart := false }
def TimeflowRefusesSaid : Prop := timeflowRefusesRow.holds Tryz.pinned (OpenSpec.ofChange timeflowRefusesSpec)

/-- ITS FALSE NEIGHBOUR: 'it returns false'. Refute it at one input. -/
def timeflowRefusesWrong : ChangeSpec := { name := "timeflowRefuses", fn := fun _ => fun
  | [d1, d2, d3, d4] => { results := [.lit (.bool false)], args := [d1, d2, d3, d4] }
  | _ => none }
def TimeflowRefusesWrongFalsely : Prop := timeflowRefusesRow.holds Tryz.pinned (OpenSpec.ofChange timeflowRefusesWrong)

/-- 'ebbtidelaw16.TimeflowPlans': WHATEVER THE INPUT: true; the input reads as it did. -/
def timeflowPlansSpec : ChangeSpec := { name := "timeflowPlans", fn := fun _ => fun
  | [d] => { results := [.lit (.bool true)], args := [d] }
  | _ => none }
def timeflowPlansRow : OpenClaim := { program := "ytdfagllncopmjaagreat", sum := "c2794d7696acd3d5a62f3c0651bf399d7b7463beafb9f5089c96628db0f00577", func := "ebbtide/ebbtidelaw16.TimeflowPlans", spec := "timeflowPlans", inPlace := ["math/bits.Add64"], unfollowed := true, recurses := true, plainKeys := false, apart := false }
def TimeflowPlansSaid : Prop := timeflowPlansRow.holds Tryz.pinned (OpenSpec.ofChange timeflowPlansSpec)

/-- ITS FALSE NEIGHBOUR: 'it returns false'. Refute it at one input. -/
def timeflowPlansWrong : ChangeSpec := { name := "timeflowPlans", fn := fun _ => fun
  | [d] => { results := [.lit (.bool false)], args := [d] }
  | _ => none }
def TimeflowPlansWrongFalsely : Prop := timeflowPlansRow.holds Tryz.pinned (OpenSpec.ofChange timeflowPlansWrong)

/-- 'ebbtidelaw16.TimeflowTops': WHATEVER THE INPUT: true; the input reads as it did. -/
def timeflowTopsSpec : ChangeSpec := { name := "timeflowTops", fn := fun _ => fun
  | [d] => { results := [.lit (.bool true)], args := [d] }
  | _ => none }
def timeflowTopsRow : OpenClaim := { program := "ytdfagllncopmjaagreat", sum := "c2794d7696acd3d5a62f3c0651bf399d7b7463beafb9f5089c96628db0f00577", func := "ebbtide/ebbtidelaw16.TimeflowTops", spec := "timeflowTops", inPlace := ["math/bits.Add64"], unfollowed := true, recurses := true, plainKeys := false, apart := false }
def TimeflowTopsSaid : Prop := timeflowTopsRow.holds Tryz.pinned (OpenSpec.ofChange timeflowTopsSpec)

/-- ITS FALSE NEIGHBOUR: 'it returns false'. Refute it at one input. -/
def timeflowTopsWrong : ChangeSpec := { name := "timeflowTops", fn := fun _ => fun
  | [d] => { results := [.lit (.bool false)], args := [d] }
  | _ => none }
def TimeflowTopsWrongFalsely : Prop := timeflowTopsRow.holds Tryz.pinned (OpenSpec.ofChange timeflowTopsWrong)

/-- 'ebbtidelaw16.TimeflowGrows': WHATEVER THE INPUT: true; the input reads as it did. -/
def timeflowGrowsSpec : ChangeSpec := { name := "timeflowGrows", fn := fun _ => fun
  | [d] => { results := [.lit (.bool true)], args := [d] }
  | _ => none }
def timeflowGrowsRow : OpenClaim := { program := "ytdfagllncopmjaagreat", sum := "c2794d7696acd3d5a62f3c0651bf399d7b7463beafb9f5089c96628db0f00577", func := "ebbtide/ebbtidelaw16.TimeflowGrows", spec := "timeflowGrows", inPlace := ["math/bits.Add64"], unfollowed := true, recurses := true, plainKeys := false, apart := false }
def TimeflowGrowsSaid : Prop := timeflowGrowsRow.holds Tryz.pinned (OpenSpec.ofChange timeflowGrowsSpec)

/-- ITS FALSE NEIGHBOUR: 'it returns false'. Refute it at one input. -/
def timeflowGrowsWrong : ChangeSpec := { name := "timeflowGrows", fn := fun _ => fun
  | [d] => { results := [.lit (.bool false)], args := [d] }
  | _ => none }
def TimeflowGrowsWrongFalsely : Prop := timeflowGrowsRow.holds Tryz.pinned (OpenSpec.ofChange timeflowGrowsWrong)

/- THE SECOND FORM. 'bulk': how many values and letters a reading holds, each counted each time it is reached (what is shared counts as often as it is met; a slice's spare places count too). A statement '..UptoSaid' is the law's where the arguments, and the package variables that the reading takes, are together of bulk at most 1048576: NARROWER than '..Said'. Prove '..Said' where nothing that the law and all that it calls make is longer than what came in: it says more and counts as full. Else prove '..UptoSaid'. A law counts once. -/
mutual
def uptoBulk {H : Type} : DataW H → Nat
  | .lit (.string bytes) => bytes.length + 1
  | .lit _ => 1
  | .nil => 1
  | .ptr d => uptoBulk d + 1
  | .slice elems spare => uptoBulkAll elems + uptoBulkAll spare + 1
  | .agg parts => uptoBulkAll parts + 1
  | .iface _ d => uptoBulk d + 1
  | .map entries => uptoBulkEntries entries + 1
  | .held _ => 1
def uptoBulkAll {H : Type} : List (DataW H) → Nat
  | [] => 0
  | d :: r => uptoBulk d + uptoBulkAll r
def uptoBulkEntries {H : Type} : List (Lit × DataW H) → Nat
  | [] => 0
  | x :: r => uptoBulkEntry x + uptoBulkEntries r
def uptoBulkEntry {H : Type} : Lit × DataW H → Nat
  | (.string bytes, d) => bytes.length + uptoBulk d + 1
  | (_, d) => uptoBulk d + 1
 end
def uptoSmall : (H : Type) → List (DataW H) → Bool := fun _ ds => decide (uptoBulkAll ds ≤ 1048576)
def OpenSpec.upto (s : _root_.Go.ChangeSpec) : _root_.Go.OpenSpec := { _root_.Go.OpenSpec.ofChange s with cond := some uptoSmall }

/-- 'ebbtidelaw16.TimeflowMost', WHERE WHAT IT READS IS OF BULK AT MOST 1048576: true; the input reads as it did. -/
def timeflowMostUptoRow : OpenClaim := { program := "ytdfagllncopmjaagreat", sum := "c2794d7696acd3d5a62f3c0651bf399d7b7463beafb9f5089c96628db0f00577", func := "ebbtide/ebbtidelaw16.TimeflowMost", spec := "timeflowMost", inPlace := ["math/bits.Add64"], unfollowed := true, recurses := true, plainKeys := false, apart := false, narrowed := true }
def TimeflowMostUptoSaid : Prop := timeflowMostUptoRow.holds Tryz.pinned (OpenSpec.upto timeflowMostSpec)

/-- 'ebbtidelaw16.TimeflowCuts', WHERE WHAT IT READS IS OF BULK AT MOST 1048576: true; the input reads as it did. -/
def timeflowCutsUptoRow : OpenClaim := { program := "ytdfagllncopmjaagreat", sum := "c2794d7696acd3d5a62f3c0651bf399d7b7463beafb9f5089c96628db0f00577", func := "ebbtide/ebbtidelaw16.TimeflowCuts", spec := "timeflowCuts", inPlace := ["math/bits.Add64"], unfollowed := true, recurses := true, plainKeys := false, apart := false, narrowed := true }
def TimeflowCutsUptoSaid : Prop := timeflowCutsUptoRow.holds Tryz.pinned (OpenSpec.upto timeflowCutsSpec)

/-- 'ebbtidelaw16.TimeflowRefuses', WHERE WHAT IT READS IS OF BULK AT MOST 1048576: true; the input reads as it did. -/
def timeflowRefusesUptoRow : OpenClaim := { program := "ytdfagllncopmjaagreat", sum := "c2794d7696acd3d5a62f3c0651bf399d7b7463beafb9f5089c96628db0f00577", func := "ebbtide/ebbtidelaw16.TimeflowRefuses", spec := "timeflowRefuses", inPlace := ["math/bits.Add64"], unfollowed := true, recurses := true, plainKeys := false, apart := false, narrowed := true }
def TimeflowRefusesUptoSaid : Prop := timeflowRefusesUptoRow.holds Tryz.pinned (OpenSpec.upto timeflowRefusesSpec)

/-- 'ebbtidelaw16.TimeflowPlans', WHERE WHAT IT READS IS OF BULK AT MOST 1048576: true; the input reads as it did. -/
def timeflowPlansUptoRow : OpenClaim := { program := "ytdfagllncopmjaagreat", sum := "c2794d7696acd3d5a62f3c0651bf399d7b7463beafb9f5089c96628db0f00577", func := "ebbtide/ebbtidelaw16.TimeflowPlans", spec := "timeflowPlans", inPlace := ["math/bits.Add64"], unfollowed := true, recurses := true, plainKeys := false, apart := false, narrowed := true }
def TimeflowPlansUptoSaid : Prop := timeflowPlansUptoRow.holds Tryz.pinned (OpenSpec.upto timeflowPlansSpec)

/-- 'ebbtidelaw16.TimeflowTops', WHERE WHAT IT READS IS OF BULK AT MOST 1048576: true; the input reads as it did. -/
def timeflowTopsUptoRow : OpenClaim := { program := "ytdfagllncopmjaagreat", sum := "c2794d7696acd3d5a62f3c0651bf399d7b7463beafb9f5089c96628db0f00577", func := "ebbtide/ebbtidelaw16.TimeflowTops", spec := "timeflowTops", inPlace := ["math/bits.Add64"], unfollowed := true, recurses := true, plainKeys := false, apart := false, narrowed := true }
def TimeflowTopsUptoSaid : Prop := timeflowTopsUptoRow.holds Tryz.pinned (OpenSpec.upto timeflowTopsSpec)

/-- 'ebbtidelaw16.TimeflowGrows', WHERE WHAT IT READS IS OF BULK AT MOST 1048576: true; the input reads as it did. -/
def timeflowGrowsUptoRow : OpenClaim := { program := "ytdfagllncopmjaagreat", sum := "c2794d7696acd3d5a62f3c0651bf399d7b7463beafb9f5089c96628db0f00577", func := "ebbtide/ebbtidelaw16.TimeflowGrows", spec := "timeflowGrows", inPlace := ["math/bits.Add64"], unfollowed := true, recurses := true, plainKeys := false, apart := false, narrowed := true }
def TimeflowGrowsUptoSaid : Prop := timeflowGrowsUptoRow.holds Tryz.pinned (OpenSpec.upto timeflowGrowsSpec)

end Rows
end Go.Proofs.YtdfagllncopmjaaGreat
