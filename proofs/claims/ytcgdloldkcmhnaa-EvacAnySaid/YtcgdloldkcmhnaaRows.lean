/-
  No cell of these rows narrows 'for every input' (looked for: loops, veiled, ifaces, maps, wideKeys, modest, calm, conditions, laid).
  DERIVED. THE GIVEN ROWS OF THIS SEAT. 7 by the template 'for every input the law returns true; each argument reads behind the call as it read before'; 0 by the template 'total and deterministic' (their statements: YtcgdloldkcmhnaaTotals.lean).
  GIVEN WITH THE SEED: the statements are not yours to turn. If you find one false, say at which input.
  Laid BY PROGRAM, IN A SANDBOX (cutbox-rows.mjs): the forced cells as the released guide's own fill.sh prints them over the translation 7249bf4f9f50d12f… (all of the seat's roots in one cut). By AI agents, Wed Nov 11 2026. No macro, syntax, notation, axiom, sorry.
-/
import Derived.Test.YtcgdloldkcmhnaaChecked
import GoSem.Claim
import GoSem.ClaimJoined
import GoSem.ClaimMapViews
import Derived.JoinedTies
import Derived.KernelRfl
namespace Go.Proofs.Ytcgdloldkcmhnaa
/- THE CELL 'sum', in the pinned program and in every row, IS THE sha256 OF THE DUMP (.gsa) THAT YtcgdloldkcmhnaaProg.lean LOADS. Nothing in Lean hashes anything: it is a label: what it is worth is what the hold of that sum in a sandbox is worth. -/
noncomputable def Try.pinned : Pinned := { name := "ytcgdloldkcmhnaa", sum := "7249bf4f9f50d12f49e829334780b78b8f129d9f4515e3e0e51609c1d5ed126d", checked := Try.checked }
namespace Rows
def none {H : Type} : Left H := { results := [], args := [] }

/-- 'ebbtidelaw21.EvacLeast': WHATEVER THE INPUT: true; the input reads as it did. -/
def evacLeastSpec : ChangeSpec := { name := "evacLeast", fn := fun _ => fun
  | [d] => { results := [.lit (.bool true)], args := [d] }
  | _ => none }
def evacLeastRow : OpenClaim := { program := "ytcgdloldkcmhnaa", sum := "7249bf4f9f50d12f49e829334780b78b8f129d9f4515e3e0e51609c1d5ed126d", func := "ebbtide/ebbtidelaw21.EvacLeast", spec := "evacLeast", unfollowed := true, recurses := true, plainKeys := false, apart := false }
def EvacLeastSaid : Prop := evacLeastRow.holds Try.pinned (OpenSpec.ofChange evacLeastSpec)

/-- ITS FALSE NEIGHBOUR: 'it returns false'. Refute it at one input. -/
def evacLeastWrong : ChangeSpec := { name := "evacLeast", fn := fun _ => fun
  | [d] => { results := [.lit (.bool false)], args := [d] }
  | _ => none }
def EvacLeastWrongFalsely : Prop := evacLeastRow.holds Try.pinned (OpenSpec.ofChange evacLeastWrong)

/-- 'ebbtidelaw21.EvacGrows': WHATEVER THE INPUT: true; the input reads as it did. -/
def evacGrowsSpec : ChangeSpec := { name := "evacGrows", fn := fun _ => fun
  | [d1, d2] => { results := [.lit (.bool true)], args := [d1, d2] }
  | _ => none }
def evacGrowsRow : OpenClaim := { program := "ytcgdloldkcmhnaa", sum := "7249bf4f9f50d12f49e829334780b78b8f129d9f4515e3e0e51609c1d5ed126d", func := "ebbtide/ebbtidelaw21.EvacGrows", spec := "evacGrows", unfollowed := true, recurses := true, plainKeys := false, apart := false }
def EvacGrowsSaid : Prop := evacGrowsRow.holds Try.pinned (OpenSpec.ofChange evacGrowsSpec)

/-- ITS FALSE NEIGHBOUR: 'it returns false'. Refute it at one input. -/
def evacGrowsWrong : ChangeSpec := { name := "evacGrows", fn := fun _ => fun
  | [d1, d2] => { results := [.lit (.bool false)], args := [d1, d2] }
  | _ => none }
def EvacGrowsWrongFalsely : Prop := evacGrowsRow.holds Try.pinned (OpenSpec.ofChange evacGrowsWrong)

/-- 'ebbtidelaw21.EvacShows': WHATEVER THE INPUT: true; the input reads as it did. -/
def evacShowsSpec : ChangeSpec := { name := "evacShows", fn := fun _ => fun
  | [d] => { results := [.lit (.bool true)], args := [d] }
  | _ => none }
def evacShowsRow : OpenClaim := { program := "ytcgdloldkcmhnaa", sum := "7249bf4f9f50d12f49e829334780b78b8f129d9f4515e3e0e51609c1d5ed126d", func := "ebbtide/ebbtidelaw21.EvacShows", spec := "evacShows", unfollowed := true, recurses := true, plainKeys := false, apart := false }
def EvacShowsSaid : Prop := evacShowsRow.holds Try.pinned (OpenSpec.ofChange evacShowsSpec)

/-- ITS FALSE NEIGHBOUR: 'it returns false'. Refute it at one input. -/
def evacShowsWrong : ChangeSpec := { name := "evacShows", fn := fun _ => fun
  | [d] => { results := [.lit (.bool false)], args := [d] }
  | _ => none }
def EvacShowsWrongFalsely : Prop := evacShowsRow.holds Try.pinned (OpenSpec.ofChange evacShowsWrong)

/-- 'ebbtidelaw21.EvacOne': WHATEVER THE INPUT: true; the input reads as it did. -/
def evacOneSpec : ChangeSpec := { name := "evacOne", fn := fun _ => fun
  | [d1, d2] => { results := [.lit (.bool true)], args := [d1, d2] }
  | _ => none }
def evacOneRow : OpenClaim := { program := "ytcgdloldkcmhnaa", sum := "7249bf4f9f50d12f49e829334780b78b8f129d9f4515e3e0e51609c1d5ed126d", func := "ebbtide/ebbtidelaw21.EvacOne", spec := "evacOne", unfollowed := true, recurses := true, plainKeys := false, apart := false }
def EvacOneSaid : Prop := evacOneRow.holds Try.pinned (OpenSpec.ofChange evacOneSpec)

/-- ITS FALSE NEIGHBOUR: 'it returns false'. Refute it at one input. -/
def evacOneWrong : ChangeSpec := { name := "evacOne", fn := fun _ => fun
  | [d1, d2] => { results := [.lit (.bool false)], args := [d1, d2] }
  | _ => none }
def EvacOneWrongFalsely : Prop := evacOneRow.holds Try.pinned (OpenSpec.ofChange evacOneWrong)

/-- 'ebbtidelaw21.EvacMost': WHATEVER THE INPUT: true; the input reads as it did. -/
def evacMostSpec : ChangeSpec := { name := "evacMost", fn := fun _ => fun
  | [d] => { results := [.lit (.bool true)], args := [d] }
  | _ => none }
def evacMostRow : OpenClaim := { program := "ytcgdloldkcmhnaa", sum := "7249bf4f9f50d12f49e829334780b78b8f129d9f4515e3e0e51609c1d5ed126d", func := "ebbtide/ebbtidelaw21.EvacMost", spec := "evacMost", unfollowed := true, recurses := true, plainKeys := false, apart := false }
def EvacMostSaid : Prop := evacMostRow.holds Try.pinned (OpenSpec.ofChange evacMostSpec)

/-- ITS FALSE NEIGHBOUR: 'it returns false'. Refute it at one input. -/
def evacMostWrong : ChangeSpec := { name := "evacMost", fn := fun _ => fun
  | [d] => { results := [.lit (.bool false)], args := [d] }
  | _ => none }
def EvacMostWrongFalsely : Prop := evacMostRow.holds Try.pinned (OpenSpec.ofChange evacMostWrong)

/-- 'ebbtidelaw21.EvacAny': WHATEVER THE INPUT: true; the input reads as it did. -/
def evacAnySpec : ChangeSpec := { name := "evacAny", fn := fun _ => fun
  | [d1, d2, d3, d4, d5, d6] => { results := [.lit (.bool true)], args := [d1, d2, d3, d4, d5, d6] }
  | _ => none }
def evacAnyRow : OpenClaim := { program := "ytcgdloldkcmhnaa", sum := "7249bf4f9f50d12f49e829334780b78b8f129d9f4515e3e0e51609c1d5ed126d", func := "ebbtide/ebbtidelaw21.EvacAny", spec := "evacAny", unfollowed := true, recurses := true, plainKeys := false, apart := false }
def EvacAnySaid : Prop := evacAnyRow.holds Try.pinned (OpenSpec.ofChange evacAnySpec)

/-- ITS FALSE NEIGHBOUR: 'it returns false'. Refute it at one input. -/
def evacAnyWrong : ChangeSpec := { name := "evacAny", fn := fun _ => fun
  | [d1, d2, d3, d4, d5, d6] => { results := [.lit (.bool false)], args := [d1, d2, d3, d4, d5, d6] }
  | _ => none }
def EvacAnyWrongFalsely : Prop := evacAnyRow.holds Try.pinned (OpenSpec.ofChange evacAnyWrong)

/-- 'ebbtidelaw21.EvacBounds': WHATEVER THE INPUT: true; the input reads as it did. -/
def evacBoundsSpec : ChangeSpec := { name := "evacBounds", fn := fun _ => fun
  | [d] => { results := [.lit (.bool true)], args := [d] }
  | _ => none }
def evacBoundsRow : OpenClaim := { program := "ytcgdloldkcmhnaa", sum := "7249bf4f9f50d12f49e829334780b78b8f129d9f4515e3e0e51609c1d5ed126d", func := "ebbtide/ebbtidelaw21.EvacBounds", spec := "evacBounds", unfollowed := true, recurses := true, plainKeys := false, apart := false }
def EvacBoundsSaid : Prop := evacBoundsRow.holds Try.pinned (OpenSpec.ofChange evacBoundsSpec)

/-- ITS FALSE NEIGHBOUR: 'it returns false'. Refute it at one input. -/
def evacBoundsWrong : ChangeSpec := { name := "evacBounds", fn := fun _ => fun
  | [d] => { results := [.lit (.bool false)], args := [d] }
  | _ => none }
def EvacBoundsWrongFalsely : Prop := evacBoundsRow.holds Try.pinned (OpenSpec.ofChange evacBoundsWrong)

/- THE SECOND FORM. 'bulk': how many values and letters a reading holds, each counted each time it is reached (what is shared counts as often as it is met; a slice's spare places count too). A statement '..UptoSaid' is the law's where the arguments, and the package variables that the reading takes, are together of bulk at most 1048576: NARROWER than '..Said'. Prove '..Said' where nothing that the law and all that it calls make is longer than what came in: it says more and counts as full. Else prove '..UptoSaid'. A law counts once. -/
mutual
def uptoBulk {H : Type} : DataW H → Nat
  | .lit (.string bytes) => bytes.length + 1
  | .lit _ => 1
  | .nil => 1
  | .ptr d => uptoBulk d + 1
  | .slice elems spare => uptoBulkAll elems + uptoBulkAll spare + 1
  | .agg parts => uptoBulkAll parts + 1
  | .iface _ d => uptoBulk d + 1
  | .map entries => uptoBulkEntries entries + 1
  | .held _ => 1
def uptoBulkAll {H : Type} : List (DataW H) → Nat
  | [] => 0
  | d :: r => uptoBulk d + uptoBulkAll r
def uptoBulkEntries {H : Type} : List (Lit × DataW H) → Nat
  | [] => 0
  | x :: r => uptoBulkEntry x + uptoBulkEntries r
def uptoBulkEntry {H : Type} : Lit × DataW H → Nat
  | (.string bytes, d) => bytes.length + uptoBulk d + 1
  | (_, d) => uptoBulk d + 1
 end
def uptoSmall : (H : Type) → List (DataW H) → Bool := fun _ ds => decide (uptoBulkAll ds ≤ 1048576)
def OpenSpec.upto (s : _root_.Go.ChangeSpec) : _root_.Go.OpenSpec := { _root_.Go.OpenSpec.ofChange s with cond := some uptoSmall }

/-- 'ebbtidelaw21.EvacLeast', WHERE WHAT IT READS IS OF BULK AT MOST 1048576: true; the input reads as it did. -/
def evacLeastUptoRow : OpenClaim := { program := "ytcgdloldkcmhnaa", sum := "7249bf4f9f50d12f49e829334780b78b8f129d9f4515e3e0e51609c1d5ed126d", func := "ebbtide/ebbtidelaw21.EvacLeast", spec := "evacLeast", unfollowed := true, recurses := true, plainKeys := false, apart := false, narrowed := true }
def EvacLeastUptoSaid : Prop := evacLeastUptoRow.holds Try.pinned (OpenSpec.upto evacLeastSpec)

/-- 'ebbtidelaw21.EvacGrows', WHERE WHAT IT READS IS OF BULK AT MOST 1048576: true; the input reads as it did. -/
def evacGrowsUptoRow : OpenClaim := { program := "ytcgdloldkcmhnaa", sum := "7249bf4f9f50d12f49e829334780b78b8f129d9f4515e3e0e51609c1d5ed126d", func := "ebbtide/ebbtidelaw21.EvacGrows", spec := "evacGrows", unfollowed := true, recurses := true, plainKeys := false, apart := false, narrowed := true }
def EvacGrowsUptoSaid : Prop := evacGrowsUptoRow.holds Try.pinned (OpenSpec.upto evacGrowsSpec)

/-- 'ebbtidelaw21.EvacShows', WHERE WHAT IT READS IS OF BULK AT MOST 1048576: true; the input reads as it did. -/
def evacShowsUptoRow : OpenClaim := { program := "ytcgdloldkcmhnaa", sum := "7249bf4f9f50d12f49e829334780b78b8f129d9f4515e3e0e51609c1d5ed126d", func := "ebbtide/ebbtidelaw21.EvacShows", spec := "evacShows", unfollowed := true, recurses := true, plainKeys := false, apart := false, narrowed := true }
def EvacShowsUptoSaid : Prop := evacShowsUptoRow.holds Try.pinned (OpenSpec.upto evacShowsSpec)

/-- 'ebbtidelaw21.EvacOne', WHERE WHAT IT READS IS OF BULK AT MOST 1048576: true; the input reads as it did. -/
def evacOneUptoRow : OpenClaim := { program := "ytcgdloldkcmhnaa", sum := "7249bf4f9f50d12f49e829334780b78b8f129d9f4515e3e0e51609c1d5ed126d", func := "ebbtide/ebbtidelaw21.EvacOne", spec := "evacOne", unfollowed := true, recurses := true, plainKeys := false, apart := false, narrowed := true }
def EvacOneUptoSaid : Prop := evacOneUptoRow.holds Try.pinned (OpenSpec.upto evacOneSpec)

/-- 'ebbtidelaw21.EvacMost', WHERE WHAT IT READS IS OF BULK AT MOST 1048576: true; the input reads as it did. -/
def evacMostUptoRow : OpenClaim := { program := "ytcgdloldkcmhnaa", sum := "7249bf4f9f50d12f49e829334780b78b8f129d9f4515e3e0e51609c1d5ed126d", func := "ebbtide/ebbtidelaw21.EvacMost", spec := "evacMost", unfollowed := true, recurses := true, plainKeys := false, apart := false, narrowed := true }
def EvacMostUptoSaid : Prop := evacMostUptoRow.holds Try.pinned (OpenSpec.upto evacMostSpec)

/-- 'ebbtidelaw21.EvacAny', WHERE WHAT IT READS IS OF BULK AT MOST 1048576: true; the input reads as it did. -/
def evacAnyUptoRow : OpenClaim := { program := "ytcgdloldkcmhnaa", sum := "7249bf4f9f50d12f49e829334780b78b8f129d9f4515e3e0e51609c1d5ed126d", func := "ebbtide/ebbtidelaw21.EvacAny", spec := "evacAny", unfollowed := true, recurses := true, plainKeys := false, apart := false, narrowed := true }
def EvacAnyUptoSaid : Prop := evacAnyUptoRow.holds Try.pinned (OpenSpec.upto evacAnySpec)

/-- 'ebbtidelaw21.EvacBounds', WHERE WHAT IT READS IS OF BULK AT MOST 1048576: true; the input reads as it did. -/
def evacBoundsUptoRow : OpenClaim := { program := "ytcgdloldkcmhnaa", sum := "7249bf4f9f50d12f49e829334780b78b8f129d9f4515e3e0e51609c1d5ed126d", func := "ebbtide/ebbtidelaw21.EvacBounds", spec := "evacBounds", unfollowed := true, recurses := true, plainKeys := false, apart := false, narrowed := true }
def EvacBoundsUptoSaid : Prop := evacBoundsUptoRow.holds Try.pinned (OpenSpec.upto evacBoundsSpec)

end Rows
end Go.Proofs.Ytcgdloldkcmhnaa
