-- Written by a program of this session (wip/tools/xp.py over the kit's print); not trusted: Lean checks it.
import Derived.Test.YthalacoockoomaaDoorProg
import Derived.Below
import Derived.Deep.Draws
import Derived.Deep.AppendLies
import Derived.Maps.AppendAt
import Derived.OwnWalk
import Derived.Laws.BytesArg
import Derived.Laws.MakeOwn
import Derived.Laws.OwnMore
import Derived.Deep.OwnRows
import Derived.Tactics
import Derived.Lib.ConvBytes
import Derived.Laws.Slices
import Derived.WalkKit
import Derived.KernelRfl
import Derived.RowKit3
import Derived.Deep.LoopGhost
import Derived.Deep.QuietTactic
import Derived.BigQuiet
import Derived.WideLaws
import Derived.Deep.DeepCutAuto
import Derived.Deep.CutBlock
import Derived.Deep.RegionHeld3
import Derived.Laws.Rows
import Derived.Lib.AppendStr
import Derived.ArgAppend
import Derived.Laws.IdiomCopy
import Derived.OrdersHeld
import Derived.Laws.BitsLemmas
import Derived.RowKit
import Derived.Test.YthalacoockoomaaDoorHNetAll
import Derived.Test.YthalacoockoomaaDoorHRefAll
import Derived.Test.YthalacoockoomaaDoorPrint
import Derived.Test.YthalacoockoomaaDoorWWords
import Derived.Test.YthalacoockoomaaDoorWLast
import Derived.Test.YthalacoockoomaaDoorWTab
import Derived.Test.YthalacoockoomaaDoorWFour
import Derived.Test.YthalacoockoomaaDoorWQPut
import Derived.Test.YthalacoockoomaaDoorWApart
import Derived.Test.YthalacoockoomaaDoorWArr
import Derived.Test.YthalacoockoomaaDoorWZeros
import Derived.Test.YthalacoockoomaaDoorWFoot
import Derived.Test.YthalacoockoomaaDoorWKept
import Derived.Test.YthalacoockoomaaDoorWShare
import Derived.Test.YthalacoockoomaaDoorWN
import Derived.Test.YthalacoockoomaaDoorWFootNe
import Derived.Test.YthalacoockoomaaDoorWAt
import Derived.Test.YthalacoockoomaaDoorWEqStruct
import Derived.Test.YthalacoockoomaaDoorWRepsOne
import Derived.Test.YthalacoockoomaaDoorWInv
import Derived.Test.YthalacoockoomaaDoorWInvWords
import Derived.Test.YthalacoockoomaaDoorWGuard
import Derived.Test.YthalacoockoomaaDoorWNEv
import Derived.Test.YthalacoockoomaaDoorWMore
namespace Go.Proofs.YthalacoockoomaaDoor.PrintB
open Go.Proofs.YthalacoockoomaaDoor.Print Go.RowKit Go.Proofs.YthalacoockoomaaDoor.H Go.Proofs.YthalacoockoomaaDoorW.PrintWords Go.Proofs.YthalacoockoomaaDoorW.PrintLast Go.Proofs.YthalacoockoomaaDoorW.PrintMore
attribute [local go_sem] max2_int min2_int max_two min_two max_three min_three max_four min_four   -- for this text's walks alone
set_option linter.unusedVariables false
set_option linter.unusedSimpArgs false



theorem info37 : (Tryd.prog.info? 37).map (fun i => (i.zero, i.size, i.bytes)) = some (some (.agg #[(.int .i64 0), (.int .i64 0), (.int .i64 0), (.int .i64 0)]), 4, 32) := by kernel_rfl
-- the values' own types
/-! #### struct type 37 -/
end Go.Proofs.YthalacoockoomaaDoor.PrintB
