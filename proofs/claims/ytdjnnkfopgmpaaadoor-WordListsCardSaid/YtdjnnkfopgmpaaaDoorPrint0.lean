-- Written by a program of this session (wip/tools/xp.py over the kit's print); not trusted: Lean checks it.
import Derived.Test.YtdjnnkfopgmpaaaDoorProg
import Derived.Below
import Derived.Deep.Draws
import Derived.Deep.AppendLies
import Derived.Maps.AppendAt
import Derived.OwnWalk
import Derived.Laws.BytesArg
import Derived.Laws.MakeOwn
import Derived.Laws.OwnMore
import Derived.Deep.OwnRows
import Derived.Tactics
import Derived.Lib.ConvBytes
import Derived.Laws.Slices
import Derived.WalkKit
import Derived.KernelRfl
import Derived.RowKit3
import Derived.Deep.LoopGhost
import Derived.Deep.QuietTactic
import Derived.BigQuiet
import Derived.WideLaws
import Derived.Deep.DeepCutAuto
import Derived.Deep.CutBlock
import Derived.Deep.RegionHeld3
import Derived.Laws.Rows
import Derived.Lib.AppendStr
import Derived.ArgAppend
import Derived.Laws.IdiomCopy
import Derived.OrdersHeld
import Derived.Laws.BitsLemmas
import Derived.RowKit
import Derived.Test.YtdjnnkfopgmpaaaDoorHNum
import Derived.Test.YtdjnnkfopgmpaaaDoorHLines
import Derived.Test.YtdjnnkfopgmpaaaDoorHRow
import Derived.Test.YtdjnnkfopgmpaaaDoorWWords
import Derived.Test.YtdjnnkfopgmpaaaDoorWLast
import Derived.Test.YtdjnnkfopgmpaaaDoorWTab
import Derived.Test.YtdjnnkfopgmpaaaDoorWFour
import Derived.Test.YtdjnnkfopgmpaaaDoorWQPut
import Derived.Test.YtdjnnkfopgmpaaaDoorWApart
import Derived.Test.YtdjnnkfopgmpaaaDoorWArr
import Derived.Test.YtdjnnkfopgmpaaaDoorWZeros
import Derived.Test.YtdjnnkfopgmpaaaDoorWFoot
import Derived.Test.YtdjnnkfopgmpaaaDoorWKept
import Derived.Test.YtdjnnkfopgmpaaaDoorWShare
import Derived.Test.YtdjnnkfopgmpaaaDoorWN
import Derived.Test.YtdjnnkfopgmpaaaDoorWFootNe
import Derived.Test.YtdjnnkfopgmpaaaDoorWAt
import Derived.Test.YtdjnnkfopgmpaaaDoorWEqStruct
import Derived.Test.YtdjnnkfopgmpaaaDoorWRepsOne
import Derived.Test.YtdjnnkfopgmpaaaDoorWInv
import Derived.Test.YtdjnnkfopgmpaaaDoorWInvWords
import Derived.Test.YtdjnnkfopgmpaaaDoorWGuard
import Derived.Test.YtdjnnkfopgmpaaaDoorWNEv
import Derived.Test.YtdjnnkfopgmpaaaDoorWMore
namespace Go.Proofs.YtdjnnkfopgmpaaaDoor.Print
open Go.RowKit Go.Proofs.YtdjnnkfopgmpaaaDoor.H Go.Proofs.YtdjnnkfopgmpaaaDoorW.PrintWords Go.Proofs.YtdjnnkfopgmpaaaDoorW.PrintLast Go.Proofs.YtdjnnkfopgmpaaaDoorW.PrintMore
attribute [local go_sem] max2_int min2_int max_two min_two max_three min_three max_four min_four   -- for this text's walks alone
set_option linter.unusedVariables false
set_option linter.unusedSimpArgs false



def errW : Option Int → Value
  | none => .nilIface
  | some c => .iface 0 (.int .i64 c)
theorem errW_none : errW none = .nilIface := rfl
theorem errW_some (c : Int) : errW (some c) = .iface 0 (.int .i64 c) := rfl

theorem info3 : (Tryd.prog.info? 3).map (fun i => (i.zero, i.size, i.bytes)) = some (some (.int .i64 0), 1, 8) := by kernel_rfl
theorem info5 : (Tryd.prog.info? 5).map (fun i => (i.zero, i.size, i.bytes)) = some (some (.int .u8 0), 1, 1) := by kernel_rfl
theorem info9 : (Tryd.prog.info? 9).map (fun i => (i.zero, i.size, i.bytes)) = some (some (.string ⟨#[]⟩), 1, 16) := by kernel_rfl
-- the values' own types

end Go.Proofs.YtdjnnkfopgmpaaaDoor.Print
