-- Written by a program of this session (wip/tools/xp.py over the kit's print); not trusted: Lean checks it.
import Derived.Test.YthalacoockoomaaDoorPrint0
import Derived.Test.YthalacoockoomaaDoorPrint1
import Derived.Test.YthalacoockoomaaDoorPrint2
import Derived.Test.YthalacoockoomaaDoorPrint3
import Derived.Test.YthalacoockoomaaDoorPrint4
import Derived.Test.YthalacoockoomaaDoorPrint5
import Derived.Test.YthalacoockoomaaDoorPrint6
import Derived.Test.YthalacoockoomaaDoorPrint7
import Derived.Test.YthalacoockoomaaDoorPrint8
import Derived.Test.YthalacoockoomaaDoorPrint9
namespace Go.Proofs.YthalacoockoomaaDoor.Print
open Go.RowKit Go.Proofs.YthalacoockoomaaDoor.H Go.Proofs.YthalacoockoomaaDoorW.PrintWords Go.Proofs.YthalacoockoomaaDoorW.PrintLast Go.Proofs.YthalacoockoomaaDoorW.PrintMore
attribute [local go_sem] max2_int min2_int max_two min_two max_three min_three max_four min_four   -- for this text's walks alone
set_option linter.unusedVariables false
set_option linter.unusedSimpArgs false

end Go.Proofs.YthalacoockoomaaDoor.Print
