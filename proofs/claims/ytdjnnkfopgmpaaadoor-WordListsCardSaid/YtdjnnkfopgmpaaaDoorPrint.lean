-- Written by a program of this session (wip/tools/xp.py over the kit's print); not trusted: Lean checks it.
import Derived.Test.YtdjnnkfopgmpaaaDoorPrint0
import Derived.Test.YtdjnnkfopgmpaaaDoorPrint1
import Derived.Test.YtdjnnkfopgmpaaaDoorPrint2
import Derived.Test.YtdjnnkfopgmpaaaDoorPrint3
import Derived.Test.YtdjnnkfopgmpaaaDoorPrint4
import Derived.Test.YtdjnnkfopgmpaaaDoorPrint5
import Derived.Test.YtdjnnkfopgmpaaaDoorPrint6
import Derived.Test.YtdjnnkfopgmpaaaDoorPrint7
import Derived.Test.YtdjnnkfopgmpaaaDoorPrint8
namespace Go.Proofs.YtdjnnkfopgmpaaaDoor.Print
open Go.RowKit Go.Proofs.YtdjnnkfopgmpaaaDoor.H Go.Proofs.YtdjnnkfopgmpaaaDoorW.PrintWords Go.Proofs.YtdjnnkfopgmpaaaDoorW.PrintLast Go.Proofs.YtdjnnkfopgmpaaaDoorW.PrintMore
attribute [local go_sem] max2_int min2_int max_two min_two max_three min_three max_four min_four   -- for this text's walks alone
set_option linter.unusedVariables false
set_option linter.unusedSimpArgs false

end Go.Proofs.YtdjnnkfopgmpaaaDoor.Print
