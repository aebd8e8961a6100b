-- written by wip/tools/doctor.py (the kit's print.py run with hand-given contracts); Lean checks it
import Derived.Test.YtpmkbpphlokbjaaGAx0
import Derived.Test.YtpmkbpphlokbjaaGAx2
import Derived.Test.YtpmkbpphlokbjaaGAx3
namespace Go.Proofs.Ytpmkbpphlokbjaa.GA
open Go.RowKit Go.Proofs.YtpmkbpphlokbjaaW.PrintWords Go.Proofs.YtpmkbpphlokbjaaW.PrintLast Go.Proofs.YtpmkbpphlokbjaaW.PrintMore
attribute [local go_sem] max2_int min2_int max_two min_two max_three min_three max_four min_four   -- for this text's walks alone
set_option linter.unusedVariables false
set_option linter.unusedSimpArgs false

end Go.Proofs.Ytpmkbpphlokbjaa.GA
