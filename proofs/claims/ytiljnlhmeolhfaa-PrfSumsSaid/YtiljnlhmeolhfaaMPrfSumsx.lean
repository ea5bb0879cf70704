/- Printed by wip/gen/mp.py: Go functions as plain Lean functions, and that the calls do what these say. -/
import Derived.Test.YtiljnlhmeolhfaaMPrfSumsx0
import Derived.Test.YtiljnlhmeolhfaaMPrfSumsx1
import Derived.Test.YtiljnlhmeolhfaaMPrfSumsx2
import Derived.Test.YtiljnlhmeolhfaaMPrfSumsx3
import Derived.Test.YtiljnlhmeolhfaaMPrfSumsx4
import Derived.Test.YtiljnlhmeolhfaaMPrfSumsx5
import Derived.Test.YtiljnlhmeolhfaaMPrfSumsx6
import Derived.Test.YtiljnlhmeolhfaaMPrfSumsx7
namespace Go.Proofs.Ytiljnlhmeolhfaa.MPrfSums
open Go.RowKit Go.Proofs.YtiljnlhmeolhfaaW.PrintWords Go.Proofs.YtiljnlhmeolhfaaW.PrintLast Go.Proofs.YtiljnlhmeolhfaaW.PrintMore
attribute [local go_sem] max2_int min2_int max_two min_two max_three min_three max_four min_four   -- for this text's walks alone
set_option linter.unusedVariables false
set_option linter.unusedSimpArgs false

end Go.Proofs.Ytiljnlhmeolhfaa.MPrfSums
