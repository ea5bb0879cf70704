/- Printed by wip/gen/mp.py: Go functions as plain Lean functions, and that the calls do what these say. -/
import Derived.Test.YtfipgpfmlkfkfaaDoorMCbx0
import Derived.Test.YtfipgpfmlkfkfaaDoorMCbx1
import Derived.Test.YtfipgpfmlkfkfaaDoorMCbx2
namespace Go.Proofs.YtfipgpfmlkfkfaaDoor.MCb
open Go.RowKit Go.Proofs.YtfipgpfmlkfkfaaDoorW.PrintWords Go.Proofs.YtfipgpfmlkfkfaaDoorW.PrintLast Go.Proofs.YtfipgpfmlkfkfaaDoorW.PrintMore
attribute [local go_sem] max2_int min2_int max_two min_two max_three min_three max_four min_four   -- for this text's walks alone
set_option linter.unusedVariables false
set_option linter.unusedSimpArgs false

end Go.Proofs.YtfipgpfmlkfkfaaDoor.MCb
