/- Printed by wip/gen/mp.py: Go functions as plain Lean functions, and that the calls do what these say. -/
import Derived.Test.YtnlaiiophongmaaDoorMSux0
import Derived.Test.YtnlaiiophongmaaDoorMSux1
import Derived.Test.YtnlaiiophongmaaDoorMSux2
import Derived.Test.YtnlaiiophongmaaDoorMSux3
import Derived.Test.YtnlaiiophongmaaDoorMSux4
namespace Go.Proofs.YtnlaiiophongmaaDoor.MSu
open Go.RowKit Go.Proofs.YtnlaiiophongmaaDoorW.PrintWords Go.Proofs.YtnlaiiophongmaaDoorW.PrintLast Go.Proofs.YtnlaiiophongmaaDoorW.PrintMore Go.Proofs.YtnlaiiophongmaaDoor.MCb
attribute [local go_sem] max2_int min2_int max_two min_two max_three min_three max_four min_four   -- for this text's walks alone
set_option linter.unusedVariables false
set_option linter.unusedSimpArgs false

end Go.Proofs.YtnlaiiophongmaaDoor.MSu
