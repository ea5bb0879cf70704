/- Printed by wip/gen/mp.py: Go functions as plain Lean functions, and that the calls do what these say. -/
import Derived.Test.YtnlaiiophongmaaDoorMLeapMorex0
import Derived.Test.YtnlaiiophongmaaDoorMLeapMorex1
import Derived.Test.YtnlaiiophongmaaDoorMLeapMorex2
import Derived.Test.YtnlaiiophongmaaDoorMLeapMorex3
import Derived.Test.YtnlaiiophongmaaDoorMLeapMorex4
import Derived.Test.YtnlaiiophongmaaDoorMLeapMorex5
import Derived.Test.YtnlaiiophongmaaDoorMLeapMorex6
import Derived.Test.YtnlaiiophongmaaDoorMLeapMorex7
namespace Go.Proofs.YtnlaiiophongmaaDoor.MLeapMore
open Go.RowKit Go.Proofs.YtnlaiiophongmaaDoorW.PrintWords Go.Proofs.YtnlaiiophongmaaDoorW.PrintLast Go.Proofs.YtnlaiiophongmaaDoorW.PrintMore
attribute [local go_sem] max2_int min2_int max_two min_two max_three min_three max_four min_four   -- for this text's walks alone
set_option linter.unusedVariables false
set_option linter.unusedSimpArgs false

end Go.Proofs.YtnlaiiophongmaaDoor.MLeapMore
