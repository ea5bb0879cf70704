/- Printed by wip/gen/mp.py: Go functions as plain Lean functions, and that the calls do what these say. -/
import Derived.Test.YtcpbfckmngbgdaaDoorMHox0
import Derived.Test.YtcpbfckmngbgdaaDoorMHox1
import Derived.Test.YtcpbfckmngbgdaaDoorMHox2
import Derived.Test.YtcpbfckmngbgdaaDoorMHox3
import Derived.Test.YtcpbfckmngbgdaaDoorMHox4
import Derived.Test.YtcpbfckmngbgdaaDoorMHox5
import Derived.Test.YtcpbfckmngbgdaaDoorMHox6
import Derived.Test.YtcpbfckmngbgdaaDoorMHox7
import Derived.Test.YtcpbfckmngbgdaaDoorMHox8
import Derived.Test.YtcpbfckmngbgdaaDoorMHox9
import Derived.Test.YtcpbfckmngbgdaaDoorMHox10
import Derived.Test.YtcpbfckmngbgdaaDoorMHox11
namespace Go.Proofs.YtcpbfckmngbgdaaDoor.MHo
open Go.RowKit Go.Proofs.YtcpbfckmngbgdaaDoorW.PrintWords Go.Proofs.YtcpbfckmngbgdaaDoorW.PrintLast Go.Proofs.YtcpbfckmngbgdaaDoorW.PrintMore
attribute [local go_sem] conv_fl eq_fl eq_fl2 max2_int min2_int max_two min_two max_three min_three max_four min_four   -- for this text's walks alone
set_option linter.unusedVariables false
set_option linter.unusedSimpArgs false

end Go.Proofs.YtcpbfckmngbgdaaDoor.MHo
