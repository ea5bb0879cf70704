/- Printed by wip/gen/mp.py: Go functions as plain Lean functions, and that the calls do what these say. -/
import Derived.Test.YtpihgdehgkclmaaDoorMSampleHoldsx0
import Derived.Test.YtpihgdehgkclmaaDoorMSampleHoldsx1
import Derived.Test.YtpihgdehgkclmaaDoorMSampleHoldsx2
import Derived.Test.YtpihgdehgkclmaaDoorMSampleHoldsx3
import Derived.Test.YtpihgdehgkclmaaDoorMSampleHoldsx4
import Derived.Test.YtpihgdehgkclmaaDoorMSampleHoldsx5
import Derived.Test.YtpihgdehgkclmaaDoorMSampleHoldsx6
import Derived.Test.YtpihgdehgkclmaaDoorMSampleHoldsx7
namespace Go.Proofs.YtpihgdehgkclmaaDoor.MSampleHolds
open Go.RowKit Go.Proofs.YtpihgdehgkclmaaDoorW.PrintWords Go.Proofs.YtpihgdehgkclmaaDoorW.PrintLast Go.Proofs.YtpihgdehgkclmaaDoorW.PrintMore
attribute [local go_sem] max2_int min2_int max_two min_two max_three min_three max_four min_four   -- for this text's walks alone
set_option linter.unusedVariables false
set_option linter.unusedSimpArgs false

end Go.Proofs.YtpihgdehgkclmaaDoor.MSampleHolds
