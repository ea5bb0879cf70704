import Derived.Test.YtcpbfckmngbgdaaDoorWInv
import Derived.Test.YtcpbfckmngbgdaaDoorWFootNe
namespace Go.Proofs.YtcpbfckmngbgdaaDoorW.PrintWords
open Go.RowKit
end Go.Proofs.YtcpbfckmngbgdaaDoorW.PrintWords
namespace Go.Proofs.YtcpbfckmngbgdaaDoorW.PrintLast
section
variable {ops : Array Oper} {a : Act} {o og : Oper} {g : Nat} {t : Tmp} {u : Bool}
end
end Go.Proofs.YtcpbfckmngbgdaaDoorW.PrintLast
