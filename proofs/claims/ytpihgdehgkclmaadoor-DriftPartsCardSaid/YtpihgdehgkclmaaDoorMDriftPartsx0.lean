/- Printed by wip/gen/mp.py: Go functions as plain Lean functions, and that the calls do what these say. -/
import Derived.Test.YtpihgdehgkclmaaDoorProg
import Derived.Below
import Derived.Deep.Draws
import Derived.Deep.AppendLies
import Derived.Maps.AppendAt
import Derived.OwnWalk
import Derived.Laws.BytesArg
import Derived.Laws.MakeOwn
import Derived.Laws.OwnMore
import Derived.Deep.OwnRows
import Derived.Tactics
import Derived.Lib.ConvBytes
import Derived.Laws.Slices
import Derived.WalkKit
import Derived.KernelRfl
import Derived.RowKit3
import Derived.Deep.LoopGhost
import Derived.Deep.QuietTactic
import Derived.BigQuiet
import Derived.WideLaws
import Derived.Deep.DeepCutAuto
import Derived.Deep.CutBlock
import Derived.Deep.RegionHeld3
import Derived.Laws.Rows
import Derived.Lib.AppendStr
import Derived.ArgAppend
import Derived.Laws.IdiomCopy
import Derived.OrdersHeld
import Derived.Laws.BitsLemmas
import Derived.RowKit
import Derived.Test.YtpihgdehgkclmaaDoorK
import Derived.Test.YtpihgdehgkclmaaDoorWWords
import Derived.Test.YtpihgdehgkclmaaDoorWLast
import Derived.Test.YtpihgdehgkclmaaDoorWTab
import Derived.Test.YtpihgdehgkclmaaDoorWFour
import Derived.Test.YtpihgdehgkclmaaDoorWQPut
import Derived.Test.YtpihgdehgkclmaaDoorWApart
import Derived.Test.YtpihgdehgkclmaaDoorWArr
import Derived.Test.YtpihgdehgkclmaaDoorWZeros
import Derived.Test.YtpihgdehgkclmaaDoorWFoot
import Derived.Test.YtpihgdehgkclmaaDoorWKept
import Derived.Test.YtpihgdehgkclmaaDoorWShare
import Derived.Test.YtpihgdehgkclmaaDoorWN
import Derived.Test.YtpihgdehgkclmaaDoorWFootNe
import Derived.Test.YtpihgdehgkclmaaDoorWAt
import Derived.Test.YtpihgdehgkclmaaDoorWEqStruct
import Derived.Test.YtpihgdehgkclmaaDoorWRepsOne
import Derived.Test.YtpihgdehgkclmaaDoorWInv
import Derived.Test.YtpihgdehgkclmaaDoorWInvWords
import Derived.Test.YtpihgdehgkclmaaDoorWGuard
import Derived.Test.YtpihgdehgkclmaaDoorWNEv
import Derived.Test.YtpihgdehgkclmaaDoorWMore
namespace Go.Proofs.YtpihgdehgkclmaaDoor.MDriftParts
open Go.RowKit Go.Proofs.YtpihgdehgkclmaaDoorW.PrintWords Go.Proofs.YtpihgdehgkclmaaDoorW.PrintLast Go.Proofs.YtpihgdehgkclmaaDoorW.PrintMore
attribute [local go_sem] max2_int min2_int max_two min_two max_three min_three max_four min_four   -- for this text's walks alone
set_option linter.unusedVariables false
set_option linter.unusedSimpArgs false



def errW : Option Int → Value
  | none => .nilIface
  | some c => .iface 126 (.int .i64 c)
theorem errW_none : errW none = .nilIface := rfl
theorem errW_some (c : Int) : errW (some c) = .iface 126 (.int .i64 c) := rfl

-- the values' own types

end Go.Proofs.YtpihgdehgkclmaaDoor.MDriftParts
