/- Printed by wip/gen/mp.py: Go functions as plain Lean functions, and that the calls do what these say. -/
import Derived.Test.YtnlaiiophongmaaDoorMCbx
import Derived.Test.YtnlaiiophongmaaDoorProg
import Derived.Below
import Derived.Deep.Draws
import Derived.Deep.AppendLies
import Derived.Maps.AppendAt
import Derived.OwnWalk
import Derived.Laws.BytesArg
import Derived.Laws.MakeOwn
import Derived.Laws.OwnMore
import Derived.Deep.OwnRows
import Derived.Tactics
import Derived.Lib.ConvBytes
import Derived.Laws.Slices
import Derived.WalkKit
import Derived.KernelRfl
import Derived.RowKit3
import Derived.Deep.LoopGhost
import Derived.Deep.QuietTactic
import Derived.BigQuiet
import Derived.WideLaws
import Derived.Deep.DeepCutAuto
import Derived.Deep.CutBlock
import Derived.Deep.RegionHeld3
import Derived.Laws.Rows
import Derived.Lib.AppendStr
import Derived.ArgAppend
import Derived.Laws.IdiomCopy
import Derived.OrdersHeld
import Derived.Laws.BitsLemmas
import Derived.RowKit
import Derived.Test.YtnlaiiophongmaaDoorK
import Derived.Test.YtnlaiiophongmaaDoorRow
import Derived.Test.YtnlaiiophongmaaDoorGrow
import Derived.Lib.SliceRun
import Derived.Test.YtnlaiiophongmaaDoorWWords
import Derived.Test.YtnlaiiophongmaaDoorWLast
import Derived.Test.YtnlaiiophongmaaDoorWTab
import Derived.Test.YtnlaiiophongmaaDoorWFour
import Derived.Test.YtnlaiiophongmaaDoorWQPut
import Derived.Test.YtnlaiiophongmaaDoorWApart
import Derived.Test.YtnlaiiophongmaaDoorWArr
import Derived.Test.YtnlaiiophongmaaDoorWZeros
import Derived.Test.YtnlaiiophongmaaDoorWFoot
import Derived.Test.YtnlaiiophongmaaDoorWKept
import Derived.Test.YtnlaiiophongmaaDoorWShare
import Derived.Test.YtnlaiiophongmaaDoorWN
import Derived.Test.YtnlaiiophongmaaDoorWFootNe
import Derived.Test.YtnlaiiophongmaaDoorWAt
import Derived.Test.YtnlaiiophongmaaDoorWEqStruct
import Derived.Test.YtnlaiiophongmaaDoorWRepsOne
import Derived.Test.YtnlaiiophongmaaDoorWInv
import Derived.Test.YtnlaiiophongmaaDoorWInvWords
import Derived.Test.YtnlaiiophongmaaDoorWGuard
import Derived.Test.YtnlaiiophongmaaDoorWNEv
import Derived.Test.YtnlaiiophongmaaDoorWMore
namespace Go.Proofs.YtnlaiiophongmaaDoor.MSu
open Go.RowKit Go.Proofs.YtnlaiiophongmaaDoorW.PrintWords Go.Proofs.YtnlaiiophongmaaDoorW.PrintLast Go.Proofs.YtnlaiiophongmaaDoorW.PrintMore Go.Proofs.YtnlaiiophongmaaDoor.MCb
attribute [local go_sem] max2_int min2_int max_two min_two max_three min_three max_four min_four   -- for this text's walks alone
set_option linter.unusedVariables false
set_option linter.unusedSimpArgs false



theorem info2 : (Tryd.prog.info? 2).map (fun i => (i.zero, i.size, i.bytes)) = some (some (.int .i64 0), 1, 8) := by kernel_rfl
-- the values' own types

end Go.Proofs.YtnlaiiophongmaaDoor.MSu
