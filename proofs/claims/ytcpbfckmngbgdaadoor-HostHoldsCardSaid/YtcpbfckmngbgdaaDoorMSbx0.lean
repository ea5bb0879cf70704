/- Printed by wip/gen/mp.py: Go functions as plain Lean functions, and that the calls do what these say. -/
import Derived.Test.YtcpbfckmngbgdaaDoorProg
import Derived.Below
import Derived.Deep.Draws
import Derived.Deep.AppendLies
import Derived.Maps.AppendAt
import Derived.OwnWalk
import Derived.Laws.BytesArg
import Derived.Laws.MakeOwn
import Derived.Laws.OwnMore
import Derived.Deep.OwnRows
import Derived.Tactics
import Derived.Lib.ConvBytes
import Derived.Laws.Slices
import Derived.WalkKit
import Derived.KernelRfl
import Derived.RowKit3
import Derived.Deep.LoopGhost
import Derived.Deep.QuietTactic
import Derived.BigQuiet
import Derived.WideLaws
import Derived.Deep.DeepCutAuto
import Derived.Deep.CutBlock
import Derived.Deep.RegionHeld3
import Derived.Laws.Rows
import Derived.Lib.AppendStr
import Derived.ArgAppend
import Derived.Laws.IdiomCopy
import Derived.OrdersHeld
import Derived.Laws.BitsLemmas
import Derived.RowKit
import Derived.Test.YtcpbfckmngbgdaaDoorK
import Derived.Test.YtcpbfckmngbgdaaDoorRow
import Derived.Test.YtcpbfckmngbgdaaDoorWWords
import Derived.Test.YtcpbfckmngbgdaaDoorWLast
import Derived.Test.YtcpbfckmngbgdaaDoorWTab
import Derived.Test.YtcpbfckmngbgdaaDoorWFour
import Derived.Test.YtcpbfckmngbgdaaDoorWQPut
import Derived.Test.YtcpbfckmngbgdaaDoorWApart
import Derived.Test.YtcpbfckmngbgdaaDoorWArr
import Derived.Test.YtcpbfckmngbgdaaDoorWZeros
import Derived.Test.YtcpbfckmngbgdaaDoorWFoot
import Derived.Test.YtcpbfckmngbgdaaDoorWKept
import Derived.Test.YtcpbfckmngbgdaaDoorWShare
import Derived.Test.YtcpbfckmngbgdaaDoorWN
import Derived.Test.YtcpbfckmngbgdaaDoorWFootNe
import Derived.Test.YtcpbfckmngbgdaaDoorWAt
import Derived.Test.YtcpbfckmngbgdaaDoorWEqStruct
import Derived.Test.YtcpbfckmngbgdaaDoorWRepsOne
import Derived.Test.YtcpbfckmngbgdaaDoorWInv
import Derived.Test.YtcpbfckmngbgdaaDoorWInvWords
import Derived.Test.YtcpbfckmngbgdaaDoorWGuard
import Derived.Test.YtcpbfckmngbgdaaDoorWNEv
import Derived.Test.YtcpbfckmngbgdaaDoorWMore
namespace Go.Proofs.YtcpbfckmngbgdaaDoor.MSb
open Go.RowKit Go.Proofs.YtcpbfckmngbgdaaDoorW.PrintWords Go.Proofs.YtcpbfckmngbgdaaDoorW.PrintLast Go.Proofs.YtcpbfckmngbgdaaDoorW.PrintMore
attribute [local go_sem] max2_int min2_int max_two min_two max_three min_three max_four min_four   -- for this text's walks alone
set_option linter.unusedVariables false
set_option linter.unusedSimpArgs false



def errW : Option Int → Value
  | none => .nilIface
  | some c => .iface 162 (.int .i64 c)
theorem errW_none : errW none = .nilIface := rfl
theorem errW_some (c : Int) : errW (some c) = .iface 162 (.int .i64 c) := rfl

theorem qN {w : World} {g : Nat} {o : Obj} (h : w.heap[g]? = some o) (n : Nat) : (w.drewN n).heap[g]? = some o := blk_drewN h n
theorem qA {w : World} {g : Nat} {o : Obj} (h : w.heap[g]? = some o) (o' : Obj) : (w.alloc o').heap[g]? = some o := blk_alloc h o'
theorem qD {w : World} {g : Nat} {o : Obj} (h : w.heap[g]? = some o) : w.drew.heap[g]? = some o := blk_drew h
theorem qpN {B : Nat} {w W : World} (h : Below B w W) (n : Nat) : Below B w (W.drewN n) := pw_below_drewN h n
theorem qpA {w W : World} (h : Below w.heap.size w W) (o : Obj) : Below w.heap.size w (W.alloc o) := below_alloc h o
theorem qp1 {base : Nat} {w W : World} (h : Below base w W) : Below base w W.drew := below_drew1 h
theorem qpS {w W : World} {g j : Nat} {v : Value} (h : Below w.heap.size w W) (hg : w.heap.size ≤ g) : Below w.heap.size w (W.setCell ⟨g, j, none⟩ v) := below_set h hg
theorem qF {w : World} {g : Nat} {t : TypeId} {cs : Array Value} (h : w.heap[g]? = some (.cells cs t (0, 0))) (i : Nat) : w.frozen? ⟨g, i, none⟩ = false := blk_frozen h i
theorem qC {w : World} {g : Nat} {t : TypeId} {cs : Array Value} (h : w.heap[g]? = some (.cells cs t (0, 0))) (i : Nat) : w.cell? ⟨g, i, none⟩ = cs[i]? := blk_cell h i
theorem qB {w w1 : World} {g : Nat} {o : Obj} (h : w.heap[g]? = some o) (hb : Below w.heap.size w w1) : w1.heap[g]? = some o := blk_below h hb
theorem qS {p : Prop} (h : p) : Aside0 p := ⟨h⟩
-- the values' own types

end Go.Proofs.YtcpbfckmngbgdaaDoor.MSb
