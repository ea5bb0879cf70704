/- Printed by wip/gen/mp.py: Go functions as plain Lean functions, and that the calls do what these say. -/
import Derived.Test.YtcpbfckmngbgdaaDoorMHox
import Derived.Test.YtcpbfckmngbgdaaDoorProg
import Derived.Below
import Derived.Deep.Draws
import Derived.Deep.AppendLies
import Derived.Maps.AppendAt
import Derived.OwnWalk
import Derived.Laws.BytesArg
import Derived.Laws.MakeOwn
import Derived.Laws.OwnMore
import Derived.Deep.OwnRows
import Derived.Tactics
import Derived.Lib.ConvBytes
import Derived.Laws.Slices
import Derived.WalkKit
import Derived.KernelRfl
import Derived.RowKit3
import Derived.Deep.LoopGhost
import Derived.Deep.QuietTactic
import Derived.BigQuiet
import Derived.WideLaws
import Derived.Deep.DeepCutAuto
import Derived.Deep.CutBlock
import Derived.Deep.RegionHeld3
import Derived.Laws.Rows
import Derived.Lib.AppendStr
import Derived.ArgAppend
import Derived.Laws.IdiomCopy
import Derived.OrdersHeld
import Derived.Laws.BitsLemmas
import Derived.RowKit
import Derived.Test.YtcpbfckmngbgdaaDoorK
import Derived.Test.YtcpbfckmngbgdaaDoorRow
import Derived.Test.YtcpbfckmngbgdaaDoorSv
import Derived.Test.YtcpbfckmngbgdaaDoorIs
import Derived.Test.YtcpbfckmngbgdaaDoorWWords
import Derived.Test.YtcpbfckmngbgdaaDoorWLast
import Derived.Test.YtcpbfckmngbgdaaDoorWTab
import Derived.Test.YtcpbfckmngbgdaaDoorWFour
import Derived.Test.YtcpbfckmngbgdaaDoorWQPut
import Derived.Test.YtcpbfckmngbgdaaDoorWApart
import Derived.Test.YtcpbfckmngbgdaaDoorWArr
import Derived.Test.YtcpbfckmngbgdaaDoorWZeros
import Derived.Test.YtcpbfckmngbgdaaDoorWFoot
import Derived.Test.YtcpbfckmngbgdaaDoorWKept
import Derived.Test.YtcpbfckmngbgdaaDoorWShare
import Derived.Test.YtcpbfckmngbgdaaDoorWN
import Derived.Test.YtcpbfckmngbgdaaDoorWFootNe
import Derived.Test.YtcpbfckmngbgdaaDoorWAt
import Derived.Test.YtcpbfckmngbgdaaDoorWEqStruct
import Derived.Test.YtcpbfckmngbgdaaDoorWRepsOne
import Derived.Test.YtcpbfckmngbgdaaDoorWInv
import Derived.Test.YtcpbfckmngbgdaaDoorWInvWords
import Derived.Test.YtcpbfckmngbgdaaDoorWGuard
import Derived.Test.YtcpbfckmngbgdaaDoorWNEv
import Derived.Test.YtcpbfckmngbgdaaDoorWMore
namespace Go.Proofs.YtcpbfckmngbgdaaDoor.MHs
open Go.RowKit Go.Proofs.YtcpbfckmngbgdaaDoorW.PrintWords Go.Proofs.YtcpbfckmngbgdaaDoorW.PrintLast Go.Proofs.YtcpbfckmngbgdaaDoorW.PrintMore Go.Proofs.YtcpbfckmngbgdaaDoor.MHo
attribute [local go_sem] conv_fl eq_fl eq_fl2 max2_int min2_int max_two min_two max_three min_three max_four min_four   -- for this text's walks alone
set_option linter.unusedVariables false
set_option linter.unusedSimpArgs false
abbrev ce_0 (x0 : Int) (x1 : Int) (x2 : Int) (x3 : Int) (x4 : Int) (x5 : Int) (x6 : Int) (x7 : Bool) (x8 : Int) (x9 : Int) (x10 : Int) (x11 : Int) (x12 : Int) : Array Value := #[.int .u32 x0, .int .i64 x1, .int .i64 x2, .int .i64 x3, .int .i64 x4, .int .i64 x5, .int .i64 x6, .bool x7, .int .i64 x8, .int .i64 x9, .int .i64 x10, .int .i64 x11, .int .i64 x12]

/-! ### fuseelaw18_num: function 61 -/
/-! ### host_Drop: function 64 -/
/-! ### fuseelaw18_sure: function 59 -/
def fuseelaw18_sure.f (k : Nat)  : Option (Bool) := (fuseelaw18_rule.f).bind fun bt351 => ((host_New.f k bt351.1 bt351.2.1 bt351.2.2.1 bt351.2.2.2.1 bt351.2.2.2.2.1 bt351.2.2.2.2.2.1 bt351.2.2.2.2.2.2).bind fun bt358 => ((host_Now.f k bt358.1 bt358.2.1 bt358.2.2.1 bt358.2.2.2.1 bt358.2.2.2.2.1 bt358.2.2.2.2.2.1 bt358.2.2.2.2.2.2.1 bt358.2.2.2.2.2.2.2.1 bt358.2.2.2.2.2.2.2.2.1 bt358.2.2.2.2.2.2.2.2.2.1 bt358.2.2.2.2.2.2.2.2.2.2.1 bt358.2.2.2.2.2.2.2.2.2.2.2.1 bt358.2.2.2.2.2.2.2.2.2.2.2.2.1 0).bind fun bt373 => ((host_Sync.f k bt358.1 bt358.2.1 bt358.2.2.1 bt358.2.2.2.1 bt358.2.2.2.2.1 bt358.2.2.2.2.2.1 bt358.2.2.2.2.2.2.1 bt358.2.2.2.2.2.2.2.1 bt358.2.2.2.2.2.2.2.2.1 bt358.2.2.2.2.2.2.2.2.2.1 bt358.2.2.2.2.2.2.2.2.2.2.1 bt358.2.2.2.2.2.2.2.2.2.2.2.1 bt358.2.2.2.2.2.2.2.2.2.2.2.2.1 0 95 105).bind fun bt376 => ((host_Now.f k bt376.1 bt376.2.1 bt376.2.2.1 bt376.2.2.2.1 bt376.2.2.2.2.1 bt376.2.2.2.2.2.1 bt376.2.2.2.2.2.2.1 bt376.2.2.2.2.2.2.2.1 bt376.2.2.2.2.2.2.2.2.1 bt376.2.2.2.2.2.2.2.2.2.1 bt376.2.2.2.2.2.2.2.2.2.2.1 bt376.2.2.2.2.2.2.2.2.2.2.2.1 bt376.2.2.2.2.2.2.2.2.2.2.2.2.1 10).bind fun bt390 => ((host_Now.f k bt376.1 bt376.2.1 bt376.2.2.1 bt376.2.2.2.1 bt376.2.2.2.2.1 bt376.2.2.2.2.2.1 bt376.2.2.2.2.2.2.1 bt376.2.2.2.2.2.2.2.1 bt376.2.2.2.2.2.2.2.2.1 bt376.2.2.2.2.2.2.2.2.2.1 bt376.2.2.2.2.2.2.2.2.2.2.1 bt376.2.2.2.2.2.2.2.2.2.2.2.1 bt376.2.2.2.2.2.2.2.2.2.2.2.2.1 (-1)).bind fun bt393 => (if bt358.2.2.2.2.2.2.2.2.2.2.2.2.2.isNone = true then (if bt376.2.2.2.2.2.2.2.2.2.2.2.2.2.isNone = true then (if bt390.2.2.isNone = true then ((fuseelaw18_num.f bt373.2.2).bind fun t399 => (if t399 = 13 then (if bt390.1 = 110 then (if bt390.2.1 = 10 then ((fuseelaw18_num.f bt393.2.2).bind fun t400 => (if t400 = 10 then ((host_Drop.f bt376.1 bt376.2.1 bt376.2.2.1 bt376.2.2.2.1 bt376.2.2.2.2.1 bt376.2.2.2.2.2.1 bt376.2.2.2.2.2.2.1 bt376.2.2.2.2.2.2.2.1 bt376.2.2.2.2.2.2.2.2.1 bt376.2.2.2.2.2.2.2.2.2.1 bt376.2.2.2.2.2.2.2.2.2.2.1 bt376.2.2.2.2.2.2.2.2.2.2.2.1 bt376.2.2.2.2.2.2.2.2.2.2.2.2.1).bind fun bt401 => (some (!bt401.2.2.2.2.2.2.2.1))) else (none))) else (none)) else (none)) else (none))) else (none)) else (none)) else (none)))))))
theorem fuseelaw18_sure.mono : ∀ k, LeO (fuseelaw18_sure.f k ) (fuseelaw18_sure.f (k + 1) ) := by
 intro  k
 unfold fuseelaw18_sure.f
 repeat' first
   | (with_reducible exact host_New.mono _ _ _ _ _ _ _ _)
   | (with_reducible exact host_Now.mono _ _ _ _ _ _ _ _ _ _ _ _ _ _ _)
   | (with_reducible exact host_Sync.mono _ _ _ _ _ _ _ _ _ _ _ _ _ _ _ _ _)
   | (with_reducible exact LeO.refl _)
   | (with_reducible exact LeO.none _)
   | (with_reducible refine LeO.ite ?_ ?_)
   | (with_reducible refine LeO.bind ?_ (fun _ => ?_))
   | exact host_New.mono _ _ _ _ _ _ _ _
   | exact host_Now.mono _ _ _ _ _ _ _ _ _ _ _ _ _ _ _
   | exact host_Sync.mono _ _ _ _ _ _ _ _ _ _ _ _ _ _ _ _ _
   | exact LeO.none _
   | refine LeO.ite ?_ ?_
   | refine LeO.bind ?_ (fun _ => ?_)
theorem fld_137_1 (a0_ : Int) (a1_ : Int) (a2_ : Int) (a3_ : Int) (a4_ : Int) (a5_ : Int) (a6_ : Int) (a7_ : Bool) (a8_ : Int) (a9_ : Int) (a10_ : Int) (a11_ : Int) (a12_ : Int) : ∀ w : World, (Instr.field 137 (.agg #[.int .u32 a0_, .int .i64 a1_, .int .i64 a2_, .int .i64 a3_, .int .i64 a4_, .int .i64 a5_, .int .i64 a6_, .bool a7_, .int .i64 a8_, .int .i64 a9_, .int .i64 a10_, .int .i64 a11_, .int .i64 a12_]) 1).run Tryd.prog w = .ok (.bool a7_) w := by
 intro w
 kernel_rfl
set_option maxHeartbeats 8000000 in
set_option maxRecDepth 100000 in
theorem fuseelaw18_sure.calls (k : Nat)  (r : Bool) (w : World) (hgL : HG w) (h : fuseelaw18_sure.f k  = some r) :
  Calls Tryd.prog 59 #[] w fun e w' => e = .returned (.bool r) ∧ Below w.heap.size w w' := by
 have hu137 := Tryd.underlying137
 have hu86 := Tryd.underlying86
 have hu31 := Tryd.underlying31
 have hu162 := Tryd.underlying162
 have kf_ := fld_137_1
 have HB := qS (Below.refl w.heap.size w)
 have H : ((fuseelaw18_rule.f).bind fun bt351 => ((host_New.f k bt351.1 bt351.2.1 bt351.2.2.1 bt351.2.2.2.1 bt351.2.2.2.2.1 bt351.2.2.2.2.2.1 bt351.2.2.2.2.2.2).bind fun bt358 => ((host_Now.f k bt358.1 bt358.2.1 bt358.2.2.1 bt358.2.2.2.1 bt358.2.2.2.2.1 bt358.2.2.2.2.2.1 bt358.2.2.2.2.2.2.1 bt358.2.2.2.2.2.2.2.1 bt358.2.2.2.2.2.2.2.2.1 bt358.2.2.2.2.2.2.2.2.2.1 bt358.2.2.2.2.2.2.2.2.2.2.1 bt358.2.2.2.2.2.2.2.2.2.2.2.1 bt358.2.2.2.2.2.2.2.2.2.2.2.2.1 0).bind fun bt373 => ((host_Sync.f k bt358.1 bt358.2.1 bt358.2.2.1 bt358.2.2.2.1 bt358.2.2.2.2.1 bt358.2.2.2.2.2.1 bt358.2.2.2.2.2.2.1 bt358.2.2.2.2.2.2.2.1 bt358.2.2.2.2.2.2.2.2.1 bt358.2.2.2.2.2.2.2.2.2.1 bt358.2.2.2.2.2.2.2.2.2.2.1 bt358.2.2.2.2.2.2.2.2.2.2.2.1 bt358.2.2.2.2.2.2.2.2.2.2.2.2.1 0 95 105).bind fun bt376 => ((host_Now.f k bt376.1 bt376.2.1 bt376.2.2.1 bt376.2.2.2.1 bt376.2.2.2.2.1 bt376.2.2.2.2.2.1 bt376.2.2.2.2.2.2.1 bt376.2.2.2.2.2.2.2.1 bt376.2.2.2.2.2.2.2.2.1 bt376.2.2.2.2.2.2.2.2.2.1 bt376.2.2.2.2.2.2.2.2.2.2.1 bt376.2.2.2.2.2.2.2.2.2.2.2.1 bt376.2.2.2.2.2.2.2.2.2.2.2.2.1 10).bind fun bt390 => ((host_Now.f k bt376.1 bt376.2.1 bt376.2.2.1 bt376.2.2.2.1 bt376.2.2.2.2.1 bt376.2.2.2.2.2.1 bt376.2.2.2.2.2.2.1 bt376.2.2.2.2.2.2.2.1 bt376.2.2.2.2.2.2.2.2.1 bt376.2.2.2.2.2.2.2.2.2.1 bt376.2.2.2.2.2.2.2.2.2.2.1 bt376.2.2.2.2.2.2.2.2.2.2.2.1 bt376.2.2.2.2.2.2.2.2.2.2.2.2.1 (-1)).bind fun bt393 => (if bt358.2.2.2.2.2.2.2.2.2.2.2.2.2.isNone = true then (if bt376.2.2.2.2.2.2.2.2.2.2.2.2.2.isNone = true then (if bt390.2.2.isNone = true then ((fuseelaw18_num.f bt373.2.2).bind fun t399 => (if t399 = 13 then (if bt390.1 = 110 then (if bt390.2.1 = 10 then ((fuseelaw18_num.f bt393.2.2).bind fun t400 => (if t400 = 10 then ((host_Drop.f bt376.1 bt376.2.1 bt376.2.2.1 bt376.2.2.2.1 bt376.2.2.2.2.1 bt376.2.2.2.2.2.1 bt376.2.2.2.2.2.2.1 bt376.2.2.2.2.2.2.2.1 bt376.2.2.2.2.2.2.2.2.1 bt376.2.2.2.2.2.2.2.2.2.1 bt376.2.2.2.2.2.2.2.2.2.2.1 bt376.2.2.2.2.2.2.2.2.2.2.2.1 bt376.2.2.2.2.2.2.2.2.2.2.2.2.1).bind fun bt401 => (some (!bt401.2.2.2.2.2.2.2.1))) else (none))) else (none)) else (none)) else (none))) else (none)) else (none)) else (none)))))))) = some r := h
 clear h
 replace H := Option.bind_eq_some_iff.mp H
 obtain ⟨⟨t351, t352, t353, t354, t355, t356, t357⟩, A10, H⟩ := H
 replace H : ((host_New.f k t351 t352 t353 t354 t355 t356 t357).bind fun bt358 => ((host_Now.f k bt358.1 bt358.2.1 bt358.2.2.1 bt358.2.2.2.1 bt358.2.2.2.2.1 bt358.2.2.2.2.2.1 bt358.2.2.2.2.2.2.1 bt358.2.2.2.2.2.2.2.1 bt358.2.2.2.2.2.2.2.2.1 bt358.2.2.2.2.2.2.2.2.2.1 bt358.2.2.2.2.2.2.2.2.2.2.1 bt358.2.2.2.2.2.2.2.2.2.2.2.1 bt358.2.2.2.2.2.2.2.2.2.2.2.2.1 0).bind fun bt373 => ((host_Sync.f k bt358.1 bt358.2.1 bt358.2.2.1 bt358.2.2.2.1 bt358.2.2.2.2.1 bt358.2.2.2.2.2.1 bt358.2.2.2.2.2.2.1 bt358.2.2.2.2.2.2.2.1 bt358.2.2.2.2.2.2.2.2.1 bt358.2.2.2.2.2.2.2.2.2.1 bt358.2.2.2.2.2.2.2.2.2.2.1 bt358.2.2.2.2.2.2.2.2.2.2.2.1 bt358.2.2.2.2.2.2.2.2.2.2.2.2.1 0 95 105).bind fun bt376 => ((host_Now.f k bt376.1 bt376.2.1 bt376.2.2.1 bt376.2.2.2.1 bt376.2.2.2.2.1 bt376.2.2.2.2.2.1 bt376.2.2.2.2.2.2.1 bt376.2.2.2.2.2.2.2.1 bt376.2.2.2.2.2.2.2.2.1 bt376.2.2.2.2.2.2.2.2.2.1 bt376.2.2.2.2.2.2.2.2.2.2.1 bt376.2.2.2.2.2.2.2.2.2.2.2.1 bt376.2.2.2.2.2.2.2.2.2.2.2.2.1 10).bind fun bt390 => ((host_Now.f k bt376.1 bt376.2.1 bt376.2.2.1 bt376.2.2.2.1 bt376.2.2.2.2.1 bt376.2.2.2.2.2.1 bt376.2.2.2.2.2.2.1 bt376.2.2.2.2.2.2.2.1 bt376.2.2.2.2.2.2.2.2.1 bt376.2.2.2.2.2.2.2.2.2.1 bt376.2.2.2.2.2.2.2.2.2.2.1 bt376.2.2.2.2.2.2.2.2.2.2.2.1 bt376.2.2.2.2.2.2.2.2.2.2.2.2.1 (-1)).bind fun bt393 => (if bt358.2.2.2.2.2.2.2.2.2.2.2.2.2.isNone = true then (if bt376.2.2.2.2.2.2.2.2.2.2.2.2.2.isNone = true then (if bt390.2.2.isNone = true then ((fuseelaw18_num.f bt373.2.2).bind fun t399 => (if t399 = 13 then (if bt390.1 = 110 then (if bt390.2.1 = 10 then ((fuseelaw18_num.f bt393.2.2).bind fun t400 => (if t400 = 10 then ((host_Drop.f bt376.1 bt376.2.1 bt376.2.2.1 bt376.2.2.2.1 bt376.2.2.2.2.1 bt376.2.2.2.2.2.1 bt376.2.2.2.2.2.2.1 bt376.2.2.2.2.2.2.2.1 bt376.2.2.2.2.2.2.2.2.1 bt376.2.2.2.2.2.2.2.2.2.1 bt376.2.2.2.2.2.2.2.2.2.2.1 bt376.2.2.2.2.2.2.2.2.2.2.2.1 bt376.2.2.2.2.2.2.2.2.2.2.2.2.1).bind fun bt401 => (some (!bt401.2.2.2.2.2.2.2.1))) else (none))) else (none)) else (none)) else (none))) else (none)) else (none)) else (none))))))) = some r := H
 have A1 := qS A10
 clear A10
 replace H := Option.bind_eq_some_iff.mp H
 obtain ⟨⟨t358, t359, t360, t361, t362, t363, t364, t365, t366, t367, t368, t369, t370, t371⟩, A20, H⟩ := H
 replace H : ((host_Now.f k t358 t359 t360 t361 t362 t363 t364 t365 t366 t367 t368 t369 t370 0).bind fun bt373 => ((host_Sync.f k t358 t359 t360 t361 t362 t363 t364 t365 t366 t367 t368 t369 t370 0 95 105).bind fun bt376 => ((host_Now.f k bt376.1 bt376.2.1 bt376.2.2.1 bt376.2.2.2.1 bt376.2.2.2.2.1 bt376.2.2.2.2.2.1 bt376.2.2.2.2.2.2.1 bt376.2.2.2.2.2.2.2.1 bt376.2.2.2.2.2.2.2.2.1 bt376.2.2.2.2.2.2.2.2.2.1 bt376.2.2.2.2.2.2.2.2.2.2.1 bt376.2.2.2.2.2.2.2.2.2.2.2.1 bt376.2.2.2.2.2.2.2.2.2.2.2.2.1 10).bind fun bt390 => ((host_Now.f k bt376.1 bt376.2.1 bt376.2.2.1 bt376.2.2.2.1 bt376.2.2.2.2.1 bt376.2.2.2.2.2.1 bt376.2.2.2.2.2.2.1 bt376.2.2.2.2.2.2.2.1 bt376.2.2.2.2.2.2.2.2.1 bt376.2.2.2.2.2.2.2.2.2.1 bt376.2.2.2.2.2.2.2.2.2.2.1 bt376.2.2.2.2.2.2.2.2.2.2.2.1 bt376.2.2.2.2.2.2.2.2.2.2.2.2.1 (-1)).bind fun bt393 => (if t371.isNone = true then (if bt376.2.2.2.2.2.2.2.2.2.2.2.2.2.isNone = true then (if bt390.2.2.isNone = true then ((fuseelaw18_num.f bt373.2.2).bind fun t399 => (if t399 = 13 then (if bt390.1 = 110 then (if bt390.2.1 = 10 then ((fuseelaw18_num.f bt393.2.2).bind fun t400 => (if t400 = 10 then ((host_Drop.f bt376.1 bt376.2.1 bt376.2.2.1 bt376.2.2.2.1 bt376.2.2.2.2.1 bt376.2.2.2.2.2.1 bt376.2.2.2.2.2.2.1 bt376.2.2.2.2.2.2.2.1 bt376.2.2.2.2.2.2.2.2.1 bt376.2.2.2.2.2.2.2.2.2.1 bt376.2.2.2.2.2.2.2.2.2.2.1 bt376.2.2.2.2.2.2.2.2.2.2.2.1 bt376.2.2.2.2.2.2.2.2.2.2.2.2.1).bind fun bt401 => (some (!bt401.2.2.2.2.2.2.2.1))) else (none))) else (none)) else (none)) else (none))) else (none)) else (none)) else (none)))))) = some r := H
 have A2 := qS A20
 clear A20
 replace H := Option.bind_eq_some_iff.mp H
 obtain ⟨⟨t373, t374, t375⟩, A30, H⟩ := H
 replace H : ((host_Sync.f k t358 t359 t360 t361 t362 t363 t364 t365 t366 t367 t368 t369 t370 0 95 105).bind fun bt376 => ((host_Now.f k bt376.1 bt376.2.1 bt376.2.2.1 bt376.2.2.2.1 bt376.2.2.2.2.1 bt376.2.2.2.2.2.1 bt376.2.2.2.2.2.2.1 bt376.2.2.2.2.2.2.2.1 bt376.2.2.2.2.2.2.2.2.1 bt376.2.2.2.2.2.2.2.2.2.1 bt376.2.2.2.2.2.2.2.2.2.2.1 bt376.2.2.2.2.2.2.2.2.2.2.2.1 bt376.2.2.2.2.2.2.2.2.2.2.2.2.1 10).bind fun bt390 => ((host_Now.f k bt376.1 bt376.2.1 bt376.2.2.1 bt376.2.2.2.1 bt376.2.2.2.2.1 bt376.2.2.2.2.2.1 bt376.2.2.2.2.2.2.1 bt376.2.2.2.2.2.2.2.1 bt376.2.2.2.2.2.2.2.2.1 bt376.2.2.2.2.2.2.2.2.2.1 bt376.2.2.2.2.2.2.2.2.2.2.1 bt376.2.2.2.2.2.2.2.2.2.2.2.1 bt376.2.2.2.2.2.2.2.2.2.2.2.2.1 (-1)).bind fun bt393 => (if t371.isNone = true then (if bt376.2.2.2.2.2.2.2.2.2.2.2.2.2.isNone = true then (if bt390.2.2.isNone = true then ((fuseelaw18_num.f t375).bind fun t399 => (if t399 = 13 then (if bt390.1 = 110 then (if bt390.2.1 = 10 then ((fuseelaw18_num.f bt393.2.2).bind fun t400 => (if t400 = 10 then ((host_Drop.f bt376.1 bt376.2.1 bt376.2.2.1 bt376.2.2.2.1 bt376.2.2.2.2.1 bt376.2.2.2.2.2.1 bt376.2.2.2.2.2.2.1 bt376.2.2.2.2.2.2.2.1 bt376.2.2.2.2.2.2.2.2.1 bt376.2.2.2.2.2.2.2.2.2.1 bt376.2.2.2.2.2.2.2.2.2.2.1 bt376.2.2.2.2.2.2.2.2.2.2.2.1 bt376.2.2.2.2.2.2.2.2.2.2.2.2.1).bind fun bt401 => (some (!bt401.2.2.2.2.2.2.2.1))) else (none))) else (none)) else (none)) else (none))) else (none)) else (none)) else (none))))) = some r := H
 have A3 := qS A30
 clear A30
 replace H := Option.bind_eq_some_iff.mp H
 obtain ⟨⟨t376, t377, t378, t379, t380, t381, t382, t383, t384, t385, t386, t387, t388, t389⟩, A40, H⟩ := H
 replace H : ((host_Now.f k t376 t377 t378 t379 t380 t381 t382 t383 t384 t385 t386 t387 t388 10).bind fun bt390 => ((host_Now.f k t376 t377 t378 t379 t380 t381 t382 t383 t384 t385 t386 t387 t388 (-1)).bind fun bt393 => (if t371.isNone = true then (if t389.isNone = true then (if bt390.2.2.isNone = true then ((fuseelaw18_num.f t375).bind fun t399 => (if t399 = 13 then (if bt390.1 = 110 then (if bt390.2.1 = 10 then ((fuseelaw18_num.f bt393.2.2).bind fun t400 => (if t400 = 10 then ((host_Drop.f t376 t377 t378 t379 t380 t381 t382 t383 t384 t385 t386 t387 t388).bind fun bt401 => (some (!bt401.2.2.2.2.2.2.2.1))) else (none))) else (none)) else (none)) else (none))) else (none)) else (none)) else (none)))) = some r := H
 have A4 := qS A40
 clear A40
 replace H := Option.bind_eq_some_iff.mp H
 obtain ⟨⟨t390, t391, t392⟩, A50, H⟩ := H
 replace H : ((host_Now.f k t376 t377 t378 t379 t380 t381 t382 t383 t384 t385 t386 t387 t388 (-1)).bind fun bt393 => (if t371.isNone = true then (if t389.isNone = true then (if t392.isNone = true then ((fuseelaw18_num.f t375).bind fun t399 => (if t399 = 13 then (if t390 = 110 then (if t391 = 10 then ((fuseelaw18_num.f bt393.2.2).bind fun t400 => (if t400 = 10 then ((host_Drop.f t376 t377 t378 t379 t380 t381 t382 t383 t384 t385 t386 t387 t388).bind fun bt401 => (some (!bt401.2.2.2.2.2.2.2.1))) else (none))) else (none)) else (none)) else (none))) else (none)) else (none)) else (none))) = some r := H
 have A5 := qS A50
 clear A50
 replace H := Option.bind_eq_some_iff.mp H
 obtain ⟨⟨t393, t394, t395⟩, A60, H⟩ := H
 replace H : (if t371.isNone = true then (if t389.isNone = true then (if t392.isNone = true then ((fuseelaw18_num.f t375).bind fun t399 => (if t399 = 13 then (if t390 = 110 then (if t391 = 10 then ((fuseelaw18_num.f t395).bind fun t400 => (if t400 = 10 then ((host_Drop.f t376 t377 t378 t379 t380 t381 t382 t383 t384 t385 t386 t387 t388).bind fun bt401 => (some (!bt401.2.2.2.2.2.2.2.1))) else (none))) else (none)) else (none)) else (none))) else (none)) else (none)) else (none)) = some r := H
 have A6 := qS A60
 clear A60
 rcases t371 with _ | q396
 ·have H1 : (if t389.isNone = true then (if t392.isNone = true then ((fuseelaw18_num.f t375).bind fun t399 => (if t399 = 13 then (if t390 = 110 then (if t391 = 10 then ((fuseelaw18_num.f t395).bind fun t400 => (if t400 = 10 then ((host_Drop.f t376 t377 t378 t379 t380 t381 t382 t383 t384 t385 t386 t387 t388).bind fun bt401 => (some (!bt401.2.2.2.2.2.2.2.1))) else (none))) else (none)) else (none)) else (none))) else (none)) else (none)) = some r := by rw [if_pos (show (none : Option Int).isNone = true by rfl)] at H; exact H
  clear H
  have H := H1
  clear H1
  try simp only [errW_none, errW_some]
  rcases t389 with _ | q397
  ·have H1 : (if t392.isNone = true then ((fuseelaw18_num.f t375).bind fun t399 => (if t399 = 13 then (if t390 = 110 then (if t391 = 10 then ((fuseelaw18_num.f t395).bind fun t400 => (if t400 = 10 then ((host_Drop.f t376 t377 t378 t379 t380 t381 t382 t383 t384 t385 t386 t387 t388).bind fun bt401 => (some (!bt401.2.2.2.2.2.2.2.1))) else (none))) else (none)) else (none)) else (none))) else (none)) = some r := by rw [if_pos (show (none : Option Int).isNone = true by rfl)] at H; exact H
   clear H
   have H := H1
   clear H1
   try simp only [errW_none, errW_some]
   rcases t392 with _ | q398
   ·have H1 : ((fuseelaw18_num.f t375).bind fun t399 => (if t399 = 13 then (if t390 = 110 then (if t391 = 10 then ((fuseelaw18_num.f t395).bind fun t400 => (if t400 = 10 then ((host_Drop.f t376 t377 t378 t379 t380 t381 t382 t383 t384 t385 t386 t387 t388).bind fun bt401 => (some (!bt401.2.2.2.2.2.2.2.1))) else (none))) else (none)) else (none)) else (none))) = some r := by rw [if_pos (show (none : Option Int).isNone = true by rfl)] at H; exact H
    clear H
    have H := H1
    clear H1
    try simp only [errW_none, errW_some]
    replace H := Option.bind_eq_some_iff.mp H
    obtain ⟨t399, A70, H⟩ := H
    replace H : (if t399 = 13 then (if t390 = 110 then (if t391 = 10 then ((fuseelaw18_num.f t395).bind fun t400 => (if t400 = 10 then ((host_Drop.f t376 t377 t378 t379 t380 t381 t382 t383 t384 t385 t386 t387 t388).bind fun bt401 => (some (!bt401.2.2.2.2.2.2.2.1))) else (none))) else (none)) else (none)) else (none)) = some r := H
    have A7 := qS A70
    clear A70
    by_cases c8 : t399 = 13
    ·rw [if_pos c8] at H
     have c8b0 : (t399 == 13) = true := beq_iff_eq.mpr c8
     have c8b1 : (t399 != 13) = false := bne_eq_false_iff_eq.mpr c8
     clear c8
     by_cases c9 : t390 = 110
     ·rw [if_pos c9] at H
      have c9b0 : (t390 == 110) = true := beq_iff_eq.mpr c9
      have c9b1 : (t390 != 110) = false := bne_eq_false_iff_eq.mpr c9
      clear c9
      by_cases c10 : t391 = 10
      ·rw [if_pos c10] at H
       have c10b0 : (t391 == 10) = true := beq_iff_eq.mpr c10
       have c10b1 : (t391 != 10) = false := bne_eq_false_iff_eq.mpr c10
       clear c10
       replace H := Option.bind_eq_some_iff.mp H
       obtain ⟨t400, A110, H⟩ := H
       replace H : (if t400 = 10 then ((host_Drop.f t376 t377 t378 t379 t380 t381 t382 t383 t384 t385 t386 t387 t388).bind fun bt401 => (some (!bt401.2.2.2.2.2.2.2.1))) else (none)) = some r := H
       have A11 := qS A110
       clear A110
       by_cases c12 : t400 = 10
       ·rw [if_pos c12] at H
        have c12b0 : (t400 == 10) = true := beq_iff_eq.mpr c12
        have c12b1 : (t400 != 10) = false := bne_eq_false_iff_eq.mpr c12
        clear c12
        replace H := Option.bind_eq_some_iff.mp H
        obtain ⟨⟨t401, t402, t403, t404, t405, t406, t407, t408, t409, t410, t411, t412, t413⟩, A130, H⟩ := H
        replace H : (some (!t408)) = some r := H
        have A13 := qS A130
        clear A130
        obtain rfl := Option.some.inj H
        go_enter Tryd.func59, Tryd.ntmps59
        go_wp2_with (first | ((with_reducible refine gate_callee (f := 57) rfl ?_); refine goesL_ (some 14) rfl rfl Tryd.func57 (by kernel_rfl) rfl #[] rfl (by (try simp only [List.map_toArray, List.map_cons, List.map_nil]); first | done | rfl | (simp only [*]; done) | (simp only [List.length_drop, List.length_take]; rfl) | (simp only [Act.eval, Array.getD_eq_getD_getElem?, Option.getD_some, *])) ?_; (with_reducible refine (fuseelaw18_rule.calls  t351 t352 t353 t354 t355 t356 t357 _ A1.out).mono ?_); rintro e w14 ⟨rfl, hb⟩; refine ⟨_, rfl, ?_⟩; have n0_ := qS (below_step (bW0 HB.out) hb); clear HB; have HB := n0_; clear n0_; (try clear hb); (try clear hb2); (try clear hk); (try clear hi)) | ((with_reducible refine gate_callee (f := 58) rfl ?_); refine goesL_ (some 15) rfl rfl Tryd.func58 (by kernel_rfl) rfl #[.agg #[.int .u32 t351, .int .i64 t352, .int .i64 t353, .int .i64 t354, .int .i64 t355, .int .i64 t356, .int .i64 t357]] rfl (by (try simp only [List.map_toArray, List.map_cons, List.map_nil]); first | done | rfl | (simp only [*]; done) | (simp only [List.length_drop, List.length_take]; rfl) | (simp only [Act.eval, Array.getD_eq_getD_getElem?, Option.getD_some, *])) ?_; (with_reducible refine (host_New.calls k t351 t352 t353 t354 t355 t356 t357 t358 t359 t360 t361 t362 t363 t364 t365 t366 t367 t368 t369 t370 none _ A2.out).mono ?_); rintro e w15 ⟨rfl, hb⟩; refine ⟨_, rfl, ?_⟩; have n0_ := qS (below_step (bW0 HB.out) hb); clear HB; have HB := n0_; clear n0_; (try clear hb); (try clear hb2); (try clear hk); (try clear hi); (try simp only [errW_none, errW_some])) | ((with_reducible refine gate_dst (N := 1) rfl ?_); refine box_event ?hg (N := 1) ?hd (cs := #[.int .u32 0, .int .i64 0, .int .i64 0, .int .i64 0, .int .i64 0, .int .i64 0, .int .i64 0, .bool false, .int .i64 0, .int .i64 0, .int .i64 0, .int .i64 0, .int .i64 0]) (t := 137) ?hr ?_; (case hd => rfl); (case hg => rfl); (case hr => first | (go_simp; done) | (go_simp; rfl)); intro gb372 hg w16 hbox hb; have n0_ := qS (below_step (bW0 HB.out) hb); have n1_ := qS (hbox); have n2_ := qS ((by rw [hg]; exact (below_size (bW0 HB.out)) : w.heap.size ≤ gb372)); have n3_ := qS ((by rw [hg]; exact (below_size (bW0 HB.out)) : w.heap.size ≤ gb372)); clear HB; have HB := n0_; have BK372 := n1_; have GW372 := n2_; have GE372 := n3_; clear n0_ n1_ n2_ n3_; clear hb hbox hg) | ((with_reducible refine gate_store (t := 137) (p := 1) rfl ?_); refine rowput_event rfl rfl rfl gb372 0 137 #[.int .u32 0, .int .i64 0, .int .i64 0, .int .i64 0, .int .i64 0, .int .i64 0, .int .i64 0, .bool false, .int .i64 0, .int .i64 0, .int .i64 0, .int .i64 0, .int .i64 0] #[.int .u32 t358, .int .i64 t359, .int .i64 t360, .int .i64 t361, .int .i64 t362, .int .i64 t363, .int .i64 t364, .bool t365, .int .i64 t366, .int .i64 t367, .int .i64 t368, .int .i64 t369, .int .i64 t370] _ [.int .u32 t358, .int .i64 t359, .int .i64 t360, .int .i64 t361, .int .i64 t362, .int .i64 t363, .int .i64 t364, .bool t365, .int .i64 t366, .int .i64 t367, .int .i64 t368, .int .i64 t369, .int .i64 t370] rfl rfl rfl (qW BK372.out) (by kernel_rfl) (by simp) (by simp [Value.oneCell']) rfl (bW1 HB.out GE372.out) GE372.out ?_; intro w17 hnw_ hfar_ hb_; have n0_ : Aside0 (w17.heap[gb372]? = some (.cells (ce_0 t358 t359 t360 t361 t362 t363 t364 t365 t366 t367 t368 t369 t370) 137 (0, 0))) := ⟨hnw_⟩; have nb_ := qS hb_; clear hnw_ hfar_ hb_ HB BK372; have BK372 := n0_; have HB := nb_; clear nb_ n0_; obtain ⟨hcz18_0, hcz18_1, hcz18_2, hcz18_3, hcz18_4, hcz18_5, hcz18_6, hcz18_7, hcz18_8, hcz18_9, hcz18_10, hcz18_11, hcz18_12, hfz18_0, hfz18_1, hfz18_2, hfz18_3, hfz18_4, hfz18_5, hfz18_6, hfz18_7, hfz18_8, hfz18_9, hfz18_10, hfz18_11, hfz18_12⟩ := cz13 BK372.out) | ((with_reducible refine gate_dst (N := 19) rfl ?_); refine rowget_event rfl rfl gb372 0 137 #[.int .u32 t358, .int .i64 t359, .int .i64 t360, .int .i64 t361, .int .i64 t362, .int .i64 t363, .int .i64 t364, .bool t365, .int .i64 t366, .int .i64 t367, .int .i64 t368, .int .i64 t369, .int .i64 t370] #[.int .u32 t358, .int .i64 t359, .int .i64 t360, .int .i64 t361, .int .i64 t362, .int .i64 t363, .int .i64 t364, .bool t365, .int .i64 t366, .int .i64 t367, .int .i64 t368, .int .i64 t369, .int .i64 t370] _ rfl (qW BK372.out) rfl Tryd.underlying137 rfl (by kernel_rfl) ?_) | (go_at_call 56; refine calls_of_args (args' := #[.agg #[.int .u32 t358, .int .i64 t359, .int .i64 t360, .int .i64 t361, .int .i64 t362, .int .i64 t363, .int .i64 t364, .bool t365, .int .i64 t366, .int .i64 t367, .int .i64 t368, .int .i64 t369, .int .i64 t370], .int .i64 0]) ?_ ?_; (focus (first | (rw [show (t365) = true by with_reducible assumption]) | (rw [show (t365) = false by with_reducible assumption]) | rfl | (simp only [*]; done) | (simp [*]; done))); (with_reducible refine (host_Now.calls k t358 t359 t360 t361 t362 t363 t364 t365 t366 t367 t368 t369 t370 0 t373 t374 t375 _ A3.out).mono ?_); rintro e w19 ⟨rfl, hb⟩; have n0_ := qS (qB (g := gb372) (o := .cells (ce_0 t358 t359 t360 t361 t362 t363 t364 t365 t366 t367 t368 t369 t370) 137 (0, 0)) (qW BK372.out) hb); have n1_ := qS (below_step (bW1 HB.out GE372.out) hb); clear BK372; clear HB; have BK372 := n0_; have HB := n1_; clear n0_ n1_; (try clear hb); (try clear hb2); (try clear hk); (try clear hi); (try simp only [errW_none, errW_some]); obtain ⟨hcz20_0, hcz20_1, hcz20_2, hcz20_3, hcz20_4, hcz20_5, hcz20_6, hcz20_7, hcz20_8, hcz20_9, hcz20_10, hcz20_11, hcz20_12, hfz20_0, hfz20_1, hfz20_2, hfz20_3, hfz20_4, hfz20_5, hfz20_6, hfz20_7, hfz20_8, hfz20_9, hfz20_10, hfz20_11, hfz20_12⟩ := cz13 BK372.out) | ((with_reducible refine gate_dst (N := 25) rfl ?_); refine rowget_event rfl rfl gb372 0 137 #[.int .u32 t358, .int .i64 t359, .int .i64 t360, .int .i64 t361, .int .i64 t362, .int .i64 t363, .int .i64 t364, .bool t365, .int .i64 t366, .int .i64 t367, .int .i64 t368, .int .i64 t369, .int .i64 t370] #[.int .u32 t358, .int .i64 t359, .int .i64 t360, .int .i64 t361, .int .i64 t362, .int .i64 t363, .int .i64 t364, .bool t365, .int .i64 t366, .int .i64 t367, .int .i64 t368, .int .i64 t369, .int .i64 t370] _ rfl (qW BK372.out) rfl Tryd.underlying137 rfl (by kernel_rfl) ?_) | (go_at_call 60; refine calls_of_args (args' := #[.agg #[.int .u32 t358, .int .i64 t359, .int .i64 t360, .int .i64 t361, .int .i64 t362, .int .i64 t363, .int .i64 t364, .bool t365, .int .i64 t366, .int .i64 t367, .int .i64 t368, .int .i64 t369, .int .i64 t370], .int .i64 0, .agg #[.int .i64 95, .int .i64 105]]) ?_ ?_; (focus (first | (rw [show (t365) = true by with_reducible assumption]) | (rw [show (t365) = false by with_reducible assumption]) | rfl | (simp only [*]; done) | (simp [*]; done))); (with_reducible refine (host_Sync.calls k t358 t359 t360 t361 t362 t363 t364 t365 t366 t367 t368 t369 t370 0 95 105 t376 t377 t378 t379 t380 t381 t382 t383 t384 t385 t386 t387 t388 none _ A4.out).mono ?_); rintro e w21 ⟨rfl, hb⟩; have n0_ := qS (qB (g := gb372) (o := .cells (ce_0 t358 t359 t360 t361 t362 t363 t364 t365 t366 t367 t368 t369 t370) 137 (0, 0)) (qW BK372.out) hb); have n1_ := qS (below_step (bW1 HB.out GE372.out) hb); clear BK372; clear HB; have BK372 := n0_; have HB := n1_; clear n0_ n1_; (try clear hb); (try clear hb2); (try clear hk); (try clear hi); (try simp only [errW_none, errW_some])) | ((with_reducible refine gate_store (t := 137) (p := 1) rfl ?_); refine rowput_event rfl rfl rfl gb372 0 137 #[.int .u32 t358, .int .i64 t359, .int .i64 t360, .int .i64 t361, .int .i64 t362, .int .i64 t363, .int .i64 t364, .bool t365, .int .i64 t366, .int .i64 t367, .int .i64 t368, .int .i64 t369, .int .i64 t370] #[.int .u32 t376, .int .i64 t377, .int .i64 t378, .int .i64 t379, .int .i64 t380, .int .i64 t381, .int .i64 t382, .bool t383, .int .i64 t384, .int .i64 t385, .int .i64 t386, .int .i64 t387, .int .i64 t388] _ [.int .u32 t376, .int .i64 t377, .int .i64 t378, .int .i64 t379, .int .i64 t380, .int .i64 t381, .int .i64 t382, .bool t383, .int .i64 t384, .int .i64 t385, .int .i64 t386, .int .i64 t387, .int .i64 t388] rfl rfl rfl (qW BK372.out) (by kernel_rfl) (by simp) (by simp [Value.oneCell']) rfl (bW1 HB.out GE372.out) GE372.out ?_; intro w22 hnw_ hfar_ hb_; have n0_ : Aside0 (w22.heap[gb372]? = some (.cells (ce_0 t376 t377 t378 t379 t380 t381 t382 t383 t384 t385 t386 t387 t388) 137 (0, 0))) := ⟨hnw_⟩; have nb_ := qS hb_; clear hnw_ hfar_ hb_ HB BK372; have BK372 := n0_; have HB := nb_; clear nb_ n0_; obtain ⟨hcz23_0, hcz23_1, hcz23_2, hcz23_3, hcz23_4, hcz23_5, hcz23_6, hcz23_7, hcz23_8, hcz23_9, hcz23_10, hcz23_11, hcz23_12, hfz23_0, hfz23_1, hfz23_2, hfz23_3, hfz23_4, hfz23_5, hfz23_6, hfz23_7, hfz23_8, hfz23_9, hfz23_10, hfz23_11, hfz23_12⟩ := cz13 BK372.out) | ((with_reducible refine gate_dst (N := 31) rfl ?_); refine rowget_event rfl rfl gb372 0 137 #[.int .u32 t376, .int .i64 t377, .int .i64 t378, .int .i64 t379, .int .i64 t380, .int .i64 t381, .int .i64 t382, .bool t383, .int .i64 t384, .int .i64 t385, .int .i64 t386, .int .i64 t387, .int .i64 t388] #[.int .u32 t376, .int .i64 t377, .int .i64 t378, .int .i64 t379, .int .i64 t380, .int .i64 t381, .int .i64 t382, .bool t383, .int .i64 t384, .int .i64 t385, .int .i64 t386, .int .i64 t387, .int .i64 t388] _ rfl (qW BK372.out) rfl Tryd.underlying137 rfl (by kernel_rfl) ?_) | (go_at_call 56; refine calls_of_args (args' := #[.agg #[.int .u32 t376, .int .i64 t377, .int .i64 t378, .int .i64 t379, .int .i64 t380, .int .i64 t381, .int .i64 t382, .bool t383, .int .i64 t384, .int .i64 t385, .int .i64 t386, .int .i64 t387, .int .i64 t388], .int .i64 10]) ?_ ?_; (focus (first | (rw [show (t383) = true by with_reducible assumption]) | (rw [show (t383) = false by with_reducible assumption]) | rfl | (simp only [*]; done) | (simp [*]; done))); (with_reducible refine (host_Now.calls k t376 t377 t378 t379 t380 t381 t382 t383 t384 t385 t386 t387 t388 10 t390 t391 none _ A5.out).mono ?_); rintro e w24 ⟨rfl, hb⟩; have n0_ := qS (qB (g := gb372) (o := .cells (ce_0 t376 t377 t378 t379 t380 t381 t382 t383 t384 t385 t386 t387 t388) 137 (0, 0)) (qW BK372.out) hb); have n1_ := qS (below_step (bW1 HB.out GE372.out) hb); clear BK372; clear HB; have BK372 := n0_; have HB := n1_; clear n0_ n1_; (try clear hb); (try clear hb2); (try clear hk); (try clear hi); (try simp only [errW_none, errW_some]); obtain ⟨hcz25_0, hcz25_1, hcz25_2, hcz25_3, hcz25_4, hcz25_5, hcz25_6, hcz25_7, hcz25_8, hcz25_9, hcz25_10, hcz25_11, hcz25_12, hfz25_0, hfz25_1, hfz25_2, hfz25_3, hfz25_4, hfz25_5, hfz25_6, hfz25_7, hfz25_8, hfz25_9, hfz25_10, hfz25_11, hfz25_12⟩ := cz13 BK372.out) | ((with_reducible refine gate_dst (N := 37) rfl ?_); refine rowget_event rfl rfl gb372 0 137 #[.int .u32 t376, .int .i64 t377, .int .i64 t378, .int .i64 t379, .int .i64 t380, .int .i64 t381, .int .i64 t382, .bool t383, .int .i64 t384, .int .i64 t385, .int .i64 t386, .int .i64 t387, .int .i64 t388] #[.int .u32 t376, .int .i64 t377, .int .i64 t378, .int .i64 t379, .int .i64 t380, .int .i64 t381, .int .i64 t382, .bool t383, .int .i64 t384, .int .i64 t385, .int .i64 t386, .int .i64 t387, .int .i64 t388] _ rfl (qW BK372.out) rfl Tryd.underlying137 rfl (by kernel_rfl) ?_) | (go_at_call 56; refine calls_of_args (args' := #[.agg #[.int .u32 t376, .int .i64 t377, .int .i64 t378, .int .i64 t379, .int .i64 t380, .int .i64 t381, .int .i64 t382, .bool t383, .int .i64 t384, .int .i64 t385, .int .i64 t386, .int .i64 t387, .int .i64 t388], .int .i64 (-1)]) ?_ ?_; (focus (first | (rw [show (t383) = true by with_reducible assumption]) | (rw [show (t383) = false by with_reducible assumption]) | rfl | (simp only [*]; done) | (simp [*]; done))); (with_reducible refine (host_Now.calls k t376 t377 t378 t379 t380 t381 t382 t383 t384 t385 t386 t387 t388 (-1) t393 t394 t395 _ A6.out).mono ?_); rintro e w26 ⟨rfl, hb⟩; have n0_ := qS (qB (g := gb372) (o := .cells (ce_0 t376 t377 t378 t379 t380 t381 t382 t383 t384 t385 t386 t387 t388) 137 (0, 0)) (qW BK372.out) hb); have n1_ := qS (below_step (bW1 HB.out GE372.out) hb); clear BK372; clear HB; have BK372 := n0_; have HB := n1_; clear n0_ n1_; (try clear hb); (try clear hb2); (try clear hk); (try clear hi); (try simp only [errW_none, errW_some]); have CA7 := fun W (hgW : HG W) => fuseelaw18_num.calls t375 t399 W hgW A7.out; try simp only [errW_none, errW_some] at CA7) | (go_at_call 61; (with_reducible refine (CA7 _ (HG.below hgL (Nat.le_refl _) (bW1 HB.out GE372.out))).mono ?_); rintro e w27 ⟨rfl, hb⟩; have n0_ := qS (qB (g := gb372) (o := .cells (ce_0 t376 t377 t378 t379 t380 t381 t382 t383 t384 t385 t386 t387 t388) 137 (0, 0)) (qW BK372.out) hb); have n1_ := qS (below_step (bW1 HB.out GE372.out) hb); clear BK372; clear HB; have BK372 := n0_; have HB := n1_; clear n0_ n1_; (try clear hb); (try clear hb2); (try clear hk); (try clear hi); have CA11 := fun W (hgW : HG W) => fuseelaw18_num.calls t395 t400 W hgW A11.out; try simp only [errW_none, errW_some] at CA11) | (go_at_call 61; (with_reducible refine (CA11 _ (HG.below hgL (Nat.le_refl _) (bW1 HB.out GE372.out))).mono ?_); rintro e w28 ⟨rfl, hb⟩; have n0_ := qS (qB (g := gb372) (o := .cells (ce_0 t376 t377 t378 t379 t380 t381 t382 t383 t384 t385 t386 t387 t388) 137 (0, 0)) (qW BK372.out) hb); have n1_ := qS (below_step (bW1 HB.out GE372.out) hb); clear BK372; clear HB; have BK372 := n0_; have HB := n1_; clear n0_ n1_; (try clear hb); (try clear hb2); (try clear hk); (try clear hi); obtain ⟨hcz29_0, hcz29_1, hcz29_2, hcz29_3, hcz29_4, hcz29_5, hcz29_6, hcz29_7, hcz29_8, hcz29_9, hcz29_10, hcz29_11, hcz29_12, hfz29_0, hfz29_1, hfz29_2, hfz29_3, hfz29_4, hfz29_5, hfz29_6, hfz29_7, hfz29_8, hfz29_9, hfz29_10, hfz29_11, hfz29_12⟩ := cz13 BK372.out) | ((with_reducible refine gate_dst (N := 71) rfl ?_); refine rowget_event rfl rfl gb372 0 137 #[.int .u32 t376, .int .i64 t377, .int .i64 t378, .int .i64 t379, .int .i64 t380, .int .i64 t381, .int .i64 t382, .bool t383, .int .i64 t384, .int .i64 t385, .int .i64 t386, .int .i64 t387, .int .i64 t388] #[.int .u32 t376, .int .i64 t377, .int .i64 t378, .int .i64 t379, .int .i64 t380, .int .i64 t381, .int .i64 t382, .bool t383, .int .i64 t384, .int .i64 t385, .int .i64 t386, .int .i64 t387, .int .i64 t388] _ rfl (qW BK372.out) rfl Tryd.underlying137 rfl (by kernel_rfl) ?_) | (go_at_call 64; refine calls_of_args (args' := #[.agg #[.int .u32 t376, .int .i64 t377, .int .i64 t378, .int .i64 t379, .int .i64 t380, .int .i64 t381, .int .i64 t382, .bool t383, .int .i64 t384, .int .i64 t385, .int .i64 t386, .int .i64 t387, .int .i64 t388]]) ?_ ?_; (focus (first | (rw [show (t383) = true by with_reducible assumption]) | (rw [show (t383) = false by with_reducible assumption]) | rfl | (simp only [*]; done) | (simp [*]; done))); (with_reducible refine (host_Drop.calls t376 t377 t378 t379 t380 t381 t382 t383 t384 t385 t386 t387 t388 t401 t402 t403 t404 t405 t406 t407 t408 t409 t410 t411 t412 t413 _ A13.out).mono ?_); rintro e w30 ⟨rfl, hb⟩; have n0_ := qS (qB (g := gb372) (o := .cells (ce_0 t376 t377 t378 t379 t380 t381 t382 t383 t384 t385 t386 t387 t388) 137 (0, 0)) (qW BK372.out) hb); have n1_ := qS (below_step (bW1 HB.out GE372.out) hb); clear BK372; clear HB; have BK372 := n0_; have HB := n1_; clear n0_ n1_; (try clear hb); (try clear hb2); (try clear hk); (try clear hi)))
        go_ret
        exact ⟨by first | rfl | (simp [errW_none, errW_some] <;> rfl) | (simp [*, errW_none, errW_some] <;> rfl), by repeat (first | (with_reducible first | exact HB.out | apply qpA | apply qpN | apply qp1 | refine qpS ?_ GE372.out) | exact HB.out)⟩
       ·rw [if_neg c12] at H
        exact absurd H (by simp)
      ·rw [if_neg c10] at H
       exact absurd H (by simp)
     ·rw [if_neg c9] at H
      exact absurd H (by simp)
    ·rw [if_neg c8] at H
     exact absurd H (by simp)
   ·have H1 : (none) = some r := by rw [if_neg (show ¬ (some q398).isNone = true by simp)] at H; exact H
    clear H
    have H := H1
    clear H1
    try simp only [errW_none, errW_some]
    exact absurd H (by simp)
  ·have H1 : (none) = some r := by rw [if_neg (show ¬ (some q397).isNone = true by simp)] at H; exact H
   clear H
   have H := H1
   clear H1
   try simp only [errW_none, errW_some]
   exact absurd H (by simp)
 ·have H1 : (none) = some r := by rw [if_neg (show ¬ (some q396).isNone = true by simp)] at H; exact H
  clear H
  have H := H1
  clear H1
  try simp only [errW_none, errW_some]
  exact absurd H (by simp)

end Go.Proofs.YtcpbfckmngbgdaaDoor.MHs
