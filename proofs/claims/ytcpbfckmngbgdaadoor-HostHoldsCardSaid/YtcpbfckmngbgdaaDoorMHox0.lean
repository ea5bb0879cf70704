/- Printed by wip/gen/mp.py: Go functions as plain Lean functions, and that the calls do what these say. -/
import Derived.Test.YtcpbfckmngbgdaaDoorProg
import Derived.Below
import Derived.Deep.Draws
import Derived.Deep.AppendLies
import Derived.Maps.AppendAt
import Derived.OwnWalk
import Derived.Laws.BytesArg
import Derived.Laws.MakeOwn
import Derived.Laws.OwnMore
import Derived.Deep.OwnRows
import Derived.Tactics
import Derived.Lib.ConvBytes
import Derived.Laws.Slices
import Derived.WalkKit
import Derived.KernelRfl
import Derived.RowKit3
import Derived.Deep.LoopGhost
import Derived.Deep.QuietTactic
import Derived.BigQuiet
import Derived.WideLaws
import Derived.Deep.DeepCutAuto
import Derived.Deep.CutBlock
import Derived.Deep.RegionHeld3
import Derived.Laws.Rows
import Derived.Lib.AppendStr
import Derived.ArgAppend
import Derived.Laws.IdiomCopy
import Derived.OrdersHeld
import Derived.Laws.BitsLemmas
import Derived.RowKit
import Derived.Test.YtcpbfckmngbgdaaDoorK
import Derived.Test.YtcpbfckmngbgdaaDoorRow
import Derived.Test.YtcpbfckmngbgdaaDoorSv
import Derived.Test.YtcpbfckmngbgdaaDoorIs
import Derived.Test.YtcpbfckmngbgdaaDoorWWords
import Derived.Test.YtcpbfckmngbgdaaDoorWLast
import Derived.Test.YtcpbfckmngbgdaaDoorWTab
import Derived.Test.YtcpbfckmngbgdaaDoorWFour
import Derived.Test.YtcpbfckmngbgdaaDoorWQPut
import Derived.Test.YtcpbfckmngbgdaaDoorWApart
import Derived.Test.YtcpbfckmngbgdaaDoorWArr
import Derived.Test.YtcpbfckmngbgdaaDoorWZeros
import Derived.Test.YtcpbfckmngbgdaaDoorWFoot
import Derived.Test.YtcpbfckmngbgdaaDoorWKept
import Derived.Test.YtcpbfckmngbgdaaDoorWShare
import Derived.Test.YtcpbfckmngbgdaaDoorWN
import Derived.Test.YtcpbfckmngbgdaaDoorWFootNe
import Derived.Test.YtcpbfckmngbgdaaDoorWAt
import Derived.Test.YtcpbfckmngbgdaaDoorWEqStruct
import Derived.Test.YtcpbfckmngbgdaaDoorWRepsOne
import Derived.Test.YtcpbfckmngbgdaaDoorWInv
import Derived.Test.YtcpbfckmngbgdaaDoorWInvWords
import Derived.Test.YtcpbfckmngbgdaaDoorWGuard
import Derived.Test.YtcpbfckmngbgdaaDoorWNEv
import Derived.Test.YtcpbfckmngbgdaaDoorWMore
namespace Go.Proofs.YtcpbfckmngbgdaaDoor.MHo
open Go.RowKit Go.Proofs.YtcpbfckmngbgdaaDoorW.PrintWords Go.Proofs.YtcpbfckmngbgdaaDoorW.PrintLast Go.Proofs.YtcpbfckmngbgdaaDoorW.PrintMore
attribute [local go_sem] conv_fl eq_fl eq_fl2 max2_int min2_int max_two min_two max_three min_three max_four min_four   -- for this text's walks alone
set_option linter.unusedVariables false
set_option linter.unusedSimpArgs false



def errW : Option Int → Value
  | none => .nilIface
  | some c => .iface 162 (.int .i64 c)
theorem errW_none : errW none = .nilIface := rfl
theorem errW_some (c : Int) : errW (some c) = .iface 162 (.int .i64 c) := rfl

theorem qN {w : World} {g : Nat} {o : Obj} (h : w.heap[g]? = some o) (n : Nat) : (w.drewN n).heap[g]? = some o := blk_drewN h n
theorem qA {w : World} {g : Nat} {o : Obj} (h : w.heap[g]? = some o) (o' : Obj) : (w.alloc o').heap[g]? = some o := blk_alloc h o'
theorem qD {w : World} {g : Nat} {o : Obj} (h : w.heap[g]? = some o) : w.drew.heap[g]? = some o := blk_drew h
theorem qpN {B : Nat} {w W : World} (h : Below B w W) (n : Nat) : Below B w (W.drewN n) := pw_below_drewN h n
theorem qpA {w W : World} (h : Below w.heap.size w W) (o : Obj) : Below w.heap.size w (W.alloc o) := below_alloc h o
theorem qp1 {base : Nat} {w W : World} (h : Below base w W) : Below base w W.drew := below_drew1 h
theorem qpS {w W : World} {g j : Nat} {v : Value} (h : Below w.heap.size w W) (hg : w.heap.size ≤ g) : Below w.heap.size w (W.setCell ⟨g, j, none⟩ v) := below_set h hg
theorem qF {w : World} {g : Nat} {t : TypeId} {cs : Array Value} (h : w.heap[g]? = some (.cells cs t (0, 0))) (i : Nat) : w.frozen? ⟨g, i, none⟩ = false := blk_frozen h i
theorem qC {w : World} {g : Nat} {t : TypeId} {cs : Array Value} (h : w.heap[g]? = some (.cells cs t (0, 0))) (i : Nat) : w.cell? ⟨g, i, none⟩ = cs[i]? := blk_cell h i
theorem qB {w w1 : World} {g : Nat} {o : Obj} (h : w.heap[g]? = some o) (hb : Below w.heap.size w w1) : w1.heap[g]? = some o := blk_below h hb
theorem qS {p : Prop} (h : p) : Aside0 p := ⟨h⟩
-- the values' own types

theorem qW {P Q : Prop} (h : P) (hx : P → Q := by intro h_; (with_reducible repeat (first | refine qN ?_ _ | refine qD ?_ | refine qA ?_ _)); exact h_) : Q := hx h
theorem bW0 {P Q : Prop}  (h : P)  (hx : P → Q := by intro h_; repeat (first | (with_reducible first | exact h_ | apply qpA | apply qpN | apply qp1) | exact h_)) : Q := hx h
theorem bW1 {P Q : Prop} {G0 : Prop} (h : P) (g0 : G0) (hx : P → G0 → Q := by intro h_ g0_; repeat (first | (with_reducible first | exact h_ | apply qpA | apply qpN | apply qp1 | refine qpS ?_ g0_) | exact h_)) : Q := hx h g0
theorem bW2 {P Q : Prop} {G0 : Prop} {G1 : Prop} (h : P) (g0 : G0) (g1 : G1) (hx : P → G0 → G1 → Q := by intro h_ g0_ g1_; repeat (first | (with_reducible first | exact h_ | apply qpA | apply qpN | apply qp1 | refine qpS ?_ g0_ | refine qpS ?_ g1_) | exact h_)) : Q := hx h g0 g1
theorem bW3 {P Q : Prop} {G0 : Prop} {G1 : Prop} {G2 : Prop} (h : P) (g0 : G0) (g1 : G1) (g2 : G2) (hx : P → G0 → G1 → G2 → Q := by intro h_ g0_ g1_ g2_; repeat (first | (with_reducible first | exact h_ | apply qpA | apply qpN | apply qp1 | refine qpS ?_ g0_ | refine qpS ?_ g1_ | refine qpS ?_ g2_) | exact h_)) : Q := hx h g0 g1 g2
theorem bW4 {P Q : Prop} {G0 : Prop} {G1 : Prop} {G2 : Prop} {G3 : Prop} (h : P) (g0 : G0) (g1 : G1) (g2 : G2) (g3 : G3) (hx : P → G0 → G1 → G2 → G3 → Q := by intro h_ g0_ g1_ g2_ g3_; repeat (first | (with_reducible first | exact h_ | apply qpA | apply qpN | apply qp1 | refine qpS ?_ g0_ | refine qpS ?_ g1_ | refine qpS ?_ g2_ | refine qpS ?_ g3_) | exact h_)) : Q := hx h g0 g1 g2 g3
theorem bW5 {P Q : Prop} {G0 : Prop} {G1 : Prop} {G2 : Prop} {G3 : Prop} {G4 : Prop} (h : P) (g0 : G0) (g1 : G1) (g2 : G2) (g3 : G3) (g4 : G4) (hx : P → G0 → G1 → G2 → G3 → G4 → Q := by intro h_ g0_ g1_ g2_ g3_ g4_; repeat (first | (with_reducible first | exact h_ | apply qpA | apply qpN | apply qp1 | refine qpS ?_ g0_ | refine qpS ?_ g1_ | refine qpS ?_ g2_ | refine qpS ?_ g3_ | refine qpS ?_ g4_) | exact h_)) : Q := hx h g0 g1 g2 g3 g4
theorem bW6 {P Q : Prop} {G0 : Prop} {G1 : Prop} {G2 : Prop} {G3 : Prop} {G4 : Prop} {G5 : Prop} (h : P) (g0 : G0) (g1 : G1) (g2 : G2) (g3 : G3) (g4 : G4) (g5 : G5) (hx : P → G0 → G1 → G2 → G3 → G4 → G5 → Q := by intro h_ g0_ g1_ g2_ g3_ g4_ g5_; repeat (first | (with_reducible first | exact h_ | apply qpA | apply qpN | apply qp1 | refine qpS ?_ g0_ | refine qpS ?_ g1_ | refine qpS ?_ g2_ | refine qpS ?_ g3_ | refine qpS ?_ g4_ | refine qpS ?_ g5_) | exact h_)) : Q := hx h g0 g1 g2 g3 g4 g5
theorem cz5 {w : World} {g : Nat} {t : TypeId} {x0 x1 x2 x3 x4 : Value} (h : w.heap[g]? = some (.cells #[x0, x1, x2, x3, x4] t (0, 0))) : w.cell? ⟨g, 0, none⟩ = some x0 ∧ w.cell? ⟨g, 1, none⟩ = some x1 ∧ w.cell? ⟨g, 2, none⟩ = some x2 ∧ w.cell? ⟨g, 3, none⟩ = some x3 ∧ w.cell? ⟨g, 4, none⟩ = some x4 ∧ w.frozen? ⟨g, 0, none⟩ = false ∧ w.frozen? ⟨g, 1, none⟩ = false ∧ w.frozen? ⟨g, 2, none⟩ = false ∧ w.frozen? ⟨g, 3, none⟩ = false ∧ w.frozen? ⟨g, 4, none⟩ = false :=
  ⟨(blk_cell h 0).trans rfl, (blk_cell h 1).trans rfl, (blk_cell h 2).trans rfl, (blk_cell h 3).trans rfl, (blk_cell h 4).trans rfl, blk_frozen h 0, blk_frozen h 1, blk_frozen h 2, blk_frozen h 3, blk_frozen h 4⟩
theorem cz7 {w : World} {g : Nat} {t : TypeId} {x0 x1 x2 x3 x4 x5 x6 : Value} (h : w.heap[g]? = some (.cells #[x0, x1, x2, x3, x4, x5, x6] t (0, 0))) : w.cell? ⟨g, 0, none⟩ = some x0 ∧ w.cell? ⟨g, 1, none⟩ = some x1 ∧ w.cell? ⟨g, 2, none⟩ = some x2 ∧ w.cell? ⟨g, 3, none⟩ = some x3 ∧ w.cell? ⟨g, 4, none⟩ = some x4 ∧ w.cell? ⟨g, 5, none⟩ = some x5 ∧ w.cell? ⟨g, 6, none⟩ = some x6 ∧ w.frozen? ⟨g, 0, none⟩ = false ∧ w.frozen? ⟨g, 1, none⟩ = false ∧ w.frozen? ⟨g, 2, none⟩ = false ∧ w.frozen? ⟨g, 3, none⟩ = false ∧ w.frozen? ⟨g, 4, none⟩ = false ∧ w.frozen? ⟨g, 5, none⟩ = false ∧ w.frozen? ⟨g, 6, none⟩ = false :=
  ⟨(blk_cell h 0).trans rfl, (blk_cell h 1).trans rfl, (blk_cell h 2).trans rfl, (blk_cell h 3).trans rfl, (blk_cell h 4).trans rfl, (blk_cell h 5).trans rfl, (blk_cell h 6).trans rfl, blk_frozen h 0, blk_frozen h 1, blk_frozen h 2, blk_frozen h 3, blk_frozen h 4, blk_frozen h 5, blk_frozen h 6⟩
theorem cz13 {w : World} {g : Nat} {t : TypeId} {x0 x1 x2 x3 x4 x5 x6 x7 x8 x9 x10 x11 x12 : Value} (h : w.heap[g]? = some (.cells #[x0, x1, x2, x3, x4, x5, x6, x7, x8, x9, x10, x11, x12] t (0, 0))) : w.cell? ⟨g, 0, none⟩ = some x0 ∧ w.cell? ⟨g, 1, none⟩ = some x1 ∧ w.cell? ⟨g, 2, none⟩ = some x2 ∧ w.cell? ⟨g, 3, none⟩ = some x3 ∧ w.cell? ⟨g, 4, none⟩ = some x4 ∧ w.cell? ⟨g, 5, none⟩ = some x5 ∧ w.cell? ⟨g, 6, none⟩ = some x6 ∧ w.cell? ⟨g, 7, none⟩ = some x7 ∧ w.cell? ⟨g, 8, none⟩ = some x8 ∧ w.cell? ⟨g, 9, none⟩ = some x9 ∧ w.cell? ⟨g, 10, none⟩ = some x10 ∧ w.cell? ⟨g, 11, none⟩ = some x11 ∧ w.cell? ⟨g, 12, none⟩ = some x12 ∧ w.frozen? ⟨g, 0, none⟩ = false ∧ w.frozen? ⟨g, 1, none⟩ = false ∧ w.frozen? ⟨g, 2, none⟩ = false ∧ w.frozen? ⟨g, 3, none⟩ = false ∧ w.frozen? ⟨g, 4, none⟩ = false ∧ w.frozen? ⟨g, 5, none⟩ = false ∧ w.frozen? ⟨g, 6, none⟩ = false ∧ w.frozen? ⟨g, 7, none⟩ = false ∧ w.frozen? ⟨g, 8, none⟩ = false ∧ w.frozen? ⟨g, 9, none⟩ = false ∧ w.frozen? ⟨g, 10, none⟩ = false ∧ w.frozen? ⟨g, 11, none⟩ = false ∧ w.frozen? ⟨g, 12, none⟩ = false :=
  ⟨(blk_cell h 0).trans rfl, (blk_cell h 1).trans rfl, (blk_cell h 2).trans rfl, (blk_cell h 3).trans rfl, (blk_cell h 4).trans rfl, (blk_cell h 5).trans rfl, (blk_cell h 6).trans rfl, (blk_cell h 7).trans rfl, (blk_cell h 8).trans rfl, (blk_cell h 9).trans rfl, (blk_cell h 10).trans rfl, (blk_cell h 11).trans rfl, (blk_cell h 12).trans rfl, blk_frozen h 0, blk_frozen h 1, blk_frozen h 2, blk_frozen h 3, blk_frozen h 4, blk_frozen h 5, blk_frozen h 6, blk_frozen h 7, blk_frozen h 8, blk_frozen h 9, blk_frozen h 10, blk_frozen h 11, blk_frozen h 12⟩

end Go.Proofs.YtcpbfckmngbgdaaDoor.MHo
