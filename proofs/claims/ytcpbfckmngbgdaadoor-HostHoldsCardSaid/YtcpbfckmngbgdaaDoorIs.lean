/-
  errors.Is of an error's number walked.
-/
import Derived.Test.YtcpbfckmngbgdaaDoorK
import Derived.LoopTactic
import Derived.Lib.IfaceEq
import Derived.Stop.Asserts
import Derived.Test.YtcpbfckmngbgdaaDoorWWords
namespace Go.Proofs.YtcpbfckmngbgdaaDoor.Is
open Go.RowKit Go.Proofs.YtcpbfckmngbgdaaDoorW.PrintWords Go.Extern
set_option linter.unusedVariables false
set_option linter.unusedSimpArgs false
set_option maxRecDepth 100000 in
set_option maxHeartbeats 2000000 in
theorem is_walk (c d : Int) (w : World) : Calls Tryd.prog 166 #[.iface 162 (.int .i64 c), .iface 162 (.int .i64 d), .bool true] w fun e w' => e = .returned (.bool (c == d)) ∧ Below w.heap.size w w' := by
  have HB := Lib.hid (Below.refl w.heap.size w)
  have ke := fun (w : World) (a b : Int) => Lib.run_eql_iface_int (P := Tryd.prog) w (t := 31) (tx := 162) (k := .i64) a b Tryd.underlying31 (by kernel_rfl) Tryd.underlying162
  by_cases h : c = d
  · subst h
    go_enter Tryd.func166, Tryd.ntmps166
    go_wp2
    go_loopw [0] (fun v wr => v = .iface 162 (.int .i64 c) ∧ Aside0 (Below w.heap.size w wr)) (fun _ _ => 0)
    case atStart => exact ⟨rfl, ⟨by first | exact HB.out | exact HB.out.drew⟩⟩
    case round =>
      obtain ⟨rfl, hB⟩ := hrel
      go_wp2
      go_ret
      exact ⟨by simp, hB.out⟩
  · have h1 := beq_eq_false_iff_ne.mpr h
    have k1 := fun (w : World) => run_typeAssert_lacksB (P := Tryd.prog) (w := w) (t := 162) (v := .int .i64 c) (xT := 31) (asserted := 290) (z := .nilIface) Tryd.underlying290 (by kernel_rfl) (by kernel_rfl)
    have k2 := fun (w : World) => run_typeAssert_lacksB (P := Tryd.prog) (w := w) (t := 162) (v := .int .i64 c) (xT := 31) (asserted := 281) (z := .nilIface) Tryd.underlying281 (by kernel_rfl) (by kernel_rfl)
    have k3 := fun (w : World) => run_typeAssert_lacksB (P := Tryd.prog) (w := w) (t := 162) (v := .int .i64 c) (xT := 31) (asserted := 283) (z := .nilIface) Tryd.underlying283 (by kernel_rfl) (by kernel_rfl)
    go_enter Tryd.func166, Tryd.ntmps166
    go_wp2
    go_loopw [0] (fun v wr => v = .iface 162 (.int .i64 c) ∧ Aside0 (Below w.heap.size w wr)) (fun _ _ => 0)
    case atStart => exact ⟨rfl, ⟨by first | exact HB.out | exact HB.out.drew⟩⟩
    case round =>
      obtain ⟨rfl, hB⟩ := hrel
      go_wp2
      go_ret
      exact ⟨by rw [h1]; rfl, hB.out⟩
theorem mComp (h : Value) (w : World) : (Go.method 431 274 (.agg #[h]) "Comparable").run Tryd.prog w = .ok (214, .agg #[h]) w := by kernel_rfl
theorem coE (w : World) : (ReflectliteType.method (fun t => do Rtype.noPackHeld "Comparable" t; (fun a => Value.bool a.comparable) <$> typeInfo t) #[.agg #[.pointer (some ⟨3, 162, none⟩)]]).run Tryd.prog w = .ok (.bool true) w := by kernel_rfl
set_option maxRecDepth 100000 in
set_option maxHeartbeats 2000000 in
theorem Is_walk (c d : Int) (w : World) : Calls Tryd.prog 121 #[.iface 162 (.int .i64 c), .iface 162 (.int .i64 d)] w fun e w' => e = .returned (.bool (c == d)) ∧ Below w.heap.size w w' := by
  have HB := Lib.hid (Below.refl w.heap.size w)
  have h10 := @run_callFunc_extern Tryd.prog 165 _ ReflectliteType.typeOf Tryd.func165 (by kernel_rfl) (by kernel_rfl) (by kernel_rfl) (by kernel_rfl)
  have h11 := @run_callFunc_extern Tryd.prog 214 _ (ReflectliteType.method (fun t => do Rtype.noPackHeld "Comparable" t; pure (.bool (← typeInfo t).comparable))) Tryd.func214 (by kernel_rfl) (by kernel_rfl) (by kernel_rfl) (by kernel_rfl)
  have tO := tOE
  have mC := mComp
  have cE := coE
  go_enter Tryd.func121, Tryd.ntmps121
  go_wp2_with (go_at_call 166; refine (is_walk c d _).mono ?_; rintro e w2 ⟨rfl, hb2⟩)
  go_ret
  exact ⟨rfl, hb2⟩
theorem eql_nil (d : Int) (w : World) : (binOp .eql 31 .nilIface (.iface 162 (.int .i64 d))).run Tryd.prog w = .ok (.bool false) w := by kernel_rfl
set_option maxRecDepth 100000 in
theorem Is_nil (d : Int) (w : World) : Calls Tryd.prog 121 #[.nilIface, .iface 162 (.int .i64 d)] w fun e w' => e = .returned (.bool false) ∧ Below w.heap.size w w' := by
  have HB := Lib.hid (Below.refl w.heap.size w)
  have kn := eql_nil d
  go_enter Tryd.func121, Tryd.ntmps121
  go_wp2
  go_ret
  exact ⟨rfl, HB.out⟩
end Go.Proofs.YtcpbfckmngbgdaaDoor.Is
