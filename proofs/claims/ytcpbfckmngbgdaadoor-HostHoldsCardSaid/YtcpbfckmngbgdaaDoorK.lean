/-
  What every law of this seat leans on: errors.As at a target of type *api.Errno, and each law package's own number of an error; that nothing old is written, and that errors' own variable stays as it is laid.
-/
import Derived.Test.YtcpbfckmngbgdaaDoorProg
import Derived.WalkKit
import Derived.LaidEql
import Derived.Stop.Asserts
import Derived.RowKitTokens
import Derived.Lib.Hide
import Derived.Deep.Draws
import Derived.Deep.QuietTactic
import Derived.BigQuiet
namespace Go.Proofs.YtcpbfckmngbgdaaDoor
set_option linter.unusedVariables false
set_option linter.unusedSimpArgs false
open Go.RowKit Go.Extern.Stop Go.Stop Go.Extern

/-- errors' own variable reads as its initialiser lays it. -/
def HG (w : World) : Prop := w.cell? ⟨0, 0, none⟩ = some (.iface 274 (.agg #[.pointer (some ⟨3, 31, none⟩)]))
theorem HG.pos {w : World} (h : HG w) : 0 < w.heap.size := by
  rcases Nat.lt_or_ge 0 w.heap.size with h0 | h0
  · exact h0
  · unfold HG at h; simp [World.cell?, Array.getElem?_eq_none h0] at h
theorem HG.below {w w' : World} (h : HG w) {B : Nat} (hB : B ≥ w.heap.size) (hb : Below B w w') : HG w' := by
  unfold HG; rw [hb.cell (p := ⟨0, 0, none⟩) (Nat.lt_of_lt_of_le h.pos hB)]; exact h
/-- Since the world w0, in which errors' variable reads as it is laid, nothing that was there has been written. -/
structure St (w0 w : World) : Prop where
  hg0 : HG w0
  below : Below w0.heap.size w0 w
theorem St.hg {w0 w : World} (h : St w0 w) : HG w := h.hg0.below (Nat.le_refl _) h.below
theorem St.refl {w : World} (h : HG w) : St w w := ⟨h, Below.refl _ _⟩
theorem St.step {w0 w w' : World} (h : St w0 w) (hb : Below w.heap.size w w') : St w0 w' := ⟨h.hg0, h.below.trans (hb.mono h.below.size)⟩
theorem St.alloc {w0 w : World} (h : St w0 w) (o : Obj) : St w0 (w.alloc o) := h.step ((Below.refl _ _).alloc (Nat.le_refl _) _)
theorem St.drew {w0 w : World} (h : St w0 w) : St w0 w.drew := h.step (Below.refl _ _).drew
theorem St.drewN {w0 w : World} (h : St w0 w) : ∀ n, St w0 (w.drewN n)
  | 0 => h
  | n + 1 => (St.drewN h n).drew
theorem St.setCell {w0 w : World} (h : St w0 w) {p : Addr} (hp : w0.heap.size ≤ p.block) (u : Value) : St w0 (w.setCell p u) := ⟨h.hg0, h.below.setCell hp u⟩
theorem _root_.Go.RowKit.Below.drewN' {B : Nat} {a w : World} (h : Below B a w) (n : Nat) : Below B a (w.drewN n) := ⟨h.os, h.tape, h.output, h.size, h.block⟩
/-- block n is there (found as an instance, so that a rule may ask for it at whatever depth) -/
class Lo (n : Nat) (w : World) : Prop where
  out : n < w.heap.size
instance loNew (w : World) (o : Obj) : Lo w.heap.size (w.alloc o) := ⟨by simp⟩
instance loAlloc (n : Nat) (w : World) (o : Obj) [h : Lo n w] : Lo n (w.alloc o) := ⟨by have := h.out; simp; omega⟩
instance loSucc (n : Nat) (w : World) (o : Obj) [h : Lo n w] : Lo (n + 1) (w.alloc o) := ⟨by have := h.out; simp; omega⟩
instance loSet (n : Nat) (w : World) (p : Addr) (v : Value) [h : Lo n w] : Lo n (w.setCell p v) := ⟨by have := h.out; simpa [World.setCell] using this⟩
instance loDrew (n : Nat) (w : World) [h : Lo n w] : Lo n w.drew := ⟨h.out⟩
instance loDrewN (n k : Nat) (w : World) [h : Lo n w] : Lo n (w.drewN k) := ⟨h.out⟩
theorem cell_past (w : World) (o : Obj) (n i : Nat) [h : Lo n w] : (w.alloc o).cell? ⟨n, i, none⟩ = w.cell? ⟨n, i, none⟩ := World.cell?_alloc_lt _ _ ⟨n, i, none⟩ h.out
theorem frozen_past (w : World) (o : Obj) (n i : Nat) [h : Lo n w] : (w.alloc o).frozen? ⟨n, i, none⟩ = w.frozen? ⟨n, i, none⟩ := World.frozen?_alloc_old _ _ ⟨n, i, none⟩ (Nat.ne_of_lt h.out)
theorem lo_ne (n : Nat) (w : World) [h : Lo n w] : (n = w.heap.size) = False := eq_false (Nat.ne_of_lt h.out)
theorem lo_ne' (n : Nat) (w : World) [h : Lo n w] : (w.heap.size = n) = False := eq_false (Nat.ne_of_gt h.out)
theorem bcell {W w1 : World} (hb : Below W.heap.size W w1) : ∀ b o [_h : Lo b W], w1.cell? ⟨b, o, none⟩ = W.cell? ⟨b, o, none⟩ := fun b o h => hb.cell (p := ⟨b, o, none⟩) h.out
theorem bfrozen {W w1 : World} (hb : Below W.heap.size W w1) : ∀ b o [_h : Lo b W], w1.frozen? ⟨b, o, none⟩ = W.frozen? ⟨b, o, none⟩ := fun b o h => hb.frozen (p := ⟨b, o, none⟩) h.out
theorem blo {W w1 : World} (hb : Below W.heap.size W w1) : ∀ n [_h : Lo n W], Lo n w1 := fun _ h => ⟨Nat.lt_of_lt_of_le h.out hb.size⟩
theorem lo_eq {W E : World} (h : W = E) : ∀ n [_h : Lo n E], Lo n W := fun _ k => by subst h; exact k
/-- a world by a name -/
theorem name_w {P : Program} {c : Code} {Q : Exit → Act → World → Prop} {a : Act} {E : World} (h : ∀ W, W = E → c.wp P Q a W) : c.wp P Q a E := h E rfl
/-- an error as a value -/
def errV : Option Int → Value
  | none => .nilIface
  | some c => .iface 162 (.int .i64 c)
/-- an error's number -/
def numE : Option Int → Int
  | none => 0
  | some c => c
theorem errV_none : errV none = .nilIface := rfl
theorem errV_some (c : Int) : errV (some c) = .iface 162 (.int .i64 c) := rfl

theorem as_nil (t : Value) (w : World) :
    Calls Tryd.prog 85 #[.nilIface, t] w fun e w' => e = .returned (.bool false) ∧ w' = w := by
  go_enter Tryd.func85, Tryd.ntmps85
  go_wp2
  go_ret
  exact ⟨rfl, rfl⟩

theorem vOP (t : Addr) (w : World) : (ReflectliteValue.unpack (.iface 182 (.pointer (some t)))).run Tryd.prog w
    = .ok (.agg #[.pointer (some ⟨3, 182, none⟩), .pointer (some ⟨w.heap.size, 0, none⟩), .int .u64 150]) (w.alloc (.cells #[.pointer (some t)] 182)) := by kernel_rfl
theorem tyP (a : Addr) (w : World) : (ReflectliteValue.methodAny (ReflectliteValue.valueError "reflectlite.Value.Type" 0) (fun t _ _ _ => ReflectliteType.toType t) #[.agg #[.pointer (some ⟨3, 182, none⟩), .pointer (some a), .int .u64 150]]).run Tryd.prog w
    = .ok (.iface 274 (.agg #[.pointer (some ⟨3, 182, none⟩)])) w := by kernel_rfl
theorem mKind (h : Value) (w : World) : (Go.method 431 274 (.agg #[h]) "Kind").run Tryd.prog w = .ok (203, h) w := by kernel_rfl
theorem kiP (w : World) : ((ReflectliteType.abiMethod fun t => (fun a : Nat => Value.int IntKind.u8 (a : Int)) <$> Rtype.kind t) #[.pointer (some ⟨3, 182, none⟩)]).run Tryd.prog w = .ok (.int .u8 22) w := by kernel_rfl
theorem kiE (w : World) : ((ReflectliteType.abiMethod fun t => (fun a : Nat => Value.int IntKind.u8 (a : Int)) <$> Rtype.kind t) #[.pointer (some ⟨3, 162, none⟩)]).run Tryd.prog w = .ok (.int .u8 2) w := by kernel_rfl
theorem rlm (z : Sem Value) (f : TypeId → Addr → Nat → Nat → Sem Value) (v : Value) :
    ReflectliteValue.method z f #[v] = (do match ← ReflectliteValue.parts v with | none => z | some (t, a, fl) => f t a fl (fl % 32)) := rfl
theorem ptP (a : Addr) (w : World) : (ReflectliteValue.parts (.agg #[.pointer (some ⟨3, 182, none⟩), .pointer (some a), .int .u64 150])).run Tryd.prog w = .ok (some (182, a, 150)) w := by kernel_rfl
theorem isNilP (a p : Addr) (W : World) (ha : W.cell? a = some (.pointer (some p))) :
    (ReflectliteValue.method (ReflectliteValue.valueError "reflectlite.Value.IsNil" 0) ReflectliteValue.isNil #[.agg #[.pointer (some ⟨3, 182, none⟩), .pointer (some a), .int .u64 150]]).run Tryd.prog W = .ok (.bool false) W := by
  rw [rlm]
  simp only [Sem.run_bind, ptP, Result.andThen]
  simp [ReflectliteValue.isNil, loadVar, isAgg, underlying, Tryd.underlying182, ha, Result.andThen]
theorem mElem (h : Value) (w : World) : (Go.method 431 274 (.agg #[h]) "Elem").run Tryd.prog w = .ok (215, .agg #[h]) w := by kernel_rfl
theorem mImpl (h : Value) (w : World) : (Go.method 431 274 (.agg #[h]) "Implements").run Tryd.prog w = .ok (216, .agg #[h]) w := by kernel_rfl
theorem mAssi (h : Value) (w : World) : (Go.method 431 274 (.agg #[h]) "AssignableTo").run Tryd.prog w = .ok (213, .agg #[h]) w := by kernel_rfl
theorem elP (w : World) : (ReflectliteType.method ReflectliteType.elem #[.agg #[.pointer (some ⟨3, 182, none⟩)]]).run Tryd.prog w = .ok (.iface 274 (.agg #[.pointer (some ⟨3, 162, none⟩)])) w := by kernel_rfl
theorem imE (w : World) : (ReflectliteType.relation "Implements" ReflectliteType.implements_ #[.agg #[.pointer (some ⟨3, 162, none⟩)], .iface 274 (.agg #[.pointer (some ⟨3, 31, none⟩)])]).run Tryd.prog w = .ok (.bool true) w := by kernel_rfl
theorem tOE (v : Value) (w : World) : (ReflectliteType.typeOf #[.iface 162 v]).run Tryd.prog w = .ok (.iface 274 (.agg #[.pointer (some ⟨3, 162, none⟩)])) w := by kernel_rfl
theorem asE (w : World) : (ReflectliteType.relation "AssignableTo" ReflectliteType.assignableTo #[.agg #[.pointer (some ⟨3, 162, none⟩)], .iface 274 (.agg #[.pointer (some ⟨3, 162, none⟩)])]).run Tryd.prog w = .ok (.bool true) w := by kernel_rfl
theorem vOE (c : Int) (w : World) : (ReflectliteValue.unpack (.iface 162 (.int .i64 c))).run Tryd.prog w
    = .ok (.agg #[.pointer (some ⟨3, 162, none⟩), .pointer (some ⟨w.heap.size, 0, none⟩), .int .u64 130]) (w.alloc (.cells #[.int .i64 c] 162)) := by kernel_rfl
theorem eoP (w : World) : (Rtype.elem? 182).run Tryd.prog w = .ok (some 162) w := by kernel_rfl
theorem mkE (p : Addr) (w : World) : (ReflectliteValue.mk 162 p ReflectliteValue.flagAddr).run Tryd.prog w = .ok (.agg #[.pointer (some ⟨3, 162, none⟩), .pointer (some p), .int .u64 386]) w := by kernel_rfl
theorem elV (a p : Addr) (W : World) (ha : W.cell? a = some (.pointer (some p))) :
    (ReflectliteValue.method (ReflectliteValue.valueError "reflectlite.Value.Elem" 0) ReflectliteValue.elem #[.agg #[.pointer (some ⟨3, 182, none⟩), .pointer (some a), .int .u64 150]]).run Tryd.prog W
      = .ok (.agg #[.pointer (some ⟨3, 162, none⟩), .pointer (some p), .int .u64 386]) W := by
  rw [rlm]
  simp only [Sem.run_bind, ptP, Result.andThen]
  simp [ReflectliteValue.elem, loadVar, isAgg, underlying, Tryd.underlying182, ha, Result.andThen, eoP, mkE]
theorem rls (v x : Value) : ReflectliteValue.set #[v, x] = (do
    let (some (dst, a, fl), some (src, b, _)) := (← ReflectliteValue.parts v, ← ReflectliteValue.parts x)
      | unsupported (.noEntry "extern/(internal/reflectlite.Value).Set.zeroValue")
    if fl / ReflectliteValue.flagAddr % 2 == 0 then unsupported (.noEntry "extern/(internal/reflectlite.Value).Set.unaddressable")
    let val ← loadVar src b
    if ← Rtype.directlyAssignable dst src then storeVar dst a val
    else if ← Rtype.implements dst src then
      if (← Rtype.kind src) == 20 then
        match val with
        | .nilIface => unsupported (.noEntry "extern/reflectlite: a nil value of one interface type handed on as a value of another")
        | _ => storeVar dst a val
      else storeVar dst a (.iface src val)
    else panicString ("reflectlite.Set: value of type " ++ (← Rtype.spelt src) ++ " is not assignable to type " ++ (← Rtype.spelt dst))
    pure (.tuple #[])) := rfl
theorem ptEa (a : Addr) (w : World) : (ReflectliteValue.parts (.agg #[.pointer (some ⟨3, 162, none⟩), .pointer (some a), .int .u64 386])).run Tryd.prog w = .ok (some (162, a, 386)) w := by kernel_rfl
theorem ptE (a : Addr) (w : World) : (ReflectliteValue.parts (.agg #[.pointer (some ⟨3, 162, none⟩), .pointer (some a), .int .u64 130])).run Tryd.prog w = .ok (some (162, a, 130)) w := by kernel_rfl
theorem diE (w : World) : (Rtype.directlyAssignable 162 162).run Tryd.prog w = .ok true w := by kernel_rfl
theorem szE (w : World) : (sizeOf 162).run Tryd.prog w = .ok 1 w := by kernel_rfl
theorem setE (ta b : Addr) (c : Int) (old : Value) (W : World) (hb : W.cell? b = some (.int .i64 c)) (ht : W.cell? ta = some old) (hf : W.frozen? ta = false) :
    (ReflectliteValue.set #[.agg #[.pointer (some ⟨3, 162, none⟩), .pointer (some ta), .int .u64 386], .agg #[.pointer (some ⟨3, 162, none⟩), .pointer (some b), .int .u64 130]]).run Tryd.prog W
      = .ok (.tuple #[]) (W.setCell ta (.int .i64 c)) := by
  rw [rls]
  simp only [Sem.run_bind, ptEa, ptE, Result.andThen]
  simp [ReflectliteValue.flagAddr, loadVar, isAgg, underlying, Tryd.underlying162, hb, Result.andThen, diE, storeVar, Value.cells, storeCells, Addr.add]
  rw [run_store Tryd.prog W ta _ _ (by rfl)]
  simp [ht, hf]

set_option maxRecDepth 100000 in
set_option maxHeartbeats 4000000 in
theorem as_hit (c : Int) (t : Addr) (old : Value) (w : World) (hg : w.cell? ⟨0, 0, none⟩ = some (.iface 274 (.agg #[.pointer (some ⟨3, 31, none⟩)]))) (ht0 : w.cell? t = some old) (hf0 : w.frozen? t = false) :
    Calls Tryd.prog 85 #[.iface 162 (.int .i64 c), .iface 182 (.pointer (some t))] w fun ev w' => ev = .returned (.bool true) ∧ w' = ((((w.alloc (.cells #[.pointer (some t)] 182)).alloc (.cells #[.pointer (some ⟨3, 182, none⟩), .pointer (some ⟨w.heap.size, 0, none⟩), .int .u64 150] 235)).alloc (.cells #[.pointer (some ⟨3, 182, none⟩), .pointer (some ⟨w.heap.size, 0, none⟩), .int .u64 150] 235)).alloc (.cells #[.int .i64 c] 162)).setCell t (.int .i64 c) := by
  have h6 := @run_callFunc_extern Tryd.prog 139 _ (fun args => ReflectliteValue.unpack (args.getD 0 (.tuple #[]))) Tryd.func139 (by kernel_rfl) (by kernel_rfl) (by kernel_rfl) (by kernel_rfl)
  have h7 := @run_callFunc_extern Tryd.prog 140 _ (ReflectliteValue.methodAny (ReflectliteValue.valueError "reflectlite.Value.Type" 0) (fun t _ _ _ => ReflectliteType.toType t)) Tryd.func140 (by kernel_rfl) (by kernel_rfl) (by kernel_rfl) (by kernel_rfl)
  have h8 := @run_callFunc_extern Tryd.prog 141 _ (ReflectliteValue.method (ReflectliteValue.valueError "reflectlite.Value.IsNil" 0) ReflectliteValue.isNil) Tryd.func141 (by kernel_rfl) (by kernel_rfl) (by kernel_rfl) (by kernel_rfl)
  have h27 := @run_callFunc_extern Tryd.prog 203 _ (ReflectliteType.abiMethod fun t => do pure (.int .u8 (← Rtype.kind t))) Tryd.func203 (by kernel_rfl) (by kernel_rfl) (by kernel_rfl) (by kernel_rfl)
  have h37 := @run_callFunc_extern Tryd.prog 215 _ (ReflectliteType.method ReflectliteType.elem) Tryd.func215 (by kernel_rfl) (by kernel_rfl) (by kernel_rfl) (by kernel_rfl)
  have h38 := @run_callFunc_extern Tryd.prog 216 _ (ReflectliteType.relation "Implements" ReflectliteType.implements_) Tryd.func216 (by kernel_rfl) (by kernel_rfl) (by kernel_rfl) (by kernel_rfl)
  have h10 := @run_callFunc_extern Tryd.prog 165 _ ReflectliteType.typeOf Tryd.func165 (by kernel_rfl) (by kernel_rfl) (by kernel_rfl) (by kernel_rfl)
  have h35 := @run_callFunc_extern Tryd.prog 213 _ (ReflectliteType.relation "AssignableTo" ReflectliteType.assignableTo) Tryd.func213 (by kernel_rfl) (by kernel_rfl) (by kernel_rfl) (by kernel_rfl)
  have h11 := @run_callFunc_extern Tryd.prog 177 _ (ReflectliteValue.method (ReflectliteValue.valueError "reflectlite.Value.Elem" 0) ReflectliteValue.elem) Tryd.func177 (by kernel_rfl) (by kernel_rfl) (by kernel_rfl) (by kernel_rfl)
  have h12 := @run_callFunc_extern Tryd.prog 178 _ ReflectliteValue.set Tryd.func178 (by kernel_rfl) (by kernel_rfl) (by kernel_rfl) (by kernel_rfl)
  have tO := tOE
  have mA := mAssi
  have a25 := asE
  have v25 := vOE
  have f6 := vOP
  have f7 := tyP
  have mK := mKind
  have mE := mElem
  have mI := mImpl
  have k27 := kiP
  have k25 := kiE
  have e27 := elP
  have i25 := imE
  have n8 := isNilP ⟨w.heap.size, 0, none⟩ t ((w.alloc (.cells #[.pointer (some t)] 182)).alloc (.cells #[.pointer (some ⟨3, 182, none⟩), .pointer (some ⟨w.heap.size, 0, none⟩), .int .u64 150] 235)) (by simp)
  have hlt : 0 < w.heap.size := HG.pos hg
  have hg2 : ((w.alloc (.cells #[.pointer (some t)] 182)).alloc (.cells #[.pointer (some ⟨3, 182, none⟩), .pointer (some ⟨w.heap.size, 0, none⟩), .int .u64 150] 235)).cell? ⟨0, 0, none⟩ = some (.iface 274 (.agg #[.pointer (some ⟨3, 31, none⟩)])) := by
    rw [World.cell?_alloc_lt _ _ ⟨0, 0, none⟩ (by simp <;> omega), World.cell?_alloc_lt _ _ ⟨0, 0, none⟩ hlt]; exact hg
  have htl : t.block < w.heap.size := by
    rcases Nat.lt_or_ge t.block w.heap.size with h | h
    · exact h
    · simp [World.cell?, Array.getElem?_eq_none h] at ht0
  have el := elV ⟨w.heap.size, 0, none⟩ t (((w.alloc (.cells #[.pointer (some t)] 182)).alloc (.cells #[.pointer (some ⟨3, 182, none⟩), .pointer (some ⟨w.heap.size, 0, none⟩), .int .u64 150] 235)).alloc (.cells #[.pointer (some ⟨3, 182, none⟩), .pointer (some ⟨w.heap.size, 0, none⟩), .int .u64 150] 235)) (by rw [World.cell?_alloc_lt _ _ ⟨w.heap.size, 0, none⟩ (by simp <;> omega)]; simp)
  have st := setE t ⟨w.heap.size + 1 + 1 + 1, 0, none⟩ c old ((((w.alloc (.cells #[.pointer (some t)] 182)).alloc (.cells #[.pointer (some ⟨3, 182, none⟩), .pointer (some ⟨w.heap.size, 0, none⟩), .int .u64 150] 235)).alloc (.cells #[.pointer (some ⟨3, 182, none⟩), .pointer (some ⟨w.heap.size, 0, none⟩), .int .u64 150] 235)).alloc (.cells #[.int .i64 c] 162))
    (by rw [World.cell?_alloc_at _ _ _ _ (by simp)]; rfl)
    (by rw [World.cell?_alloc_lt _ _ t (by simp <;> omega), World.cell?_alloc_lt _ _ t (by simp <;> omega), World.cell?_alloc_lt _ _ t (by simp <;> omega), World.cell?_alloc_lt _ _ t htl]; exact ht0)
    (by rw [World.frozen?_alloc_old _ _ t (by simp <;> omega), World.frozen?_alloc_old _ _ t (by simp <;> omega), World.frozen?_alloc_old _ _ t (by simp <;> omega), World.frozen?_alloc_old _ _ t (Nat.ne_of_lt htl)]; exact hf0)
  go_enter Tryd.func85, Tryd.ntmps85
  go_wp2
  refine wp_loop_rounds 1 ?_
  rw [rounds_succ]
  go_wp2
  go_ret
  exact ⟨rfl, rfl⟩

theorem fuseelaw41_num_none (w0 w : World) (hs : St w0 w) :
    Calls Tryd.prog 22 #[.nilIface] w fun e w' => e = .returned (.int .i64 0) ∧ Below w.heap.size w w' := by
  clear hs
  go_enter Tryd.func22, Tryd.ntmps22
  go_wp2_with (fail)
  go_ret
  exact ⟨rfl, (Below.refl _ _).alloc (Nat.le_refl _) _⟩
set_option maxHeartbeats 1000000 in
theorem fuseelaw41_num_some (c : Int) (w0 w : World) (hs : St w0 w) :
    Calls Tryd.prog 22 #[.iface 162 (.int .i64 c)] w fun e w' => e = .returned (.int .i64 c) ∧ Below w.heap.size w w' := by
  have HA := as_hit c ⟨w.heap.size, 0, none⟩ (.int .i64 0) (w.alloc (.cells #[.int .i64 0] 162)) (hs.alloc _).hg (by simp) (by simp)
  clear hs
  go_enter Tryd.func22, Tryd.ntmps22
  go_wp2_with (go_at_call 85; refine HA.mono ?_; rintro e w' ⟨rfl, rfl⟩)
  go_ret
  refine ⟨rfl, ?_⟩
  repeat (first | exact Below.refl _ _ | refine Below.setCell ?_ (by simp <;> omega) _ | refine Below.alloc ?_ (by simp <;> omega) _)
theorem fuseelaw41_num_calls (e : Option Int) (w0 w : World) (hs : St w0 w) :
    Calls Tryd.prog 22 #[errV e] w fun ev w' => ev = .returned (.int .i64 (numE e)) ∧ Below w.heap.size w w' := by
  cases e with
  | none => exact fuseelaw41_num_none w0 w hs
  | some c => exact fuseelaw41_num_some c w0 w hs

theorem fuseelaw22_num_none (w0 w : World) (hs : St w0 w) :
    Calls Tryd.prog 33 #[.nilIface] w fun e w' => e = .returned (.int .i64 0) ∧ Below w.heap.size w w' := by
  clear hs
  go_enter Tryd.func33, Tryd.ntmps33
  go_wp2_with (fail)
  go_ret
  exact ⟨rfl, (Below.refl _ _).alloc (Nat.le_refl _) _⟩
set_option maxHeartbeats 1000000 in
theorem fuseelaw22_num_some (c : Int) (w0 w : World) (hs : St w0 w) :
    Calls Tryd.prog 33 #[.iface 162 (.int .i64 c)] w fun e w' => e = .returned (.int .i64 c) ∧ Below w.heap.size w w' := by
  have HA := as_hit c ⟨w.heap.size, 0, none⟩ (.int .i64 0) (w.alloc (.cells #[.int .i64 0] 162)) (hs.alloc _).hg (by simp) (by simp)
  clear hs
  go_enter Tryd.func33, Tryd.ntmps33
  go_wp2_with (go_at_call 85; refine HA.mono ?_; rintro e w' ⟨rfl, rfl⟩)
  go_ret
  refine ⟨rfl, ?_⟩
  repeat (first | exact Below.refl _ _ | refine Below.setCell ?_ (by simp <;> omega) _ | refine Below.alloc ?_ (by simp <;> omega) _)
theorem fuseelaw22_num_calls (e : Option Int) (w0 w : World) (hs : St w0 w) :
    Calls Tryd.prog 33 #[errV e] w fun ev w' => ev = .returned (.int .i64 (numE e)) ∧ Below w.heap.size w w' := by
  cases e with
  | none => exact fuseelaw22_num_none w0 w hs
  | some c => exact fuseelaw22_num_some c w0 w hs

theorem fuseelaw15_num_none (w0 w : World) (hs : St w0 w) :
    Calls Tryd.prog 51 #[.nilIface] w fun e w' => e = .returned (.int .i64 0) ∧ Below w.heap.size w w' := by
  clear hs
  go_enter Tryd.func51, Tryd.ntmps51
  go_wp2_with (fail)
  go_ret
  exact ⟨rfl, (Below.refl _ _).alloc (Nat.le_refl _) _⟩
set_option maxHeartbeats 1000000 in
theorem fuseelaw15_num_some (c : Int) (w0 w : World) (hs : St w0 w) :
    Calls Tryd.prog 51 #[.iface 162 (.int .i64 c)] w fun e w' => e = .returned (.int .i64 c) ∧ Below w.heap.size w w' := by
  have HA := as_hit c ⟨w.heap.size, 0, none⟩ (.int .i64 0) (w.alloc (.cells #[.int .i64 0] 162)) (hs.alloc _).hg (by simp) (by simp)
  clear hs
  go_enter Tryd.func51, Tryd.ntmps51
  go_wp2_with (go_at_call 85; refine HA.mono ?_; rintro e w' ⟨rfl, rfl⟩)
  go_ret
  refine ⟨rfl, ?_⟩
  repeat (first | exact Below.refl _ _ | refine Below.setCell ?_ (by simp <;> omega) _ | refine Below.alloc ?_ (by simp <;> omega) _)
theorem fuseelaw15_num_calls (e : Option Int) (w0 w : World) (hs : St w0 w) :
    Calls Tryd.prog 51 #[errV e] w fun ev w' => ev = .returned (.int .i64 (numE e)) ∧ Below w.heap.size w w' := by
  cases e with
  | none => exact fuseelaw15_num_none w0 w hs
  | some c => exact fuseelaw15_num_some c w0 w hs

theorem fuseelaw18_num_none (w0 w : World) (hs : St w0 w) :
    Calls Tryd.prog 61 #[.nilIface] w fun e w' => e = .returned (.int .i64 0) ∧ Below w.heap.size w w' := by
  clear hs
  go_enter Tryd.func61, Tryd.ntmps61
  go_wp2_with (fail)
  go_ret
  exact ⟨rfl, (Below.refl _ _).alloc (Nat.le_refl _) _⟩
set_option maxHeartbeats 1000000 in
theorem fuseelaw18_num_some (c : Int) (w0 w : World) (hs : St w0 w) :
    Calls Tryd.prog 61 #[.iface 162 (.int .i64 c)] w fun e w' => e = .returned (.int .i64 c) ∧ Below w.heap.size w w' := by
  have HA := as_hit c ⟨w.heap.size, 0, none⟩ (.int .i64 0) (w.alloc (.cells #[.int .i64 0] 162)) (hs.alloc _).hg (by simp) (by simp)
  clear hs
  go_enter Tryd.func61, Tryd.ntmps61
  go_wp2_with (go_at_call 85; refine HA.mono ?_; rintro e w' ⟨rfl, rfl⟩)
  go_ret
  refine ⟨rfl, ?_⟩
  repeat (first | exact Below.refl _ _ | refine Below.setCell ?_ (by simp <;> omega) _ | refine Below.alloc ?_ (by simp <;> omega) _)
theorem fuseelaw18_num_calls (e : Option Int) (w0 w : World) (hs : St w0 w) :
    Calls Tryd.prog 61 #[errV e] w fun ev w' => ev = .returned (.int .i64 (numE e)) ∧ Below w.heap.size w w' := by
  cases e with
  | none => exact fuseelaw18_num_none w0 w hs
  | some c => exact fuseelaw18_num_some c w0 w hs

end Go.Proofs.YtcpbfckmngbgdaaDoor
