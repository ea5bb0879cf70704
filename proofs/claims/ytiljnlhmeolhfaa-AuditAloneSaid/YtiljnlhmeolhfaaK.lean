/-
  What every law of this seat leans on: errors.As at a target of type *api.Errno, and each law package's own number of an error; that nothing old is written, and that errors' own variable stays as it is laid.
-/
import Derived.Test.YtiljnlhmeolhfaaProg
import Derived.WalkKit
import Derived.LaidEql
import Derived.Stop.Asserts
import Derived.RowKitTokens
import Derived.Lib.Hide
import Derived.Deep.Draws
import Derived.Deep.QuietTactic
import Derived.BigQuiet
namespace Go.Proofs.Ytiljnlhmeolhfaa
set_option linter.unusedVariables false
set_option linter.unusedSimpArgs false
open Go.RowKit Go.Extern.Stop Go.Stop Go.Extern

/-- block n is there (found as an instance, so that a rule may ask for it at whatever depth) -/
class Lo (n : Nat) (w : World) : Prop where
  out : n < w.heap.size
instance loNew (w : World) (o : Obj) : Lo w.heap.size (w.alloc o) := ⟨by simp⟩
instance loAlloc (n : Nat) (w : World) (o : Obj) [h : Lo n w] : Lo n (w.alloc o) := ⟨by have := h.out; simp; omega⟩
instance loSucc (n : Nat) (w : World) (o : Obj) [h : Lo n w] : Lo (n + 1) (w.alloc o) := ⟨by have := h.out; simp; omega⟩
instance loSet (n : Nat) (w : World) (p : Addr) (v : Value) [h : Lo n w] : Lo n (w.setCell p v) := ⟨by have := h.out; simpa [World.setCell] using this⟩
instance loDrew (n : Nat) (w : World) [h : Lo n w] : Lo n w.drew := ⟨h.out⟩
instance loDrewN (n k : Nat) (w : World) [h : Lo n w] : Lo n (w.drewN k) := ⟨h.out⟩
theorem cell_past (w : World) (o : Obj) (n i : Nat) [h : Lo n w] : (w.alloc o).cell? ⟨n, i, none⟩ = w.cell? ⟨n, i, none⟩ := World.cell?_alloc_lt _ _ ⟨n, i, none⟩ h.out
theorem frozen_past (w : World) (o : Obj) (n i : Nat) [h : Lo n w] : (w.alloc o).frozen? ⟨n, i, none⟩ = w.frozen? ⟨n, i, none⟩ := World.frozen?_alloc_old _ _ ⟨n, i, none⟩ (Nat.ne_of_lt h.out)
theorem lo_ne (n : Nat) (w : World) [h : Lo n w] : (n = w.heap.size) = False := eq_false (Nat.ne_of_lt h.out)
theorem lo_ne' (n : Nat) (w : World) [h : Lo n w] : (w.heap.size = n) = False := eq_false (Nat.ne_of_gt h.out)
theorem bcell {W w1 : World} (hb : Below W.heap.size W w1) : ∀ b o [_h : Lo b W], w1.cell? ⟨b, o, none⟩ = W.cell? ⟨b, o, none⟩ := fun b o h => hb.cell (p := ⟨b, o, none⟩) h.out
theorem bfrozen {W w1 : World} (hb : Below W.heap.size W w1) : ∀ b o [_h : Lo b W], w1.frozen? ⟨b, o, none⟩ = W.frozen? ⟨b, o, none⟩ := fun b o h => hb.frozen (p := ⟨b, o, none⟩) h.out
theorem blo {W w1 : World} (hb : Below W.heap.size W w1) : ∀ n [_h : Lo n W], Lo n w1 := fun _ h => ⟨Nat.lt_of_lt_of_le h.out hb.size⟩
theorem lo_eq {W E : World} (h : W = E) : ∀ n [_h : Lo n E], Lo n W := fun _ k => by subst h; exact k
/-- a world by a name -/
theorem name_w {P : Program} {c : Code} {Q : Exit → Act → World → Prop} {a : Act} {E : World} (h : ∀ W, W = E → c.wp P Q a W) : c.wp P Q a E := h E rfl
end Go.Proofs.Ytiljnlhmeolhfaa
