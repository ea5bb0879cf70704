/-
  A literal of eight numbers, made at once (the walk's own steps are slow there).
-/
import Derived.Test.YtiljnlhmeolhfaaRow
namespace Go.RowKit
open Go Go.Proofs.YtiljnlhmeolhfaaW.PrintWords
set_option linter.unusedVariables false
theorem blit_run {P : Program} {o : Oper} {a : Act} {w : World} {ty e : TypeId} {n : Nat} {parts : Array (Nat × Operand)} {z : Value} {cells : Array Value} (ho : o.op = .buildSlice ty n parts) (hu : P.underlying ty = some (.slice e)) (hs : ∀ w, (sizeOf e).run P w = .ok 1 w) (hz : ∀ w, (zeroValue e).run P w = .ok z w) (hn : ¬ n * 1 > 2 ^ 24) (h0 : ¬ n * 1 = 0) (hf : Instr.fill (fun i => some (i * 1, 1)) ((Array.range (n * 1)).map (z.cells[· % z.cells.size]!)) (parts.map fun (i, x) => (i, a.eval x)).toList = some cells) : (execOp a.eval o).run P w = .ok (.value (.slice (some ⟨w.heap.size, 0, none⟩) n n)) (w.alloc (.cells cells e)) := by
  have hb : (Instr.buildSlice ty n (parts.map fun (i, x) => (i, a.eval x))).run P w = .ok (.slice (some ⟨w.heap.size, 0, none⟩) n n) (w.alloc (.cells cells e)) := by
    unfold Instr.buildSlice
    rw [Sem.run_bind, run_underlying hu w]
    simp only [Result.andThen_ok, Sem.run_bind, hs w]
    rw [if_neg hn, if_neg h0]
    simp only [Result.andThen_ok, Sem.run_bind, Sem.run_pure, hz w, hf]
    rfl
  unfold execOp
  simp only [ho, Sem.run_bind, hb, Result.andThen_ok, Sem.run_pure]
theorem fill8 (k : IntKind) (v0 v1 v2 v3 v4 v5 v6 v7 : Int) : Instr.fill (fun i => some (i * 1, 1)) (Array.map (fun x => (Value.int k 0).cells[x % (Value.int k 0).cells.size]!) (Array.range (8 * 1))) #[(0, Value.int k v0), (1, Value.int k v1), (2, Value.int k v2), (3, Value.int k v3), (4, Value.int k v4), (5, Value.int k v5), (6, Value.int k v6), (7, Value.int k v7)].toList = some #[Value.int k v0, Value.int k v1, Value.int k v2, Value.int k v3, Value.int k v4, Value.int k v5, Value.int k v6, Value.int k v7] := by
  kernel_rfl
theorem blit8_run {P : Program} {o : Oper} {a : Act} {w : World} {ty e : TypeId} {k : IntKind} (x0 x1 x2 x3 x4 x5 x6 x7 : Operand) (v0 v1 v2 v3 v4 v5 v6 v7 : Int) (ho : o.op = .buildSlice ty 8 #[(0, x0), (1, x1), (2, x2), (3, x3), (4, x4), (5, x5), (6, x6), (7, x7)]) (hu : P.underlying ty = some (.slice e)) (hs : ∀ w, (sizeOf e).run P w = .ok 1 w) (hz : ∀ w, (zeroValue e).run P w = .ok (.int k 0) w) (h0 : a.eval x0 = .int k v0) (h1 : a.eval x1 = .int k v1) (h2 : a.eval x2 = .int k v2) (h3 : a.eval x3 = .int k v3) (h4 : a.eval x4 = .int k v4) (h5 : a.eval x5 = .int k v5) (h6 : a.eval x6 = .int k v6) (h7 : a.eval x7 = .int k v7) : (execOp a.eval o).run P w = .ok (.value (.slice (some ⟨w.heap.size, 0, none⟩) 8 8)) (w.alloc (.cells #[.int k v0, .int k v1, .int k v2, .int k v3, .int k v4, .int k v5, .int k v6, .int k v7] e)) := by
  refine blit_run ho hu hs hz (by decide) (by decide) ?_
  have e1 : (#[(0, x0), (1, x1), (2, x2), (3, x3), (4, x4), (5, x5), (6, x6), (7, x7)].map fun (p : Nat × Operand) => (p.1, a.eval p.2)) = #[(0, Value.int k v0), (1, Value.int k v1), (2, Value.int k v2), (3, Value.int k v3), (4, Value.int k v4), (5, Value.int k v5), (6, Value.int k v6), (7, Value.int k v7)] := by simp [h0, h1, h2, h3, h4, h5, h6, h7]
  rw [e1]
  exact fill8 k v0 v1 v2 v3 v4 v5 v6 v7
end Go.RowKit
