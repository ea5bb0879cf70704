/-
  slices.Grow of nil walked.
-/
import Derived.Test.YtnlaiiophongmaaDoorWWords
import Derived.Test.YtnlaiiophongmaaDoorProg
import Derived.Test.YtnlaiiophongmaaDoorWLast
import Derived.Test.YtnlaiiophongmaaDoorWMore
import Derived.Test.YtnlaiiophongmaaDoorWZeros
import Derived.Lib.AppendZerosOnto
import Derived.Lib.Hide
namespace Go.Proofs.YtnlaiiophongmaaDoor.Grow
open Go.RowKit Go.Proofs.YtnlaiiophongmaaDoorW.PrintWords Go.Proofs.YtnlaiiophongmaaDoorW.PrintLast Go.Proofs.YtnlaiiophongmaaDoorW.PrintMore
set_option linter.unusedVariables false
set_option linter.unusedSimpArgs false
theorem ib : (Tryd.prog.info? 5).map (fun i => (i.zero, i.size, i.bytes)) = some (some (.int .u8 0), 1, 1) := by kernel_rfl
set_option maxRecDepth 100000 in
theorem grow_nil (n : Int) (h0 : 0 ≤ n) (h1 : n ≤ 140737488351232) (w : World) :
    Calls Tryd.prog 134 #[.slice none 0 0, .int .i64 n] w fun e w' => ∃ v1, e = .returned v1 ∧ Kd.R (Kd.int .u8) 5 w' w.heap.size (fun _ => True) v1 [] ∧ Below w.heap.size w w' := by
  by_cases hz : 0 < n
  · have p0 := decide_eq_false (show ¬ n < 0 by omega)
    have p1 := decide_eq_true hz
    clear hz
    have HB := Lib.hid (Below.refl w.heap.size w)
    go_enter Tryd.func134, Tryd.ntmps134
    go_wp2_with ((with_reducible refine gate_builtin (b := .append) (xs := #[.tmp 20, .tmp 21]) rfl ?_); at_builtin; refine Kd.R_append_zeros (Kd.int .u8) (w0 := w) w.heap.size rfl (.tmp 20) (.tmp 21) 47 3 5 (.int .u8 0) 1 rfl Tryd.underlying47 Tryd.underlying3 ib rfl (by decide) (by omega) (.slice none 0 0) ([] : List Int) 0 n (fun _ => True) rfl rfl ?a1 (fun _ _ => trivial) (Kd.R_nil _ _ _ _ _) ?a2 ?a3 ?a4 ?a5 ?_; (case a1 => exact rfl); (case a2 => omega); (case a3 => first | exact HB.out | exact HB.out.drew | exact pw_below_drewN HB.out _); (case a4 => exact Nat.le_refl _); (case a5 => simp; omega); intro v8 w5 ho hb hg hat; have nO := Aside0.mk ho; have nB := Aside0.mk hb; clear ho hb hg hat; obtain ⟨z, hz⟩ : ∃ z : List Int, z = [] ++ List.replicate n.toNat 0 := ⟨_, rfl⟩; rw [← hz] at nO; clear hz; obtain ⟨A9, c9, rfl⟩ := Kd.R_slice nO.out; obtain ⟨i0, hi0, _, hsz, _⟩ := info_parts ib; have hc9 := (Kd.R_reads' nO.out).2.1; have cut := cut_to (P := Tryd.prog) 47 5 .i64 Tryd.underlying47 hi0 A9 z.length c9 0 (by omega) (by omega) hc9; have HR : Aside0 (Kd.R (Kd.int .u8) 5 w5 w.heap.size (fun _ => True) (.slice A9 (0 : Int).toNat c9) []) := ⟨by have := Kd.R_take (m := 0) nO.out (Nat.zero_le _); simpa using this⟩; clear hi0 hsz hc9 nO)
    go_ret
    exact ⟨_, rfl, HR.out, nB.out⟩
  · have hn : n = 0 := by omega
    subst hn
    clear hz
    go_enter Tryd.func134, Tryd.ntmps134
    go_wp2
    go_ret
    exact ⟨_, rfl, Kd.R_nil _ _ _ _ _, Below.refl _ _⟩
theorem calls_as_ {P : Program} {f : Nat} {a b : Array Value} {w : World} {Q : Ending → World → Prop} (h : a = b) (hc : Calls P f a w Q) : Calls P f b w Q := h ▸ hc
end Go.Proofs.YtnlaiiophongmaaDoor.Grow
