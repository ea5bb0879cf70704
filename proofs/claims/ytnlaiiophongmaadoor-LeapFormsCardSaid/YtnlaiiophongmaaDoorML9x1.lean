/- Printed by wip/gen/mp.py: Go functions as plain Lean functions, and that the calls do what these say. -/
import Derived.Test.YtnlaiiophongmaaDoorML9x0
namespace Go.Proofs.YtnlaiiophongmaaDoor.ML9
open Go.RowKit Go.Proofs.YtnlaiiophongmaaDoorW.PrintWords Go.Proofs.YtnlaiiophongmaaDoorW.PrintLast Go.Proofs.YtnlaiiophongmaaDoorW.PrintMore Go.Proofs.YtnlaiiophongmaaDoor.MCb
attribute [local go_sem] max2_int min2_int max_two min_two max_three min_three max_four min_four   -- for this text's walks alone
set_option linter.unusedVariables false
set_option linter.unusedSimpArgs false

/-! ### leap_Check: function 52 -/
/-! ### slices_Clone_byte_byte: function 109 -/
/-! ### fields_number: function 117 -/
/-! ### fields_I64: function 92 -/
/-! ### blob_Seal: function 93 -/
def blob_Seal.f (a0 : Int) (l1 : List Int) : Option (List Int × Option Int) := if (0 ≤ a0 ∧ a0 < 256) ∧ l1.length ≤ 5000 ∧ (∀ x ∈ l1, 0 ≤ x ∧ x < 256) then some ((_root_.Go.Proofs.YtnlaiiophongmaaDoor.MCb.sealR a0 l1).1, (_root_.Go.Proofs.YtnlaiiophongmaaDoor.MCb.sealR a0 l1).2) else none
theorem blob_Seal.calls (a0 : Int) (A1 : Option Addr) (c1 : Nat) (l1 : List Int) (r1 : List Int) (r2 : Option Int) (w : World) (hr1 : Kd.C (Kd.int .u8) w A1 l1.length l1) (hc1 : l1.length ≤ c1) (h : blob_Seal.f a0 l1 = some (r1, r2)) :
    Calls Tryd.prog 93 #[.int .u8 a0, .slice A1 l1.length c1] w fun e w' => ∃ v0_ : Value, e = .returned (.tuple #[v0_, errW r2]) ∧ Kd.R (Kd.int .u8) 5 w' w.heap.size (fun _ => True) v0_ r1 ∧ Below w.heap.size w w' := by
  unfold blob_Seal.f at h
  split at h
  · rename_i hL
    obtain ⟨rfl, rfl⟩ := Prod.mk.inj (Option.some.inj h)
    exact _root_.Go.Proofs.YtnlaiiophongmaaDoor.MCb.seal_R a0 hL.1 ⟨hr1, rfl, hc1⟩ hL.2.2 hL.2.1
  · cases h

end Go.Proofs.YtnlaiiophongmaaDoor.ML9
