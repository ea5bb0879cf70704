/-
  The given row of PrfSums, out of its walk: whatever the arguments hold, the call returns true, and each argument reads as it did.
-/
import Derived.Test.YtiljnlhmeolhfaaRows
import Derived.Test.YtiljnlhmeolhfaaQ23S
import Derived.Test.YtiljnlhmeolhfaaSl
import Derived.Test.YtiljnlhmeolhfaaSl
import Derived.WalkKit
import Derived.ProofKit
import Derived.OpenShut
import Derived.ShutString
import Derived.ChangeOld
import Derived.Below
import Derived.SizedLaws
import Derived.ChangeSame
import Derived.ChangeVars
import Derived.JoinedOf
import Derived.RowKit
import Derived.RowKitTokens
import Derived.Carry
namespace Go.Proofs.Ytiljnlhmeolhfaa.prfSums
open Go.ChangeShapes Go.WideShapes Go.ChangeAt Go.RowKit
open Go.ChangeMaps (open_string shut_string)
set_option linter.unusedVariables false
set_option linter.unusedSimpArgs false

theorem own : ownKnob Try.prog.godebug = none := by kernel_rfl
theorem laidOut : laidOutB Try.prog = true := by kernel_rfl
set_option maxRecDepth 100000 in
theorem lifted (os : Os) (started : os.Started) (H : Type) (enc : TypeId × Value → H) :
    ReturnsInHanded {} Try.checked os 3 .any (Rows.prfSumsSpec.pre6 enc Try.prog Try.f3 Rows.prfSumsRow.domain false) (Rows.prfSumsSpec.post enc Try.prog Try.f3 false true false false) := by
  refine returnsInHanded_of_change_sized (C := Try.checked) own started (by kernel_rfl) Try.func3
    (ChangeSpec.witness6 (enc := enc) (C := Try.checked) false ⟨#[], #[.agg #[.int .u8 0, .int .u8 0, .int .u8 0, .int .u8 0, .int .u8 0, .int .u8 0, .int .u8 0, .int .u8 0, .int .u8 0, .int .u8 0, .int .u8 0, .int .u8 0, .int .u8 0, .int .u8 0, .int .u8 0, .int .u8 0], .slice none 0 0, .int .u64 0], []⟩ 8 (by kernel_rfl) (by kernel_rfl) (by kernel_rfl) (by kernel_rfl)) ?_
  intro W base args ds gs before hval0 hW hcnd hsz0 _
  have hsz : (DataW.weightsEach Try.prog (Try.f3.params.toList ++ Rows.prfSumsSpec.plain.varTypes Try.prog) (ds ++ gs)).all (· ≤ reachBytes) = true := hsz0
  have hval : ∀ (j : Nat) t v, Try.f3.params[j]? = some t → args[j]? = some v → Value.okWide Try.prog W .any base t v := hval0
  have hW' := hW
  obtain ⟨p, q, hA0, hV0, rfl, hfz, hnd⟩ := hW
  have hA : DataW.TrodAll enc Try.prog W 0 (fun _ => true) true Try.f3.params.toList args.toList ds p := hA0
  have hV : DataW.TrodVars enc Try.prog W (fun _ => true) [] gs q := hV0
  rw [Try.params3] at hA hval hsz
  obtain ⟨v0, vs0, d0, ds0, p0, q0, hargs, rfl, rfl, h0, r0⟩ := trodAll_cons hA
  obtain ⟨v1, vs1, d1, ds1, p1, q1, rfl, rfl, rfl, h1, r1⟩ := trodAll_cons r0
  obtain ⟨v2, vs2, d2, ds2, p2, q2, rfl, rfl, rfl, h2, r2⟩ := trodAll_cons r1
  obtain ⟨rfl, rfl, rfl⟩ := trodAll_nil r2
  obtain rfl : args = #[v0, v1, v2] := by cases args; simp_all
  obtain ⟨rfl, rfl⟩ := trodVars_none hV
  have o0 : Value.okWide Try.prog W .any base 22 v0 := (hval 0 22 v0 rfl rfl)
  have k0 := h0
  have lt0 : ∀ x ∈ p0, x.block < W.heap.size := by obtain ⟨m, hm⟩ := k0; exact DataW.trod_lt m _ _ _ hm
  have f0 := fits_of (P := Try.prog) 8 k0
  rw [show shapeOf Try.prog 8 22 = (.pair (.int .u8) (.pair (.int .u8) (.pair (.int .u8) (.pair (.int .u8) (.pair (.int .u8) (.pair (.int .u8) (.pair (.int .u8) (.pair (.int .u8) (.pair (.int .u8) (.pair (.int .u8) (.pair (.int .u8) (.pair (.int .u8) (.pair (.int .u8) (.pair (.int .u8) (.pair (.int .u8) (.pair (.int .u8) .nil)))))))))))))))) by kernel_rfl] at f0
  obtain ⟨_, _, e0, ⟨a0_0, rfl, w0_0⟩, ⟨_, _, rfl, ⟨a0_1, rfl, w0_1⟩, ⟨_, _, rfl, ⟨a0_2, rfl, w0_2⟩, ⟨_, _, rfl, ⟨a0_3, rfl, w0_3⟩, ⟨_, _, rfl, ⟨a0_4, rfl, w0_4⟩, ⟨_, _, rfl, ⟨a0_5, rfl, w0_5⟩, ⟨_, _, rfl, ⟨a0_6, rfl, w0_6⟩, ⟨_, _, rfl, ⟨a0_7, rfl, w0_7⟩, ⟨_, _, rfl, ⟨a0_8, rfl, w0_8⟩, ⟨_, _, rfl, ⟨a0_9, rfl, w0_9⟩, ⟨_, _, rfl, ⟨a0_10, rfl, w0_10⟩, ⟨_, _, rfl, ⟨a0_11, rfl, w0_11⟩, ⟨_, _, rfl, ⟨a0_12, rfl, w0_12⟩, ⟨_, _, rfl, ⟨a0_13, rfl, w0_13⟩, ⟨_, _, rfl, ⟨a0_14, rfl, w0_14⟩, ⟨_, _, rfl, ⟨a0_15, rfl, w0_15⟩, rfl⟩⟩⟩⟩⟩⟩⟩⟩⟩⟩⟩⟩⟩⟩⟩⟩ := f0
  simp only [List.cons_append, List.nil_append, List.append_nil] at e0
  obtain rfl := agg_array Try.underlying22 o0 e0
  have o1 : Value.okWide Try.prog W .any base 23 v1 := (hval 1 23 v1 rfl rfl)
  have k1 := h1
  have lt1 : ∀ x ∈ p1, x.block < W.heap.size := by obtain ⟨m, hm⟩ := k1; exact DataW.trod_lt m _ _ _ hm
  have f1 := fits_of (P := Try.prog) 8 k1
  rw [show shapeOf Try.prog 8 23 = (.slice 1 (.int .u8)) by kernel_rfl] at f1
  obtain ⟨A1, l1, c1, e1, hc1, hm1, kd1, wl1⟩ := ints_of f1
  obtain ⟨ad1, ln1, cp1, rfl⟩ := okWide_slice Try.underlying23 o1
  simp [Value.cells] at e1
  obtain ⟨ea1, eb1, ec1⟩ := e1
  have ea1' := ea1.symm
  have ec1' := ec1.symm
  subst ea1' eb1 ec1'
  obtain ⟨a2, rfl, rfl, rfl, w2⟩ := open_int Try.underlying24 (hval 2 24 v2 rfl rfl) h2
  clear hA0 hval0 hsz0 hV0
  obtain ⟨k, hk⟩ : ∃ k, MPrfSums.fuseelaw23_PrfSums.f k a0_0 a0_1 a0_2 a0_3 a0_4 a0_5 a0_6 a0_7 a0_8 a0_9 a0_10 a0_11 a0_12 a0_13 a0_14 a0_15 l1 a2 = some true := MPrfSums.done a0_0 a0_1 a0_2 a0_3 a0_4 a0_5 a0_6 a0_7 a0_8 a0_9 a0_10 a0_11 a0_12 a0_13 a0_14 a0_15 l1 a2 w0_0 w0_1 w0_2 w0_3 w0_4 w0_5 w0_6 w0_7 w0_8 w0_9 w0_10 w0_11 w0_12 w0_13 w0_14 w0_15 hm1 wl1 w2
  refine (MPrfSums.fuseelaw23_PrfSums.calls k a0_0 a0_1 a0_2 a0_3 a0_4 a0_5 a0_6 a0_7 a0_8 a0_9 a0_10 a0_11 a0_12 a0_13 a0_14 a0_15 A1 c1 l1 a2 true W kd1 hc1 hk).mono fun e W' ⟨he, st⟩ => ?_
  subst he
  have bel : Below W.heap.size W W' := st
  exact ⟨_, rfl, _, _, _, [], _, [], hW', trodAll_mk1 (shut_bool Try.underlying4 _), (trodAll_cons_mk (Below.trod laidOut (by kernel_rfl) (of_decide_eq_true (by kernel_rfl)) k0 bel lt0) (trodAll_cons_mk (Below.trod laidOut (by kernel_rfl) (of_decide_eq_true (by kernel_rfl)) k1 bel lt1) (trodAll_cons_mk (shut_int Try.underlying24 w2) trodAll_mk0))), rfl, bel.frame _, fun h => by cases h⟩
theorem over : Rows.prfSumsRow.holds Try.pinned (OpenSpec.ofChange Rows.prfSumsSpec) :=
  OpenClaim.holds_of_wide 3 Try.f3 rfl rfl rfl rfl rfl rfl rfl ⟨rfl, rfl, rfl, rfl, rfl⟩ rfl rfl rfl rfl rfl (by kernel_rfl) Try.func3 (by kernel_rfl)
    (of_decide_eq_true (by kernel_rfl)) (by unfold Func.isWrapper; first | (rw [if_pos (by decide +kernel)]; kernel_rfl) | (rw [if_neg (by decide +kernel)]; exact ⟨rfl, rfl⟩))
    (fun os started H enc _ => lifted os started H enc)
theorem proved : Rows.PrfSumsSaid := over
end Go.Proofs.Ytiljnlhmeolhfaa.prfSums
namespace Go.Proofs.Ytiljnlhmeolhfaa
theorem prfSums_holds : Rows.PrfSumsSaid := prfSums.proved
#print axioms prfSums_holds
end Go.Proofs.Ytiljnlhmeolhfaa
