/-
  The given row of AuditAlone, out of its walk: whatever the arguments hold, the call returns true, and each argument reads as it did.
-/
import Derived.Test.YtiljnlhmeolhfaaRows
import Derived.Test.YtiljnlhmeolhfaaQ38A
import Derived.Test.YtiljnlhmeolhfaaSl
import Derived.WalkKit
import Derived.ProofKit
import Derived.OpenShut
import Derived.ShutString
import Derived.ChangeOld
import Derived.Below
import Derived.SizedLaws
import Derived.ChangeSame
import Derived.ChangeVars
import Derived.JoinedOf
import Derived.RowKit
import Derived.RowKitTokens
import Derived.Carry
namespace Go.Proofs.Ytiljnlhmeolhfaa.auditAlone
open Go.ChangeShapes Go.WideShapes Go.ChangeAt Go.RowKit
open Go.ChangeMaps (open_string shut_string)
set_option linter.unusedVariables false
set_option linter.unusedSimpArgs false
open MAuditAlone Go.Deep in
theorem open68 {w : World} {cs : List Value} (h : Fits w (.slice 10 (.pair (.int .i64) (.pair .str (.pair .bool (.pair (.int .i64) (.pair (.pair (.int .i64) (.pair (.int .i64) (.pair (.int .i64) (.pair (.int .i64) .nil)))) (.pair .bool (.pair (.int .i64) .nil)))))))) cs) :
    ∃ (A : Option Addr) (l : List S68) (c : Nat), cs = [.slice A l.length c] ∧ l.length ≤ c ∧ l.length ≤ maxLen ∧ Go.Proofs.YtiljnlhmeolhfaaW.PrintWords.Kd.C k68 w A l.length l ∧ ∀ x ∈ l, (Lit.int .i64 x.f0).wf = true ∧ x.f1.size ≤ maxLen ∧ (Lit.int .i64 x.f3).wf = true ∧ (Lit.int .i64 x.f4.f0).wf = true ∧ (Lit.int .i64 x.f4.f1).wf = true ∧ (Lit.int .i64 x.f4.f2).wf = true ∧ (Lit.int .i64 x.f4.f3).wf = true ∧ (Lit.int .i64 x.f6).wf = true :=
  rows_of k68 10 (.pair (.int .i64) (.pair .str (.pair .bool (.pair (.int .i64) (.pair (.pair (.int .i64) (.pair (.int .i64) (.pair (.int .i64) (.pair (.int .i64) .nil)))) (.pair .bool (.pair (.int .i64) .nil))))))) (P := fun x => (Lit.int .i64 x.f0).wf = true ∧ x.f1.size ≤ maxLen ∧ (Lit.int .i64 x.f3).wf = true ∧ (Lit.int .i64 x.f4.f0).wf = true ∧ (Lit.int .i64 x.f4.f1).wf = true ∧ (Lit.int .i64 x.f4.f2).wf = true ∧ (Lit.int .i64 x.f4.f3).wf = true ∧ (Lit.int .i64 x.f6).wf = true) (fun es h => by obtain ⟨_, _, rfl, ⟨a9_0, rfl, w9_0⟩, ⟨_, _, rfl, ⟨a9_1, rfl, w9_1⟩, ⟨_, _, rfl, ⟨a9_2, rfl⟩, ⟨_, _, rfl, ⟨a9_3, rfl, w9_3⟩, ⟨_, _, rfl, ⟨_, _, rfl, ⟨a9_4, rfl, w9_4⟩, ⟨_, _, rfl, ⟨a9_5, rfl, w9_5⟩, ⟨_, _, rfl, ⟨a9_6, rfl, w9_6⟩, ⟨_, _, rfl, ⟨a9_7, rfl, w9_7⟩, rfl⟩⟩⟩⟩, ⟨_, _, rfl, ⟨a9_8, rfl⟩, ⟨_, _, rfl, ⟨a9_9, rfl, w9_9⟩, rfl⟩⟩⟩⟩⟩⟩⟩ := h; exact ⟨(⟨a9_0, a9_1, a9_2, a9_3, ⟨a9_4, a9_5, a9_6, a9_7⟩, a9_8, a9_9⟩ : S68), k68_mk w ⟨a9_0, a9_1, a9_2, a9_3, ⟨a9_4, a9_5, a9_6, a9_7⟩, a9_8, a9_9⟩, ⟨w9_0, w9_1, w9_3, w9_4, w9_5, w9_6, w9_7, w9_9⟩⟩) rfl h
theorem own : ownKnob Try.prog.godebug = none := by kernel_rfl
theorem laidOut : laidOutB Try.prog = true := by kernel_rfl
set_option maxRecDepth 100000 in
theorem lifted (os : Os) (started : os.Started) (H : Type) (enc : TypeId × Value → H) :
    ReturnsInHanded {} Try.checked os 6 .any (Rows.auditAloneSpec.pre6 enc Try.prog Try.f6 Rows.auditAloneRow.domain false) (Rows.auditAloneSpec.post enc Try.prog Try.f6 false true false false) := by
  refine returnsInHanded_of_change_sized (C := Try.checked) own started (by kernel_rfl) Try.func6
    (ChangeSpec.witness6 (enc := enc) (C := Try.checked) false ⟨#[], #[.slice none 0 0, .string ByteArray.empty], []⟩ 8 (by kernel_rfl) (by kernel_rfl) (by kernel_rfl) (by kernel_rfl)) ?_
  intro W base args ds gs before hval0 hW hcnd hsz0 _
  have hsz : (DataW.weightsEach Try.prog (Try.f6.params.toList ++ Rows.auditAloneSpec.plain.varTypes Try.prog) (ds ++ gs)).all (· ≤ reachBytes) = true := hsz0
  have hval : ∀ (j : Nat) t v, Try.f6.params[j]? = some t → args[j]? = some v → Value.okWide Try.prog W .any base t v := hval0
  have hW' := hW
  obtain ⟨p, q, hA0, hV0, rfl, hfz, hnd⟩ := hW
  have hA : DataW.TrodAll enc Try.prog W 0 (fun _ => true) true Try.f6.params.toList args.toList ds p := hA0
  have hV : DataW.TrodVars enc Try.prog W (fun _ => true) [] gs q := hV0
  rw [Try.params6] at hA hval hsz
  obtain ⟨v0, vs0, d0, ds0, p0, q0, hargs, rfl, rfl, h0, r0⟩ := trodAll_cons hA
  obtain ⟨v1, vs1, d1, ds1, p1, q1, rfl, rfl, rfl, h1, r1⟩ := trodAll_cons r0
  obtain ⟨rfl, rfl, rfl⟩ := trodAll_nil r1
  obtain rfl : args = #[v0, v1] := by cases args; simp_all
  obtain ⟨rfl, rfl⟩ := trodVars_none hV
  have o0 : Value.okWide Try.prog W .any base 38 v0 := (hval 0 38 v0 rfl rfl)
  have k0 := h0
  have lt0 : ∀ x ∈ p0, x.block < W.heap.size := by obtain ⟨m, hm⟩ := k0; exact DataW.trod_lt m _ _ _ hm
  have f0 := fits_of (P := Try.prog) 8 k0
  rw [show shapeOf Try.prog 8 38 = (.slice 10 (.pair (.int .i64) (.pair .str (.pair .bool (.pair (.int .i64) (.pair (.pair (.int .i64) (.pair (.int .i64) (.pair (.int .i64) (.pair (.int .i64) .nil)))) (.pair .bool (.pair (.int .i64) .nil)))))))) by kernel_rfl] at f0
  obtain ⟨A0, l0, c0, e0, hc0, hm0, kd0, wl0⟩ := open68 f0
  obtain ⟨ad0, ln0, cp0, rfl⟩ := okWide_slice Try.underlying38 o0
  simp [Value.cells] at e0
  obtain ⟨ea0, eb0, ec0⟩ := e0
  have ea0' := ea0.symm
  have ec0' := ec0.symm
  subst ea0' eb0 ec0'
  obtain ⟨a1, rfl, rfl, rfl, y1⟩ := open_string Try.underlying9 (hval 1 9 v1 rfl rfl) h1
  have w1 : a1.size ≤ 140737488351232 := by
    have z := sized_string hsz (j := 1) (t := 9) rfl rfl
    rw [Array.length_toList] at z
    exact z
  clear hA0 hval0 hsz0 hV0
  obtain ⟨k, hk⟩ : ∃ k, MAuditAlone.fuseelaw38_AuditAlone.f k l0 a1 = some true := MAuditAlone.done l0 a1 hm0 wl0 w1
  refine (MAuditAlone.fuseelaw38_AuditAlone.calls k A0 c0 l0 a1 true W kd0 hc0 hk).mono fun e W' ⟨he, st⟩ => ?_
  subst he
  have bel : Below W.heap.size W W' := st
  exact ⟨_, rfl, _, _, _, [], _, [], hW', trodAll_mk1 (shut_bool Try.underlying4 _), (trodAll_cons_mk (Below.trod laidOut (by kernel_rfl) (of_decide_eq_true (by kernel_rfl)) k0 bel lt0) (trodAll_cons_mk (shut_string Try.underlying9 y1) trodAll_mk0)), rfl, bel.frame _, fun h => by cases h⟩
theorem over : Rows.auditAloneRow.holds Try.pinned (OpenSpec.ofChange Rows.auditAloneSpec) :=
  OpenClaim.holds_of_wide 6 Try.f6 rfl rfl rfl rfl rfl rfl rfl ⟨rfl, rfl, rfl, rfl, rfl⟩ rfl rfl rfl rfl rfl (by kernel_rfl) Try.func6 (by kernel_rfl)
    (of_decide_eq_true (by kernel_rfl)) (by unfold Func.isWrapper; first | (rw [if_pos (by decide +kernel)]; kernel_rfl) | (rw [if_neg (by decide +kernel)]; exact ⟨rfl, rfl⟩))
    (fun os started H enc _ => lifted os started H enc)
theorem proved : Rows.AuditAloneSaid := over
end Go.Proofs.Ytiljnlhmeolhfaa.auditAlone
namespace Go.Proofs.Ytiljnlhmeolhfaa
theorem auditAlone_holds : Rows.AuditAloneSaid := auditAlone.proved
#print axioms auditAlone_holds
end Go.Proofs.Ytiljnlhmeolhfaa
