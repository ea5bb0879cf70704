/-
  The given row of LeapForms and its card, out of its walk: whatever the arguments hold, the call returns true, and each argument reads as it did.
-/
import Derived.Test.YtnlaiiophongmaaDoorRows
import Derived.Test.YtnlaiiophongmaaDoorCards
import Derived.Test.YtnlaiiophongmaaDoorTie
import Derived.Test.YtnlaiiophongmaaDoorL9F
import Derived.Test.YtnlaiiophongmaaDoorSl
import Derived.WalkKit
import Derived.ProofKit
import Derived.OpenShut
import Derived.ShutString
import Derived.ChangeOld
import Derived.Below
import Derived.SizedLaws
import Derived.ChangeSame
import Derived.ChangeVars
import Derived.JoinedOf
import Derived.RowKit
import Derived.RowKitTokens
import Derived.Carry
import Derived.LaidLaws
import Derived.LaidHandle
import Derived.Stop.Joined
import Derived.SevenTiedAt
namespace Go.Proofs.YtnlaiiophongmaaDoor.leapForms
open Go.ChangeShapes Go.WideShapes Go.ChangeAt Go.RowKit
open Go.ChangeMaps (open_string shut_string)
set_option linter.unusedVariables false
set_option linter.unusedSimpArgs false

theorem own : ownKnob Tryd.prog.godebug = none := by kernel_rfl
theorem laidOut : laidOutB Tryd.prog = true := by kernel_rfl
theorem et : Tryd.prog.globalNamed "errors.errorType" = some 0 := by kernel_rfl
theorem rt : (Tryd.prog.cutTypes.find? (·.1 == "internal/reflectlite.rtype")).map (·.2) = some 201 := by kernel_rfl
theorem oneRow : ((List.range 255).filter fun t => Tryd.prog.rowNamed t [101, 114, 114, 111, 114]) = [28] := by kernel_rfl
theorem nTypes : Tryd.prog.types.size = 255 := by kernel_rfl
def laid0 : List (String × DataW Unit) := [("errors.errorType", Rows.laid_errors_errorType)]
theorem handle_of_laid {W : World} (h : laidMetH Tryd.prog laid0 W) : HG W := by
  have h' : laidMet Tryd.prog [] W ∧ handlesMet Tryd.prog laid0 W := h
  obtain ⟨name, u, ty, e1, e2, e3, e4, e5⟩ := h'.2 _ (List.mem_singleton.2 rfl)
  have en : name = [101, 114, 114, 111, 114] := (Option.some.inj e1).symm
  subst en
  obtain rfl := Option.some.inj (rt.symm.trans e2)
  have hm : ty ∈ (List.range 255).filter fun t => Tryd.prog.rowNamed t [101, 114, 114, 111, 114] := List.mem_filter.2 ⟨List.mem_range.2 (by rw [← nTypes]; exact e3), e4⟩
  rw [oneRow] at hm
  obtain rfl := List.mem_singleton.1 hm
  have hh : typeHandle Tryd.prog 28 = .pointer (some ⟨1, 28, none⟩) := by kernel_rfl
  rw [hh] at e5
  unfold HG
  simpa using World.var?_cell et e5 0
noncomputable def laidWorld (os : Os) : World :=
  let w0 := World.holding Tryd.prog os ⟨#[], #[], []⟩
  { w0 with heap := w0.heap.modify 0 fun
      | .cells _ t frozen => .cells #[.iface 201 (.agg #[.pointer (some ⟨1, 28, none⟩)])] t frozen
      | o => o }
theorem laidWorld_met (os : Os) (args : Array Value) : laidMetH Tryd.prog laid0 ((laidWorld os).forCall (fun _ _ => 0) ⟨#[], args, []⟩).memory :=
  laidMetH_of_parts (laidMet_nil _ _) (by kernel_rfl)
set_option maxRecDepth 100000 in
theorem lifted (os : Os) (started : os.Started) (H : Type) (enc : TypeId × Value → H) :
    ReturnsInHanded {} Tryd.checked os 13 .any (fun w args => (Rows.leapFormsSpec.pre enc Tryd.prog Tryd.f13 [] false w args ∧ laidMetH Tryd.prog laid0 w) ∧ sizedMet enc Tryd.prog Tryd.f13 (OpenSpec.ofChange Rows.leapFormsSpec) false w args)
      (Rows.leapFormsSpec.post enc Tryd.prog Tryd.f13 false true false false) := by
  refine returnsInHanded_of_change_and (C := Tryd.checked) (X := fun w _ => laidMetH Tryd.prog laid0 w) (fun _ _ _ hh h => h.of_heap hh) own started (by kernel_rfl) Tryd.func13
    (ChangeSpec.witness_at (enc := enc) (C := Tryd.checked) (os := os) (X := fun w _ => laidMetH Tryd.prog laid0 w) false (laidWorld os) #[.agg #[.int .i64 0, .int .i64 0, .slice none 0 0], .slice none 0 0] 8 rfl (by kernel_rfl) (by kernel_rfl) (by kernel_rfl) (by kernel_rfl) (by kernel_rfl) (laidWorld_met os _)) ?_
  intro W base args ds gs before hval0 hW hcnd hsz0 hL _
  have hsz : (DataW.weightsEach Tryd.prog (Tryd.f13.params.toList ++ Rows.leapFormsSpec.plain.varTypes Tryd.prog) (ds ++ gs)).all (· ≤ reachBytes) = true := hsz0
  have hval : ∀ (j : Nat) t v, Tryd.f13.params[j]? = some t → args[j]? = some v → Value.okWide Tryd.prog W .any base t v := hval0
  have hW' := hW
  obtain ⟨p, q, hA0, hV0, rfl, hfz, hnd⟩ := hW
  have hA : DataW.TrodAll enc Tryd.prog W 0 (fun _ => true) true Tryd.f13.params.toList args.toList ds p := hA0
  have hV : DataW.TrodVars enc Tryd.prog W (fun _ => true) [] gs q := hV0
  rw [Tryd.params13] at hA hval hsz
  obtain ⟨v0, vs0, d0, ds0, p0, q0, hargs, rfl, rfl, h0, r0⟩ := trodAll_cons hA
  obtain ⟨v1, vs1, d1, ds1, p1, q1, rfl, rfl, rfl, h1, r1⟩ := trodAll_cons r0
  obtain ⟨rfl, rfl, rfl⟩ := trodAll_nil r1
  obtain rfl : args = #[v0, v1] := by cases args; simp_all
  obtain ⟨rfl, rfl⟩ := trodVars_none hV
  have o0 : Value.okWide Tryd.prog W .any base 95 v0 := (hval 0 95 v0 rfl rfl)
  have k0 := h0
  have lt0 : ∀ x ∈ p0, x.block < W.heap.size := by obtain ⟨m, hm⟩ := k0; exact DataW.trod_lt m _ _ _ hm
  have f0 := fits_of (P := Tryd.prog) 8 k0
  rw [show shapeOf Tryd.prog 8 95 = (.pair (.int .i64) (.pair (.int .i64) (.pair (.slice 1 (.int .i64)) .nil))) by kernel_rfl] at f0
  obtain ⟨_, _, e0, ⟨a0_0, rfl, w0_0⟩, ⟨_, _, rfl, ⟨a0_1, rfl, w0_1⟩, ⟨_, _, rfl, b0_2, rfl⟩⟩⟩ := f0
  obtain ⟨A0_2, l0_2, c0_2, rfl, hc0_2, hm0_2, kd0_2, wl0_2⟩ := ints_of b0_2
  simp only [List.cons_append, List.nil_append, List.append_nil] at e0
  obtain rfl := agg_struct Tryd.underlying95 o0 e0
  have o1 : Value.okWide Tryd.prog W .any base 47 v1 := (hval 1 47 v1 rfl rfl)
  have k1 := h1
  have lt1 : ∀ x ∈ p1, x.block < W.heap.size := by obtain ⟨m, hm⟩ := k1; exact DataW.trod_lt m _ _ _ hm
  have f1 := fits_of (P := Tryd.prog) 8 k1
  rw [show shapeOf Tryd.prog 8 47 = (.slice 1 (.int .u8)) by kernel_rfl] at f1
  obtain ⟨A1, l1, c1, e1, hc1, hm1, kd1, wl1⟩ := ints_of f1
  obtain ⟨ad1, ln1, cp1, rfl⟩ := okWide_slice Tryd.underlying47 o1
  simp [Value.cells] at e1
  obtain ⟨ea1, eb1, ec1⟩ := e1
  have ea1' := ea1.symm
  have ec1' := ec1.symm
  subst ea1' eb1 ec1'
  have hg := handle_of_laid hL
  clear hA0 hval0 hsz0 hV0
  refine (ML9.forms_walk a0_0 a0_1 A0_2 l0_2.length c0_2 l0_2 A1 l1.length c1 l1 W hg (R64.of_wf w0_0) (R64.of_wf w0_1) (fun x hx => R64.of_wf (wl0_2 x hx)) kd0_2 rfl hc0_2 ⟨kd1, rfl, hc1⟩ (fun x hx => by have h := wl1 x hx; simp [Lit.wf, IntKind.min, IntKind.max, IntKind.signed, IntKind.bits] at h; unfold MCb.B8; omega)).mono fun e W' ⟨he, st⟩ => ?_
  subst he
  have bel : Below W.heap.size W W' := st
  exact ⟨_, rfl, _, _, _, [], _, [], hW', trodAll_mk1 (shut_bool Tryd.underlying4 _), (trodAll_cons_mk (Below.trod laidOut (by kernel_rfl) (of_decide_eq_true (by kernel_rfl)) k0 bel lt0) (trodAll_cons_mk (Below.trod laidOut (by kernel_rfl) (of_decide_eq_true (by kernel_rfl)) k1 bel lt1) trodAll_mk0)), rfl, bel.frame _, fun h => by cases h⟩
theorem over : Rows.leapFormsRow.holds Tryd.pinned (OpenSpec.ofChange Rows.leapFormsSpec) :=
  OpenClaim.holds_of_wide 13 Tryd.f13 rfl rfl rfl rfl rfl rfl rfl ⟨rfl, rfl, rfl, rfl, rfl⟩ rfl rfl rfl rfl rfl (by kernel_rfl) Tryd.func13 (by kernel_rfl)
    (of_decide_eq_true (by kernel_rfl)) (by unfold Func.isWrapper; first | (rw [if_pos (by decide +kernel)]; kernel_rfl) | (rw [if_neg (by decide +kernel)]; exact ⟨rfl, rfl⟩))
    (fun os started H enc _ => lifted os started H enc)
theorem proved : Rows.LeapFormsSaid := over
theorem card_holds : Rows.LeapFormsCardSaid :=
  Claim7.holds_tied_plain_at .later [] [.handle] true (true, "248780f88ee668e503cff2a8c03b63a99e9cc024afd13bc23225b5b84d5ada31") true
    proved (fun _ h => by cases h) (by kernel_rfl) (fun _ h => by cases h) leapForms_row_tie rfl ⟨rfl, rfl⟩ (by kernel_rfl) rfl
    (fun f fn hf hfn => by
      obtain rfl : f = 13 := Option.some.inj ((show Tryd.prog.funcNamed "fusee/fuseelaw09.LeapForms" = some 13 by kernel_rfl).symm.trans hf) |>.symm
      obtain rfl : fn = Tryd.f13 := (Option.some.inj (Tryd.func13.symm.trans hfn)).symm
      exact ⟨by kernel_rfl, fun j t ht => by
        rw [Tryd.params13] at ht
        have ht' : t ∈ [95, 47] := by
          obtain ⟨h1, h2⟩ := Array.getElem?_eq_some_iff.1 ht; rw [← h2]; exact Array.mem_toList_iff.2 (Array.getElem_mem h1)
        simp only [List.mem_cons, List.not_mem_nil, or_false] at ht'
        rcases ht' with rfl | rfl
        · exact (show Tryd.prog.wantsStandIn 95 = false by kernel_rfl)
        · exact (show Tryd.prog.wantsStandIn 47 = false by kernel_rfl)⟩)
    (by kernel_rfl)
end Go.Proofs.YtnlaiiophongmaaDoor.leapForms
namespace Go.Proofs.YtnlaiiophongmaaDoor
theorem leapForms_holds : Rows.LeapFormsCardSaid := leapForms.card_holds
#print axioms leapForms_holds
end Go.Proofs.YtnlaiiophongmaaDoor
