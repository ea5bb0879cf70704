/-
  The given row of HostHolds and its card, out of its walk: whatever the arguments hold, the call returns true, and each argument reads as it did.
-/
import Derived.Test.YtcpbfckmngbgdaaDoorRows
import Derived.Test.YtcpbfckmngbgdaaDoorCards
import Derived.Test.YtcpbfckmngbgdaaDoorTie
import Derived.Test.YtcpbfckmngbgdaaDoorQ18H
import Derived.Test.YtcpbfckmngbgdaaDoorSl
import Derived.WalkKit
import Derived.ProofKit
import Derived.OpenShut
import Derived.ShutString
import Derived.ChangeOld
import Derived.Below
import Derived.SizedLaws
import Derived.ChangeSame
import Derived.ChangeVars
import Derived.JoinedOf
import Derived.RowKit
import Derived.RowKitTokens
import Derived.Carry
import Derived.LaidLaws
import Derived.LaidHandle
import Derived.Stop.Joined
import Derived.SevenTiedAt
namespace Go.Proofs.YtcpbfckmngbgdaaDoor.hostHolds
open Go.ChangeShapes Go.WideShapes Go.ChangeAt Go.RowKit
open Go.ChangeMaps (open_string shut_string)
set_option linter.unusedVariables false
set_option linter.unusedSimpArgs false
open MHostHolds Go.Deep in
theorem open151 {w : World} {cs : List Value} (h : Fits w (.slice 5 (.pair (.int .u32) (.pair (.int .i16) (.pair .bool (.pair (.int .u16) (.pair (.int .u16) .nil)))))) cs) :
    ∃ (A : Option Addr) (l : List S151) (c : Nat), cs = [.slice A l.length c] ∧ l.length ≤ c ∧ l.length ≤ maxLen ∧ Go.Proofs.YtcpbfckmngbgdaaDoorW.PrintWords.Kd.C k151 w A l.length l ∧ ∀ x ∈ l, (Lit.int .u32 x.f0).wf = true ∧ (Lit.int .i16 x.f1).wf = true ∧ (Lit.int .u16 x.f3).wf = true ∧ (Lit.int .u16 x.f4).wf = true :=
  rows_of k151 5 (.pair (.int .u32) (.pair (.int .i16) (.pair .bool (.pair (.int .u16) (.pair (.int .u16) .nil))))) (P := fun x => (Lit.int .u32 x.f0).wf = true ∧ (Lit.int .i16 x.f1).wf = true ∧ (Lit.int .u16 x.f3).wf = true ∧ (Lit.int .u16 x.f4).wf = true) (fun es h => by obtain ⟨_, _, rfl, ⟨a9_0, rfl, w9_0⟩, ⟨_, _, rfl, ⟨a9_1, rfl, w9_1⟩, ⟨_, _, rfl, ⟨a9_2, rfl⟩, ⟨_, _, rfl, ⟨a9_3, rfl, w9_3⟩, ⟨_, _, rfl, ⟨a9_4, rfl, w9_4⟩, rfl⟩⟩⟩⟩⟩ := h; exact ⟨(⟨a9_0, a9_1, a9_2, a9_3, a9_4⟩ : S151), k151_mk w ⟨a9_0, a9_1, a9_2, a9_3, a9_4⟩, ⟨w9_0, w9_1, w9_3, w9_4⟩⟩) rfl h
theorem own : ownKnob Tryd.prog.godebug = none := by kernel_rfl
theorem laidOut : laidOutB Tryd.prog = true := by kernel_rfl
theorem et : Tryd.prog.globalNamed "errors.errorType" = some 0 := by kernel_rfl
theorem rt : (Tryd.prog.cutTypes.find? (·.1 == "internal/reflectlite.rtype")).map (·.2) = some 274 := by kernel_rfl
theorem oneRow : ((List.range 331).filter fun t => Tryd.prog.rowNamed t [101, 114, 114, 111, 114]) = [31] := by kernel_rfl
theorem nTypes : Tryd.prog.types.size = 331 := by kernel_rfl
def laid0 : List (String × DataW Unit) := [("errors.errorType", Rows.laid_errors_errorType)]
theorem handle_of_laid {W : World} (h : laidMetH Tryd.prog laid0 W) : HG W := by
  have h' : laidMet Tryd.prog [] W ∧ handlesMet Tryd.prog laid0 W := h
  obtain ⟨name, u, ty, e1, e2, e3, e4, e5⟩ := h'.2 _ (List.mem_singleton.2 rfl)
  have en : name = [101, 114, 114, 111, 114] := (Option.some.inj e1).symm
  subst en
  obtain rfl := Option.some.inj (rt.symm.trans e2)
  have hm : ty ∈ (List.range 331).filter fun t => Tryd.prog.rowNamed t [101, 114, 114, 111, 114] := List.mem_filter.2 ⟨List.mem_range.2 (by rw [← nTypes]; exact e3), e4⟩
  rw [oneRow] at hm
  obtain rfl := List.mem_singleton.1 hm
  have hh : typeHandle Tryd.prog 31 = .pointer (some ⟨3, 31, none⟩) := by kernel_rfl
  rw [hh] at e5
  unfold HG
  simpa using World.var?_cell et e5 0
noncomputable def laidWorld (os : Os) : World :=
  let w0 := World.holding Tryd.prog os ⟨#[], #[], []⟩
  { w0 with heap := w0.heap.modify 0 fun
      | .cells _ t frozen => .cells #[.iface 274 (.agg #[.pointer (some ⟨3, 31, none⟩)])] t frozen
      | o => o }
theorem laidWorld_met (os : Os) (args : Array Value) : laidMetH Tryd.prog laid0 ((laidWorld os).forCall (fun _ _ => 0) ⟨#[], args, []⟩).memory :=
  laidMetH_of_parts (laidMet_nil _ _) (by kernel_rfl)
set_option maxRecDepth 100000 in
theorem lifted (os : Os) (started : os.Started) (H : Type) (enc : TypeId × Value → H) :
    ReturnsInHanded {} Tryd.checked os 11 .any (fun w args => (Rows.hostHoldsSpec.pre enc Tryd.prog Tryd.f11 [] false w args ∧ laidMetH Tryd.prog laid0 w) ∧ sizedMet enc Tryd.prog Tryd.f11 (OpenSpec.ofChange Rows.hostHoldsSpec) false w args)
      (Rows.hostHoldsSpec.post enc Tryd.prog Tryd.f11 false true false false) := by
  refine returnsInHanded_of_change_and (C := Tryd.checked) (X := fun w _ => laidMetH Tryd.prog laid0 w) (fun _ _ _ hh h => h.of_heap hh) own started (by kernel_rfl) Tryd.func11
    (ChangeSpec.witness_at (enc := enc) (C := Tryd.checked) (os := os) (X := fun w _ => laidMetH Tryd.prog laid0 w) false (laidWorld os) #[.int .i64 0, .agg #[.int .i16 0, .int .i16 0, .int .i16 0], .slice none 0 0] 8 rfl (by kernel_rfl) (by kernel_rfl) (by kernel_rfl) (by kernel_rfl) (by kernel_rfl) (laidWorld_met os _)) ?_
  intro W base args ds gs before hval0 hW hcnd hsz0 hL _
  have hsz : (DataW.weightsEach Tryd.prog (Tryd.f11.params.toList ++ Rows.hostHoldsSpec.plain.varTypes Tryd.prog) (ds ++ gs)).all (· ≤ reachBytes) = true := hsz0
  have hval : ∀ (j : Nat) t v, Tryd.f11.params[j]? = some t → args[j]? = some v → Value.okWide Tryd.prog W .any base t v := hval0
  have hW' := hW
  obtain ⟨p, q, hA0, hV0, rfl, hfz, hnd⟩ := hW
  have hA : DataW.TrodAll enc Tryd.prog W 0 (fun _ => true) true Tryd.f11.params.toList args.toList ds p := hA0
  have hV : DataW.TrodVars enc Tryd.prog W (fun _ => true) [] gs q := hV0
  rw [Tryd.params11] at hA hval hsz
  obtain ⟨v0, vs0, d0, ds0, p0, q0, hargs, rfl, rfl, h0, r0⟩ := trodAll_cons hA
  obtain ⟨v1, vs1, d1, ds1, p1, q1, rfl, rfl, rfl, h1, r1⟩ := trodAll_cons r0
  obtain ⟨v2, vs2, d2, ds2, p2, q2, rfl, rfl, rfl, h2, r2⟩ := trodAll_cons r1
  obtain ⟨rfl, rfl, rfl⟩ := trodAll_nil r2
  obtain rfl : args = #[v0, v1, v2] := by cases args; simp_all
  obtain ⟨rfl, rfl⟩ := trodVars_none hV
  obtain ⟨a0, rfl, rfl, rfl, w0⟩ := open_int Tryd.underlying2 (hval 0 2 v0 rfl rfl) h0
  have o1 : Value.okWide Tryd.prog W .any base 144 v1 := (hval 1 144 v1 rfl rfl)
  have k1 := h1
  have lt1 : ∀ x ∈ p1, x.block < W.heap.size := by obtain ⟨m, hm⟩ := k1; exact DataW.trod_lt m _ _ _ hm
  have f1 := fits_of (P := Tryd.prog) 8 k1
  rw [show shapeOf Tryd.prog 8 144 = (.pair (.int .i16) (.pair (.int .i16) (.pair (.int .i16) .nil))) by kernel_rfl] at f1
  obtain ⟨_, _, e1, ⟨a1_0, rfl, w1_0⟩, ⟨_, _, rfl, ⟨a1_1, rfl, w1_1⟩, ⟨_, _, rfl, ⟨a1_2, rfl, w1_2⟩, rfl⟩⟩⟩ := f1
  simp only [List.cons_append, List.nil_append, List.append_nil] at e1
  obtain rfl := agg_array Tryd.underlying144 o1 e1
  have o2 : Value.okWide Tryd.prog W .any base 145 v2 := (hval 2 145 v2 rfl rfl)
  have k2 := h2
  have lt2 : ∀ x ∈ p2, x.block < W.heap.size := by obtain ⟨m, hm⟩ := k2; exact DataW.trod_lt m _ _ _ hm
  have f2 := fits_of (P := Tryd.prog) 8 k2
  rw [show shapeOf Tryd.prog 8 145 = (.slice 5 (.pair (.int .u32) (.pair (.int .i16) (.pair .bool (.pair (.int .u16) (.pair (.int .u16) .nil)))))) by kernel_rfl] at f2
  obtain ⟨A2, l2, c2, e2, hc2, hm2, kd2, wl2⟩ := open151 f2
  obtain ⟨ad2, ln2, cp2, rfl⟩ := okWide_slice Tryd.underlying145 o2
  simp [Value.cells] at e2
  obtain ⟨ea2, eb2, ec2⟩ := e2
  have ea2' := ea2.symm
  have ec2' := ec2.symm
  subst ea2' eb2 ec2'
  have hg := handle_of_laid hL
  clear hA0 hval0 hsz0 hV0
  obtain ⟨k, hk⟩ : ∃ k, MHostHolds.fuseelaw18_HostHolds.f k a0 a1_0 a1_1 a1_2 l2 = some true := MHostHolds.done a0 a1_0 a1_1 a1_2 l2 w0 w1_0 w1_1 w1_2 hm2 wl2
  refine (MHostHolds.fuseelaw18_HostHolds.calls k a0 a1_0 a1_1 a1_2 A2 c2 l2 true W hg kd2 hc2 hk).mono fun e W' ⟨he, st⟩ => ?_
  subst he
  have bel : Below W.heap.size W W' := st
  exact ⟨_, rfl, _, _, _, [], _, [], hW', trodAll_mk1 (shut_bool Tryd.underlying4 _), (trodAll_cons_mk (shut_int Tryd.underlying2 w0) (trodAll_cons_mk (Below.trod laidOut (by kernel_rfl) (of_decide_eq_true (by kernel_rfl)) k1 bel lt1) (trodAll_cons_mk (Below.trod laidOut (by kernel_rfl) (of_decide_eq_true (by kernel_rfl)) k2 bel lt2) trodAll_mk0))), rfl, bel.frame _, fun h => by cases h⟩
theorem over : Rows.hostHoldsRow.holds Tryd.pinned (OpenSpec.ofChange Rows.hostHoldsSpec) :=
  OpenClaim.holds_of_wide 11 Tryd.f11 rfl rfl rfl rfl rfl rfl rfl ⟨rfl, rfl, rfl, rfl, rfl⟩ rfl rfl rfl rfl rfl (by kernel_rfl) Tryd.func11 (by kernel_rfl)
    (of_decide_eq_true (by kernel_rfl)) (by unfold Func.isWrapper; first | (rw [if_pos (by decide +kernel)]; kernel_rfl) | (rw [if_neg (by decide +kernel)]; exact ⟨rfl, rfl⟩))
    (fun os started H enc _ => lifted os started H enc)
theorem proved : Rows.HostHoldsSaid := over
theorem card_holds : Rows.HostHoldsCardSaid :=
  Claim7.holds_tied_plain_at .later [] [.handle] true (true, "6808bb906c9cd9d685b7f37b559249a5c27827bce3a2b6ac3236519b28ee5c82") true
    proved (fun _ h => by cases h) (by kernel_rfl) (fun _ h => by cases h) hostHolds_row_tie rfl ⟨rfl, rfl⟩ (by kernel_rfl) rfl
    (fun f fn hf hfn => by
      obtain rfl : f = 11 := Option.some.inj ((show Tryd.prog.funcNamed "fusee/fuseelaw18.HostHolds" = some 11 by kernel_rfl).symm.trans hf) |>.symm
      obtain rfl : fn = Tryd.f11 := (Option.some.inj (Tryd.func11.symm.trans hfn)).symm
      exact ⟨by kernel_rfl, fun j t ht => by
        rw [Tryd.params11] at ht
        have ht' : t ∈ [2, 144, 145] := by
          obtain ⟨h1, h2⟩ := Array.getElem?_eq_some_iff.1 ht; rw [← h2]; exact Array.mem_toList_iff.2 (Array.getElem_mem h1)
        simp only [List.mem_cons, List.not_mem_nil, or_false] at ht'
        rcases ht' with rfl | rfl | rfl
        · exact (show Tryd.prog.wantsStandIn 2 = false by kernel_rfl)
        · exact (show Tryd.prog.wantsStandIn 144 = false by kernel_rfl)
        · exact (show Tryd.prog.wantsStandIn 145 = false by kernel_rfl)⟩)
    (by kernel_rfl)
end Go.Proofs.YtcpbfckmngbgdaaDoor.hostHolds
namespace Go.Proofs.YtcpbfckmngbgdaaDoor
theorem hostHolds_holds : Rows.HostHoldsCardSaid := hostHolds.card_holds
#print axioms hostHolds_holds
end Go.Proofs.YtcpbfckmngbgdaaDoor
