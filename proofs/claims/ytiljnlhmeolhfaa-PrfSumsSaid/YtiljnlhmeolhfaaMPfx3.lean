/- Printed by wip/gen/mp.py: Go functions as plain Lean functions, and that the calls do what these say. -/
import Derived.Test.YtiljnlhmeolhfaaMPfx0
import Derived.Test.YtiljnlhmeolhfaaMPfx2
namespace Go.Proofs.Ytiljnlhmeolhfaa.MPf
open Go.RowKit Go.Proofs.YtiljnlhmeolhfaaW.PrintWords Go.Proofs.YtiljnlhmeolhfaaW.PrintLast Go.Proofs.YtiljnlhmeolhfaaW.PrintMore
attribute [local go_sem] max2_int min2_int max_two min_two max_three min_three max_four min_four   -- for this text's walks alone
set_option linter.unusedVariables false
set_option linter.unusedSimpArgs false

/-! ### prf_state_take: function 30 -/
def prf_state_take.f (k : Nat) (s0_0 : Int) (s0_1 : Int) (s0_2 : Int) (s0_3 : Int) (a1 : Int) : Option (Int × Int × Int × Int) := (prf_state_rounds.f k s0_0 s0_1 s0_2 (Go.bits .xor .u64 s0_3 a1) 2).bind fun bt129 => (some (Go.bits .xor .u64 bt129.1 a1, bt129.2.1, bt129.2.2.1, bt129.2.2.2))
theorem prf_state_take.mono : ∀ a0 a1 a2 a3 a4 k, LeO (prf_state_take.f k a0 a1 a2 a3 a4) (prf_state_take.f (k + 1) a0 a1 a2 a3 a4) := by
 intro a0 a1 a2 a3 a4 k
 unfold prf_state_take.f
 repeat' first
   | (with_reducible exact prf_state_rounds.mono _ _ _ _ _ _)
   | (with_reducible exact LeO.refl _)
   | (with_reducible exact LeO.none _)
   | (with_reducible refine LeO.ite ?_ ?_)
   | (with_reducible refine LeO.bind ?_ (fun _ => ?_))
   | exact prf_state_rounds.mono _ _ _ _ _ _
   | exact LeO.none _
   | refine LeO.ite ?_ ?_
   | refine LeO.bind ?_ (fun _ => ?_)
set_option maxHeartbeats 8000000 in
set_option maxRecDepth 100000 in
theorem prf_state_take.calls (k : Nat) (g : Nat) (s0_0 : Int) (s0_1 : Int) (s0_2 : Int) (s0_3 : Int) (a1 : Int) (r1 : Int) (r2 : Int) (r3 : Int) (r4 : Int) (w0 w : World) (hI : IsS58 w0 w g s0_0 s0_1 s0_2 s0_3) (hB : Below w0.heap.size w0 w) (h : prf_state_take.f k s0_0 s0_1 s0_2 s0_3 a1 = some (r1, r2, r3, r4)) :
  Calls Try.prog 30 #[.pointer (some ⟨g, 0, none⟩), .int .u64 a1] w fun e w' => e = .returned (.tuple #[]) ∧ IsS58 w0 w' g r1 r2 r3 r4 ∧ Below w0.heap.size w0 w' ∧ KeepBut w w' g none := by
 have HI0 := qS hI
 have HK := qS (KeepBut.refl w g none)
 have HL := qS hB.size
 clear hI
 have HW0 := qS hB.size
 have HB := qS hB
 clear hB
 have H : ((prf_state_rounds.f k s0_0 s0_1 s0_2 (Go.bits .xor .u64 s0_3 a1) 2).bind fun bt129 => (some (Go.bits .xor .u64 bt129.1 a1, bt129.2.1, bt129.2.2.1, bt129.2.2.2))) = some (r1, r2, r3, r4) := h
 clear h
 replace H := Option.bind_eq_some_iff.mp H
 obtain ⟨⟨t129, t130, t131, t132⟩, A30, H⟩ := H
 replace H : (some (Go.bits .xor .u64 t129 a1, t130, t131, t132)) = some (r1, r2, r3, r4) := H
 have A3 := qS A30
 clear A30
 as_aux_lemma =>
  simp only [Option.some.injEq, Prod.mk.injEq] at H
  obtain ⟨rfl, rfl, rfl, rfl⟩ := H
  obtain ⟨HGz4, hgz4⟩ := HI0.out
  have hcz4_0 := cellS58_0 HGz4
  have hcz4_1 := cellS58_1 HGz4
  have hcz4_2 := cellS58_2 HGz4
  have hcz4_3 := cellS58_3 HGz4
  have hfz4_0 := qF HGz4 0
  have hfz4_1 := qF HGz4 1
  have hfz4_2 := qF HGz4 2
  have hfz4_3 := qF HGz4 3
  clear HGz4 hgz4
  go_enter Try.func30, Try.ntmps30
  go_wp2_with (first | ((with_reducible refine gate_callee (f := 31) rfl ?_); refine goesL_ (some 13) rfl rfl Try.func31 (by kernel_rfl) rfl #[.pointer (some ⟨g, 0, none⟩), .int .i64 2] rfl (by (try simp only [List.map_toArray, List.map_cons, List.map_nil]); first | done | rfl | (simp only [*]; done) | (simp only [List.length_drop, List.length_take]; rfl) | (simp only [Act.eval, Array.getD_eq_getD_getElem?, Option.getD_some, *])) ?_; (with_reducible refine (prf_state_rounds.calls k g s0_0 s0_1 s0_2 (Go.bits .xor .u64 s0_3 a1) 2 t129 t130 t131 t132 w0 _ ?side1 ?side2 A3.out).mono ?_); (case side1 => repeat (first | (with_reducible first | exact HI0.out | apply IsS58.alloc | apply IsS58.drewN | apply IsS58.drew | apply IsS58.set_0 | apply IsS58.set_1 | apply IsS58.set_2 | apply IsS58.set_3) | exact HI0.out)); (case side2 => repeat (first | (with_reducible first | exact HB.out | apply qpA | apply qpN | apply qp1 | refine qpS ?_ (IsS58.ge HI0.out)) | exact HB.out)); rintro e w5 ⟨rfl, hi, hb, hk⟩; refine ⟨_, rfl, ?_⟩; have n0_ := qS (KeepBut.trans (by repeat (first | (with_reducible first | exact HK.out | apply KeepBut.set_ | apply keep_drewN | apply keep_drew | apply keep_alloc) | exact HK.out)) hk (.inl rfl)); have n1_ := qS (hb); have n2_ := qS (hi); clear HK; clear HB; clear HI0; have HK := n0_; have HB := n1_; have HI0 := n2_; clear n0_ n1_ n2_; (try clear hb); (try clear hb2); (try clear hk); (try clear hi); obtain ⟨HGz6, hgz6⟩ := HI0.out; have hcz6_0 := cellS58_0 HGz6; have hcz6_1 := cellS58_1 HGz6; have hcz6_2 := cellS58_2 HGz6; have hcz6_3 := cellS58_3 HGz6; have hfz6_0 := qF HGz6 0; have hfz6_1 := qF HGz6 1; have hfz6_2 := qF HGz6 2; have hfz6_3 := qF HGz6 3; clear HGz6 hgz6))
  first | go_end0 | ((try simp only [Exit.inBlock, Exit.then]); refine bodyPost_ret (results_none rfl _ _ _) rfl ?_)
  exact ⟨by first | rfl | (simp [errW_none, errW_some] <;> rfl) | (simp [*, errW_none, errW_some] <;> rfl), by repeat (first | (with_reducible first | exact HI0.out | apply IsS58.alloc | apply IsS58.drewN | apply IsS58.drew | apply IsS58.set_0 | apply IsS58.set_1 | apply IsS58.set_2 | apply IsS58.set_3) | exact HI0.out), by repeat (first | (with_reducible first | exact HB.out | apply qpA | apply qpN | apply qp1 | refine qpS ?_ (IsS58.ge HI0.out)) | exact HB.out), by repeat (first | (with_reducible first | exact HK.out | apply KeepBut.set_ | apply keep_drewN | apply keep_drew | apply keep_alloc) | exact HK.out)⟩

/-! ### fuseeref23_turned: function 55 -/
def fuseeref23_turned.f (a0 : Int) (a1 : Int) : Option (Int) := if 0 ≤ a1 then (if 0 ≤ (IntKind.u64.wrap (64 - a1)) then (some (IntKind.u64.wrap ((shl .u64 a0 a1) + (shr .u64 a0 (IntKind.u64.wrap (64 - a1)))))) else (none)) else (none)
set_option maxHeartbeats 8000000 in
set_option maxRecDepth 100000 in
theorem fuseeref23_turned.calls (a0 : Int) (a1 : Int) (r : Int) (w : World) (h : fuseeref23_turned.f a0 a1 = some r) :
  Calls Try.prog 55 #[.int .u64 a0, .int .u64 a1] w fun e w' => e = .returned (.int .u64 r) ∧ Drawn0 w w' := by
 have H : (if 0 ≤ a1 then (if 0 ≤ (IntKind.u64.wrap (64 - a1)) then (some (IntKind.u64.wrap ((shl .u64 a0 a1) + (shr .u64 a0 (IntKind.u64.wrap (64 - a1)))))) else (none)) else (none)) = some r := h
 clear h
 by_cases c3 : 0 ≤ a1
 ·rw [if_pos c3] at H
  have c3b0 := eq_true c3
  have c3b1 : decide (0 ≤ a1) = true := decide_eq_true c3
  clear c3
  obtain ⟨ji4, hji4⟩ : ∃ j_ : Int, (shl .u64 a0 a1) = j_ := ⟨_, rfl⟩
  replace H : (if 0 ≤ (IntKind.u64.wrap (64 - a1)) then (some (IntKind.u64.wrap ((ji4) + (shr .u64 a0 (IntKind.u64.wrap (64 - a1)))))) else (none)) = some r := by first | (rw [hji4] at H; exact H) | (simp only [hji4] at H ⊢; exact H)
  have hji4_ : (IntKind.u64.wrap (a0 * 2 ^ min a1.toNat 64)) = ji4 := hji4
  have hji4z : a1 ≤ 64 → (IntKind.u64.wrap (a0 * 2 ^ a1.toNat)) = ji4 := shl_small hji4
  obtain ⟨ji5, hji5⟩ : ∃ j_ : Int, (IntKind.u64.wrap (64 - a1)) = j_ := ⟨_, rfl⟩
  replace H : (if 0 ≤ (ji5) then (some (IntKind.u64.wrap ((ji4) + (shr .u64 a0 (ji5))))) else (none)) = some r := by first | (rw [hji5] at H; exact H) | (simp only [hji5] at H ⊢; exact H)
  by_cases c6 : 0 ≤ (ji5)
  ·rw [if_pos c6] at H
   have c6b0 := eq_true c6
   have c6b1 : decide (0 ≤ (ji5)) = true := decide_eq_true c6
   clear c6
   obtain ⟨ji7, hji7⟩ : ∃ j_ : Int, (shr .u64 a0 (ji5)) = j_ := ⟨_, rfl⟩
   replace H : (some (IntKind.u64.wrap ((ji4) + (ji7)))) = some r := by first | (rw [hji7] at H; exact H) | (simp only [hji7] at H ⊢; exact H)
   have hji7_ : (a0 / 2 ^ min (ji5).toNat 64) = ji7 := hji7
   have hji7z : (ji5) ≤ 64 → (a0 / 2 ^ (ji5).toNat) = ji7 := shr_small hji7
   as_aux_lemma =>
    obtain rfl := Option.some.inj H
    go_enter Try.func55, Try.ntmps55
    go_wp2
    go_ret
    exact ⟨by first | rfl | (simp; done) | (simp only [← hji4, ← hji5, ← hji7] <;> (first | rfl | simp)) | (simp [*]; done), by repeat (first | exact Drawn0.refl _ | apply Drawn0.step)⟩
  ·rw [if_neg c6] at H
   exact absurd H (by simp)
 ·rw [if_neg c3] at H
  exact absurd H (by simp)

/-! ### fuseeref23_round: function 33 -/
def fuseeref23_round.f (a0_0 : Int) (a0_1 : Int) (a0_2 : Int) (a0_3 : Int) : Option (Int × Int × Int × Int) := (fuseeref23_turned.f a0_1 13).bind fun t135 => ((fuseeref23_turned.f (IntKind.u64.wrap (a0_0 + a0_1)) 32).bind fun t136 => ((fuseeref23_turned.f a0_3 16).bind fun t137 => ((fuseeref23_turned.f (Go.bits .xor .u64 t137 (IntKind.u64.wrap (a0_2 + a0_3))) 21).bind fun t138 => ((fuseeref23_turned.f (Go.bits .xor .u64 t135 (IntKind.u64.wrap (a0_0 + a0_1))) 17).bind fun t139 => ((fuseeref23_turned.f (IntKind.u64.wrap ((IntKind.u64.wrap (a0_2 + a0_3)) + (Go.bits .xor .u64 t135 (IntKind.u64.wrap (a0_0 + a0_1))))) 32).bind fun t140 => (some (IntKind.u64.wrap (t136 + (Go.bits .xor .u64 t137 (IntKind.u64.wrap (a0_2 + a0_3)))), Go.bits .xor .u64 t139 (IntKind.u64.wrap ((IntKind.u64.wrap (a0_2 + a0_3)) + (Go.bits .xor .u64 t135 (IntKind.u64.wrap (a0_0 + a0_1))))), t140, Go.bits .xor .u64 t138 (IntKind.u64.wrap (t136 + (Go.bits .xor .u64 t137 (IntKind.u64.wrap (a0_2 + a0_3))))))))))))
def fuseeref23_round.T2 : Bool × List (List Nat × List Nat) := (true, [([], []), ([0], [0]), ([1], [1]), ([], []), ([3], [3]), ([2, 4], [2, 4]), ([0, 1, 2, 3, 4, 5], []), ([6, 5, 2, 0, 1, 2, 3, 4, 5], [5, 6])])
def fuseeref23_round.B2 : List Nat := [0, 1, 3, 0, 8, 31, 63, 127]
theorem fuseeref23_round.tab2 : rtab .any (opsOf Try.f33 2) = fuseeref23_round.T2 := by kernel_rfl
theorem fuseeref23_round.bits2 : waitsOk fuseeref23_round.T2.2 fuseeref23_round.B2 = true := by kernel_rfl
def fuseeref23_round.T5 : Bool × List (List Nat × List Nat) := (true, [([], []), ([0], [0]), ([1], [1]), ([], []), ([3], [3]), ([2, 4], [2, 4]), ([0, 1, 2, 3, 4, 5], []), ([6, 5, 2, 0, 1, 2, 3, 4, 5], [5, 6])])
def fuseeref23_round.B5 : List Nat := [0, 1, 3, 0, 8, 31, 63, 127]
theorem fuseeref23_round.tab5 : rtab .any (opsOf Try.f33 5) = fuseeref23_round.T5 := by kernel_rfl
theorem fuseeref23_round.bits5 : waitsOk fuseeref23_round.T5.2 fuseeref23_round.B5 = true := by kernel_rfl
def fuseeref23_round.T7 : Bool × List (List Nat × List Nat) := (true, [([], []), ([0], [0]), ([1], [1]), ([], []), ([3], [3]), ([2, 4], [2, 4]), ([0, 1, 2, 3, 4, 5], []), ([6, 5, 2, 0, 1, 2, 3, 4, 5], [5, 6])])
def fuseeref23_round.B7 : List Nat := [0, 1, 3, 0, 8, 31, 63, 127]
theorem fuseeref23_round.tab7 : rtab .any (opsOf Try.f33 7) = fuseeref23_round.T7 := by kernel_rfl
theorem fuseeref23_round.bits7 : waitsOk fuseeref23_round.T7.2 fuseeref23_round.B7 = true := by kernel_rfl
def fuseeref23_round.T9 : Bool × List (List Nat × List Nat) := (true, [([], []), ([0], [0]), ([1], [1]), ([], []), ([3], [3]), ([2, 4], [2, 4]), ([0, 1, 2, 3, 4, 5], []), ([6, 5, 2, 0, 1, 2, 3, 4, 5], [5, 6])])
def fuseeref23_round.B9 : List Nat := [0, 1, 3, 0, 8, 31, 63, 127]
theorem fuseeref23_round.tab9 : rtab .any (opsOf Try.f33 9) = fuseeref23_round.T9 := by kernel_rfl
theorem fuseeref23_round.bits9 : waitsOk fuseeref23_round.T9.2 fuseeref23_round.B9 = true := by kernel_rfl
set_option maxHeartbeats 8000000 in
set_option maxRecDepth 100000 in
theorem fuseeref23_round.calls (a0_0 : Int) (a0_1 : Int) (a0_2 : Int) (a0_3 : Int) (r1 : Int) (r2 : Int) (r3 : Int) (r4 : Int) (w : World) (h : fuseeref23_round.f a0_0 a0_1 a0_2 a0_3 = some (r1, r2, r3, r4)) :
  Calls Try.prog 33 #[.agg #[.int .u64 a0_0, .int .u64 a0_1, .int .u64 a0_2, .int .u64 a0_3]] w fun e w' => e = .returned (.agg #[.int .u64 r1, .int .u64 r2, .int .u64 r3, .int .u64 r4]) ∧ Below w.heap.size w w' := by
 have hu62 := Try.underlying62
 have HB := qS (Below.refl w.heap.size w)
 have H : ((fuseeref23_turned.f a0_1 13).bind fun t135 => ((fuseeref23_turned.f (IntKind.u64.wrap (a0_0 + a0_1)) 32).bind fun t136 => ((fuseeref23_turned.f a0_3 16).bind fun t137 => ((fuseeref23_turned.f (Go.bits .xor .u64 t137 (IntKind.u64.wrap (a0_2 + a0_3))) 21).bind fun t138 => ((fuseeref23_turned.f (Go.bits .xor .u64 t135 (IntKind.u64.wrap (a0_0 + a0_1))) 17).bind fun t139 => ((fuseeref23_turned.f (IntKind.u64.wrap ((IntKind.u64.wrap (a0_2 + a0_3)) + (Go.bits .xor .u64 t135 (IntKind.u64.wrap (a0_0 + a0_1))))) 32).bind fun t140 => (some (IntKind.u64.wrap (t136 + (Go.bits .xor .u64 t137 (IntKind.u64.wrap (a0_2 + a0_3)))), Go.bits .xor .u64 t139 (IntKind.u64.wrap ((IntKind.u64.wrap (a0_2 + a0_3)) + (Go.bits .xor .u64 t135 (IntKind.u64.wrap (a0_0 + a0_1))))), t140, Go.bits .xor .u64 t138 (IntKind.u64.wrap (t136 + (Go.bits .xor .u64 t137 (IntKind.u64.wrap (a0_2 + a0_3))))))))))))) = some (r1, r2, r3, r4) := h
 clear h
 replace H := Option.bind_eq_some_iff.mp H
 obtain ⟨t135, A20, H⟩ := H
 replace H : ((fuseeref23_turned.f (IntKind.u64.wrap (a0_0 + a0_1)) 32).bind fun t136 => ((fuseeref23_turned.f a0_3 16).bind fun t137 => ((fuseeref23_turned.f (Go.bits .xor .u64 t137 (IntKind.u64.wrap (a0_2 + a0_3))) 21).bind fun t138 => ((fuseeref23_turned.f (Go.bits .xor .u64 t135 (IntKind.u64.wrap (a0_0 + a0_1))) 17).bind fun t139 => ((fuseeref23_turned.f (IntKind.u64.wrap ((IntKind.u64.wrap (a0_2 + a0_3)) + (Go.bits .xor .u64 t135 (IntKind.u64.wrap (a0_0 + a0_1))))) 32).bind fun t140 => (some (IntKind.u64.wrap (t136 + (Go.bits .xor .u64 t137 (IntKind.u64.wrap (a0_2 + a0_3)))), Go.bits .xor .u64 t139 (IntKind.u64.wrap ((IntKind.u64.wrap (a0_2 + a0_3)) + (Go.bits .xor .u64 t135 (IntKind.u64.wrap (a0_0 + a0_1))))), t140, Go.bits .xor .u64 t138 (IntKind.u64.wrap (t136 + (Go.bits .xor .u64 t137 (IntKind.u64.wrap (a0_2 + a0_3)))))))))))) = some (r1, r2, r3, r4) := H
 have A2 := qS A20
 clear A20
 replace H := Option.bind_eq_some_iff.mp H
 obtain ⟨t136, A30, H⟩ := H
 replace H : ((fuseeref23_turned.f a0_3 16).bind fun t137 => ((fuseeref23_turned.f (Go.bits .xor .u64 t137 (IntKind.u64.wrap (a0_2 + a0_3))) 21).bind fun t138 => ((fuseeref23_turned.f (Go.bits .xor .u64 t135 (IntKind.u64.wrap (a0_0 + a0_1))) 17).bind fun t139 => ((fuseeref23_turned.f (IntKind.u64.wrap ((IntKind.u64.wrap (a0_2 + a0_3)) + (Go.bits .xor .u64 t135 (IntKind.u64.wrap (a0_0 + a0_1))))) 32).bind fun t140 => (some (IntKind.u64.wrap (t136 + (Go.bits .xor .u64 t137 (IntKind.u64.wrap (a0_2 + a0_3)))), Go.bits .xor .u64 t139 (IntKind.u64.wrap ((IntKind.u64.wrap (a0_2 + a0_3)) + (Go.bits .xor .u64 t135 (IntKind.u64.wrap (a0_0 + a0_1))))), t140, Go.bits .xor .u64 t138 (IntKind.u64.wrap (t136 + (Go.bits .xor .u64 t137 (IntKind.u64.wrap (a0_2 + a0_3))))))))))) = some (r1, r2, r3, r4) := H
 have A3 := qS A30
 clear A30
 replace H := Option.bind_eq_some_iff.mp H
 obtain ⟨t137, A40, H⟩ := H
 replace H : ((fuseeref23_turned.f (Go.bits .xor .u64 t137 (IntKind.u64.wrap (a0_2 + a0_3))) 21).bind fun t138 => ((fuseeref23_turned.f (Go.bits .xor .u64 t135 (IntKind.u64.wrap (a0_0 + a0_1))) 17).bind fun t139 => ((fuseeref23_turned.f (IntKind.u64.wrap ((IntKind.u64.wrap (a0_2 + a0_3)) + (Go.bits .xor .u64 t135 (IntKind.u64.wrap (a0_0 + a0_1))))) 32).bind fun t140 => (some (IntKind.u64.wrap (t136 + (Go.bits .xor .u64 t137 (IntKind.u64.wrap (a0_2 + a0_3)))), Go.bits .xor .u64 t139 (IntKind.u64.wrap ((IntKind.u64.wrap (a0_2 + a0_3)) + (Go.bits .xor .u64 t135 (IntKind.u64.wrap (a0_0 + a0_1))))), t140, Go.bits .xor .u64 t138 (IntKind.u64.wrap (t136 + (Go.bits .xor .u64 t137 (IntKind.u64.wrap (a0_2 + a0_3)))))))))) = some (r1, r2, r3, r4) := H
 have A4 := qS A40
 clear A40
 replace H := Option.bind_eq_some_iff.mp H
 obtain ⟨t138, A50, H⟩ := H
 replace H : ((fuseeref23_turned.f (Go.bits .xor .u64 t135 (IntKind.u64.wrap (a0_0 + a0_1))) 17).bind fun t139 => ((fuseeref23_turned.f (IntKind.u64.wrap ((IntKind.u64.wrap (a0_2 + a0_3)) + (Go.bits .xor .u64 t135 (IntKind.u64.wrap (a0_0 + a0_1))))) 32).bind fun t140 => (some (IntKind.u64.wrap (t136 + (Go.bits .xor .u64 t137 (IntKind.u64.wrap (a0_2 + a0_3)))), Go.bits .xor .u64 t139 (IntKind.u64.wrap ((IntKind.u64.wrap (a0_2 + a0_3)) + (Go.bits .xor .u64 t135 (IntKind.u64.wrap (a0_0 + a0_1))))), t140, Go.bits .xor .u64 t138 (IntKind.u64.wrap (t136 + (Go.bits .xor .u64 t137 (IntKind.u64.wrap (a0_2 + a0_3))))))))) = some (r1, r2, r3, r4) := H
 have A5 := qS A50
 clear A50
 replace H := Option.bind_eq_some_iff.mp H
 obtain ⟨t139, A60, H⟩ := H
 replace H : ((fuseeref23_turned.f (IntKind.u64.wrap ((IntKind.u64.wrap (a0_2 + a0_3)) + (Go.bits .xor .u64 t135 (IntKind.u64.wrap (a0_0 + a0_1))))) 32).bind fun t140 => (some (IntKind.u64.wrap (t136 + (Go.bits .xor .u64 t137 (IntKind.u64.wrap (a0_2 + a0_3)))), Go.bits .xor .u64 t139 (IntKind.u64.wrap ((IntKind.u64.wrap (a0_2 + a0_3)) + (Go.bits .xor .u64 t135 (IntKind.u64.wrap (a0_0 + a0_1))))), t140, Go.bits .xor .u64 t138 (IntKind.u64.wrap (t136 + (Go.bits .xor .u64 t137 (IntKind.u64.wrap (a0_2 + a0_3)))))))) = some (r1, r2, r3, r4) := H
 have A6 := qS A60
 clear A60
 replace H := Option.bind_eq_some_iff.mp H
 obtain ⟨t140, A70, H⟩ := H
 replace H : (some (IntKind.u64.wrap (t136 + (Go.bits .xor .u64 t137 (IntKind.u64.wrap (a0_2 + a0_3)))), Go.bits .xor .u64 t139 (IntKind.u64.wrap ((IntKind.u64.wrap (a0_2 + a0_3)) + (Go.bits .xor .u64 t135 (IntKind.u64.wrap (a0_0 + a0_1))))), t140, Go.bits .xor .u64 t138 (IntKind.u64.wrap (t136 + (Go.bits .xor .u64 t137 (IntKind.u64.wrap (a0_2 + a0_3))))))) = some (r1, r2, r3, r4) := H
 have A7 := qS A70
 clear A70
 as_aux_lemma =>
  simp only [Option.some.injEq, Prod.mk.injEq] at H
  obtain ⟨rfl, rfl, rfl, rfl⟩ := H
  go_enter Try.func33, Try.ntmps33
  try go_wp2_with (first | ((with_reducible refine gate_dst (N := 1) rfl ?_); refine box_event ?hg (N := 1) ?hd (cs := #[.int .u64 a0_0, .int .u64 a0_1, .int .u64 a0_2, .int .u64 a0_3]) (t := 62) ?hr ?_; (case hd => rfl); (case hg => rfl); (case hr => first | (go_simp; done) | (go_simp; rfl)); intro gb133 hg w8 hbox hb; have n0_ := qS (below_step (by repeat (first | (with_reducible first | exact HB.out | apply qpA | apply qpN | apply qp1) | exact HB.out)) hb); have n1_ := qS (hbox); have n2_ := qS ((by rw [hg]; exact (below_size (by repeat (first | (with_reducible first | exact HB.out | apply qpA | apply qpN | apply qp1) | exact HB.out))) : w.heap.size ≤ gb133)); have n3_ := qS ((by rw [hg]; exact (below_size (by repeat (first | (with_reducible first | exact HB.out | apply qpA | apply qpN | apply qp1) | exact HB.out))) : w.heap.size ≤ gb133)); clear HB; have HB := n0_; have BK133 := n1_; have GW133 := n2_; have GE133 := n3_; clear n0_ n1_ n2_ n3_; clear hb hbox hg) | ((with_reducible refine gate_dst (N := 2) rfl ?_); refine box_event ?hg (N := 2) ?hd (cs := #[.int .u64 0, .int .u64 0, .int .u64 0, .int .u64 0]) (t := 62) ?hr ?_; (case hd => rfl); (case hg => rfl); (case hr => first | (go_simp; done) | (go_simp; rfl)); intro gb134 hg w9 hbox hb; have n0_ := qS (qB (g := gb133) (o := .cells #[.int .u64 a0_0, .int .u64 a0_1, .int .u64 a0_2, .int .u64 a0_3] 62 (0, 0)) (by (with_reducible repeat (first | refine qN ?_ _ | refine qD ?_ | refine qA ?_ _)); exact BK133.out) hb); have n1_ := qS (below_step (by repeat (first | (with_reducible first | exact HB.out | apply qpA | apply qpN | apply qp1 | refine qpS ?_ GE133.out) | exact HB.out)) hb); have n2_ := qS (hbox); have n3_ := qS ((by rw [hg]; exact (below_size (by repeat (first | (with_reducible first | exact HB.out | apply qpA | apply qpN | apply qp1 | refine qpS ?_ GE133.out) | exact HB.out))) : w.heap.size ≤ gb134)); have n4_ := qS ((by rw [hg]; exact (below_size (by repeat (first | (with_reducible first | exact HB.out | apply qpA | apply qpN | apply qp1 | refine qpS ?_ GE133.out) | exact HB.out))) : w.heap.size ≤ gb134)); have n5_ := qS ((by rw [hg]; exact Nat.ne_of_lt (blk_lt (g := gb133) (o := .cells #[.int .u64 a0_0, .int .u64 a0_1, .int .u64 a0_2, .int .u64 a0_3] 62 (0, 0)) (by (with_reducible repeat (first | refine qN ?_ _ | refine qD ?_ | refine qA ?_ _)); exact BK133.out)) : gb133 ≠ gb134)); have n6_ := qS ((by rw [hg]; exact Nat.ne_of_gt (blk_lt (g := gb133) (o := .cells #[.int .u64 a0_0, .int .u64 a0_1, .int .u64 a0_2, .int .u64 a0_3] 62 (0, 0)) (by (with_reducible repeat (first | refine qN ?_ _ | refine qD ?_ | refine qA ?_ _)); exact BK133.out)) : gb134 ≠ gb133)); clear BK133; clear HB; have BK133 := n0_; have HB := n1_; have BK134 := n2_; have GW134 := n3_; have GE134 := n4_; have NB133_134 := n5_; have NB134_133 := n6_; clear n0_ n1_ n2_ n3_ n4_ n5_ n6_; clear hb hbox hg; have hnb10 := NB133_134.out; have hnc10 := NB134_133.out; have hcz11_0 : w9.cell? ⟨gb133, 0, none⟩ = some (.int .u64 a0_0) := (qC BK133.out 0).trans rfl; have hcz11_1 : w9.cell? ⟨gb133, 1, none⟩ = some (.int .u64 a0_1) := (qC BK133.out 1).trans rfl; have hcz11_2 : w9.cell? ⟨gb133, 2, none⟩ = some (.int .u64 a0_2) := (qC BK133.out 2).trans rfl; have hcz11_3 : w9.cell? ⟨gb133, 3, none⟩ = some (.int .u64 a0_3) := (qC BK133.out 3).trans rfl; have hfz11_0 := qF BK133.out 0; have hfz11_1 := qF BK133.out 1; have hfz11_2 := qF BK133.out 2; have hfz11_3 := qF BK133.out 3))
  refine name_w (fun w12 hq_ => ?_)
  have n0_ : Aside0 (w12.heap[gb133]? = some (.cells #[.int .u64 (IntKind.u64.wrap (a0_0 + a0_1)), .int .u64 a0_1, .int .u64 a0_2, .int .u64 a0_3] 62 (0, 0))) := ⟨by rw [hq_]; exact (by (with_reducible repeat (first | refine qN ?_ _ | refine qD ?_ | refine qA ?_ _)); refine blk_put (cs := #[.int .u64 a0_0, .int .u64 a0_1, .int .u64 a0_2, .int .u64 a0_3]) ?_ 0 _ rfl; (with_reducible repeat (first | refine qN ?_ _ | refine qD ?_ | refine qA ?_ _)); exact BK133.out)⟩
  have n1_ : Aside0 (w12.heap[gb134]? = some (.cells #[.int .u64 0, .int .u64 0, .int .u64 0, .int .u64 0] 62 (0, 0))) := ⟨by rw [hq_]; exact (by (with_reducible repeat (first | refine qN ?_ _ | refine qD ?_ | refine qA ?_ _)); refine blk_far ?_ NB134_133.out _; (with_reducible repeat (first | refine qN ?_ _ | refine qD ?_ | refine qA ?_ _)); exact BK134.out)⟩
  have n2_ : Aside0 (Below w.heap.size w w12) := ⟨by rw [hq_]; exact (by repeat (first | (with_reducible first | exact HB.out | apply qpA | apply qpN | apply qp1 | refine qpS ?_ GE133.out | refine qpS ?_ GE134.out) | exact HB.out))⟩
  clear hq_
  (try clear BK133)
  (try clear BK134)
  (try clear HB)
  have BK133 := n0_
  have BK134 := n1_
  have HB := n2_
  clear n0_ n1_ n2_
  have n0_ := qS (qD BK133.out)
  have n1_ := qS (qD BK134.out)
  have n2_ := qS (qp1 HB.out)
  clear BK133
  clear BK134
  clear HB
  have BK133 := n0_
  have BK134 := n1_
  have HB := n2_
  clear n0_ n1_ n2_
  refine start_ (n := 8) (S := fun w' => w'.cell? ⟨gb133, 0, none⟩ = some (.int .u64 (IntKind.u64.wrap (a0_0 + a0_1))) ∧ w'.cell? ⟨gb133, 1, none⟩ = some (.int .u64 a0_1) ∧ w'.cell? ⟨gb133, 2, none⟩ = some (.int .u64 a0_2) ∧ w'.cell? ⟨gb133, 3, none⟩ = some (.int .u64 a0_3)) (ds := [7]) #[false, false, false, false, false, false, false, false] (by kernel_rfl) rfl rfl ⟨(qC BK133.out 0).trans rfl, (qC BK133.out 1).trans rfl, (qC BK133.out 2).trans rfl, (qC BK133.out 3).trans rfl⟩ (fun hHeld => ?_); refine with_tabW fuseeref23_round.tab2 fuseeref23_round.bits2 (fun HT_ HW_ => ?_)
  generalize w12.drew = w13 at BK133 BK134 HB hHeld ⊢
  refine pure_ (i := 0) (N := some 9) (v := ?_) (a' := ?_) #[true, false, false, false, false, false, false, false] rfl rfl (any_of HT_.out (by kernel_rfl)) (fun _ _ _ h => h) (Or.inl ⟨by rfl, ?_⟩) ?_ ?_
  rotate_left
  ·intro w'
   go_simp
   with_reducible rfl
  rotate_left
  ·simp only [Act.put, List.setIfInBounds_toArray, List.set_cons_zero, List.set_cons_succ, i64_w, i32_w]
   rfl
  refine pure_ (i := 3) (N := some 12) (v := ?_) (a' := ?_) #[true, false, false, true, false, false, false, false] rfl rfl (any_of HT_.out (by kernel_rfl)) (fun _ _ _ h => h) (Or.inl ⟨by rfl, ?_⟩) ?_ ?_
  rotate_left
  ·intro w'
   go_simp
   with_reducible rfl
  rotate_left
  ·simp only [Act.put, List.setIfInBounds_toArray, List.set_cons_zero, List.set_cons_succ, i64_w, i32_w]
   rfl
  refine take_ (i := 1) (N := some 10) (v := ?_) (a' := ?_) #[true, true, false, true, false, false, false, false] rfl rfl (take_ofW HT_.out HW_.out (by kernel_rfl)) (fun _ _ _ h => h) (Or.inl ⟨by rfl, ?_⟩) hHeld ?_ ?_
  rotate_left
  ·rintro w' ⟨s0, s1, s2, s3⟩
   go_simp
   with_reducible rfl
  rotate_left
  ·simp only [Act.put, List.setIfInBounds_toArray, List.set_cons_zero, List.set_cons_succ, i64_w, i32_w]
   rfl
  refine take_ (i := 4) (N := some 13) (v := ?_) (a' := ?_) #[true, true, false, true, true, false, false, false] rfl rfl (take_ofW HT_.out HW_.out (by kernel_rfl)) (fun _ _ _ h => h) (Or.inl ⟨by rfl, ?_⟩) hHeld ?_ ?_
  rotate_left
  ·rintro w' ⟨s0, s1, s2, s3⟩
   go_simp
   with_reducible rfl
  rotate_left
  ·simp only [Act.put, List.setIfInBounds_toArray, List.set_cons_zero, List.set_cons_succ, i64_w, i32_w]
   rfl
  refine one_ (i := 2) (N := some 11) #[true, true, true, true, true, false, false, false] rfl rfl (one_of HT_.out (by kernel_rfl)) (by decide) (fun K hK => ?_)
  refine goes_ Try.func55 (by kernel_rfl) rfl #[.int .u64 a0_1, .int .u64 13] (by rfl) rfl rfl (by (try simp only [List.map_toArray, List.map_cons, List.map_nil]); first | done | rfl | (simp only [*]; done) | (simp only [List.length_drop, List.length_take]; rfl) | (simp only [Act.eval, Array.getD_eq_getD_getElem?, Option.getD_some, *])) ?_
  with_reducible refine (fuseeref23_turned.calls a0_1 13 t135 _ A2.out).mono ?_
  rintro e w' ⟨rfl, ⟨nd, rfl⟩⟩
  refine ⟨_, rfl, ?_⟩
  refine hK.out _ _ ⟨(qC BK133.out 0).trans rfl, (qC BK133.out 1).trans rfl, (qC BK133.out 2).trans rfl, (qC BK133.out 3).trans rfl⟩ (fun hHeld => ?_)
  clear hK K
  refine norm_ (a' := ?_) ?_ ?_
  rotate_left
  ·show Act.put _ (some 11) _ = _
   simp only [Act.put, List.setIfInBounds_toArray, List.set_cons_zero, List.set_cons_succ, i64_w, i32_w]
   rfl
  refine pure_ (i := 5) (N := some 14) (v := ?_) (a' := ?_) #[true, true, true, true, true, true, false, false] rfl rfl (any_of HT_.out (by kernel_rfl)) (fun _ _ _ h => h) (Or.inl ⟨by rfl, ?_⟩) ?_ ?_
  rotate_left
  ·intro w'
   go_simp
   with_reducible rfl
  rotate_left
  ·simp only [Act.put, List.setIfInBounds_toArray, List.set_cons_zero, List.set_cons_succ, i64_w, i32_w]
   rfl
  refine pure_ (i := 6) (N := some 15) (v := ?_) (a' := ?_) #[true, true, true, true, true, true, true, false] rfl rfl (any_of HT_.out (by kernel_rfl)) (fun _ _ _ h => h) (Or.inl ⟨by rfl, ?_⟩) ?_ ?_
  rotate_left
  ·intro w'
   go_simp
   with_reducible rfl
  rotate_left
  ·simp only [Act.put, List.setIfInBounds_toArray, List.set_cons_zero, List.set_cons_succ, i64_w, i32_w]
   rfl
  refine last_ (i := 7) (N := none) #[true, true, true, true, true, true, true, true] rfl rfl (one_of HT_.out (by kernel_rfl)) (by decide) (fun K hK => ?_)
  have hs14 : w13.cell? ⟨gb133, 1, none⟩ = some (.int .u64 a0_1) := (qC BK133.out 1).trans rfl
  have hfs14 := qF BK133.out 1
  have hns14_1 := NB134_133.out
  have hms14_1 := NB133_134.out
  refine skip_ (w1 := ?_) (by rfl) rfl ?_ ?_
  rotate_left
  ·go_simp
   rfl
  refine hK.out _ _ ?_
  clear hK K
  refine done_ (done_of HT_.out (by kernel_rfl)) ?_
  have hcz15_0 : w13.cell? ⟨gb133, 0, none⟩ = some (.int .u64 (IntKind.u64.wrap (a0_0 + a0_1))) := (qC BK133.out 0).trans rfl
  have hcz15_1 : w13.cell? ⟨gb133, 1, none⟩ = some (.int .u64 a0_1) := (qC BK133.out 1).trans rfl
  have hcz15_2 : w13.cell? ⟨gb133, 2, none⟩ = some (.int .u64 a0_2) := (qC BK133.out 2).trans rfl
  have hcz15_3 : w13.cell? ⟨gb133, 3, none⟩ = some (.int .u64 a0_3) := (qC BK133.out 3).trans rfl
  have hfz15_0 := qF BK133.out 0
  have hfz15_1 := qF BK133.out 1
  have hfz15_2 := qF BK133.out 2
  have hfz15_3 := qF BK133.out 3
  try go_wp2_with (first | ((with_reducible refine gate_callee (f := 55) rfl ?_); refine goesL_ (some 18) rfl rfl Try.func55 (by kernel_rfl) rfl #[.int .u64 (IntKind.u64.wrap (a0_0 + a0_1)), .int .u64 32] rfl (by (try simp only [List.map_toArray, List.map_cons, List.map_nil]); first | done | rfl | (simp only [*]; done) | (simp only [List.length_drop, List.length_take]; rfl) | (simp only [Act.eval, Array.getD_eq_getD_getElem?, Option.getD_some, *])) ?_; (with_reducible refine (fuseeref23_turned.calls (IntKind.u64.wrap (a0_0 + a0_1)) 32 t136 _ A3.out).mono ?_); rintro e w' ⟨rfl, ⟨nd, rfl⟩⟩; refine ⟨_, rfl, ?_⟩))
  refine name_w (fun w16 hq_ => ?_)
  have n0_ : Aside0 (w16.heap[gb133]? = some (.cells #[.int .u64 t136, .int .u64 (Go.bits .xor .u64 t135 (IntKind.u64.wrap (a0_0 + a0_1))), .int .u64 (IntKind.u64.wrap (a0_2 + a0_3)), .int .u64 a0_3] 62 (0, 0))) := ⟨by rw [hq_]; exact (by (with_reducible repeat (first | refine qN ?_ _ | refine qD ?_ | refine qA ?_ _)); refine blk_put (cs := #[.int .u64 t136, .int .u64 (Go.bits .xor .u64 t135 (IntKind.u64.wrap (a0_0 + a0_1))), .int .u64 a0_2, .int .u64 a0_3]) ?_ 2 _ rfl; (with_reducible repeat (first | refine qN ?_ _ | refine qD ?_ | refine qA ?_ _)); refine blk_put (cs := #[.int .u64 (IntKind.u64.wrap (a0_0 + a0_1)), .int .u64 (Go.bits .xor .u64 t135 (IntKind.u64.wrap (a0_0 + a0_1))), .int .u64 a0_2, .int .u64 a0_3]) ?_ 0 _ rfl; (with_reducible repeat (first | refine qN ?_ _ | refine qD ?_ | refine qA ?_ _)); refine blk_put (cs := #[.int .u64 (IntKind.u64.wrap (a0_0 + a0_1)), .int .u64 a0_1, .int .u64 a0_2, .int .u64 a0_3]) ?_ 1 _ rfl; (with_reducible repeat (first | refine qN ?_ _ | refine qD ?_ | refine qA ?_ _)); exact BK133.out)⟩
  have n1_ : Aside0 (w16.heap[gb134]? = some (.cells #[.int .u64 0, .int .u64 0, .int .u64 0, .int .u64 0] 62 (0, 0))) := ⟨by rw [hq_]; exact (by (with_reducible repeat (first | refine qN ?_ _ | refine qD ?_ | refine qA ?_ _)); refine blk_far ?_ NB134_133.out _; (with_reducible repeat (first | refine qN ?_ _ | refine qD ?_ | refine qA ?_ _)); refine blk_far ?_ NB134_133.out _; (with_reducible repeat (first | refine qN ?_ _ | refine qD ?_ | refine qA ?_ _)); refine blk_far ?_ NB134_133.out _; (with_reducible repeat (first | refine qN ?_ _ | refine qD ?_ | refine qA ?_ _)); exact BK134.out)⟩
  have n2_ : Aside0 (Below w.heap.size w w16) := ⟨by rw [hq_]; exact (by repeat (first | (with_reducible first | exact HB.out | apply qpA | apply qpN | apply qp1 | refine qpS ?_ GE133.out | refine qpS ?_ GE134.out) | exact HB.out))⟩
  clear hq_
  (try clear BK133)
  (try clear BK134)
  (try clear HB)
  have BK133 := n0_
  have BK134 := n1_
  have HB := n2_
  clear n0_ n1_ n2_
  (try (rw [drewN_self w16]; generalize hq_ : World.drewN w16 _ = w16; have n0_ : Aside0 (w16.heap[gb133]? = some (.cells #[.int .u64 t136, .int .u64 (Go.bits .xor .u64 t135 (IntKind.u64.wrap (a0_0 + a0_1))), .int .u64 (IntKind.u64.wrap (a0_2 + a0_3)), .int .u64 a0_3] 62 (0, 0))) := ⟨by rw [← hq_]; exact (by (with_reducible repeat (first | refine qN ?_ _ | refine qD ?_ | refine qA ?_ _)); exact BK133.out)⟩; have n1_ : Aside0 (w16.heap[gb134]? = some (.cells #[.int .u64 0, .int .u64 0, .int .u64 0, .int .u64 0] 62 (0, 0))) := ⟨by rw [← hq_]; exact (by (with_reducible repeat (first | refine qN ?_ _ | refine qD ?_ | refine qA ?_ _)); exact BK134.out)⟩; have n2_ : Aside0 (Below w.heap.size w w16) := ⟨by rw [← hq_]; exact (by repeat (first | (with_reducible first | exact HB.out | apply qpA | apply qpN | apply qp1 | refine qpS ?_ GE133.out | refine qpS ?_ GE134.out) | exact HB.out))⟩; clear BK133 BK134 HB hq_; have BK133 := n0_; have BK134 := n1_; have HB := n2_; clear n0_ n1_ n2_))
  have n0_ := qS (qD BK133.out)
  have n1_ := qS (qD BK134.out)
  have n2_ := qS (qp1 HB.out)
  clear BK133
  clear BK134
  clear HB
  have BK133 := n0_
  have BK134 := n1_
  have HB := n2_
  clear n0_ n1_ n2_
  refine start_ (n := 8) (S := fun w' => w'.cell? ⟨gb133, 0, none⟩ = some (.int .u64 t136) ∧ w'.cell? ⟨gb133, 1, none⟩ = some (.int .u64 (Go.bits .xor .u64 t135 (IntKind.u64.wrap (a0_0 + a0_1)))) ∧ w'.cell? ⟨gb133, 2, none⟩ = some (.int .u64 (IntKind.u64.wrap (a0_2 + a0_3))) ∧ w'.cell? ⟨gb133, 3, none⟩ = some (.int .u64 a0_3)) (ds := [7]) #[false, false, false, false, false, false, false, false] (by kernel_rfl) rfl rfl ⟨(qC BK133.out 0).trans rfl, (qC BK133.out 1).trans rfl, (qC BK133.out 2).trans rfl, (qC BK133.out 3).trans rfl⟩ (fun hHeld => ?_); refine with_tabW fuseeref23_round.tab5 fuseeref23_round.bits5 (fun HT_ HW_ => ?_)
  generalize w16.drew = w17 at BK133 BK134 HB hHeld ⊢
  refine pure_ (i := 0) (N := some 26) (v := ?_) (a' := ?_) #[true, false, false, false, false, false, false, false] rfl rfl (any_of HT_.out (by kernel_rfl)) (fun _ _ _ h => h) (Or.inl ⟨by rfl, ?_⟩) ?_ ?_
  rotate_left
  ·intro w'
   go_simp
   with_reducible rfl
  rotate_left
  ·simp only [Act.put, List.setIfInBounds_toArray, List.set_cons_zero, List.set_cons_succ, i64_w, i32_w]
   rfl
  refine pure_ (i := 3) (N := some 29) (v := ?_) (a' := ?_) #[true, false, false, true, false, false, false, false] rfl rfl (any_of HT_.out (by kernel_rfl)) (fun _ _ _ h => h) (Or.inl ⟨by rfl, ?_⟩) ?_ ?_
  rotate_left
  ·intro w'
   go_simp
   with_reducible rfl
  rotate_left
  ·simp only [Act.put, List.setIfInBounds_toArray, List.set_cons_zero, List.set_cons_succ, i64_w, i32_w]
   rfl
  refine take_ (i := 1) (N := some 27) (v := ?_) (a' := ?_) #[true, true, false, true, false, false, false, false] rfl rfl (take_ofW HT_.out HW_.out (by kernel_rfl)) (fun _ _ _ h => h) (Or.inl ⟨by rfl, ?_⟩) hHeld ?_ ?_
  rotate_left
  ·rintro w' ⟨s0, s1, s2, s3⟩
   go_simp
   with_reducible rfl
  rotate_left
  ·simp only [Act.put, List.setIfInBounds_toArray, List.set_cons_zero, List.set_cons_succ, i64_w, i32_w]
   rfl
  refine take_ (i := 4) (N := some 30) (v := ?_) (a' := ?_) #[true, true, false, true, true, false, false, false] rfl rfl (take_ofW HT_.out HW_.out (by kernel_rfl)) (fun _ _ _ h => h) (Or.inl ⟨by rfl, ?_⟩) hHeld ?_ ?_
  rotate_left
  ·rintro w' ⟨s0, s1, s2, s3⟩
   go_simp
   with_reducible rfl
  rotate_left
  ·simp only [Act.put, List.setIfInBounds_toArray, List.set_cons_zero, List.set_cons_succ, i64_w, i32_w]
   rfl
  refine one_ (i := 2) (N := some 28) #[true, true, true, true, true, false, false, false] rfl rfl (one_of HT_.out (by kernel_rfl)) (by decide) (fun K hK => ?_)
  refine goes_ Try.func55 (by kernel_rfl) rfl #[.int .u64 a0_3, .int .u64 16] (by rfl) rfl rfl (by (try simp only [List.map_toArray, List.map_cons, List.map_nil]); first | done | rfl | (simp only [*]; done) | (simp only [List.length_drop, List.length_take]; rfl) | (simp only [Act.eval, Array.getD_eq_getD_getElem?, Option.getD_some, *])) ?_
  with_reducible refine (fuseeref23_turned.calls a0_3 16 t137 _ A4.out).mono ?_
  rintro e w' ⟨rfl, ⟨nd, rfl⟩⟩
  refine ⟨_, rfl, ?_⟩
  refine hK.out _ _ ⟨(qC BK133.out 0).trans rfl, (qC BK133.out 1).trans rfl, (qC BK133.out 2).trans rfl, (qC BK133.out 3).trans rfl⟩ (fun hHeld => ?_)
  clear hK K
  refine norm_ (a' := ?_) ?_ ?_
  rotate_left
  ·show Act.put _ (some 28) _ = _
   simp only [Act.put, List.setIfInBounds_toArray, List.set_cons_zero, List.set_cons_succ, i64_w, i32_w]
   rfl
  refine pure_ (i := 5) (N := some 31) (v := ?_) (a' := ?_) #[true, true, true, true, true, true, false, false] rfl rfl (any_of HT_.out (by kernel_rfl)) (fun _ _ _ h => h) (Or.inl ⟨by rfl, ?_⟩) ?_ ?_
  rotate_left
  ·intro w'
   go_simp
   with_reducible rfl
  rotate_left
  ·simp only [Act.put, List.setIfInBounds_toArray, List.set_cons_zero, List.set_cons_succ, i64_w, i32_w]
   rfl
  refine pure_ (i := 6) (N := some 32) (v := ?_) (a' := ?_) #[true, true, true, true, true, true, true, false] rfl rfl (any_of HT_.out (by kernel_rfl)) (fun _ _ _ h => h) (Or.inl ⟨by rfl, ?_⟩) ?_ ?_
  rotate_left
  ·intro w'
   go_simp
   with_reducible rfl
  rotate_left
  ·simp only [Act.put, List.setIfInBounds_toArray, List.set_cons_zero, List.set_cons_succ, i64_w, i32_w]
   rfl
  refine last_ (i := 7) (N := none) #[true, true, true, true, true, true, true, true] rfl rfl (one_of HT_.out (by kernel_rfl)) (by decide) (fun K hK => ?_)
  have hs18 : w17.cell? ⟨gb133, 3, none⟩ = some (.int .u64 a0_3) := (qC BK133.out 3).trans rfl
  have hfs18 := qF BK133.out 3
  have hns18_1 := NB134_133.out
  have hms18_1 := NB133_134.out
  refine skip_ (w1 := ?_) (by rfl) rfl ?_ ?_
  rotate_left
  ·go_simp
   rfl
  refine hK.out _ _ ?_
  clear hK K
  refine done_ (done_of HT_.out (by kernel_rfl)) ?_
  have hcz19_0 : w17.cell? ⟨gb133, 0, none⟩ = some (.int .u64 t136) := (qC BK133.out 0).trans rfl
  have hcz19_1 : w17.cell? ⟨gb133, 1, none⟩ = some (.int .u64 (Go.bits .xor .u64 t135 (IntKind.u64.wrap (a0_0 + a0_1)))) := (qC BK133.out 1).trans rfl
  have hcz19_2 : w17.cell? ⟨gb133, 2, none⟩ = some (.int .u64 (IntKind.u64.wrap (a0_2 + a0_3))) := (qC BK133.out 2).trans rfl
  have hcz19_3 : w17.cell? ⟨gb133, 3, none⟩ = some (.int .u64 a0_3) := (qC BK133.out 3).trans rfl
  have hfz19_0 := qF BK133.out 0
  have hfz19_1 := qF BK133.out 1
  have hfz19_2 := qF BK133.out 2
  have hfz19_3 := qF BK133.out 3
  try go_wp2
  refine name_w (fun w20 hq_ => ?_)
  have n0_ : Aside0 (w20.heap[gb133]? = some (.cells #[.int .u64 (IntKind.u64.wrap (t136 + (Go.bits .xor .u64 t137 (IntKind.u64.wrap (a0_2 + a0_3))))), .int .u64 (Go.bits .xor .u64 t135 (IntKind.u64.wrap (a0_0 + a0_1))), .int .u64 (IntKind.u64.wrap (a0_2 + a0_3)), .int .u64 (Go.bits .xor .u64 t137 (IntKind.u64.wrap (a0_2 + a0_3)))] 62 (0, 0))) := ⟨by rw [hq_]; exact (by (with_reducible repeat (first | refine qN ?_ _ | refine qD ?_ | refine qA ?_ _)); refine blk_put (cs := #[.int .u64 t136, .int .u64 (Go.bits .xor .u64 t135 (IntKind.u64.wrap (a0_0 + a0_1))), .int .u64 (IntKind.u64.wrap (a0_2 + a0_3)), .int .u64 (Go.bits .xor .u64 t137 (IntKind.u64.wrap (a0_2 + a0_3)))]) ?_ 0 _ rfl; (with_reducible repeat (first | refine qN ?_ _ | refine qD ?_ | refine qA ?_ _)); refine blk_put (cs := #[.int .u64 t136, .int .u64 (Go.bits .xor .u64 t135 (IntKind.u64.wrap (a0_0 + a0_1))), .int .u64 (IntKind.u64.wrap (a0_2 + a0_3)), .int .u64 a0_3]) ?_ 3 _ rfl; (with_reducible repeat (first | refine qN ?_ _ | refine qD ?_ | refine qA ?_ _)); exact BK133.out)⟩
  have n1_ : Aside0 (w20.heap[gb134]? = some (.cells #[.int .u64 0, .int .u64 0, .int .u64 0, .int .u64 0] 62 (0, 0))) := ⟨by rw [hq_]; exact (by (with_reducible repeat (first | refine qN ?_ _ | refine qD ?_ | refine qA ?_ _)); refine blk_far ?_ NB134_133.out _; (with_reducible repeat (first | refine qN ?_ _ | refine qD ?_ | refine qA ?_ _)); refine blk_far ?_ NB134_133.out _; (with_reducible repeat (first | refine qN ?_ _ | refine qD ?_ | refine qA ?_ _)); exact BK134.out)⟩
  have n2_ : Aside0 (Below w.heap.size w w20) := ⟨by rw [hq_]; exact (by repeat (first | (with_reducible first | exact HB.out | apply qpA | apply qpN | apply qp1 | refine qpS ?_ GE133.out | refine qpS ?_ GE134.out) | exact HB.out))⟩
  clear hq_
  (try clear BK133)
  (try clear BK134)
  (try clear HB)
  have BK133 := n0_
  have BK134 := n1_
  have HB := n2_
  clear n0_ n1_ n2_
  (try (rw [drewN_self w20]; generalize hq_ : World.drewN w20 _ = w20; have n0_ : Aside0 (w20.heap[gb133]? = some (.cells #[.int .u64 (IntKind.u64.wrap (t136 + (Go.bits .xor .u64 t137 (IntKind.u64.wrap (a0_2 + a0_3))))), .int .u64 (Go.bits .xor .u64 t135 (IntKind.u64.wrap (a0_0 + a0_1))), .int .u64 (IntKind.u64.wrap (a0_2 + a0_3)), .int .u64 (Go.bits .xor .u64 t137 (IntKind.u64.wrap (a0_2 + a0_3)))] 62 (0, 0))) := ⟨by rw [← hq_]; exact (by (with_reducible repeat (first | refine qN ?_ _ | refine qD ?_ | refine qA ?_ _)); exact BK133.out)⟩; have n1_ : Aside0 (w20.heap[gb134]? = some (.cells #[.int .u64 0, .int .u64 0, .int .u64 0, .int .u64 0] 62 (0, 0))) := ⟨by rw [← hq_]; exact (by (with_reducible repeat (first | refine qN ?_ _ | refine qD ?_ | refine qA ?_ _)); exact BK134.out)⟩; have n2_ : Aside0 (Below w.heap.size w w20) := ⟨by rw [← hq_]; exact (by repeat (first | (with_reducible first | exact HB.out | apply qpA | apply qpN | apply qp1 | refine qpS ?_ GE133.out | refine qpS ?_ GE134.out) | exact HB.out))⟩; clear BK133 BK134 HB hq_; have BK133 := n0_; have BK134 := n1_; have HB := n2_; clear n0_ n1_ n2_))
  have n0_ := qS (qD BK133.out)
  have n1_ := qS (qD BK134.out)
  have n2_ := qS (qp1 HB.out)
  clear BK133
  clear BK134
  clear HB
  have BK133 := n0_
  have BK134 := n1_
  have HB := n2_
  clear n0_ n1_ n2_
  refine start_ (n := 8) (S := fun w' => w'.cell? ⟨gb133, 0, none⟩ = some (.int .u64 (IntKind.u64.wrap (t136 + (Go.bits .xor .u64 t137 (IntKind.u64.wrap (a0_2 + a0_3)))))) ∧ w'.cell? ⟨gb133, 1, none⟩ = some (.int .u64 (Go.bits .xor .u64 t135 (IntKind.u64.wrap (a0_0 + a0_1)))) ∧ w'.cell? ⟨gb133, 2, none⟩ = some (.int .u64 (IntKind.u64.wrap (a0_2 + a0_3))) ∧ w'.cell? ⟨gb133, 3, none⟩ = some (.int .u64 (Go.bits .xor .u64 t137 (IntKind.u64.wrap (a0_2 + a0_3))))) (ds := [7]) #[false, false, false, false, false, false, false, false] (by kernel_rfl) rfl rfl ⟨(qC BK133.out 0).trans rfl, (qC BK133.out 1).trans rfl, (qC BK133.out 2).trans rfl, (qC BK133.out 3).trans rfl⟩ (fun hHeld => ?_); refine with_tabW fuseeref23_round.tab7 fuseeref23_round.bits7 (fun HT_ HW_ => ?_)
  generalize w20.drew = w21 at BK133 BK134 HB hHeld ⊢
  refine pure_ (i := 0) (N := some 39) (v := ?_) (a' := ?_) #[true, false, false, false, false, false, false, false] rfl rfl (any_of HT_.out (by kernel_rfl)) (fun _ _ _ h => h) (Or.inl ⟨by rfl, ?_⟩) ?_ ?_
  rotate_left
  ·intro w'
   go_simp
   with_reducible rfl
  rotate_left
  ·simp only [Act.put, List.setIfInBounds_toArray, List.set_cons_zero, List.set_cons_succ, i64_w, i32_w]
   rfl
  refine pure_ (i := 3) (N := some 42) (v := ?_) (a' := ?_) #[true, false, false, true, false, false, false, false] rfl rfl (any_of HT_.out (by kernel_rfl)) (fun _ _ _ h => h) (Or.inl ⟨by rfl, ?_⟩) ?_ ?_
  rotate_left
  ·intro w'
   go_simp
   with_reducible rfl
  rotate_left
  ·simp only [Act.put, List.setIfInBounds_toArray, List.set_cons_zero, List.set_cons_succ, i64_w, i32_w]
   rfl
  refine take_ (i := 1) (N := some 40) (v := ?_) (a' := ?_) #[true, true, false, true, false, false, false, false] rfl rfl (take_ofW HT_.out HW_.out (by kernel_rfl)) (fun _ _ _ h => h) (Or.inl ⟨by rfl, ?_⟩) hHeld ?_ ?_
  rotate_left
  ·rintro w' ⟨s0, s1, s2, s3⟩
   go_simp
   with_reducible rfl
  rotate_left
  ·simp only [Act.put, List.setIfInBounds_toArray, List.set_cons_zero, List.set_cons_succ, i64_w, i32_w]
   rfl
  refine take_ (i := 4) (N := some 43) (v := ?_) (a' := ?_) #[true, true, false, true, true, false, false, false] rfl rfl (take_ofW HT_.out HW_.out (by kernel_rfl)) (fun _ _ _ h => h) (Or.inl ⟨by rfl, ?_⟩) hHeld ?_ ?_
  rotate_left
  ·rintro w' ⟨s0, s1, s2, s3⟩
   go_simp
   with_reducible rfl
  rotate_left
  ·simp only [Act.put, List.setIfInBounds_toArray, List.set_cons_zero, List.set_cons_succ, i64_w, i32_w]
   rfl
  refine one_ (i := 2) (N := some 41) #[true, true, true, true, true, false, false, false] rfl rfl (one_of HT_.out (by kernel_rfl)) (by decide) (fun K hK => ?_)
  refine goes_ Try.func55 (by kernel_rfl) rfl #[.int .u64 (Go.bits .xor .u64 t137 (IntKind.u64.wrap (a0_2 + a0_3))), .int .u64 21] (by rfl) rfl rfl (by (try simp only [List.map_toArray, List.map_cons, List.map_nil]); first | done | rfl | (simp only [*]; done) | (simp only [List.length_drop, List.length_take]; rfl) | (simp only [Act.eval, Array.getD_eq_getD_getElem?, Option.getD_some, *])) ?_
  with_reducible refine (fuseeref23_turned.calls (Go.bits .xor .u64 t137 (IntKind.u64.wrap (a0_2 + a0_3))) 21 t138 _ A5.out).mono ?_
  rintro e w' ⟨rfl, ⟨nd, rfl⟩⟩
  refine ⟨_, rfl, ?_⟩
  refine hK.out _ _ ⟨(qC BK133.out 0).trans rfl, (qC BK133.out 1).trans rfl, (qC BK133.out 2).trans rfl, (qC BK133.out 3).trans rfl⟩ (fun hHeld => ?_)
  clear hK K
  refine norm_ (a' := ?_) ?_ ?_
  rotate_left
  ·show Act.put _ (some 41) _ = _
   simp only [Act.put, List.setIfInBounds_toArray, List.set_cons_zero, List.set_cons_succ, i64_w, i32_w]
   rfl
  refine pure_ (i := 5) (N := some 44) (v := ?_) (a' := ?_) #[true, true, true, true, true, true, false, false] rfl rfl (any_of HT_.out (by kernel_rfl)) (fun _ _ _ h => h) (Or.inl ⟨by rfl, ?_⟩) ?_ ?_
  rotate_left
  ·intro w'
   go_simp
   with_reducible rfl
  rotate_left
  ·simp only [Act.put, List.setIfInBounds_toArray, List.set_cons_zero, List.set_cons_succ, i64_w, i32_w]
   rfl
  refine pure_ (i := 6) (N := some 45) (v := ?_) (a' := ?_) #[true, true, true, true, true, true, true, false] rfl rfl (any_of HT_.out (by kernel_rfl)) (fun _ _ _ h => h) (Or.inl ⟨by rfl, ?_⟩) ?_ ?_
  rotate_left
  ·intro w'
   go_simp
   with_reducible rfl
  rotate_left
  ·simp only [Act.put, List.setIfInBounds_toArray, List.set_cons_zero, List.set_cons_succ, i64_w, i32_w]
   rfl
  refine last_ (i := 7) (N := none) #[true, true, true, true, true, true, true, true] rfl rfl (one_of HT_.out (by kernel_rfl)) (by decide) (fun K hK => ?_)
  have hs22 : w21.cell? ⟨gb133, 3, none⟩ = some (.int .u64 (Go.bits .xor .u64 t137 (IntKind.u64.wrap (a0_2 + a0_3)))) := (qC BK133.out 3).trans rfl
  have hfs22 := qF BK133.out 3
  have hns22_1 := NB134_133.out
  have hms22_1 := NB133_134.out
  refine skip_ (w1 := ?_) (by rfl) rfl ?_ ?_
  rotate_left
  ·go_simp
   rfl
  refine hK.out _ _ ?_
  clear hK K
  refine done_ (done_of HT_.out (by kernel_rfl)) ?_
  have hcz23_0 : w21.cell? ⟨gb133, 0, none⟩ = some (.int .u64 (IntKind.u64.wrap (t136 + (Go.bits .xor .u64 t137 (IntKind.u64.wrap (a0_2 + a0_3)))))) := (qC BK133.out 0).trans rfl
  have hcz23_1 : w21.cell? ⟨gb133, 1, none⟩ = some (.int .u64 (Go.bits .xor .u64 t135 (IntKind.u64.wrap (a0_0 + a0_1)))) := (qC BK133.out 1).trans rfl
  have hcz23_2 : w21.cell? ⟨gb133, 2, none⟩ = some (.int .u64 (IntKind.u64.wrap (a0_2 + a0_3))) := (qC BK133.out 2).trans rfl
  have hcz23_3 : w21.cell? ⟨gb133, 3, none⟩ = some (.int .u64 (Go.bits .xor .u64 t137 (IntKind.u64.wrap (a0_2 + a0_3)))) := (qC BK133.out 3).trans rfl
  have hfz23_0 := qF BK133.out 0
  have hfz23_1 := qF BK133.out 1
  have hfz23_2 := qF BK133.out 2
  have hfz23_3 := qF BK133.out 3
  try go_wp2
  refine name_w (fun w24 hq_ => ?_)
  have n0_ : Aside0 (w24.heap[gb133]? = some (.cells #[.int .u64 (IntKind.u64.wrap (t136 + (Go.bits .xor .u64 t137 (IntKind.u64.wrap (a0_2 + a0_3))))), .int .u64 (Go.bits .xor .u64 t135 (IntKind.u64.wrap (a0_0 + a0_1))), .int .u64 (IntKind.u64.wrap ((IntKind.u64.wrap (a0_2 + a0_3)) + (Go.bits .xor .u64 t135 (IntKind.u64.wrap (a0_0 + a0_1))))), .int .u64 (Go.bits .xor .u64 t138 (IntKind.u64.wrap (t136 + (Go.bits .xor .u64 t137 (IntKind.u64.wrap (a0_2 + a0_3))))))] 62 (0, 0))) := ⟨by rw [hq_]; exact (by (with_reducible repeat (first | refine qN ?_ _ | refine qD ?_ | refine qA ?_ _)); refine blk_put (cs := #[.int .u64 (IntKind.u64.wrap (t136 + (Go.bits .xor .u64 t137 (IntKind.u64.wrap (a0_2 + a0_3))))), .int .u64 (Go.bits .xor .u64 t135 (IntKind.u64.wrap (a0_0 + a0_1))), .int .u64 (IntKind.u64.wrap (a0_2 + a0_3)), .int .u64 (Go.bits .xor .u64 t138 (IntKind.u64.wrap (t136 + (Go.bits .xor .u64 t137 (IntKind.u64.wrap (a0_2 + a0_3))))))]) ?_ 2 _ rfl; (with_reducible repeat (first | refine qN ?_ _ | refine qD ?_ | refine qA ?_ _)); refine blk_put (cs := #[.int .u64 (IntKind.u64.wrap (t136 + (Go.bits .xor .u64 t137 (IntKind.u64.wrap (a0_2 + a0_3))))), .int .u64 (Go.bits .xor .u64 t135 (IntKind.u64.wrap (a0_0 + a0_1))), .int .u64 (IntKind.u64.wrap (a0_2 + a0_3)), .int .u64 (Go.bits .xor .u64 t137 (IntKind.u64.wrap (a0_2 + a0_3)))]) ?_ 3 _ rfl; (with_reducible repeat (first | refine qN ?_ _ | refine qD ?_ | refine qA ?_ _)); exact BK133.out)⟩
  have n1_ : Aside0 (w24.heap[gb134]? = some (.cells #[.int .u64 0, .int .u64 0, .int .u64 0, .int .u64 0] 62 (0, 0))) := ⟨by rw [hq_]; exact (by (with_reducible repeat (first | refine qN ?_ _ | refine qD ?_ | refine qA ?_ _)); refine blk_far ?_ NB134_133.out _; (with_reducible repeat (first | refine qN ?_ _ | refine qD ?_ | refine qA ?_ _)); refine blk_far ?_ NB134_133.out _; (with_reducible repeat (first | refine qN ?_ _ | refine qD ?_ | refine qA ?_ _)); exact BK134.out)⟩
  have n2_ : Aside0 (Below w.heap.size w w24) := ⟨by rw [hq_]; exact (by repeat (first | (with_reducible first | exact HB.out | apply qpA | apply qpN | apply qp1 | refine qpS ?_ GE133.out | refine qpS ?_ GE134.out) | exact HB.out))⟩
  clear hq_
  (try clear BK133)
  (try clear BK134)
  (try clear HB)
  have BK133 := n0_
  have BK134 := n1_
  have HB := n2_
  clear n0_ n1_ n2_
  (try (rw [drewN_self w24]; generalize hq_ : World.drewN w24 _ = w24; have n0_ : Aside0 (w24.heap[gb133]? = some (.cells #[.int .u64 (IntKind.u64.wrap (t136 + (Go.bits .xor .u64 t137 (IntKind.u64.wrap (a0_2 + a0_3))))), .int .u64 (Go.bits .xor .u64 t135 (IntKind.u64.wrap (a0_0 + a0_1))), .int .u64 (IntKind.u64.wrap ((IntKind.u64.wrap (a0_2 + a0_3)) + (Go.bits .xor .u64 t135 (IntKind.u64.wrap (a0_0 + a0_1))))), .int .u64 (Go.bits .xor .u64 t138 (IntKind.u64.wrap (t136 + (Go.bits .xor .u64 t137 (IntKind.u64.wrap (a0_2 + a0_3))))))] 62 (0, 0))) := ⟨by rw [← hq_]; exact (by (with_reducible repeat (first | refine qN ?_ _ | refine qD ?_ | refine qA ?_ _)); exact BK133.out)⟩; have n1_ : Aside0 (w24.heap[gb134]? = some (.cells #[.int .u64 0, .int .u64 0, .int .u64 0, .int .u64 0] 62 (0, 0))) := ⟨by rw [← hq_]; exact (by (with_reducible repeat (first | refine qN ?_ _ | refine qD ?_ | refine qA ?_ _)); exact BK134.out)⟩; have n2_ : Aside0 (Below w.heap.size w w24) := ⟨by rw [← hq_]; exact (by repeat (first | (with_reducible first | exact HB.out | apply qpA | apply qpN | apply qp1 | refine qpS ?_ GE133.out | refine qpS ?_ GE134.out) | exact HB.out))⟩; clear BK133 BK134 HB hq_; have BK133 := n0_; have BK134 := n1_; have HB := n2_; clear n0_ n1_ n2_))
  have n0_ := qS (qD BK133.out)
  have n1_ := qS (qD BK134.out)
  have n2_ := qS (qp1 HB.out)
  clear BK133
  clear BK134
  clear HB
  have BK133 := n0_
  have BK134 := n1_
  have HB := n2_
  clear n0_ n1_ n2_
  refine start_ (n := 8) (S := fun w' => w'.cell? ⟨gb133, 0, none⟩ = some (.int .u64 (IntKind.u64.wrap (t136 + (Go.bits .xor .u64 t137 (IntKind.u64.wrap (a0_2 + a0_3)))))) ∧ w'.cell? ⟨gb133, 1, none⟩ = some (.int .u64 (Go.bits .xor .u64 t135 (IntKind.u64.wrap (a0_0 + a0_1)))) ∧ w'.cell? ⟨gb133, 2, none⟩ = some (.int .u64 (IntKind.u64.wrap ((IntKind.u64.wrap (a0_2 + a0_3)) + (Go.bits .xor .u64 t135 (IntKind.u64.wrap (a0_0 + a0_1)))))) ∧ w'.cell? ⟨gb133, 3, none⟩ = some (.int .u64 (Go.bits .xor .u64 t138 (IntKind.u64.wrap (t136 + (Go.bits .xor .u64 t137 (IntKind.u64.wrap (a0_2 + a0_3)))))))) (ds := [7]) #[false, false, false, false, false, false, false, false] (by kernel_rfl) rfl rfl ⟨(qC BK133.out 0).trans rfl, (qC BK133.out 1).trans rfl, (qC BK133.out 2).trans rfl, (qC BK133.out 3).trans rfl⟩ (fun hHeld => ?_); refine with_tabW fuseeref23_round.tab9 fuseeref23_round.bits9 (fun HT_ HW_ => ?_)
  generalize w24.drew = w25 at BK133 BK134 HB hHeld ⊢
  refine pure_ (i := 0) (N := some 52) (v := ?_) (a' := ?_) #[true, false, false, false, false, false, false, false] rfl rfl (any_of HT_.out (by kernel_rfl)) (fun _ _ _ h => h) (Or.inl ⟨by rfl, ?_⟩) ?_ ?_
  rotate_left
  ·intro w'
   go_simp
   with_reducible rfl
  rotate_left
  ·simp only [Act.put, List.setIfInBounds_toArray, List.set_cons_zero, List.set_cons_succ, i64_w, i32_w]
   rfl
  refine pure_ (i := 3) (N := some 55) (v := ?_) (a' := ?_) #[true, false, false, true, false, false, false, false] rfl rfl (any_of HT_.out (by kernel_rfl)) (fun _ _ _ h => h) (Or.inl ⟨by rfl, ?_⟩) ?_ ?_
  rotate_left
  ·intro w'
   go_simp
   with_reducible rfl
  rotate_left
  ·simp only [Act.put, List.setIfInBounds_toArray, List.set_cons_zero, List.set_cons_succ, i64_w, i32_w]
   rfl
  refine take_ (i := 1) (N := some 53) (v := ?_) (a' := ?_) #[true, true, false, true, false, false, false, false] rfl rfl (take_ofW HT_.out HW_.out (by kernel_rfl)) (fun _ _ _ h => h) (Or.inl ⟨by rfl, ?_⟩) hHeld ?_ ?_
  rotate_left
  ·rintro w' ⟨s0, s1, s2, s3⟩
   go_simp
   with_reducible rfl
  rotate_left
  ·simp only [Act.put, List.setIfInBounds_toArray, List.set_cons_zero, List.set_cons_succ, i64_w, i32_w]
   rfl
  refine take_ (i := 4) (N := some 56) (v := ?_) (a' := ?_) #[true, true, false, true, true, false, false, false] rfl rfl (take_ofW HT_.out HW_.out (by kernel_rfl)) (fun _ _ _ h => h) (Or.inl ⟨by rfl, ?_⟩) hHeld ?_ ?_
  rotate_left
  ·rintro w' ⟨s0, s1, s2, s3⟩
   go_simp
   with_reducible rfl
  rotate_left
  ·simp only [Act.put, List.setIfInBounds_toArray, List.set_cons_zero, List.set_cons_succ, i64_w, i32_w]
   rfl
  refine one_ (i := 2) (N := some 54) #[true, true, true, true, true, false, false, false] rfl rfl (one_of HT_.out (by kernel_rfl)) (by decide) (fun K hK => ?_)
  refine goes_ Try.func55 (by kernel_rfl) rfl #[.int .u64 (Go.bits .xor .u64 t135 (IntKind.u64.wrap (a0_0 + a0_1))), .int .u64 17] (by rfl) rfl rfl (by (try simp only [List.map_toArray, List.map_cons, List.map_nil]); first | done | rfl | (simp only [*]; done) | (simp only [List.length_drop, List.length_take]; rfl) | (simp only [Act.eval, Array.getD_eq_getD_getElem?, Option.getD_some, *])) ?_
  with_reducible refine (fuseeref23_turned.calls (Go.bits .xor .u64 t135 (IntKind.u64.wrap (a0_0 + a0_1))) 17 t139 _ A6.out).mono ?_
  rintro e w' ⟨rfl, ⟨nd, rfl⟩⟩
  refine ⟨_, rfl, ?_⟩
  refine hK.out _ _ ⟨(qC BK133.out 0).trans rfl, (qC BK133.out 1).trans rfl, (qC BK133.out 2).trans rfl, (qC BK133.out 3).trans rfl⟩ (fun hHeld => ?_)
  clear hK K
  refine norm_ (a' := ?_) ?_ ?_
  rotate_left
  ·show Act.put _ (some 54) _ = _
   simp only [Act.put, List.setIfInBounds_toArray, List.set_cons_zero, List.set_cons_succ, i64_w, i32_w]
   rfl
  refine pure_ (i := 5) (N := some 57) (v := ?_) (a' := ?_) #[true, true, true, true, true, true, false, false] rfl rfl (any_of HT_.out (by kernel_rfl)) (fun _ _ _ h => h) (Or.inl ⟨by rfl, ?_⟩) ?_ ?_
  rotate_left
  ·intro w'
   go_simp
   with_reducible rfl
  rotate_left
  ·simp only [Act.put, List.setIfInBounds_toArray, List.set_cons_zero, List.set_cons_succ, i64_w, i32_w]
   rfl
  refine pure_ (i := 6) (N := some 58) (v := ?_) (a' := ?_) #[true, true, true, true, true, true, true, false] rfl rfl (any_of HT_.out (by kernel_rfl)) (fun _ _ _ h => h) (Or.inl ⟨by rfl, ?_⟩) ?_ ?_
  rotate_left
  ·intro w'
   go_simp
   with_reducible rfl
  rotate_left
  ·simp only [Act.put, List.setIfInBounds_toArray, List.set_cons_zero, List.set_cons_succ, i64_w, i32_w]
   rfl
  refine last_ (i := 7) (N := none) #[true, true, true, true, true, true, true, true] rfl rfl (one_of HT_.out (by kernel_rfl)) (by decide) (fun K hK => ?_)
  have hs26 : w25.cell? ⟨gb133, 1, none⟩ = some (.int .u64 (Go.bits .xor .u64 t135 (IntKind.u64.wrap (a0_0 + a0_1)))) := (qC BK133.out 1).trans rfl
  have hfs26 := qF BK133.out 1
  have hns26_1 := NB134_133.out
  have hms26_1 := NB133_134.out
  refine skip_ (w1 := ?_) (by rfl) rfl ?_ ?_
  rotate_left
  ·go_simp
   rfl
  refine hK.out _ _ ?_
  clear hK K
  refine done_ (done_of HT_.out (by kernel_rfl)) ?_
  have hcz27_0 : w25.cell? ⟨gb133, 0, none⟩ = some (.int .u64 (IntKind.u64.wrap (t136 + (Go.bits .xor .u64 t137 (IntKind.u64.wrap (a0_2 + a0_3)))))) := (qC BK133.out 0).trans rfl
  have hcz27_1 : w25.cell? ⟨gb133, 1, none⟩ = some (.int .u64 (Go.bits .xor .u64 t135 (IntKind.u64.wrap (a0_0 + a0_1)))) := (qC BK133.out 1).trans rfl
  have hcz27_2 : w25.cell? ⟨gb133, 2, none⟩ = some (.int .u64 (IntKind.u64.wrap ((IntKind.u64.wrap (a0_2 + a0_3)) + (Go.bits .xor .u64 t135 (IntKind.u64.wrap (a0_0 + a0_1)))))) := (qC BK133.out 2).trans rfl
  have hcz27_3 : w25.cell? ⟨gb133, 3, none⟩ = some (.int .u64 (Go.bits .xor .u64 t138 (IntKind.u64.wrap (t136 + (Go.bits .xor .u64 t137 (IntKind.u64.wrap (a0_2 + a0_3))))))) := (qC BK133.out 3).trans rfl
  have hfz27_0 := qF BK133.out 0
  have hfz27_1 := qF BK133.out 1
  have hfz27_2 := qF BK133.out 2
  have hfz27_3 := qF BK133.out 3
  try go_wp2_with (first | ((with_reducible refine gate_callee (f := 55) rfl ?_); refine goesL_ (some 61) rfl rfl Try.func55 (by kernel_rfl) rfl #[.int .u64 (IntKind.u64.wrap ((IntKind.u64.wrap (a0_2 + a0_3)) + (Go.bits .xor .u64 t135 (IntKind.u64.wrap (a0_0 + a0_1))))), .int .u64 32] rfl (by (try simp only [List.map_toArray, List.map_cons, List.map_nil]); first | done | rfl | (simp only [*]; done) | (simp only [List.length_drop, List.length_take]; rfl) | (simp only [Act.eval, Array.getD_eq_getD_getElem?, Option.getD_some, *])) ?_; (with_reducible refine (fuseeref23_turned.calls (IntKind.u64.wrap ((IntKind.u64.wrap (a0_2 + a0_3)) + (Go.bits .xor .u64 t135 (IntKind.u64.wrap (a0_0 + a0_1))))) 32 t140 _ A7.out).mono ?_); rintro e w' ⟨rfl, ⟨nd, rfl⟩⟩; refine ⟨_, rfl, ?_⟩; have hcz28_0 : w25.cell? ⟨gb134, 0, none⟩ = some (.int .u64 0) := (qC BK134.out 0).trans rfl; have hcz28_1 : w25.cell? ⟨gb134, 1, none⟩ = some (.int .u64 0) := (qC BK134.out 1).trans rfl; have hcz28_2 : w25.cell? ⟨gb134, 2, none⟩ = some (.int .u64 0) := (qC BK134.out 2).trans rfl; have hcz28_3 : w25.cell? ⟨gb134, 3, none⟩ = some (.int .u64 0) := (qC BK134.out 3).trans rfl; have hfz28_0 := qF BK134.out 0; have hfz28_1 := qF BK134.out 1; have hfz28_2 := qF BK134.out 2; have hfz28_3 := qF BK134.out 3))
  refine bodyPost_ret (results_cell_row rfl _ _ gb134 62 #[.int .u64 (IntKind.u64.wrap (t136 + (Go.bits .xor .u64 t137 (IntKind.u64.wrap (a0_2 + a0_3))))), .int .u64 (Go.bits .xor .u64 t139 (IntKind.u64.wrap ((IntKind.u64.wrap (a0_2 + a0_3)) + (Go.bits .xor .u64 t135 (IntKind.u64.wrap (a0_0 + a0_1)))))), .int .u64 t140, .int .u64 (Go.bits .xor .u64 t138 (IntKind.u64.wrap (t136 + (Go.bits .xor .u64 t137 (IntKind.u64.wrap (a0_2 + a0_3))))))] (0, 0) _ rfl (by (with_reducible repeat (first | refine qN ?_ _ | refine qD ?_ | refine qA ?_ _)); refine blk_put (cs := #[.int .u64 (IntKind.u64.wrap (t136 + (Go.bits .xor .u64 t137 (IntKind.u64.wrap (a0_2 + a0_3))))), .int .u64 (Go.bits .xor .u64 t139 (IntKind.u64.wrap ((IntKind.u64.wrap (a0_2 + a0_3)) + (Go.bits .xor .u64 t135 (IntKind.u64.wrap (a0_0 + a0_1)))))), .int .u64 t140, .int .u64 0]) ?_ 3 _ rfl; (with_reducible repeat (first | refine qN ?_ _ | refine qD ?_ | refine qA ?_ _)); refine blk_put (cs := #[.int .u64 (IntKind.u64.wrap (t136 + (Go.bits .xor .u64 t137 (IntKind.u64.wrap (a0_2 + a0_3))))), .int .u64 (Go.bits .xor .u64 t139 (IntKind.u64.wrap ((IntKind.u64.wrap (a0_2 + a0_3)) + (Go.bits .xor .u64 t135 (IntKind.u64.wrap (a0_0 + a0_1)))))), .int .u64 0, .int .u64 0]) ?_ 2 _ rfl; (with_reducible repeat (first | refine qN ?_ _ | refine qD ?_ | refine qA ?_ _)); refine blk_put (cs := #[.int .u64 (IntKind.u64.wrap (t136 + (Go.bits .xor .u64 t137 (IntKind.u64.wrap (a0_2 + a0_3))))), .int .u64 0, .int .u64 0, .int .u64 0]) ?_ 1 _ rfl; (with_reducible repeat (first | refine qN ?_ _ | refine qD ?_ | refine qA ?_ _)); refine blk_put (cs := #[.int .u64 0, .int .u64 0, .int .u64 0, .int .u64 0]) ?_ 0 _ rfl; (with_reducible repeat (first | refine qN ?_ _ | refine qD ?_ | refine qA ?_ _)); refine blk_far ?_ NB134_133.out _; (with_reducible repeat (first | refine qN ?_ _ | refine qD ?_ | refine qA ?_ _)); refine blk_far ?_ NB134_133.out _; (with_reducible repeat (first | refine qN ?_ _ | refine qD ?_ | refine qA ?_ _)); exact BK134.out) Try.underlying62 rfl (by kernel_rfl)) rfl ?_
  exact ⟨by first | rfl | (simp [errW_none, errW_some] <;> rfl) | (simp [*, errW_none, errW_some] <;> rfl), by repeat (first | (with_reducible first | exact HB.out | apply qpA | apply qpN | apply qp1 | refine qpS ?_ GE133.out | refine qpS ?_ GE134.out) | exact HB.out)⟩

end Go.Proofs.Ytiljnlhmeolhfaa.MPf
