/- Printed by wip/gen/mp.py: Go functions as plain Lean functions, and that the calls do what these say. -/
import Derived.Test.YtiljnlhmeolhfaaMPrfSumsx0
import Derived.Test.YtiljnlhmeolhfaaMPrfSumsx2
namespace Go.Proofs.Ytiljnlhmeolhfaa.MPrfSums
open Go.RowKit Go.Proofs.YtiljnlhmeolhfaaW.PrintWords Go.Proofs.YtiljnlhmeolhfaaW.PrintLast Go.Proofs.YtiljnlhmeolhfaaW.PrintMore
attribute [local go_sem] max2_int min2_int max_two min_two max_three min_three max_four min_four   -- for this text's walks alone
set_option linter.unusedVariables false
set_option linter.unusedSimpArgs false

/-! ### prf_Derive: function 12 -/
def prf_Derive.f (k : Nat) (a0_0 : Int) (a0_1 : Int) (a0_2 : Int) (a0_3 : Int) (a0_4 : Int) (a0_5 : Int) (a0_6 : Int) (a0_7 : Int) (a0_8 : Int) (a0_9 : Int) (a0_10 : Int) (a0_11 : Int) (a0_12 : Int) (a0_13 : Int) (a0_14 : Int) (a0_15 : Int) (a1 : Int) : Option (Int × Int × Int × Int × Int × Int × Int × Int × Int × Int × Int × Int × Int × Int × Int × Int) := (prf_Sum.f a0_0 a0_1 a0_2 a0_3 a0_4 a0_5 a0_6 a0_7 a0_8 a0_9 a0_10 a0_11 a0_12 a0_13 a0_14 a0_15 (([a1, 0] : List Int))).bind fun t126 => ((fields_I64.f k ([] : List Int) (wrap64 (t126))).bind fun t127 => ((prf_Sum.f a0_0 a0_1 a0_2 a0_3 a0_4 a0_5 a0_6 a0_7 a0_8 a0_9 a0_10 a0_11 a0_12 a0_13 a0_14 a0_15 (([a1, 1] : List Int))).bind fun t133 => ((fields_I64.f k t127 (wrap64 (t133))).bind fun t134 => (if 16 ≤ (t134.length : Int) then (some (rd t134 0, rd t134 1, rd t134 2, rd t134 3, rd t134 4, rd t134 5, rd t134 6, rd t134 7, rd t134 8, rd t134 9, rd t134 10, rd t134 11, rd t134 12, rd t134 13, rd t134 14, rd t134 15)) else (none)))))
theorem prf_Derive.mono : ∀ a0 a1 a2 a3 a4 a5 a6 a7 a8 a9 a10 a11 a12 a13 a14 a15 a16 k, LeO (prf_Derive.f k a0 a1 a2 a3 a4 a5 a6 a7 a8 a9 a10 a11 a12 a13 a14 a15 a16) (prf_Derive.f (k + 1) a0 a1 a2 a3 a4 a5 a6 a7 a8 a9 a10 a11 a12 a13 a14 a15 a16) := by
 intro a0 a1 a2 a3 a4 a5 a6 a7 a8 a9 a10 a11 a12 a13 a14 a15 a16 k
 unfold prf_Derive.f
 repeat' first
   | (with_reducible exact fields_I64.mono _ _ _)
   | (with_reducible exact LeO.refl _)
   | (with_reducible exact LeO.none _)
   | (with_reducible refine LeO.ite ?_ ?_)
   | (with_reducible refine LeO.bind ?_ (fun _ => ?_))
   | exact fields_I64.mono _ _ _
   | exact LeO.none _
   | refine LeO.ite ?_ ?_
   | refine LeO.bind ?_ (fun _ => ?_)
def prf_Derive.T1 : Bool × List (List Nat × List Nat) := (true, [([], []), ([], []), ([1], [1]), ([0, 2], [0, 2]), ([3], [3]), ([4, 3], [4]), ([], []), ([], []), ([7], [7]), ([6, 8, 5], [6, 8]), ([9], [9]), ([5, 10, 9], [5, 10]), ([11, 11, 0, 1, 2, 3, 4, 5, 6, 7, 8, 9, 10, 11], [11])])
def prf_Derive.B1 : List Nat := [0, 0, 2, 7, 15, 31, 0, 0, 128, 511, 1023, 2047, 4095]
theorem prf_Derive.tab1 : rtab .any (opsOf Try.f12 1) = prf_Derive.T1 := by kernel_rfl
theorem prf_Derive.bits1 : waitsOk prf_Derive.T1.2 prf_Derive.B1 = true := by kernel_rfl
set_option maxHeartbeats 8000000 in
set_option maxRecDepth 100000 in
theorem prf_Derive.calls (k : Nat) (a0_0 : Int) (a0_1 : Int) (a0_2 : Int) (a0_3 : Int) (a0_4 : Int) (a0_5 : Int) (a0_6 : Int) (a0_7 : Int) (a0_8 : Int) (a0_9 : Int) (a0_10 : Int) (a0_11 : Int) (a0_12 : Int) (a0_13 : Int) (a0_14 : Int) (a0_15 : Int) (a1 : Int) (r1 : Int) (r2 : Int) (r3 : Int) (r4 : Int) (r5 : Int) (r6 : Int) (r7 : Int) (r8 : Int) (r9 : Int) (r10 : Int) (r11 : Int) (r12 : Int) (r13 : Int) (r14 : Int) (r15 : Int) (r16 : Int) (w : World) (h : prf_Derive.f k a0_0 a0_1 a0_2 a0_3 a0_4 a0_5 a0_6 a0_7 a0_8 a0_9 a0_10 a0_11 a0_12 a0_13 a0_14 a0_15 a1 = some (r1, r2, r3, r4, r5, r6, r7, r8, r9, r10, r11, r12, r13, r14, r15, r16)) :
  Calls Try.prog 12 #[.agg #[.int .u8 a0_0, .int .u8 a0_1, .int .u8 a0_2, .int .u8 a0_3, .int .u8 a0_4, .int .u8 a0_5, .int .u8 a0_6, .int .u8 a0_7, .int .u8 a0_8, .int .u8 a0_9, .int .u8 a0_10, .int .u8 a0_11, .int .u8 a0_12, .int .u8 a0_13, .int .u8 a0_14, .int .u8 a0_15], .int .u8 a1] w fun e w' => e = .returned (.agg #[.int .u8 r1, .int .u8 r2, .int .u8 r3, .int .u8 r4, .int .u8 r5, .int .u8 r6, .int .u8 r7, .int .u8 r8, .int .u8 r9, .int .u8 r10, .int .u8 r11, .int .u8 r12, .int .u8 r13, .int .u8 r14, .int .u8 r15, .int .u8 r16]) ∧ Below w.heap.size w w' := by
 have hu27 := Try.underlying27
 have HB := qS (Below.refl w.heap.size w)
 have H : ((prf_Sum.f a0_0 a0_1 a0_2 a0_3 a0_4 a0_5 a0_6 a0_7 a0_8 a0_9 a0_10 a0_11 a0_12 a0_13 a0_14 a0_15 (([a1, 0] : List Int))).bind fun t126 => ((fields_I64.f k ([] : List Int) (wrap64 (t126))).bind fun t127 => ((prf_Sum.f a0_0 a0_1 a0_2 a0_3 a0_4 a0_5 a0_6 a0_7 a0_8 a0_9 a0_10 a0_11 a0_12 a0_13 a0_14 a0_15 (([a1, 1] : List Int))).bind fun t133 => ((fields_I64.f k t127 (wrap64 (t133))).bind fun t134 => (if 16 ≤ (t134.length : Int) then (some (rd t134 0, rd t134 1, rd t134 2, rd t134 3, rd t134 4, rd t134 5, rd t134 6, rd t134 7, rd t134 8, rd t134 9, rd t134 10, rd t134 11, rd t134 12, rd t134 13, rd t134 14, rd t134 15)) else (none)))))) = some (r1, r2, r3, r4, r5, r6, r7, r8, r9, r10, r11, r12, r13, r14, r15, r16) := h
 clear h
 obtain ⟨y123, hy123⟩ : ∃ y_ : List Int, y_ = (([a1, 0] : List Int)) := ⟨_, rfl⟩
 replace H : ((prf_Sum.f a0_0 a0_1 a0_2 a0_3 a0_4 a0_5 a0_6 a0_7 a0_8 a0_9 a0_10 a0_11 a0_12 a0_13 a0_14 a0_15 y123).bind fun t126 => ((fields_I64.f k ([] : List Int) (wrap64 (t126))).bind fun t127 => ((prf_Sum.f a0_0 a0_1 a0_2 a0_3 a0_4 a0_5 a0_6 a0_7 a0_8 a0_9 a0_10 a0_11 a0_12 a0_13 a0_14 a0_15 (([a1, 1] : List Int))).bind fun t133 => ((fields_I64.f k t127 (wrap64 (t133))).bind fun t134 => (if 16 ≤ (t134.length : Int) then (some (rd t134 0, rd t134 1, rd t134 2, rd t134 3, rd t134 4, rd t134 5, rd t134 6, rd t134 7, rd t134 8, rd t134 9, rd t134 10, rd t134 11, rd t134 12, rd t134 13, rd t134 14, rd t134 15)) else (none)))))) = some (r1, r2, r3, r4, r5, r6, r7, r8, r9, r10, r11, r12, r13, r14, r15, r16) := by first | (rw [hy123]; with_reducible exact H) | (have H2_ := (Option.bind_some _ _).symm.trans H; rw [hy123]; with_reducible exact H2_) | (have H2_ := (Option.bind_some _ _).symm.trans H; with_reducible exact H2_) | with_reducible exact H | (rw [hy123]; exact H) | exact H
 have Ny123 := qS hy123
 clear hy123
 replace H := Option.bind_eq_some_iff.mp H
 obtain ⟨t126, A30, H⟩ := H
 replace H : ((fields_I64.f k ([] : List Int) (wrap64 (t126))).bind fun t127 => ((prf_Sum.f a0_0 a0_1 a0_2 a0_3 a0_4 a0_5 a0_6 a0_7 a0_8 a0_9 a0_10 a0_11 a0_12 a0_13 a0_14 a0_15 (([a1, 1] : List Int))).bind fun t133 => ((fields_I64.f k t127 (wrap64 (t133))).bind fun t134 => (if 16 ≤ (t134.length : Int) then (some (rd t134 0, rd t134 1, rd t134 2, rd t134 3, rd t134 4, rd t134 5, rd t134 6, rd t134 7, rd t134 8, rd t134 9, rd t134 10, rd t134 11, rd t134 12, rd t134 13, rd t134 14, rd t134 15)) else (none))))) = some (r1, r2, r3, r4, r5, r6, r7, r8, r9, r10, r11, r12, r13, r14, r15, r16) := H
 have A3 := qS A30
 clear A30
 replace H := Option.bind_eq_some_iff.mp H
 obtain ⟨t127, A40, H⟩ := H
 replace H : ((prf_Sum.f a0_0 a0_1 a0_2 a0_3 a0_4 a0_5 a0_6 a0_7 a0_8 a0_9 a0_10 a0_11 a0_12 a0_13 a0_14 a0_15 (([a1, 1] : List Int))).bind fun t133 => ((fields_I64.f k t127 (wrap64 (t133))).bind fun t134 => (if 16 ≤ (t134.length : Int) then (some (rd t134 0, rd t134 1, rd t134 2, rd t134 3, rd t134 4, rd t134 5, rd t134 6, rd t134 7, rd t134 8, rd t134 9, rd t134 10, rd t134 11, rd t134 12, rd t134 13, rd t134 14, rd t134 15)) else (none)))) = some (r1, r2, r3, r4, r5, r6, r7, r8, r9, r10, r11, r12, r13, r14, r15, r16) := H
 have A4 := qS A40
 clear A40
 obtain ⟨y130, hy130⟩ : ∃ y_ : List Int, y_ = (([a1, 1] : List Int)) := ⟨_, rfl⟩
 replace H : ((prf_Sum.f a0_0 a0_1 a0_2 a0_3 a0_4 a0_5 a0_6 a0_7 a0_8 a0_9 a0_10 a0_11 a0_12 a0_13 a0_14 a0_15 y130).bind fun t133 => ((fields_I64.f k t127 (wrap64 (t133))).bind fun t134 => (if 16 ≤ (t134.length : Int) then (some (rd t134 0, rd t134 1, rd t134 2, rd t134 3, rd t134 4, rd t134 5, rd t134 6, rd t134 7, rd t134 8, rd t134 9, rd t134 10, rd t134 11, rd t134 12, rd t134 13, rd t134 14, rd t134 15)) else (none)))) = some (r1, r2, r3, r4, r5, r6, r7, r8, r9, r10, r11, r12, r13, r14, r15, r16) := by first | (rw [hy130]; with_reducible exact H) | (have H2_ := (Option.bind_some _ _).symm.trans H; rw [hy130]; with_reducible exact H2_) | (have H2_ := (Option.bind_some _ _).symm.trans H; with_reducible exact H2_) | with_reducible exact H | (rw [hy130]; exact H) | exact H
 have Ny130 := qS hy130
 clear hy130
 replace H := Option.bind_eq_some_iff.mp H
 obtain ⟨t133, A50, H⟩ := H
 replace H : ((fields_I64.f k t127 (wrap64 (t133))).bind fun t134 => (if 16 ≤ (t134.length : Int) then (some (rd t134 0, rd t134 1, rd t134 2, rd t134 3, rd t134 4, rd t134 5, rd t134 6, rd t134 7, rd t134 8, rd t134 9, rd t134 10, rd t134 11, rd t134 12, rd t134 13, rd t134 14, rd t134 15)) else (none))) = some (r1, r2, r3, r4, r5, r6, r7, r8, r9, r10, r11, r12, r13, r14, r15, r16) := H
 have A5 := qS A50
 clear A50
 replace H := Option.bind_eq_some_iff.mp H
 obtain ⟨t134, A60, H⟩ := H
 replace H : (if 16 ≤ (t134.length : Int) then (some (rd t134 0, rd t134 1, rd t134 2, rd t134 3, rd t134 4, rd t134 5, rd t134 6, rd t134 7, rd t134 8, rd t134 9, rd t134 10, rd t134 11, rd t134 12, rd t134 13, rd t134 14, rd t134 15)) else (none)) = some (r1, r2, r3, r4, r5, r6, r7, r8, r9, r10, r11, r12, r13, r14, r15, r16) := H
 have A6 := qS A60
 clear A60
 by_cases c7 : 16 ≤ (t134.length : Int)
 ·rw [if_pos c7] at H
  have c7b0 := eq_true c7
  have c7b1 : decide (16 ≤ (t134.length : Int)) = true := decide_eq_true c7
  clear c7
  as_aux_lemma =>
   simp only [Option.some.injEq, Prod.mk.injEq] at H
   obtain ⟨rfl, rfl, rfl, rfl, rfl, rfl, rfl, rfl, rfl, rfl, rfl, rfl, rfl, rfl, rfl, rfl⟩ := H
   go_enter Try.func12, Try.ntmps12
   try go_wp2_with (first | ((with_reducible refine gate_dst (N := 2) rfl ?_); refine box_event ?hg (N := 2) ?hd (cs := #[.int .u8 a0_0, .int .u8 a0_1, .int .u8 a0_2, .int .u8 a0_3, .int .u8 a0_4, .int .u8 a0_5, .int .u8 a0_6, .int .u8 a0_7, .int .u8 a0_8, .int .u8 a0_9, .int .u8 a0_10, .int .u8 a0_11, .int .u8 a0_12, .int .u8 a0_13, .int .u8 a0_14, .int .u8 a0_15]) (t := 27) ?hr ?_; (case hd => rfl); (case hg => rfl); (case hr => first | (go_simp; done) | (go_simp; rfl)); intro gb121 hg w8 hbox hb; have n0_ := qS (below_step (by repeat (first | (with_reducible first | exact HB.out | apply qpA | apply qpN | apply qp1) | exact HB.out)) hb); have n1_ := qS (hbox); have n2_ := qS ((by rw [hg]; exact (below_size (by repeat (first | (with_reducible first | exact HB.out | apply qpA | apply qpN | apply qp1) | exact HB.out))) : w.heap.size ≤ gb121)); have n3_ := qS ((by rw [hg]; exact (below_size (by repeat (first | (with_reducible first | exact HB.out | apply qpA | apply qpN | apply qp1) | exact HB.out))) : w.heap.size ≤ gb121)); clear HB; have HB := n0_; have BK121 := n1_; have GW121 := n2_; have GE121 := n3_; clear n0_ n1_ n2_ n3_; clear hb hbox hg) | ((with_reducible refine gate_dst (N := 4) rfl ?_); refine box_event ?hg (N := 4) ?hd (cs := #[.int .u8 0, .int .u8 0, .int .u8 0, .int .u8 0, .int .u8 0, .int .u8 0, .int .u8 0, .int .u8 0, .int .u8 0, .int .u8 0, .int .u8 0, .int .u8 0, .int .u8 0, .int .u8 0, .int .u8 0, .int .u8 0]) (t := 27) ?hr ?_; (case hd => rfl); (case hg => rfl); (case hr => first | (go_simp; done) | (go_simp; rfl)); intro gb122 hg w9 hbox hb; have n0_ := qS (qB (g := gb121) (o := .cells #[.int .u8 a0_0, .int .u8 a0_1, .int .u8 a0_2, .int .u8 a0_3, .int .u8 a0_4, .int .u8 a0_5, .int .u8 a0_6, .int .u8 a0_7, .int .u8 a0_8, .int .u8 a0_9, .int .u8 a0_10, .int .u8 a0_11, .int .u8 a0_12, .int .u8 a0_13, .int .u8 a0_14, .int .u8 a0_15] 27 (0, 0)) (by (with_reducible repeat (first | refine qN ?_ _ | refine qD ?_ | refine qA ?_ _)); exact BK121.out) hb); have n1_ := qS (below_step (by repeat (first | (with_reducible first | exact HB.out | apply qpA | apply qpN | apply qp1 | refine qpS ?_ GE121.out) | exact HB.out)) hb); have n2_ := qS (hbox); have n3_ := qS ((by rw [hg]; exact (below_size (by repeat (first | (with_reducible first | exact HB.out | apply qpA | apply qpN | apply qp1 | refine qpS ?_ GE121.out) | exact HB.out))) : w.heap.size ≤ gb122)); have n4_ := qS ((by rw [hg]; exact (below_size (by repeat (first | (with_reducible first | exact HB.out | apply qpA | apply qpN | apply qp1 | refine qpS ?_ GE121.out) | exact HB.out))) : w.heap.size ≤ gb122)); have n5_ := qS ((by rw [hg]; exact Nat.ne_of_lt (blk_lt (g := gb121) (o := .cells #[.int .u8 a0_0, .int .u8 a0_1, .int .u8 a0_2, .int .u8 a0_3, .int .u8 a0_4, .int .u8 a0_5, .int .u8 a0_6, .int .u8 a0_7, .int .u8 a0_8, .int .u8 a0_9, .int .u8 a0_10, .int .u8 a0_11, .int .u8 a0_12, .int .u8 a0_13, .int .u8 a0_14, .int .u8 a0_15] 27 (0, 0)) (by (with_reducible repeat (first | refine qN ?_ _ | refine qD ?_ | refine qA ?_ _)); exact BK121.out)) : gb121 ≠ gb122)); have n6_ := qS ((by rw [hg]; exact Nat.ne_of_gt (blk_lt (g := gb121) (o := .cells #[.int .u8 a0_0, .int .u8 a0_1, .int .u8 a0_2, .int .u8 a0_3, .int .u8 a0_4, .int .u8 a0_5, .int .u8 a0_6, .int .u8 a0_7, .int .u8 a0_8, .int .u8 a0_9, .int .u8 a0_10, .int .u8 a0_11, .int .u8 a0_12, .int .u8 a0_13, .int .u8 a0_14, .int .u8 a0_15] 27 (0, 0)) (by (with_reducible repeat (first | refine qN ?_ _ | refine qD ?_ | refine qA ?_ _)); exact BK121.out)) : gb122 ≠ gb121)); clear BK121; clear HB; have BK121 := n0_; have HB := n1_; have BK122 := n2_; have GW122 := n3_; have GE122 := n4_; have NB121_122 := n5_; have NB122_121 := n6_; clear n0_ n1_ n2_ n3_ n4_ n5_ n6_; clear hb hbox hg))
   have n0_ := qS (qD BK121.out)
   have n1_ := qS (qD BK122.out)
   have n2_ := qS (qp1 HB.out)
   clear BK121
   clear BK122
   clear HB
   have BK121 := n0_
   have BK122 := n1_
   have HB := n2_
   clear n0_ n1_ n2_
   refine start_ (n := 13) (S := fun w' => True) (ds := []) #[false, false, false, false, false, false, false, false, false, false, false, false, false] (by kernel_rfl) rfl rfl trivial (fun hHeld => ?_); refine with_tabW prf_Derive.tab1 prf_Derive.bits1 (fun HT_ HW_ => ?_)
   generalize w9.drew = w10 at BK121 BK122 HB hHeld ⊢
   refine pure_ (i := 1) (N := some 7) (v := ?_) (a' := ?_) #[false, true, false, false, false, false, false, false, false, false, false, false, false] rfl rfl (any_of HT_.out (by kernel_rfl)) (fun _ _ _ h => h) (Or.inl ⟨by rfl, ?_⟩) ?_ ?_
   rotate_left
   ·intro w'
    go_simp
    with_reducible rfl
   rotate_left
   ·simp only [Act.put, List.setIfInBounds_toArray, List.set_cons_zero, List.set_cons_succ, i64_w, i32_w]
    rfl
   refine pure_ (i := 7) (N := some 13) (v := ?_) (a' := ?_) #[false, true, false, false, false, false, false, true, false, false, false, false, false] rfl rfl (any_of HT_.out (by kernel_rfl)) (fun _ _ _ h => h) (Or.inl ⟨by rfl, ?_⟩) ?_ ?_
   rotate_left
   ·intro w'
    go_simp
    with_reducible rfl
   rotate_left
   ·simp only [Act.put, List.setIfInBounds_toArray, List.set_cons_zero, List.set_cons_succ, i64_w, i32_w]
    rfl
   refine inv_at [0, 2, 3, 4, 5, 6, 8, 9, 10, 11, 12] (fun a0_ b a w' => ∃ (v124 : Value) (v128 : Value) (v131 : Value) (v135 : Value) (m12_ : Value), a = putSel a0_ b [(0, 6, .agg #[.int .u8 a0_0, .int .u8 a0_1, .int .u8 a0_2, .int .u8 a0_3, .int .u8 a0_4, .int .u8 a0_5, .int .u8 a0_6, .int .u8 a0_7, .int .u8 a0_8, .int .u8 a0_9, .int .u8 a0_10, .int .u8 a0_11, .int .u8 a0_12, .int .u8 a0_13, .int .u8 a0_14, .int .u8 a0_15]), (2, 8, v124), (3, 9, .int .u64 t126), (4, 10, .int .i64 (wrap64 (t126))), (5, 11, v128), (6, 12, .agg #[.int .u8 a0_0, .int .u8 a0_1, .int .u8 a0_2, .int .u8 a0_3, .int .u8 a0_4, .int .u8 a0_5, .int .u8 a0_6, .int .u8 a0_7, .int .u8 a0_8, .int .u8 a0_9, .int .u8 a0_10, .int .u8 a0_11, .int .u8 a0_12, .int .u8 a0_13, .int .u8 a0_14, .int .u8 a0_15]), (8, 14, v131), (9, 15, .int .u64 t133), (10, 16, .int .i64 (wrap64 (t133))), (11, 17, v135), (12, 5, m12_)] ∧ (w'.heap[gb121]? = some (.cells #[.int .u8 a0_0, .int .u8 a0_1, .int .u8 a0_2, .int .u8 a0_3, .int .u8 a0_4, .int .u8 a0_5, .int .u8 a0_6, .int .u8 a0_7, .int .u8 a0_8, .int .u8 a0_9, .int .u8 a0_10, .int .u8 a0_11, .int .u8 a0_12, .int .u8 a0_13, .int .u8 a0_14, .int .u8 a0_15] 27 (0, 0))) ∧ (w'.heap[gb122]? = some (.cells #[.int .u8 0, .int .u8 0, .int .u8 0, .int .u8 0, .int .u8 0, .int .u8 0, .int .u8 0, .int .u8 0, .int .u8 0, .int .u8 0, .int .u8 0, .int .u8 0, .int .u8 0, .int .u8 0, .int .u8 0, .int .u8 0] 27 (0, 0))) ∧ (Below w.heap.size w w') ∧ (b 2 = true → Kd.R (Kd.int .u8) 5 w' w.heap.size (fun _ => True) v124 y123) ∧ (b 5 = true → Kd.R (Kd.int .u8) 5 w' w.heap.size (fun _ => True) v128 t127) ∧ (b 8 = true → Kd.R (Kd.int .u8) 5 w' w.heap.size (fun _ => True) v131 y130) ∧ (b 11 = true → Kd.R (Kd.int .u8) 5 w' w.heap.size (fun _ => True) v135 t134) ∧ (b 12 = true → (m12_ : Value) = v135)) HT_.out HW_.out (by kernel_rfl) (by kernel_rfl) ?_ ?_ ?_
   ·exact ⟨.bool false, .bool false, .bool false, .bool false, .bool false, by simp only [putSel, Bool.false_eq_true, if_false], BK121.out, BK122.out, HB.out, fun h_ => absurd h_ (by decide), fun h_ => absurd h_ (by decide), fun h_ => absurd h_ (by decide), fun h_ => absurd h_ (by decide), fun h_ => absurd h_ (by decide)⟩
   ·skip
    clear BK121 BK122 HB
    refine steps_cons ?_ ?_
    ·rintro b a w' ⟨v124, v128, v131, v135, m12_, ha, Q_BK121, Q_BK122, Q_HB, Q_HO125, Q_HO129, Q_HO132, Q_HO136, Q_X12_⟩ hb_ hon hoff
     refine ⟨_, rfl, fun K hK => ?_⟩
     have e2 : a.tmps[2]? = some (.pointer (some ⟨gb121, 0, none⟩)) := by rw [ha]; exact (putSel_off rfl).trans rfl
     replace ha := qS ha
     have BK121 := qS Q_BK121
     have BK122 := qS Q_BK122
     have HB := qS Q_HB
     have hc0_ : w'.cell? ⟨gb121, 0, none⟩ = some (.int .u8 a0_0) := (qC BK121.out 0).trans rfl
     have hc1_ : w'.cell? ⟨gb121, 1, none⟩ = some (.int .u8 a0_1) := (qC BK121.out 1).trans rfl
     have hc2_ : w'.cell? ⟨gb121, 2, none⟩ = some (.int .u8 a0_2) := (qC BK121.out 2).trans rfl
     have hc3_ : w'.cell? ⟨gb121, 3, none⟩ = some (.int .u8 a0_3) := (qC BK121.out 3).trans rfl
     have hc4_ : w'.cell? ⟨gb121, 4, none⟩ = some (.int .u8 a0_4) := (qC BK121.out 4).trans rfl
     have hc5_ : w'.cell? ⟨gb121, 5, none⟩ = some (.int .u8 a0_5) := (qC BK121.out 5).trans rfl
     have hc6_ : w'.cell? ⟨gb121, 6, none⟩ = some (.int .u8 a0_6) := (qC BK121.out 6).trans rfl
     have hc7_ : w'.cell? ⟨gb121, 7, none⟩ = some (.int .u8 a0_7) := (qC BK121.out 7).trans rfl
     have hc8_ : w'.cell? ⟨gb121, 8, none⟩ = some (.int .u8 a0_8) := (qC BK121.out 8).trans rfl
     have hc9_ : w'.cell? ⟨gb121, 9, none⟩ = some (.int .u8 a0_9) := (qC BK121.out 9).trans rfl
     have hc10_ : w'.cell? ⟨gb121, 10, none⟩ = some (.int .u8 a0_10) := (qC BK121.out 10).trans rfl
     have hc11_ : w'.cell? ⟨gb121, 11, none⟩ = some (.int .u8 a0_11) := (qC BK121.out 11).trans rfl
     have hc12_ : w'.cell? ⟨gb121, 12, none⟩ = some (.int .u8 a0_12) := (qC BK121.out 12).trans rfl
     have hc13_ : w'.cell? ⟨gb121, 13, none⟩ = some (.int .u8 a0_13) := (qC BK121.out 13).trans rfl
     have hc14_ : w'.cell? ⟨gb121, 14, none⟩ = some (.int .u8 a0_14) := (qC BK121.out 14).trans rfl
     have hc15_ : w'.cell? ⟨gb121, 15, none⟩ = some (.int .u8 a0_15) := (qC BK121.out 15).trans rfl
     refine value_ (w1 := w') (v := .agg #[.int .u8 a0_0, .int .u8 a0_1, .int .u8 a0_2, .int .u8 a0_3, .int .u8 a0_4, .int .u8 a0_5, .int .u8 a0_6, .int .u8 a0_7, .int .u8 a0_8, .int .u8 a0_9, .int .u8 a0_10, .int .u8 a0_11, .int .u8 a0_12, .int .u8 a0_13, .int .u8 a0_14, .int .u8 a0_15]) (by rfl) rfl ?_ ?_
     ·go_simp
      (try simp only [i64_w])
      try rfl
     refine hK.out _ _ ⟨v124, v128, v131, v135, m12_, (by rw [ha.out]; exact putSel_upk 0 hb_ rfl rfl rfl), Q_BK121, Q_BK122, Q_HB, Q_HO125, fun h0_ => absurd ((hoff 5 (by kernel_rfl)).symm.trans h0_) (by decide), Q_HO132, fun h0_ => absurd ((hoff 11 (by kernel_rfl)).symm.trans h0_) (by decide), fun h0_ => absurd ((hoff 12 (by kernel_rfl)).symm.trans h0_) (by decide)⟩
    refine steps_cons ?_ ?_
    ·rintro b a w' ⟨v124, v128, v131, v135, m12_, ha, Q_BK121, Q_BK122, Q_HB, Q_HO125, Q_HO129, Q_HO132, Q_HO136, Q_X12_⟩ hb_ hon hoff
     refine ⟨_, rfl, fun K hK => ?_⟩
     have e7 : a.tmps[7]? = some (.int .u8 a1) := by rw [ha]; exact (putSel_off rfl).trans rfl
     replace ha := qS ha
     have BK121 := qS Q_BK121
     have BK122 := qS Q_BK122
     have HB := qS Q_HB
     refine Kd.R_lit_step (Kd.int .u8) _ 5 ?hg (N := 8) ?hd (xs := ([a1, 0] : List Int)) (inner := [.int .u8 a1, .int .u8 0]) (ok := fun _ => True) (okp := fun _ => True) ?hr ?hp (fun _ hk => hk) trivial (Below.refl _ _) (Nat.le_refl _) (by simp) ?_; (case hd => rfl); (case hg => rfl); (case hr => first | (go_simp; done) | (go_simp; rfl)); (case hp => exact (Reps.one (show Kd.M (Kd.int .u8) _ _ _ a1 [.int .u8 a1] from rfl) (Reps.one (show Kd.M (Kd.int .u8) _ _ _ 0 [.int .u8 0] from rfl) (Reps.none _ _))))
     intro v124 w11 ho12 hb hg_ hnew_
     clear hg_ hnew_
     (first | rw [← Ny123.out] at ho12 | (simp only [Int.reduceToNat] at ho12; rw [← Ny123.out] at ho12))
     have n0_ := qS (Kd.R_lower ho12 (below_size (by repeat (first | (with_reducible first | exact HB.out | apply qpA | apply qpN | apply qp1 | refine qpS ?_ GE121.out | refine qpS ?_ GE122.out) | exact HB.out))))
     have n1_ := qS (qB (g := gb121) (o := .cells #[.int .u8 a0_0, .int .u8 a0_1, .int .u8 a0_2, .int .u8 a0_3, .int .u8 a0_4, .int .u8 a0_5, .int .u8 a0_6, .int .u8 a0_7, .int .u8 a0_8, .int .u8 a0_9, .int .u8 a0_10, .int .u8 a0_11, .int .u8 a0_12, .int .u8 a0_13, .int .u8 a0_14, .int .u8 a0_15] 27 (0, 0)) (by (with_reducible repeat (first | refine qN ?_ _ | refine qD ?_ | refine qA ?_ _)); exact BK121.out) hb)
     have n2_ := qS (qB (g := gb122) (o := .cells #[.int .u8 0, .int .u8 0, .int .u8 0, .int .u8 0, .int .u8 0, .int .u8 0, .int .u8 0, .int .u8 0, .int .u8 0, .int .u8 0, .int .u8 0, .int .u8 0, .int .u8 0, .int .u8 0, .int .u8 0, .int .u8 0] 27 (0, 0)) (by (with_reducible repeat (first | refine qN ?_ _ | refine qD ?_ | refine qA ?_ _)); exact BK122.out) hb)
     have n3_ := qS (below_step (by repeat (first | (with_reducible first | exact HB.out | apply qpA | apply qpN | apply qp1 | refine qpS ?_ GE121.out | refine qpS ?_ GE122.out) | exact HB.out)) hb)
     have z_HO132 := fun (h0_ : b 8 = true) => (show Kd.R (Kd.int .u8) 5 w11 w.heap.size (fun _ => True) v131 y130 from by first | exact (Kd.R_elder' (by (with_reducible repeat (first | apply Kd.R_alloc | apply Kd.R_drewN | apply Kd.R_drew)); exact (Q_HO132 h0_)) (Kd.R_base ho12) hb) | exact Kd.R_mono (Kd.R_elder' (by (with_reducible repeat (first | apply Kd.R_alloc | apply Kd.R_drewN | apply Kd.R_drew)); exact (Q_HO132 h0_)) (Kd.R_base ho12) hb) (fun _ h_ => by first | trivial | exact h_ | exact h_.1))
     clear BK121
     clear BK122
     clear HB
     have HO125 := n0_
     have BK121 := n1_
     have BK122 := n2_
     have HB := n3_
     clear n0_ n1_ n2_ n3_
     clear hb ho12
     refine hK.out _ _ ⟨v124, v128, v131, v135, m12_, (by rw [ha.out]; exact putSel_upk 1 hb_ rfl rfl rfl), (by (with_reducible repeat (first | refine qN ?_ _ | refine qD ?_ | refine qA ?_ _)); exact BK121.out), (by (with_reducible repeat (first | refine qN ?_ _ | refine qD ?_ | refine qA ?_ _)); exact BK122.out), (by repeat (first | (with_reducible first | exact HB.out | apply qpA | apply qpN | apply qp1 | refine qpS ?_ GE121.out | refine qpS ?_ GE122.out) | exact HB.out)), fun _ => (by (with_reducible repeat (first | apply Kd.R_alloc | apply Kd.R_drewN | apply Kd.R_drew)); exact HO125.out), fun h0_ => absurd ((hoff 5 (by kernel_rfl)).symm.trans h0_) (by decide), z_HO132, fun h0_ => absurd ((hoff 11 (by kernel_rfl)).symm.trans h0_) (by decide), fun h0_ => absurd ((hoff 12 (by kernel_rfl)).symm.trans h0_) (by decide)⟩
    refine steps_cons ?_ ?_
    ·rintro b a w' ⟨v124, v128, v131, v135, m12_, ha, Q_BK121, Q_BK122, Q_HB, Q_HO125, Q_HO129, Q_HO132, Q_HO136, Q_X12_⟩ hb_ hon hoff
     refine ⟨_, rfl, fun K hK => ?_⟩
     have e6 : a.tmps[6]? = some (.agg #[.int .u8 a0_0, .int .u8 a0_1, .int .u8 a0_2, .int .u8 a0_3, .int .u8 a0_4, .int .u8 a0_5, .int .u8 a0_6, .int .u8 a0_7, .int .u8 a0_8, .int .u8 a0_9, .int .u8 a0_10, .int .u8 a0_11, .int .u8 a0_12, .int .u8 a0_13, .int .u8 a0_14, .int .u8 a0_15]) := by rw [ha]; exact putSel_on (e := (0, 6, .agg #[.int .u8 a0_0, .int .u8 a0_1, .int .u8 a0_2, .int .u8 a0_3, .int .u8 a0_4, .int .u8 a0_5, .int .u8 a0_6, .int .u8 a0_7, .int .u8 a0_8, .int .u8 a0_9, .int .u8 a0_10, .int .u8 a0_11, .int .u8 a0_12, .int .u8 a0_13, .int .u8 a0_14, .int .u8 a0_15])) 0 rfl rfl (hon 0 (by kernel_rfl)) rfl
     have e8 : a.tmps[8]? = some (v124) := by rw [ha]; exact putSel_on (e := (2, 8, v124)) 1 rfl rfl (hon 2 (by kernel_rfl)) rfl
     replace ha := qS ha
     have BK121 := qS Q_BK121
     have BK122 := qS Q_BK122
     have HB := qS Q_HB
     have HO125 := qS (Q_HO125 (hon 2 (by kernel_rfl)))
     obtain ⟨Ao14, co14, eo14⟩ := Kd.R_slice HO125.out
     (first | subst eo14 | (injection eo14 with f1_ f2_ f3_; have f4_ := f1_.symm; have f5_ := f3_.symm; clear f1_ f2_ f3_; subst f4_; subst f5_))
     refine goes_ Try.func8 (by kernel_rfl) rfl #[.agg #[.int .u8 a0_0, .int .u8 a0_1, .int .u8 a0_2, .int .u8 a0_3, .int .u8 a0_4, .int .u8 a0_5, .int .u8 a0_6, .int .u8 a0_7, .int .u8 a0_8, .int .u8 a0_9, .int .u8 a0_10, .int .u8 a0_11, .int .u8 a0_12, .int .u8 a0_13, .int .u8 a0_14, .int .u8 a0_15], .slice Ao14 y123.length co14] (by rfl) rfl rfl (by (try simp only [List.map_toArray, List.map_cons, List.map_nil]); first | done | rfl | (simp only [*]; done) | (simp only [List.length_drop, List.length_take]; rfl) | (simp only [Act.eval, Array.getD_eq_getD_getElem?, Option.getD_some, *])) ?_
     with_reducible refine (prf_Sum.calls a0_0 a0_1 a0_2 a0_3 a0_4 a0_5 a0_6 a0_7 a0_8 a0_9 a0_10 a0_11 a0_12 a0_13 a0_14 a0_15 _ _ y123 t126 _ ?side1 ?side2 A3.out).mono ?_
     (case side1 => repeat (first | exact (Kd.R_reads' HO125.out).2.2 | (with_reducible refine Kd.C_alloc ?_ _) | (with_reducible refine Kd.C_drewN ?_ _) | (with_reducible refine Kd.C_drew ?_)))
     (case side2 => exact (Kd.R_reads' HO125.out).2.1)
     rintro e w15 ⟨rfl, hb⟩
     refine ⟨_, rfl, ?_⟩
     have n0_ := qS (Kd.R_below (by (with_reducible repeat (first | apply Kd.R_alloc | apply Kd.R_drewN | apply Kd.R_drew)); exact HO125.out) hb)
     have n1_ := qS (qB (g := gb121) (o := .cells #[.int .u8 a0_0, .int .u8 a0_1, .int .u8 a0_2, .int .u8 a0_3, .int .u8 a0_4, .int .u8 a0_5, .int .u8 a0_6, .int .u8 a0_7, .int .u8 a0_8, .int .u8 a0_9, .int .u8 a0_10, .int .u8 a0_11, .int .u8 a0_12, .int .u8 a0_13, .int .u8 a0_14, .int .u8 a0_15] 27 (0, 0)) (by (with_reducible repeat (first | refine qN ?_ _ | refine qD ?_ | refine qA ?_ _)); exact BK121.out) hb)
     have n2_ := qS (qB (g := gb122) (o := .cells #[.int .u8 0, .int .u8 0, .int .u8 0, .int .u8 0, .int .u8 0, .int .u8 0, .int .u8 0, .int .u8 0, .int .u8 0, .int .u8 0, .int .u8 0, .int .u8 0, .int .u8 0, .int .u8 0, .int .u8 0, .int .u8 0] 27 (0, 0)) (by (with_reducible repeat (first | refine qN ?_ _ | refine qD ?_ | refine qA ?_ _)); exact BK122.out) hb)
     have n3_ := qS (below_step (by repeat (first | (with_reducible first | exact HB.out | apply qpA | apply qpN | apply qp1 | refine qpS ?_ GE121.out | refine qpS ?_ GE122.out) | exact HB.out)) hb)
     have z_HO132 := fun (h0_ : b 8 = true) => (show Kd.R (Kd.int .u8) 5 w15 w.heap.size (fun _ => True) v131 y130 from by first | exact (Kd.R_below (by (with_reducible repeat (first | apply Kd.R_alloc | apply Kd.R_drewN | apply Kd.R_drew)); exact (Q_HO132 h0_)) hb) | exact Kd.R_mono (Kd.R_below (by (with_reducible repeat (first | apply Kd.R_alloc | apply Kd.R_drewN | apply Kd.R_drew)); exact (Q_HO132 h0_)) hb) (fun _ h_ => by first | trivial | exact h_ | exact h_.1))
     clear HO125
     clear BK121
     clear BK122
     clear HB
     have HO125 := n0_
     have BK121 := n1_
     have BK122 := n2_
     have HB := n3_
     clear n0_ n1_ n2_ n3_
     (try clear hb)
     (try clear hb2)
     (try clear hk)
     (try clear hi)
     refine hK.out _ _ ⟨.slice Ao14 y123.length co14, v128, v131, v135, m12_, (by rw [ha.out]; exact putSel_upk 2 hb_ rfl rfl rfl), (by (with_reducible repeat (first | refine qN ?_ _ | refine qD ?_ | refine qA ?_ _)); exact BK121.out), (by (with_reducible repeat (first | refine qN ?_ _ | refine qD ?_ | refine qA ?_ _)); exact BK122.out), (by repeat (first | (with_reducible first | exact HB.out | apply qpA | apply qpN | apply qp1 | refine qpS ?_ GE121.out | refine qpS ?_ GE122.out) | exact HB.out)), fun _ => (by (with_reducible repeat (first | apply Kd.R_alloc | apply Kd.R_drewN | apply Kd.R_drew)); exact HO125.out), fun h0_ => absurd ((hoff 5 (by kernel_rfl)).symm.trans h0_) (by decide), z_HO132, fun h0_ => absurd ((hoff 11 (by kernel_rfl)).symm.trans h0_) (by decide), fun h0_ => absurd ((hoff 12 (by kernel_rfl)).symm.trans h0_) (by decide)⟩
    refine steps_cons ?_ ?_
    ·rintro b a w' ⟨v124, v128, v131, v135, m12_, ha, Q_BK121, Q_BK122, Q_HB, Q_HO125, Q_HO129, Q_HO132, Q_HO136, Q_X12_⟩ hb_ hon hoff
     refine ⟨_, rfl, fun K hK => ?_⟩
     have e9 : a.tmps[9]? = some (.int .u64 t126) := by rw [ha]; exact putSel_on (e := (3, 9, .int .u64 t126)) 2 rfl rfl (hon 3 (by kernel_rfl)) rfl
     replace ha := qS ha
     have BK121 := qS Q_BK121
     have BK122 := qS Q_BK122
     have HB := qS Q_HB
     have HO125 := qS (Q_HO125 (hon 2 (by kernel_rfl)))
     refine value_ (w1 := w') (v := .int .i64 (wrap64 (t126))) (by rfl) rfl ?_ ?_
     ·go_simp
      (try simp only [i64_w])
      try rfl
     refine hK.out _ _ ⟨v124, v128, v131, v135, m12_, (by rw [ha.out]; exact putSel_upk 3 hb_ rfl rfl rfl), Q_BK121, Q_BK122, Q_HB, Q_HO125, fun h0_ => absurd ((hoff 5 (by kernel_rfl)).symm.trans h0_) (by decide), Q_HO132, fun h0_ => absurd ((hoff 11 (by kernel_rfl)).symm.trans h0_) (by decide), fun h0_ => absurd ((hoff 12 (by kernel_rfl)).symm.trans h0_) (by decide)⟩
    refine steps_cons ?_ ?_
    ·rintro b a w' ⟨v124, v128, v131, v135, m12_, ha, Q_BK121, Q_BK122, Q_HB, Q_HO125, Q_HO129, Q_HO132, Q_HO136, Q_X12_⟩ hb_ hon hoff
     refine ⟨_, rfl, fun K hK => ?_⟩
     have e10 : a.tmps[10]? = some (.int .i64 (wrap64 (t126))) := by rw [ha]; exact putSel_on (e := (4, 10, .int .i64 (wrap64 (t126)))) 3 rfl rfl (hon 4 (by kernel_rfl)) rfl
     replace ha := qS ha
     have BK121 := qS Q_BK121
     have BK122 := qS Q_BK122
     have HB := qS Q_HB
     have HO125 := qS (Q_HO125 (hon 2 (by kernel_rfl)))
     refine goes_ Try.func34 (by kernel_rfl) rfl #[.slice none 0 0, .int .i64 (wrap64 (t126))] (by rfl) rfl rfl (by (try simp only [List.map_toArray, List.map_cons, List.map_nil]); first | done | rfl | (simp only [*]; done) | (simp only [List.length_drop, List.length_take]; rfl) | (simp only [Act.eval, Array.getD_eq_getD_getElem?, Option.getD_some, *])) ?_
     refine (fields_I64.calls k _ _ ([] : List Int) (wrap64 (t126)) t127 _ ?side1 ?side2 A4.out).mono ?_
     (case side1 => exact Kd.C_nil _ _)
     (case side2 => exact Nat.le_refl _)
     rintro e w16 ⟨v128, rfl, ho0, hb⟩
     refine ⟨_, rfl, ?_⟩
     have n0_ := qS (Kd.R_elder' (by (with_reducible repeat (first | apply Kd.R_alloc | apply Kd.R_drewN | apply Kd.R_drew)); exact HO125.out) (Kd.R_base ho0) hb)
     have n1_ := qS (Kd.R_lower (Kd.R_new' ho0 (Kd.R_lt (by (with_reducible repeat (first | apply Kd.R_alloc | apply Kd.R_drewN | apply Kd.R_drew)); exact HO125.out))) (below_size (by repeat (first | (with_reducible first | exact HB.out | apply qpA | apply qpN | apply qp1 | refine qpS ?_ GE121.out | refine qpS ?_ GE122.out) | exact HB.out))))
     have n2_ := qS (qB (g := gb121) (o := .cells #[.int .u8 a0_0, .int .u8 a0_1, .int .u8 a0_2, .int .u8 a0_3, .int .u8 a0_4, .int .u8 a0_5, .int .u8 a0_6, .int .u8 a0_7, .int .u8 a0_8, .int .u8 a0_9, .int .u8 a0_10, .int .u8 a0_11, .int .u8 a0_12, .int .u8 a0_13, .int .u8 a0_14, .int .u8 a0_15] 27 (0, 0)) (by (with_reducible repeat (first | refine qN ?_ _ | refine qD ?_ | refine qA ?_ _)); exact BK121.out) hb)
     have n3_ := qS (qB (g := gb122) (o := .cells #[.int .u8 0, .int .u8 0, .int .u8 0, .int .u8 0, .int .u8 0, .int .u8 0, .int .u8 0, .int .u8 0, .int .u8 0, .int .u8 0, .int .u8 0, .int .u8 0, .int .u8 0, .int .u8 0, .int .u8 0, .int .u8 0] 27 (0, 0)) (by (with_reducible repeat (first | refine qN ?_ _ | refine qD ?_ | refine qA ?_ _)); exact BK122.out) hb)
     have n4_ := qS (below_step (by repeat (first | (with_reducible first | exact HB.out | apply qpA | apply qpN | apply qp1 | refine qpS ?_ GE121.out | refine qpS ?_ GE122.out) | exact HB.out)) hb)
     have z_HO132 := fun (h0_ : b 8 = true) => (show Kd.R (Kd.int .u8) 5 w16 w.heap.size (fun _ => True) v131 y130 from by first | exact (Kd.R_elder' (by (with_reducible repeat (first | apply Kd.R_alloc | apply Kd.R_drewN | apply Kd.R_drew)); exact (Q_HO132 h0_)) (Kd.R_base ho0) hb) | exact Kd.R_mono (Kd.R_elder' (by (with_reducible repeat (first | apply Kd.R_alloc | apply Kd.R_drewN | apply Kd.R_drew)); exact (Q_HO132 h0_)) (Kd.R_base ho0) hb) (fun _ h_ => by first | trivial | exact h_ | exact h_.1))
     clear HO125
     clear BK121
     clear BK122
     clear HB
     have HO125 := n0_
     have HO129 := n1_
     have BK121 := n2_
     have BK122 := n3_
     have HB := n4_
     clear n0_ n1_ n2_ n3_ n4_
     (try clear hb)
     (try clear hb2)
     (try clear hk)
     (try clear hi)
     (try clear ho0)
     refine hK.out _ _ ⟨v124, v128, v131, v135, m12_, (by rw [ha.out]; exact putSel_upk 4 hb_ rfl rfl rfl), (by (with_reducible repeat (first | refine qN ?_ _ | refine qD ?_ | refine qA ?_ _)); exact BK121.out), (by (with_reducible repeat (first | refine qN ?_ _ | refine qD ?_ | refine qA ?_ _)); exact BK122.out), (by repeat (first | (with_reducible first | exact HB.out | apply qpA | apply qpN | apply qp1 | refine qpS ?_ GE121.out | refine qpS ?_ GE122.out) | exact HB.out)), fun _ => (by (with_reducible repeat (first | apply Kd.R_alloc | apply Kd.R_drewN | apply Kd.R_drew)); exact Kd.R_mono HO125.out (fun _ hk => by first | exact hk.2 | exact True.intro)), fun _ => (by (with_reducible repeat (first | apply Kd.R_alloc | apply Kd.R_drewN | apply Kd.R_drew)); exact Kd.R_mono HO129.out (fun _ hk => by first | exact hk.2 | exact True.intro)), z_HO132, fun h0_ => absurd ((hoff 11 (by kernel_rfl)).symm.trans h0_) (by decide), fun h0_ => absurd ((hoff 12 (by kernel_rfl)).symm.trans h0_) (by decide)⟩
    refine steps_cons ?_ ?_
    ·rintro b a w' ⟨v124, v128, v131, v135, m12_, ha, Q_BK121, Q_BK122, Q_HB, Q_HO125, Q_HO129, Q_HO132, Q_HO136, Q_X12_⟩ hb_ hon hoff
     refine ⟨_, rfl, fun K hK => ?_⟩
     have e2 : a.tmps[2]? = some (.pointer (some ⟨gb121, 0, none⟩)) := by rw [ha]; exact (putSel_off rfl).trans rfl
     replace ha := qS ha
     have BK121 := qS Q_BK121
     have BK122 := qS Q_BK122
     have HB := qS Q_HB
     have hc0_ : w'.cell? ⟨gb121, 0, none⟩ = some (.int .u8 a0_0) := (qC BK121.out 0).trans rfl
     have hc1_ : w'.cell? ⟨gb121, 1, none⟩ = some (.int .u8 a0_1) := (qC BK121.out 1).trans rfl
     have hc2_ : w'.cell? ⟨gb121, 2, none⟩ = some (.int .u8 a0_2) := (qC BK121.out 2).trans rfl
     have hc3_ : w'.cell? ⟨gb121, 3, none⟩ = some (.int .u8 a0_3) := (qC BK121.out 3).trans rfl
     have hc4_ : w'.cell? ⟨gb121, 4, none⟩ = some (.int .u8 a0_4) := (qC BK121.out 4).trans rfl
     have hc5_ : w'.cell? ⟨gb121, 5, none⟩ = some (.int .u8 a0_5) := (qC BK121.out 5).trans rfl
     have hc6_ : w'.cell? ⟨gb121, 6, none⟩ = some (.int .u8 a0_6) := (qC BK121.out 6).trans rfl
     have hc7_ : w'.cell? ⟨gb121, 7, none⟩ = some (.int .u8 a0_7) := (qC BK121.out 7).trans rfl
     have hc8_ : w'.cell? ⟨gb121, 8, none⟩ = some (.int .u8 a0_8) := (qC BK121.out 8).trans rfl
     have hc9_ : w'.cell? ⟨gb121, 9, none⟩ = some (.int .u8 a0_9) := (qC BK121.out 9).trans rfl
     have hc10_ : w'.cell? ⟨gb121, 10, none⟩ = some (.int .u8 a0_10) := (qC BK121.out 10).trans rfl
     have hc11_ : w'.cell? ⟨gb121, 11, none⟩ = some (.int .u8 a0_11) := (qC BK121.out 11).trans rfl
     have hc12_ : w'.cell? ⟨gb121, 12, none⟩ = some (.int .u8 a0_12) := (qC BK121.out 12).trans rfl
     have hc13_ : w'.cell? ⟨gb121, 13, none⟩ = some (.int .u8 a0_13) := (qC BK121.out 13).trans rfl
     have hc14_ : w'.cell? ⟨gb121, 14, none⟩ = some (.int .u8 a0_14) := (qC BK121.out 14).trans rfl
     have hc15_ : w'.cell? ⟨gb121, 15, none⟩ = some (.int .u8 a0_15) := (qC BK121.out 15).trans rfl
     refine value_ (w1 := w') (v := .agg #[.int .u8 a0_0, .int .u8 a0_1, .int .u8 a0_2, .int .u8 a0_3, .int .u8 a0_4, .int .u8 a0_5, .int .u8 a0_6, .int .u8 a0_7, .int .u8 a0_8, .int .u8 a0_9, .int .u8 a0_10, .int .u8 a0_11, .int .u8 a0_12, .int .u8 a0_13, .int .u8 a0_14, .int .u8 a0_15]) (by rfl) rfl ?_ ?_
     ·go_simp
      (try simp only [i64_w])
      try rfl
     refine hK.out _ _ ⟨v124, v128, v131, v135, m12_, (by rw [ha.out]; exact putSel_upk 5 hb_ rfl rfl rfl), Q_BK121, Q_BK122, Q_HB, Q_HO125, Q_HO129, Q_HO132, fun h0_ => absurd ((hoff 11 (by kernel_rfl)).symm.trans h0_) (by decide), fun h0_ => absurd ((hoff 12 (by kernel_rfl)).symm.trans h0_) (by decide)⟩
    refine steps_cons ?_ ?_
    ·rintro b a w' ⟨v124, v128, v131, v135, m12_, ha, Q_BK121, Q_BK122, Q_HB, Q_HO125, Q_HO129, Q_HO132, Q_HO136, Q_X12_⟩ hb_ hon hoff
     refine ⟨_, rfl, fun K hK => ?_⟩
     have e13 : a.tmps[13]? = some (.int .u8 a1) := by rw [ha]; exact (putSel_off rfl).trans rfl
     replace ha := qS ha
     have BK121 := qS Q_BK121
     have BK122 := qS Q_BK122
     have HB := qS Q_HB
     refine Kd.R_lit_step (Kd.int .u8) _ 5 ?hg (N := 14) ?hd (xs := ([a1, 1] : List Int)) (inner := [.int .u8 a1, .int .u8 1]) (ok := fun _ => True) (okp := fun _ => True) ?hr ?hp (fun _ hk => hk) trivial (Below.refl _ _) (Nat.le_refl _) (by simp) ?_; (case hd => rfl); (case hg => rfl); (case hr => first | (go_simp; done) | (go_simp; rfl)); (case hp => exact (Reps.one (show Kd.M (Kd.int .u8) _ _ _ a1 [.int .u8 a1] from rfl) (Reps.one (show Kd.M (Kd.int .u8) _ _ _ 1 [.int .u8 1] from rfl) (Reps.none _ _))))
     intro v131 w11 ho12 hb hg_ hnew_
     clear hg_ hnew_
     (first | rw [← Ny130.out] at ho12 | (simp only [Int.reduceToNat] at ho12; rw [← Ny130.out] at ho12))
     have n0_ := qS (Kd.R_lower ho12 (below_size (by repeat (first | (with_reducible first | exact HB.out | apply qpA | apply qpN | apply qp1 | refine qpS ?_ GE121.out | refine qpS ?_ GE122.out) | exact HB.out))))
     have n1_ := qS (qB (g := gb121) (o := .cells #[.int .u8 a0_0, .int .u8 a0_1, .int .u8 a0_2, .int .u8 a0_3, .int .u8 a0_4, .int .u8 a0_5, .int .u8 a0_6, .int .u8 a0_7, .int .u8 a0_8, .int .u8 a0_9, .int .u8 a0_10, .int .u8 a0_11, .int .u8 a0_12, .int .u8 a0_13, .int .u8 a0_14, .int .u8 a0_15] 27 (0, 0)) (by (with_reducible repeat (first | refine qN ?_ _ | refine qD ?_ | refine qA ?_ _)); exact BK121.out) hb)
     have n2_ := qS (qB (g := gb122) (o := .cells #[.int .u8 0, .int .u8 0, .int .u8 0, .int .u8 0, .int .u8 0, .int .u8 0, .int .u8 0, .int .u8 0, .int .u8 0, .int .u8 0, .int .u8 0, .int .u8 0, .int .u8 0, .int .u8 0, .int .u8 0, .int .u8 0] 27 (0, 0)) (by (with_reducible repeat (first | refine qN ?_ _ | refine qD ?_ | refine qA ?_ _)); exact BK122.out) hb)
     have n3_ := qS (below_step (by repeat (first | (with_reducible first | exact HB.out | apply qpA | apply qpN | apply qp1 | refine qpS ?_ GE121.out | refine qpS ?_ GE122.out) | exact HB.out)) hb)
     have z_HO125 := fun (h0_ : b 2 = true) => (show Kd.R (Kd.int .u8) 5 w11 w.heap.size (fun _ => True) v124 y123 from by first | exact (Kd.R_elder' (by (with_reducible repeat (first | apply Kd.R_alloc | apply Kd.R_drewN | apply Kd.R_drew)); exact (Q_HO125 h0_)) (Kd.R_base ho12) hb) | exact Kd.R_mono (Kd.R_elder' (by (with_reducible repeat (first | apply Kd.R_alloc | apply Kd.R_drewN | apply Kd.R_drew)); exact (Q_HO125 h0_)) (Kd.R_base ho12) hb) (fun _ h_ => by first | trivial | exact h_ | exact h_.1))
     have z_HO129 := fun (h0_ : b 5 = true) => (show Kd.R (Kd.int .u8) 5 w11 w.heap.size (fun _ => True) v128 t127 from by first | exact (Kd.R_elder' (by (with_reducible repeat (first | apply Kd.R_alloc | apply Kd.R_drewN | apply Kd.R_drew)); exact (Q_HO129 h0_)) (Kd.R_base ho12) hb) | exact Kd.R_mono (Kd.R_elder' (by (with_reducible repeat (first | apply Kd.R_alloc | apply Kd.R_drewN | apply Kd.R_drew)); exact (Q_HO129 h0_)) (Kd.R_base ho12) hb) (fun _ h_ => by first | trivial | exact h_ | exact h_.1))
     clear BK121
     clear BK122
     clear HB
     have HO132 := n0_
     have BK121 := n1_
     have BK122 := n2_
     have HB := n3_
     clear n0_ n1_ n2_ n3_
     clear hb ho12
     refine hK.out _ _ ⟨v124, v128, v131, v135, m12_, (by rw [ha.out]; exact putSel_upk 6 hb_ rfl rfl rfl), (by (with_reducible repeat (first | refine qN ?_ _ | refine qD ?_ | refine qA ?_ _)); exact BK121.out), (by (with_reducible repeat (first | refine qN ?_ _ | refine qD ?_ | refine qA ?_ _)); exact BK122.out), (by repeat (first | (with_reducible first | exact HB.out | apply qpA | apply qpN | apply qp1 | refine qpS ?_ GE121.out | refine qpS ?_ GE122.out) | exact HB.out)), z_HO125, z_HO129, fun _ => (by (with_reducible repeat (first | apply Kd.R_alloc | apply Kd.R_drewN | apply Kd.R_drew)); exact HO132.out), fun h0_ => absurd ((hoff 11 (by kernel_rfl)).symm.trans h0_) (by decide), fun h0_ => absurd ((hoff 12 (by kernel_rfl)).symm.trans h0_) (by decide)⟩
    refine steps_cons ?_ ?_
    ·rintro b a w' ⟨v124, v128, v131, v135, m12_, ha, Q_BK121, Q_BK122, Q_HB, Q_HO125, Q_HO129, Q_HO132, Q_HO136, Q_X12_⟩ hb_ hon hoff
     refine ⟨_, rfl, fun K hK => ?_⟩
     have e12 : a.tmps[12]? = some (.agg #[.int .u8 a0_0, .int .u8 a0_1, .int .u8 a0_2, .int .u8 a0_3, .int .u8 a0_4, .int .u8 a0_5, .int .u8 a0_6, .int .u8 a0_7, .int .u8 a0_8, .int .u8 a0_9, .int .u8 a0_10, .int .u8 a0_11, .int .u8 a0_12, .int .u8 a0_13, .int .u8 a0_14, .int .u8 a0_15]) := by rw [ha]; exact putSel_on (e := (6, 12, .agg #[.int .u8 a0_0, .int .u8 a0_1, .int .u8 a0_2, .int .u8 a0_3, .int .u8 a0_4, .int .u8 a0_5, .int .u8 a0_6, .int .u8 a0_7, .int .u8 a0_8, .int .u8 a0_9, .int .u8 a0_10, .int .u8 a0_11, .int .u8 a0_12, .int .u8 a0_13, .int .u8 a0_14, .int .u8 a0_15])) 5 rfl rfl (hon 6 (by kernel_rfl)) rfl
     have e14 : a.tmps[14]? = some (v131) := by rw [ha]; exact putSel_on (e := (8, 14, v131)) 6 rfl rfl (hon 8 (by kernel_rfl)) rfl
     replace ha := qS ha
     have BK121 := qS Q_BK121
     have BK122 := qS Q_BK122
     have HB := qS Q_HB
     have HO125 := qS (Q_HO125 (hon 2 (by kernel_rfl)))
     have HO129 := qS (Q_HO129 (hon 5 (by kernel_rfl)))
     have HO132 := qS (Q_HO132 (hon 8 (by kernel_rfl)))
     obtain ⟨Ao19, co19, eo19⟩ := Kd.R_slice HO132.out
     (first | subst eo19 | (injection eo19 with f1_ f2_ f3_; have f4_ := f1_.symm; have f5_ := f3_.symm; clear f1_ f2_ f3_; subst f4_; subst f5_))
     refine goes_ Try.func8 (by kernel_rfl) rfl #[.agg #[.int .u8 a0_0, .int .u8 a0_1, .int .u8 a0_2, .int .u8 a0_3, .int .u8 a0_4, .int .u8 a0_5, .int .u8 a0_6, .int .u8 a0_7, .int .u8 a0_8, .int .u8 a0_9, .int .u8 a0_10, .int .u8 a0_11, .int .u8 a0_12, .int .u8 a0_13, .int .u8 a0_14, .int .u8 a0_15], .slice Ao19 y130.length co19] (by rfl) rfl rfl (by (try simp only [List.map_toArray, List.map_cons, List.map_nil]); first | done | rfl | (simp only [*]; done) | (simp only [List.length_drop, List.length_take]; rfl) | (simp only [Act.eval, Array.getD_eq_getD_getElem?, Option.getD_some, *])) ?_
     with_reducible refine (prf_Sum.calls a0_0 a0_1 a0_2 a0_3 a0_4 a0_5 a0_6 a0_7 a0_8 a0_9 a0_10 a0_11 a0_12 a0_13 a0_14 a0_15 _ _ y130 t133 _ ?side1 ?side2 A5.out).mono ?_
     (case side1 => repeat (first | exact (Kd.R_reads' HO132.out).2.2 | (with_reducible refine Kd.C_alloc ?_ _) | (with_reducible refine Kd.C_drewN ?_ _) | (with_reducible refine Kd.C_drew ?_)))
     (case side2 => exact (Kd.R_reads' HO132.out).2.1)
     rintro e w20 ⟨rfl, hb⟩
     refine ⟨_, rfl, ?_⟩
     have n0_ := qS (Kd.R_below (by (with_reducible repeat (first | apply Kd.R_alloc | apply Kd.R_drewN | apply Kd.R_drew)); exact HO125.out) hb)
     have n1_ := qS (Kd.R_below (by (with_reducible repeat (first | apply Kd.R_alloc | apply Kd.R_drewN | apply Kd.R_drew)); exact HO129.out) hb)
     have n2_ := qS (Kd.R_below (by (with_reducible repeat (first | apply Kd.R_alloc | apply Kd.R_drewN | apply Kd.R_drew)); exact HO132.out) hb)
     have n3_ := qS (qB (g := gb121) (o := .cells #[.int .u8 a0_0, .int .u8 a0_1, .int .u8 a0_2, .int .u8 a0_3, .int .u8 a0_4, .int .u8 a0_5, .int .u8 a0_6, .int .u8 a0_7, .int .u8 a0_8, .int .u8 a0_9, .int .u8 a0_10, .int .u8 a0_11, .int .u8 a0_12, .int .u8 a0_13, .int .u8 a0_14, .int .u8 a0_15] 27 (0, 0)) (by (with_reducible repeat (first | refine qN ?_ _ | refine qD ?_ | refine qA ?_ _)); exact BK121.out) hb)
     have n4_ := qS (qB (g := gb122) (o := .cells #[.int .u8 0, .int .u8 0, .int .u8 0, .int .u8 0, .int .u8 0, .int .u8 0, .int .u8 0, .int .u8 0, .int .u8 0, .int .u8 0, .int .u8 0, .int .u8 0, .int .u8 0, .int .u8 0, .int .u8 0, .int .u8 0] 27 (0, 0)) (by (with_reducible repeat (first | refine qN ?_ _ | refine qD ?_ | refine qA ?_ _)); exact BK122.out) hb)
     have n5_ := qS (below_step (by repeat (first | (with_reducible first | exact HB.out | apply qpA | apply qpN | apply qp1 | refine qpS ?_ GE121.out | refine qpS ?_ GE122.out) | exact HB.out)) hb)
     clear HO125
     clear HO129
     clear HO132
     clear BK121
     clear BK122
     clear HB
     have HO125 := n0_
     have HO129 := n1_
     have HO132 := n2_
     have BK121 := n3_
     have BK122 := n4_
     have HB := n5_
     clear n0_ n1_ n2_ n3_ n4_ n5_
     (try clear hb)
     (try clear hb2)
     (try clear hk)
     (try clear hi)
     refine hK.out _ _ ⟨v124, v128, .slice Ao19 y130.length co19, v135, m12_, (by rw [ha.out]; exact putSel_upk 7 hb_ rfl rfl rfl), (by (with_reducible repeat (first | refine qN ?_ _ | refine qD ?_ | refine qA ?_ _)); exact BK121.out), (by (with_reducible repeat (first | refine qN ?_ _ | refine qD ?_ | refine qA ?_ _)); exact BK122.out), (by repeat (first | (with_reducible first | exact HB.out | apply qpA | apply qpN | apply qp1 | refine qpS ?_ GE121.out | refine qpS ?_ GE122.out) | exact HB.out)), fun _ => (by (with_reducible repeat (first | apply Kd.R_alloc | apply Kd.R_drewN | apply Kd.R_drew)); exact HO125.out), fun _ => (by (with_reducible repeat (first | apply Kd.R_alloc | apply Kd.R_drewN | apply Kd.R_drew)); exact HO129.out), fun _ => (by (with_reducible repeat (first | apply Kd.R_alloc | apply Kd.R_drewN | apply Kd.R_drew)); exact HO132.out), fun h0_ => absurd ((hoff 11 (by kernel_rfl)).symm.trans h0_) (by decide), fun h0_ => absurd ((hoff 12 (by kernel_rfl)).symm.trans h0_) (by decide)⟩
    refine steps_cons ?_ ?_
    ·rintro b a w' ⟨v124, v128, v131, v135, m12_, ha, Q_BK121, Q_BK122, Q_HB, Q_HO125, Q_HO129, Q_HO132, Q_HO136, Q_X12_⟩ hb_ hon hoff
     refine ⟨_, rfl, fun K hK => ?_⟩
     have e15 : a.tmps[15]? = some (.int .u64 t133) := by rw [ha]; exact putSel_on (e := (9, 15, .int .u64 t133)) 7 rfl rfl (hon 9 (by kernel_rfl)) rfl
     replace ha := qS ha
     have BK121 := qS Q_BK121
     have BK122 := qS Q_BK122
     have HB := qS Q_HB
     have HO125 := qS (Q_HO125 (hon 2 (by kernel_rfl)))
     have HO129 := qS (Q_HO129 (hon 5 (by kernel_rfl)))
     have HO132 := qS (Q_HO132 (hon 8 (by kernel_rfl)))
     refine value_ (w1 := w') (v := .int .i64 (wrap64 (t133))) (by rfl) rfl ?_ ?_
     ·go_simp
      (try simp only [i64_w])
      try rfl
     refine hK.out _ _ ⟨v124, v128, v131, v135, m12_, (by rw [ha.out]; exact putSel_upk 8 hb_ rfl rfl rfl), Q_BK121, Q_BK122, Q_HB, Q_HO125, Q_HO129, Q_HO132, fun h0_ => absurd ((hoff 11 (by kernel_rfl)).symm.trans h0_) (by decide), fun h0_ => absurd ((hoff 12 (by kernel_rfl)).symm.trans h0_) (by decide)⟩
    refine steps_cons ?_ ?_
    ·rintro b a w' ⟨v124, v128, v131, v135, m12_, ha, Q_BK121, Q_BK122, Q_HB, Q_HO125, Q_HO129, Q_HO132, Q_HO136, Q_X12_⟩ hb_ hon hoff
     refine ⟨_, rfl, fun K hK => ?_⟩
     have e11 : a.tmps[11]? = some (v128) := by rw [ha]; exact putSel_on (e := (5, 11, v128)) 4 rfl rfl (hon 5 (by kernel_rfl)) rfl
     have e16 : a.tmps[16]? = some (.int .i64 (wrap64 (t133))) := by rw [ha]; exact putSel_on (e := (10, 16, .int .i64 (wrap64 (t133)))) 8 rfl rfl (hon 10 (by kernel_rfl)) rfl
     replace ha := qS ha
     have BK121 := qS Q_BK121
     have BK122 := qS Q_BK122
     have HB := qS Q_HB
     have HO125 := qS (Q_HO125 (hon 2 (by kernel_rfl)))
     have HO129 := qS (Q_HO129 (hon 5 (by kernel_rfl)))
     have HO132 := qS (Q_HO132 (hon 8 (by kernel_rfl)))
     obtain ⟨Ao21, co21, eo21⟩ := Kd.R_slice HO129.out
     (first | subst eo21 | (injection eo21 with f1_ f2_ f3_; have f4_ := f1_.symm; have f5_ := f3_.symm; clear f1_ f2_ f3_; subst f4_; subst f5_))
     refine goes_ Try.func34 (by kernel_rfl) rfl #[.slice Ao21 t127.length co21, .int .i64 (wrap64 (t133))] (by rfl) rfl rfl (by (try simp only [List.map_toArray, List.map_cons, List.map_nil]); first | done | rfl | (simp only [*]; done) | (simp only [List.length_drop, List.length_take]; rfl) | (simp only [Act.eval, Array.getD_eq_getD_getElem?, Option.getD_some, *])) ?_
     with_reducible refine (fields_I64.calls k _ _ t127 (wrap64 (t133)) t134 _ ?side1 ?side2 A6.out).mono ?_
     (case side1 => repeat (first | exact (Kd.R_reads' HO129.out).2.2 | (with_reducible refine Kd.C_alloc ?_ _) | (with_reducible refine Kd.C_drewN ?_ _) | (with_reducible refine Kd.C_drew ?_)))
     (case side2 => exact (Kd.R_reads' HO129.out).2.1)
     rintro e w22 ⟨v135, rfl, ho0, hb⟩
     refine ⟨_, rfl, ?_⟩
     have n0_ := qS (Kd.R_elder' (by (with_reducible repeat (first | apply Kd.R_alloc | apply Kd.R_drewN | apply Kd.R_drew)); exact HO125.out) (Kd.R_base ho0) hb)
     have n1_ := qS (Kd.R_elder' (by (with_reducible repeat (first | apply Kd.R_alloc | apply Kd.R_drewN | apply Kd.R_drew)); exact HO129.out) (Kd.R_base ho0) hb)
     have n2_ := qS (Kd.R_elder' (by (with_reducible repeat (first | apply Kd.R_alloc | apply Kd.R_drewN | apply Kd.R_drew)); exact HO132.out) (Kd.R_base ho0) hb)
     have n3_ := qS (Kd.R_lower (Kd.R_new' (Kd.R_new' (Kd.R_new' ho0 (Kd.R_lt (by (with_reducible repeat (first | apply Kd.R_alloc | apply Kd.R_drewN | apply Kd.R_drew)); exact HO125.out))) (Kd.R_lt (by (with_reducible repeat (first | apply Kd.R_alloc | apply Kd.R_drewN | apply Kd.R_drew)); exact HO129.out))) (Kd.R_lt (by (with_reducible repeat (first | apply Kd.R_alloc | apply Kd.R_drewN | apply Kd.R_drew)); exact HO132.out))) (below_size (by repeat (first | (with_reducible first | exact HB.out | apply qpA | apply qpN | apply qp1 | refine qpS ?_ GE121.out | refine qpS ?_ GE122.out) | exact HB.out))))
     have n4_ := qS (qB (g := gb121) (o := .cells #[.int .u8 a0_0, .int .u8 a0_1, .int .u8 a0_2, .int .u8 a0_3, .int .u8 a0_4, .int .u8 a0_5, .int .u8 a0_6, .int .u8 a0_7, .int .u8 a0_8, .int .u8 a0_9, .int .u8 a0_10, .int .u8 a0_11, .int .u8 a0_12, .int .u8 a0_13, .int .u8 a0_14, .int .u8 a0_15] 27 (0, 0)) (by (with_reducible repeat (first | refine qN ?_ _ | refine qD ?_ | refine qA ?_ _)); exact BK121.out) hb)
     have n5_ := qS (qB (g := gb122) (o := .cells #[.int .u8 0, .int .u8 0, .int .u8 0, .int .u8 0, .int .u8 0, .int .u8 0, .int .u8 0, .int .u8 0, .int .u8 0, .int .u8 0, .int .u8 0, .int .u8 0, .int .u8 0, .int .u8 0, .int .u8 0, .int .u8 0] 27 (0, 0)) (by (with_reducible repeat (first | refine qN ?_ _ | refine qD ?_ | refine qA ?_ _)); exact BK122.out) hb)
     have n6_ := qS (below_step (by repeat (first | (with_reducible first | exact HB.out | apply qpA | apply qpN | apply qp1 | refine qpS ?_ GE121.out | refine qpS ?_ GE122.out) | exact HB.out)) hb)
     clear HO125
     clear HO129
     clear HO132
     clear BK121
     clear BK122
     clear HB
     have HO125 := n0_
     have HO129 := n1_
     have HO132 := n2_
     have HO136 := n3_
     have BK121 := n4_
     have BK122 := n5_
     have HB := n6_
     clear n0_ n1_ n2_ n3_ n4_ n5_ n6_
     (try clear hb)
     (try clear hb2)
     (try clear hk)
     (try clear hi)
     (try clear ho0)
     refine hK.out _ _ ⟨v124, .slice Ao21 t127.length co21, v131, v135, m12_, (by rw [ha.out]; exact putSel_upk 9 hb_ rfl rfl rfl), (by (with_reducible repeat (first | refine qN ?_ _ | refine qD ?_ | refine qA ?_ _)); exact BK121.out), (by (with_reducible repeat (first | refine qN ?_ _ | refine qD ?_ | refine qA ?_ _)); exact BK122.out), (by repeat (first | (with_reducible first | exact HB.out | apply qpA | apply qpN | apply qp1 | refine qpS ?_ GE121.out | refine qpS ?_ GE122.out) | exact HB.out)), fun _ => (by (with_reducible repeat (first | apply Kd.R_alloc | apply Kd.R_drewN | apply Kd.R_drew)); exact Kd.R_mono HO125.out (fun _ hk => by first | exact ⟨hk.1.1, ⟨hk.1.2, hk.2⟩⟩ | exact True.intro)), fun _ => (by (with_reducible repeat (first | apply Kd.R_alloc | apply Kd.R_drewN | apply Kd.R_drew)); exact Kd.R_mono HO129.out (fun _ hk => by first | exact ⟨hk.1.1, ⟨hk.1.2, hk.2⟩⟩ | exact True.intro)), fun _ => (by (with_reducible repeat (first | apply Kd.R_alloc | apply Kd.R_drewN | apply Kd.R_drew)); exact Kd.R_mono HO132.out (fun _ hk => by first | exact ⟨hk.1.1, ⟨hk.1.2, hk.2⟩⟩ | exact True.intro)), fun _ => (by (with_reducible repeat (first | apply Kd.R_alloc | apply Kd.R_drewN | apply Kd.R_drew)); exact Kd.R_mono HO136.out (fun _ hk => by first | exact ⟨hk.1.1.2, ⟨hk.1.2, hk.2⟩⟩ | exact True.intro)), fun h0_ => absurd ((hoff 12 (by kernel_rfl)).symm.trans h0_) (by decide)⟩
    refine steps_cons ?_ ?_
    ·rintro b a w' ⟨v124, v128, v131, v135, m12_, ha, Q_BK121, Q_BK122, Q_HB, Q_HO125, Q_HO129, Q_HO132, Q_HO136, Q_X12_⟩ hb_ hon hoff
     refine ⟨_, rfl, fun K hK => ?_⟩
     have e17 : a.tmps[17]? = some (v135) := by rw [ha]; exact putSel_on (e := (11, 17, v135)) 9 rfl rfl (hon 11 (by kernel_rfl)) rfl
     replace ha := qS ha
     have BK121 := qS Q_BK121
     have BK122 := qS Q_BK122
     have HB := qS Q_HB
     have HO125 := qS (Q_HO125 (hon 2 (by kernel_rfl)))
     have HO129 := qS (Q_HO129 (hon 5 (by kernel_rfl)))
     have HO132 := qS (Q_HO132 (hon 8 (by kernel_rfl)))
     have HO136 := qS (Q_HO136 (hon 11 (by kernel_rfl)))
     refine value_ (w1 := w') (v := v135) (by rfl) rfl ?_ ?_
     ·go_simp
      (try simp only [i64_w])
      try rfl
     refine hK.out _ _ ⟨v124, v128, v131, v135, (v135), (by rw [ha.out]; exact putSel_upk 10 hb_ rfl rfl rfl), Q_BK121, Q_BK122, Q_HB, Q_HO125, Q_HO129, Q_HO132, Q_HO136, fun _ => rfl⟩
    exact steps_nil
   rintro b a w22 hall ⟨v124, v128, v131, v135, m12_, ha, Q_BK121, Q_BK122, Q_HB, Q_HO125, Q_HO129, Q_HO132, Q_HO136, Q_X12_⟩
   clear BK121 BK122 HB
   have hb0_ := hall 0 (by kernel_rfl)
   have hb2_ := hall 2 (by kernel_rfl)
   have hb3_ := hall 3 (by kernel_rfl)
   have hb4_ := hall 4 (by kernel_rfl)
   have hb5_ := hall 5 (by kernel_rfl)
   have hb6_ := hall 6 (by kernel_rfl)
   have hb8_ := hall 8 (by kernel_rfl)
   have hb9_ := hall 9 (by kernel_rfl)
   have hb10_ := hall 10 (by kernel_rfl)
   have hb11_ := hall 11 (by kernel_rfl)
   have hb12_ := hall 12 (by kernel_rfl)
   subst ha
   obtain rfl := Eq.symm <| Q_X12_ hb12_
   simp only [putSel, hb0_, hb2_, hb3_, hb4_, hb5_, hb6_, hb8_, hb9_, hb10_, hb11_, hb12_, if_true, Act.put, List.setIfInBounds_toArray, List.set_cons_zero, List.set_cons_succ]
   have BK121 := qS Q_BK121
   clear Q_BK121
   have BK122 := qS Q_BK122
   clear Q_BK122
   have HB := qS Q_HB
   clear Q_HB
   have HO125 := qS (Q_HO125 hb2_)
   clear Q_HO125
   have HO129 := qS (Q_HO129 hb5_)
   clear Q_HO129
   have HO132 := qS (Q_HO132 hb8_)
   clear Q_HO132
   have HO136 := qS (Q_HO136 hb11_)
   clear Q_HO136
   clear hall hb0_ hb2_ hb3_ hb4_ hb5_ hb6_ hb8_ hb9_ hb10_ hb11_ hb12_
   obtain ⟨Az, cz, ez⟩ := Kd.R_slice HO136.out
   (first | subst ez | (injection ez with f1_ f2_ f3_; have f4_ := f1_.symm; have f5_ := f3_.symm; clear f1_ f2_ f3_; subst f4_; subst f5_))
   have hCz := (Kd.R_reads' HO136.out).2.2
   have hl16 : 16 ≤ t134.length := by have := of_decide_eq_true c7b1; omega
   obtain ⟨adz, hAz⟩ : ∃ ad, Az = some ad := by obtain ⟨ad, h, _⟩ := hCz.2.2 (by omega); exact ⟨ad, h⟩
   subst hAz
   have HZ := Aside0.mk (And.intro hCz hl16)
   clear hCz hl16
   go_wp2_with (first | ((with_reducible refine gate_dst (N := 19) rfl ?_); refine s2a_event rfl rfl 16 _ Try.underlying27 (some adz) _ _ rfl HZ.out.2 ?_) | ((with_reducible refine gate_dst (N := 20) rfl ?_); refine rowget_at_event rfl rfl adz #[.int .u8 (rd t134 0), .int .u8 (rd t134 1), .int .u8 (rd t134 2), .int .u8 (rd t134 3), .int .u8 (rd t134 4), .int .u8 (rd t134 5), .int .u8 (rd t134 6), .int .u8 (rd t134 7), .int .u8 (rd t134 8), .int .u8 (rd t134 9), .int .u8 (rd t134 10), .int .u8 (rd t134 11), .int .u8 (rd t134 12), .int .u8 (rd t134 13), .int .u8 (rd t134 14), .int .u8 (rd t134 15)] _ rfl (cells16 HZ.out.1 HZ.out.2) Try.underlying27 rfl (by kernel_rfl) ?_) | ((with_reducible refine gate_store (t := 27) (p := 4) rfl ?_); refine rowput_event rfl rfl rfl gb122 0 27 #[.int .u8 0, .int .u8 0, .int .u8 0, .int .u8 0, .int .u8 0, .int .u8 0, .int .u8 0, .int .u8 0, .int .u8 0, .int .u8 0, .int .u8 0, .int .u8 0, .int .u8 0, .int .u8 0, .int .u8 0, .int .u8 0] #[.int .u8 (rd t134 0), .int .u8 (rd t134 1), .int .u8 (rd t134 2), .int .u8 (rd t134 3), .int .u8 (rd t134 4), .int .u8 (rd t134 5), .int .u8 (rd t134 6), .int .u8 (rd t134 7), .int .u8 (rd t134 8), .int .u8 (rd t134 9), .int .u8 (rd t134 10), .int .u8 (rd t134 11), .int .u8 (rd t134 12), .int .u8 (rd t134 13), .int .u8 (rd t134 14), .int .u8 (rd t134 15)] _ [.int .u8 (rd t134 0), .int .u8 (rd t134 1), .int .u8 (rd t134 2), .int .u8 (rd t134 3), .int .u8 (rd t134 4), .int .u8 (rd t134 5), .int .u8 (rd t134 6), .int .u8 (rd t134 7), .int .u8 (rd t134 8), .int .u8 (rd t134 9), .int .u8 (rd t134 10), .int .u8 (rd t134 11), .int .u8 (rd t134 12), .int .u8 (rd t134 13), .int .u8 (rd t134 14), .int .u8 (rd t134 15)] rfl rfl rfl BK122.out (by kernel_rfl) (by simp) (by simp [Value.oneCell']) rfl HB.out GE122.out ?_; intro wz hnw_ hfar_ hb_; have HN_ := Aside0.mk hnw_; have HBz := Aside0.mk hb_; clear hnw_ hfar_ hb_))
   refine bodyPost_ret (results_cell_row rfl _ _ gb122 27 #[.int .u8 (rd t134 0), .int .u8 (rd t134 1), .int .u8 (rd t134 2), .int .u8 (rd t134 3), .int .u8 (rd t134 4), .int .u8 (rd t134 5), .int .u8 (rd t134 6), .int .u8 (rd t134 7), .int .u8 (rd t134 8), .int .u8 (rd t134 9), .int .u8 (rd t134 10), .int .u8 (rd t134 11), .int .u8 (rd t134 12), .int .u8 (rd t134 13), .int .u8 (rd t134 14), .int .u8 (rd t134 15)] (0, 0) _ rfl HN_.out Try.underlying27 rfl (by kernel_rfl)) rfl ?_
   exact ⟨rfl, HBz.out⟩
 ·rw [if_neg c7] at H
  exact absurd H (by simp)

end Go.Proofs.Ytiljnlhmeolhfaa.MPrfSums
