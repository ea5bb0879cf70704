/- Printed by wip/gen/mp.py: Go functions as plain Lean functions, and that the calls do what these say. -/
import Derived.Test.YtiljnlhmeolhfaaMPrfSumsx0
import Derived.Test.YtiljnlhmeolhfaaMPrfSumsx4
namespace Go.Proofs.Ytiljnlhmeolhfaa.MPrfSums
open Go.RowKit Go.Proofs.YtiljnlhmeolhfaaW.PrintWords Go.Proofs.YtiljnlhmeolhfaaW.PrintLast Go.Proofs.YtiljnlhmeolhfaaW.PrintMore
attribute [local go_sem] max2_int min2_int max_two min_two max_three min_three max_four min_four   -- for this text's walks alone
set_option linter.unusedVariables false
set_option linter.unusedSimpArgs false

/-! ### fuseeref23_Derive: function 13 -/
def fuseeref23_Derive.f (k : Nat) (a0_0 : Int) (a0_1 : Int) (a0_2 : Int) (a0_3 : Int) (a0_4 : Int) (a0_5 : Int) (a0_6 : Int) (a0_7 : Int) (a0_8 : Int) (a0_9 : Int) (a0_10 : Int) (a0_11 : Int) (a0_12 : Int) (a0_13 : Int) (a0_14 : Int) (a0_15 : Int) (a1 : Int) : Option (Int × Int × Int × Int × Int × Int × Int × Int × Int × Int × Int × Int × Int × Int × Int × Int) := (fuseeref23_Sum.f a0_0 a0_1 a0_2 a0_3 a0_4 a0_5 a0_6 a0_7 a0_8 a0_9 a0_10 a0_11 a0_12 a0_13 a0_14 a0_15 (([a1, 0] : List Int))).bind fun t175 => ((fuseeref05_Put.f k ([] : List Int) t175 8).bind fun t176 => ((fuseeref23_Sum.f a0_0 a0_1 a0_2 a0_3 a0_4 a0_5 a0_6 a0_7 a0_8 a0_9 a0_10 a0_11 a0_12 a0_13 a0_14 a0_15 (([a1, 1] : List Int))).bind fun t182 => ((fuseeref05_Put.f k t176 t182 8).bind fun t183 => (if 0 < (t183.length : Int) then (if 1 < (t183.length : Int) then (if 2 < (t183.length : Int) then (if 3 < (t183.length : Int) then (if 4 < (t183.length : Int) then (if 5 < (t183.length : Int) then (if 6 < (t183.length : Int) then (if 7 < (t183.length : Int) then (if 8 < (t183.length : Int) then (if 9 < (t183.length : Int) then (if 10 < (t183.length : Int) then (if 11 < (t183.length : Int) then (if 12 < (t183.length : Int) then (if 13 < (t183.length : Int) then (if 14 < (t183.length : Int) then (if 15 < (t183.length : Int) then (some (rd t183 0, rd t183 1, rd t183 2, rd t183 3, rd t183 4, rd t183 5, rd t183 6, rd t183 7, rd t183 8, rd t183 9, rd t183 10, rd t183 11, rd t183 12, rd t183 13, rd t183 14, rd t183 15)) else (none)) else (none)) else (none)) else (none)) else (none)) else (none)) else (none)) else (none)) else (none)) else (none)) else (none)) else (none)) else (none)) else (none)) else (none)) else (none)))))
theorem fuseeref23_Derive.mono : ∀ a0 a1 a2 a3 a4 a5 a6 a7 a8 a9 a10 a11 a12 a13 a14 a15 a16 k, LeO (fuseeref23_Derive.f k a0 a1 a2 a3 a4 a5 a6 a7 a8 a9 a10 a11 a12 a13 a14 a15 a16) (fuseeref23_Derive.f (k + 1) a0 a1 a2 a3 a4 a5 a6 a7 a8 a9 a10 a11 a12 a13 a14 a15 a16) := by
 intro a0 a1 a2 a3 a4 a5 a6 a7 a8 a9 a10 a11 a12 a13 a14 a15 a16 k
 unfold fuseeref23_Derive.f
 repeat' first
   | (with_reducible exact fuseeref05_Put.mono _ _ _ _)
   | (with_reducible exact LeO.refl _)
   | (with_reducible exact LeO.none _)
   | (with_reducible refine LeO.ite ?_ ?_)
   | (with_reducible refine LeO.bind ?_ (fun _ => ?_))
   | exact fuseeref05_Put.mono _ _ _ _
   | exact LeO.none _
   | refine LeO.ite ?_ ?_
   | refine LeO.bind ?_ (fun _ => ?_)
def fuseeref23_Derive.T1 : Bool × List (List Nat × List Nat) := (true, [([], []), ([], []), ([1], [1]), ([0, 2], [0, 2]), ([3, 3], [3]), ([], []), ([], []), ([6], [6]), ([5, 7, 4], [5, 7]), ([4, 8, 8], [4, 8]), ([9, 9, 0, 1, 2, 3, 4, 5, 6, 7, 8, 9], [9])])
def fuseeref23_Derive.B1 : List Nat := [0, 0, 2, 7, 15, 0, 0, 64, 255, 511, 1023]
theorem fuseeref23_Derive.tab1 : rtab .any (opsOf Try.f13 1) = fuseeref23_Derive.T1 := by kernel_rfl
theorem fuseeref23_Derive.bits1 : waitsOk fuseeref23_Derive.T1.2 fuseeref23_Derive.B1 = true := by kernel_rfl
set_option maxHeartbeats 8000000 in
set_option maxRecDepth 100000 in
theorem fuseeref23_Derive.calls (k : Nat) (a0_0 : Int) (a0_1 : Int) (a0_2 : Int) (a0_3 : Int) (a0_4 : Int) (a0_5 : Int) (a0_6 : Int) (a0_7 : Int) (a0_8 : Int) (a0_9 : Int) (a0_10 : Int) (a0_11 : Int) (a0_12 : Int) (a0_13 : Int) (a0_14 : Int) (a0_15 : Int) (a1 : Int) (r1 : Int) (r2 : Int) (r3 : Int) (r4 : Int) (r5 : Int) (r6 : Int) (r7 : Int) (r8 : Int) (r9 : Int) (r10 : Int) (r11 : Int) (r12 : Int) (r13 : Int) (r14 : Int) (r15 : Int) (r16 : Int) (w : World) (h : fuseeref23_Derive.f k a0_0 a0_1 a0_2 a0_3 a0_4 a0_5 a0_6 a0_7 a0_8 a0_9 a0_10 a0_11 a0_12 a0_13 a0_14 a0_15 a1 = some (r1, r2, r3, r4, r5, r6, r7, r8, r9, r10, r11, r12, r13, r14, r15, r16)) :
  Calls Try.prog 13 #[.agg #[.int .u8 a0_0, .int .u8 a0_1, .int .u8 a0_2, .int .u8 a0_3, .int .u8 a0_4, .int .u8 a0_5, .int .u8 a0_6, .int .u8 a0_7, .int .u8 a0_8, .int .u8 a0_9, .int .u8 a0_10, .int .u8 a0_11, .int .u8 a0_12, .int .u8 a0_13, .int .u8 a0_14, .int .u8 a0_15], .int .u8 a1] w fun e w' => e = .returned (.agg #[.int .u8 r1, .int .u8 r2, .int .u8 r3, .int .u8 r4, .int .u8 r5, .int .u8 r6, .int .u8 r7, .int .u8 r8, .int .u8 r9, .int .u8 r10, .int .u8 r11, .int .u8 r12, .int .u8 r13, .int .u8 r14, .int .u8 r15, .int .u8 r16]) ∧ Below w.heap.size w w' := by
 have hu22 := Try.underlying22
 have HB := qS (Below.refl w.heap.size w)
 have H : ((fuseeref23_Sum.f a0_0 a0_1 a0_2 a0_3 a0_4 a0_5 a0_6 a0_7 a0_8 a0_9 a0_10 a0_11 a0_12 a0_13 a0_14 a0_15 (([a1, 0] : List Int))).bind fun t175 => ((fuseeref05_Put.f k ([] : List Int) t175 8).bind fun t176 => ((fuseeref23_Sum.f a0_0 a0_1 a0_2 a0_3 a0_4 a0_5 a0_6 a0_7 a0_8 a0_9 a0_10 a0_11 a0_12 a0_13 a0_14 a0_15 (([a1, 1] : List Int))).bind fun t182 => ((fuseeref05_Put.f k t176 t182 8).bind fun t183 => (if 0 < (t183.length : Int) then (if 1 < (t183.length : Int) then (if 2 < (t183.length : Int) then (if 3 < (t183.length : Int) then (if 4 < (t183.length : Int) then (if 5 < (t183.length : Int) then (if 6 < (t183.length : Int) then (if 7 < (t183.length : Int) then (if 8 < (t183.length : Int) then (if 9 < (t183.length : Int) then (if 10 < (t183.length : Int) then (if 11 < (t183.length : Int) then (if 12 < (t183.length : Int) then (if 13 < (t183.length : Int) then (if 14 < (t183.length : Int) then (if 15 < (t183.length : Int) then (some (rd t183 0, rd t183 1, rd t183 2, rd t183 3, rd t183 4, rd t183 5, rd t183 6, rd t183 7, rd t183 8, rd t183 9, rd t183 10, rd t183 11, rd t183 12, rd t183 13, rd t183 14, rd t183 15)) else (none)) else (none)) else (none)) else (none)) else (none)) else (none)) else (none)) else (none)) else (none)) else (none)) else (none)) else (none)) else (none)) else (none)) else (none)) else (none)))))) = some (r1, r2, r3, r4, r5, r6, r7, r8, r9, r10, r11, r12, r13, r14, r15, r16) := h
 clear h
 obtain ⟨y172, hy172⟩ : ∃ y_ : List Int, y_ = (([a1, 0] : List Int)) := ⟨_, rfl⟩
 replace H : ((fuseeref23_Sum.f a0_0 a0_1 a0_2 a0_3 a0_4 a0_5 a0_6 a0_7 a0_8 a0_9 a0_10 a0_11 a0_12 a0_13 a0_14 a0_15 y172).bind fun t175 => ((fuseeref05_Put.f k ([] : List Int) t175 8).bind fun t176 => ((fuseeref23_Sum.f a0_0 a0_1 a0_2 a0_3 a0_4 a0_5 a0_6 a0_7 a0_8 a0_9 a0_10 a0_11 a0_12 a0_13 a0_14 a0_15 (([a1, 1] : List Int))).bind fun t182 => ((fuseeref05_Put.f k t176 t182 8).bind fun t183 => (if 0 < (t183.length : Int) then (if 1 < (t183.length : Int) then (if 2 < (t183.length : Int) then (if 3 < (t183.length : Int) then (if 4 < (t183.length : Int) then (if 5 < (t183.length : Int) then (if 6 < (t183.length : Int) then (if 7 < (t183.length : Int) then (if 8 < (t183.length : Int) then (if 9 < (t183.length : Int) then (if 10 < (t183.length : Int) then (if 11 < (t183.length : Int) then (if 12 < (t183.length : Int) then (if 13 < (t183.length : Int) then (if 14 < (t183.length : Int) then (if 15 < (t183.length : Int) then (some (rd t183 0, rd t183 1, rd t183 2, rd t183 3, rd t183 4, rd t183 5, rd t183 6, rd t183 7, rd t183 8, rd t183 9, rd t183 10, rd t183 11, rd t183 12, rd t183 13, rd t183 14, rd t183 15)) else (none)) else (none)) else (none)) else (none)) else (none)) else (none)) else (none)) else (none)) else (none)) else (none)) else (none)) else (none)) else (none)) else (none)) else (none)) else (none)))))) = some (r1, r2, r3, r4, r5, r6, r7, r8, r9, r10, r11, r12, r13, r14, r15, r16) := by first | (rw [hy172]; with_reducible exact H) | (have H2_ := (Option.bind_some _ _).symm.trans H; rw [hy172]; with_reducible exact H2_) | (have H2_ := (Option.bind_some _ _).symm.trans H; with_reducible exact H2_) | with_reducible exact H | (rw [hy172]; exact H) | exact H
 have Ny172 := qS hy172
 clear hy172
 replace H := Option.bind_eq_some_iff.mp H
 obtain ⟨t175, A30, H⟩ := H
 replace H : ((fuseeref05_Put.f k ([] : List Int) t175 8).bind fun t176 => ((fuseeref23_Sum.f a0_0 a0_1 a0_2 a0_3 a0_4 a0_5 a0_6 a0_7 a0_8 a0_9 a0_10 a0_11 a0_12 a0_13 a0_14 a0_15 (([a1, 1] : List Int))).bind fun t182 => ((fuseeref05_Put.f k t176 t182 8).bind fun t183 => (if 0 < (t183.length : Int) then (if 1 < (t183.length : Int) then (if 2 < (t183.length : Int) then (if 3 < (t183.length : Int) then (if 4 < (t183.length : Int) then (if 5 < (t183.length : Int) then (if 6 < (t183.length : Int) then (if 7 < (t183.length : Int) then (if 8 < (t183.length : Int) then (if 9 < (t183.length : Int) then (if 10 < (t183.length : Int) then (if 11 < (t183.length : Int) then (if 12 < (t183.length : Int) then (if 13 < (t183.length : Int) then (if 14 < (t183.length : Int) then (if 15 < (t183.length : Int) then (some (rd t183 0, rd t183 1, rd t183 2, rd t183 3, rd t183 4, rd t183 5, rd t183 6, rd t183 7, rd t183 8, rd t183 9, rd t183 10, rd t183 11, rd t183 12, rd t183 13, rd t183 14, rd t183 15)) else (none)) else (none)) else (none)) else (none)) else (none)) else (none)) else (none)) else (none)) else (none)) else (none)) else (none)) else (none)) else (none)) else (none)) else (none)) else (none))))) = some (r1, r2, r3, r4, r5, r6, r7, r8, r9, r10, r11, r12, r13, r14, r15, r16) := H
 have A3 := qS A30
 clear A30
 replace H := Option.bind_eq_some_iff.mp H
 obtain ⟨t176, A40, H⟩ := H
 replace H : ((fuseeref23_Sum.f a0_0 a0_1 a0_2 a0_3 a0_4 a0_5 a0_6 a0_7 a0_8 a0_9 a0_10 a0_11 a0_12 a0_13 a0_14 a0_15 (([a1, 1] : List Int))).bind fun t182 => ((fuseeref05_Put.f k t176 t182 8).bind fun t183 => (if 0 < (t183.length : Int) then (if 1 < (t183.length : Int) then (if 2 < (t183.length : Int) then (if 3 < (t183.length : Int) then (if 4 < (t183.length : Int) then (if 5 < (t183.length : Int) then (if 6 < (t183.length : Int) then (if 7 < (t183.length : Int) then (if 8 < (t183.length : Int) then (if 9 < (t183.length : Int) then (if 10 < (t183.length : Int) then (if 11 < (t183.length : Int) then (if 12 < (t183.length : Int) then (if 13 < (t183.length : Int) then (if 14 < (t183.length : Int) then (if 15 < (t183.length : Int) then (some (rd t183 0, rd t183 1, rd t183 2, rd t183 3, rd t183 4, rd t183 5, rd t183 6, rd t183 7, rd t183 8, rd t183 9, rd t183 10, rd t183 11, rd t183 12, rd t183 13, rd t183 14, rd t183 15)) else (none)) else (none)) else (none)) else (none)) else (none)) else (none)) else (none)) else (none)) else (none)) else (none)) else (none)) else (none)) else (none)) else (none)) else (none)) else (none)))) = some (r1, r2, r3, r4, r5, r6, r7, r8, r9, r10, r11, r12, r13, r14, r15, r16) := H
 have A4 := qS A40
 clear A40
 obtain ⟨y179, hy179⟩ : ∃ y_ : List Int, y_ = (([a1, 1] : List Int)) := ⟨_, rfl⟩
 replace H : ((fuseeref23_Sum.f a0_0 a0_1 a0_2 a0_3 a0_4 a0_5 a0_6 a0_7 a0_8 a0_9 a0_10 a0_11 a0_12 a0_13 a0_14 a0_15 y179).bind fun t182 => ((fuseeref05_Put.f k t176 t182 8).bind fun t183 => (if 0 < (t183.length : Int) then (if 1 < (t183.length : Int) then (if 2 < (t183.length : Int) then (if 3 < (t183.length : Int) then (if 4 < (t183.length : Int) then (if 5 < (t183.length : Int) then (if 6 < (t183.length : Int) then (if 7 < (t183.length : Int) then (if 8 < (t183.length : Int) then (if 9 < (t183.length : Int) then (if 10 < (t183.length : Int) then (if 11 < (t183.length : Int) then (if 12 < (t183.length : Int) then (if 13 < (t183.length : Int) then (if 14 < (t183.length : Int) then (if 15 < (t183.length : Int) then (some (rd t183 0, rd t183 1, rd t183 2, rd t183 3, rd t183 4, rd t183 5, rd t183 6, rd t183 7, rd t183 8, rd t183 9, rd t183 10, rd t183 11, rd t183 12, rd t183 13, rd t183 14, rd t183 15)) else (none)) else (none)) else (none)) else (none)) else (none)) else (none)) else (none)) else (none)) else (none)) else (none)) else (none)) else (none)) else (none)) else (none)) else (none)) else (none)))) = some (r1, r2, r3, r4, r5, r6, r7, r8, r9, r10, r11, r12, r13, r14, r15, r16) := by first | (rw [hy179]; with_reducible exact H) | (have H2_ := (Option.bind_some _ _).symm.trans H; rw [hy179]; with_reducible exact H2_) | (have H2_ := (Option.bind_some _ _).symm.trans H; with_reducible exact H2_) | with_reducible exact H | (rw [hy179]; exact H) | exact H
 have Ny179 := qS hy179
 clear hy179
 replace H := Option.bind_eq_some_iff.mp H
 obtain ⟨t182, A50, H⟩ := H
 replace H : ((fuseeref05_Put.f k t176 t182 8).bind fun t183 => (if 0 < (t183.length : Int) then (if 1 < (t183.length : Int) then (if 2 < (t183.length : Int) then (if 3 < (t183.length : Int) then (if 4 < (t183.length : Int) then (if 5 < (t183.length : Int) then (if 6 < (t183.length : Int) then (if 7 < (t183.length : Int) then (if 8 < (t183.length : Int) then (if 9 < (t183.length : Int) then (if 10 < (t183.length : Int) then (if 11 < (t183.length : Int) then (if 12 < (t183.length : Int) then (if 13 < (t183.length : Int) then (if 14 < (t183.length : Int) then (if 15 < (t183.length : Int) then (some (rd t183 0, rd t183 1, rd t183 2, rd t183 3, rd t183 4, rd t183 5, rd t183 6, rd t183 7, rd t183 8, rd t183 9, rd t183 10, rd t183 11, rd t183 12, rd t183 13, rd t183 14, rd t183 15)) else (none)) else (none)) else (none)) else (none)) else (none)) else (none)) else (none)) else (none)) else (none)) else (none)) else (none)) else (none)) else (none)) else (none)) else (none)) else (none))) = some (r1, r2, r3, r4, r5, r6, r7, r8, r9, r10, r11, r12, r13, r14, r15, r16) := H
 have A5 := qS A50
 clear A50
 replace H := Option.bind_eq_some_iff.mp H
 obtain ⟨t183, A60, H⟩ := H
 replace H : (if 0 < (t183.length : Int) then (if 1 < (t183.length : Int) then (if 2 < (t183.length : Int) then (if 3 < (t183.length : Int) then (if 4 < (t183.length : Int) then (if 5 < (t183.length : Int) then (if 6 < (t183.length : Int) then (if 7 < (t183.length : Int) then (if 8 < (t183.length : Int) then (if 9 < (t183.length : Int) then (if 10 < (t183.length : Int) then (if 11 < (t183.length : Int) then (if 12 < (t183.length : Int) then (if 13 < (t183.length : Int) then (if 14 < (t183.length : Int) then (if 15 < (t183.length : Int) then (some (rd t183 0, rd t183 1, rd t183 2, rd t183 3, rd t183 4, rd t183 5, rd t183 6, rd t183 7, rd t183 8, rd t183 9, rd t183 10, rd t183 11, rd t183 12, rd t183 13, rd t183 14, rd t183 15)) else (none)) else (none)) else (none)) else (none)) else (none)) else (none)) else (none)) else (none)) else (none)) else (none)) else (none)) else (none)) else (none)) else (none)) else (none)) else (none)) = some (r1, r2, r3, r4, r5, r6, r7, r8, r9, r10, r11, r12, r13, r14, r15, r16) := H
 have A6 := qS A60
 clear A60
 by_cases c7 : 0 < (t183.length : Int)
 ·rw [if_pos c7] at H
  have c7b0 : decide (0 < (t183.length : Int)) = true := decide_eq_true c7
  have c7b1 : decide (0 < t183.length) = true := decide_eq_true (by omega)
  clear c7
  by_cases c8 : 1 < (t183.length : Int)
  ·rw [if_pos c8] at H
   have c8b0 : decide (1 < (t183.length : Int)) = true := decide_eq_true c8
   have c8b1 : decide (1 < t183.length) = true := decide_eq_true (by omega)
   clear c8
   by_cases c9 : 2 < (t183.length : Int)
   ·rw [if_pos c9] at H
    have c9b0 : decide (2 < (t183.length : Int)) = true := decide_eq_true c9
    have c9b1 : decide (2 < t183.length) = true := decide_eq_true (by omega)
    clear c9
    by_cases c10 : 3 < (t183.length : Int)
    ·rw [if_pos c10] at H
     have c10b0 : decide (3 < (t183.length : Int)) = true := decide_eq_true c10
     have c10b1 : decide (3 < t183.length) = true := decide_eq_true (by omega)
     clear c10
     by_cases c11 : 4 < (t183.length : Int)
     ·rw [if_pos c11] at H
      have c11b0 : decide (4 < (t183.length : Int)) = true := decide_eq_true c11
      have c11b1 : decide (4 < t183.length) = true := decide_eq_true (by omega)
      clear c11
      by_cases c12 : 5 < (t183.length : Int)
      ·rw [if_pos c12] at H
       have c12b0 : decide (5 < (t183.length : Int)) = true := decide_eq_true c12
       have c12b1 : decide (5 < t183.length) = true := decide_eq_true (by omega)
       clear c12
       by_cases c13 : 6 < (t183.length : Int)
       ·rw [if_pos c13] at H
        have c13b0 : decide (6 < (t183.length : Int)) = true := decide_eq_true c13
        have c13b1 : decide (6 < t183.length) = true := decide_eq_true (by omega)
        clear c13
        by_cases c14 : 7 < (t183.length : Int)
        ·rw [if_pos c14] at H
         have c14b0 : decide (7 < (t183.length : Int)) = true := decide_eq_true c14
         have c14b1 : decide (7 < t183.length) = true := decide_eq_true (by omega)
         clear c14
         by_cases c15 : 8 < (t183.length : Int)
         ·rw [if_pos c15] at H
          have c15b0 : decide (8 < (t183.length : Int)) = true := decide_eq_true c15
          have c15b1 : decide (8 < t183.length) = true := decide_eq_true (by omega)
          clear c15
          by_cases c16 : 9 < (t183.length : Int)
          ·rw [if_pos c16] at H
           have c16b0 : decide (9 < (t183.length : Int)) = true := decide_eq_true c16
           have c16b1 : decide (9 < t183.length) = true := decide_eq_true (by omega)
           clear c16
           by_cases c17 : 10 < (t183.length : Int)
           ·rw [if_pos c17] at H
            have c17b0 : decide (10 < (t183.length : Int)) = true := decide_eq_true c17
            have c17b1 : decide (10 < t183.length) = true := decide_eq_true (by omega)
            clear c17
            by_cases c18 : 11 < (t183.length : Int)
            ·rw [if_pos c18] at H
             have c18b0 : decide (11 < (t183.length : Int)) = true := decide_eq_true c18
             have c18b1 : decide (11 < t183.length) = true := decide_eq_true (by omega)
             clear c18
             by_cases c19 : 12 < (t183.length : Int)
             ·rw [if_pos c19] at H
              have c19b0 : decide (12 < (t183.length : Int)) = true := decide_eq_true c19
              have c19b1 : decide (12 < t183.length) = true := decide_eq_true (by omega)
              clear c19
              by_cases c20 : 13 < (t183.length : Int)
              ·rw [if_pos c20] at H
               have c20b0 : decide (13 < (t183.length : Int)) = true := decide_eq_true c20
               have c20b1 : decide (13 < t183.length) = true := decide_eq_true (by omega)
               clear c20
               by_cases c21 : 14 < (t183.length : Int)
               ·rw [if_pos c21] at H
                have c21b0 : decide (14 < (t183.length : Int)) = true := decide_eq_true c21
                have c21b1 : decide (14 < t183.length) = true := decide_eq_true (by omega)
                clear c21
                by_cases c22 : 15 < (t183.length : Int)
                ·rw [if_pos c22] at H
                 have c22b0 : decide (15 < (t183.length : Int)) = true := decide_eq_true c22
                 have c22b1 : decide (15 < t183.length) = true := decide_eq_true (by omega)
                 clear c22
                 as_aux_lemma =>
                  simp only [Option.some.injEq, Prod.mk.injEq] at H
                  obtain ⟨rfl, rfl, rfl, rfl, rfl, rfl, rfl, rfl, rfl, rfl, rfl, rfl, rfl, rfl, rfl, rfl⟩ := H
                  go_enter Try.func13, Try.ntmps13
                  try go_wp2_with (first | ((with_reducible refine gate_dst (N := 2) rfl ?_); refine box_event ?hg (N := 2) ?hd (cs := #[.int .u8 a0_0, .int .u8 a0_1, .int .u8 a0_2, .int .u8 a0_3, .int .u8 a0_4, .int .u8 a0_5, .int .u8 a0_6, .int .u8 a0_7, .int .u8 a0_8, .int .u8 a0_9, .int .u8 a0_10, .int .u8 a0_11, .int .u8 a0_12, .int .u8 a0_13, .int .u8 a0_14, .int .u8 a0_15]) (t := 22) ?hr ?_; (case hd => rfl); (case hg => rfl); (case hr => first | (go_simp; done) | (go_simp; rfl)); intro gb170 hg w23 hbox hb; have n0_ := qS (below_step (by repeat (first | (with_reducible first | exact HB.out | apply qpA | apply qpN | apply qp1) | exact HB.out)) hb); have n1_ := qS (hbox); have n2_ := qS ((by rw [hg]; exact (below_size (by repeat (first | (with_reducible first | exact HB.out | apply qpA | apply qpN | apply qp1) | exact HB.out))) : w.heap.size ≤ gb170)); have n3_ := qS ((by rw [hg]; exact (below_size (by repeat (first | (with_reducible first | exact HB.out | apply qpA | apply qpN | apply qp1) | exact HB.out))) : w.heap.size ≤ gb170)); clear HB; have HB := n0_; have BK170 := n1_; have GW170 := n2_; have GE170 := n3_; clear n0_ n1_ n2_ n3_; clear hb hbox hg) | ((with_reducible refine gate_dst (N := 4) rfl ?_); refine box_event ?hg (N := 4) ?hd (cs := #[.int .u8 0, .int .u8 0, .int .u8 0, .int .u8 0, .int .u8 0, .int .u8 0, .int .u8 0, .int .u8 0, .int .u8 0, .int .u8 0, .int .u8 0, .int .u8 0, .int .u8 0, .int .u8 0, .int .u8 0, .int .u8 0]) (t := 22) ?hr ?_; (case hd => rfl); (case hg => rfl); (case hr => first | (go_simp; done) | (go_simp; rfl)); intro gb171 hg w24 hbox hb; have n0_ := qS (qB (g := gb170) (o := .cells #[.int .u8 a0_0, .int .u8 a0_1, .int .u8 a0_2, .int .u8 a0_3, .int .u8 a0_4, .int .u8 a0_5, .int .u8 a0_6, .int .u8 a0_7, .int .u8 a0_8, .int .u8 a0_9, .int .u8 a0_10, .int .u8 a0_11, .int .u8 a0_12, .int .u8 a0_13, .int .u8 a0_14, .int .u8 a0_15] 22 (0, 0)) (by (with_reducible repeat (first | refine qN ?_ _ | refine qD ?_ | refine qA ?_ _)); exact BK170.out) hb); have n1_ := qS (below_step (by repeat (first | (with_reducible first | exact HB.out | apply qpA | apply qpN | apply qp1 | refine qpS ?_ GE170.out) | exact HB.out)) hb); have n2_ := qS (hbox); have n3_ := qS ((by rw [hg]; exact (below_size (by repeat (first | (with_reducible first | exact HB.out | apply qpA | apply qpN | apply qp1 | refine qpS ?_ GE170.out) | exact HB.out))) : w.heap.size ≤ gb171)); have n4_ := qS ((by rw [hg]; exact (below_size (by repeat (first | (with_reducible first | exact HB.out | apply qpA | apply qpN | apply qp1 | refine qpS ?_ GE170.out) | exact HB.out))) : w.heap.size ≤ gb171)); have n5_ := qS ((by rw [hg]; exact Nat.ne_of_lt (blk_lt (g := gb170) (o := .cells #[.int .u8 a0_0, .int .u8 a0_1, .int .u8 a0_2, .int .u8 a0_3, .int .u8 a0_4, .int .u8 a0_5, .int .u8 a0_6, .int .u8 a0_7, .int .u8 a0_8, .int .u8 a0_9, .int .u8 a0_10, .int .u8 a0_11, .int .u8 a0_12, .int .u8 a0_13, .int .u8 a0_14, .int .u8 a0_15] 22 (0, 0)) (by (with_reducible repeat (first | refine qN ?_ _ | refine qD ?_ | refine qA ?_ _)); exact BK170.out)) : gb170 ≠ gb171)); have n6_ := qS ((by rw [hg]; exact Nat.ne_of_gt (blk_lt (g := gb170) (o := .cells #[.int .u8 a0_0, .int .u8 a0_1, .int .u8 a0_2, .int .u8 a0_3, .int .u8 a0_4, .int .u8 a0_5, .int .u8 a0_6, .int .u8 a0_7, .int .u8 a0_8, .int .u8 a0_9, .int .u8 a0_10, .int .u8 a0_11, .int .u8 a0_12, .int .u8 a0_13, .int .u8 a0_14, .int .u8 a0_15] 22 (0, 0)) (by (with_reducible repeat (first | refine qN ?_ _ | refine qD ?_ | refine qA ?_ _)); exact BK170.out)) : gb171 ≠ gb170)); clear BK170; clear HB; have BK170 := n0_; have HB := n1_; have BK171 := n2_; have GW171 := n3_; have GE171 := n4_; have NB170_171 := n5_; have NB171_170 := n6_; clear n0_ n1_ n2_ n3_ n4_ n5_ n6_; clear hb hbox hg))
                  have n0_ := qS (qD BK170.out)
                  have n1_ := qS (qD BK171.out)
                  have n2_ := qS (qp1 HB.out)
                  clear BK170
                  clear BK171
                  clear HB
                  have BK170 := n0_
                  have BK171 := n1_
                  have HB := n2_
                  clear n0_ n1_ n2_
                  refine start_ (n := 11) (S := fun w' => True) (ds := []) #[false, false, false, false, false, false, false, false, false, false, false] (by kernel_rfl) rfl rfl trivial (fun hHeld => ?_); refine with_tabW fuseeref23_Derive.tab1 fuseeref23_Derive.bits1 (fun HT_ HW_ => ?_)
                  generalize w24.drew = w25 at BK170 BK171 HB hHeld ⊢
                  refine pure_ (i := 1) (N := some 9) (v := ?_) (a' := ?_) #[false, true, false, false, false, false, false, false, false, false, false] rfl rfl (any_of HT_.out (by kernel_rfl)) (fun _ _ _ h => h) (Or.inl ⟨by rfl, ?_⟩) ?_ ?_
                  rotate_left
                  ·intro w'
                   go_simp
                   with_reducible rfl
                  rotate_left
                  ·simp only [Act.put, List.setIfInBounds_toArray, List.set_cons_zero, List.set_cons_succ, i64_w, i32_w]
                   rfl
                  refine pure_ (i := 6) (N := some 14) (v := ?_) (a' := ?_) #[false, true, false, false, false, false, true, false, false, false, false] rfl rfl (any_of HT_.out (by kernel_rfl)) (fun _ _ _ h => h) (Or.inl ⟨by rfl, ?_⟩) ?_ ?_
                  rotate_left
                  ·intro w'
                   go_simp
                   with_reducible rfl
                  rotate_left
                  ·simp only [Act.put, List.setIfInBounds_toArray, List.set_cons_zero, List.set_cons_succ, i64_w, i32_w]
                   rfl
                  refine inv_at [0, 2, 3, 4, 5, 7, 8, 9, 10] (fun a0_ b a w' => ∃ (v173 : Value) (v177 : Value) (v180 : Value) (v184 : Value) (m10_ : Value), a = putSel a0_ b [(0, 8, .agg #[.int .u8 a0_0, .int .u8 a0_1, .int .u8 a0_2, .int .u8 a0_3, .int .u8 a0_4, .int .u8 a0_5, .int .u8 a0_6, .int .u8 a0_7, .int .u8 a0_8, .int .u8 a0_9, .int .u8 a0_10, .int .u8 a0_11, .int .u8 a0_12, .int .u8 a0_13, .int .u8 a0_14, .int .u8 a0_15]), (2, 10, v173), (3, 11, .int .u64 t175), (4, 12, v177), (5, 13, .agg #[.int .u8 a0_0, .int .u8 a0_1, .int .u8 a0_2, .int .u8 a0_3, .int .u8 a0_4, .int .u8 a0_5, .int .u8 a0_6, .int .u8 a0_7, .int .u8 a0_8, .int .u8 a0_9, .int .u8 a0_10, .int .u8 a0_11, .int .u8 a0_12, .int .u8 a0_13, .int .u8 a0_14, .int .u8 a0_15]), (7, 15, v180), (8, 16, .int .u64 t182), (9, 17, v184), (10, 5, m10_)] ∧ (w'.heap[gb170]? = some (.cells #[.int .u8 a0_0, .int .u8 a0_1, .int .u8 a0_2, .int .u8 a0_3, .int .u8 a0_4, .int .u8 a0_5, .int .u8 a0_6, .int .u8 a0_7, .int .u8 a0_8, .int .u8 a0_9, .int .u8 a0_10, .int .u8 a0_11, .int .u8 a0_12, .int .u8 a0_13, .int .u8 a0_14, .int .u8 a0_15] 22 (0, 0))) ∧ (w'.heap[gb171]? = some (.cells #[.int .u8 0, .int .u8 0, .int .u8 0, .int .u8 0, .int .u8 0, .int .u8 0, .int .u8 0, .int .u8 0, .int .u8 0, .int .u8 0, .int .u8 0, .int .u8 0, .int .u8 0, .int .u8 0, .int .u8 0, .int .u8 0] 22 (0, 0))) ∧ (Below w.heap.size w w') ∧ (b 2 = true → Kd.R (Kd.int .u8) 5 w' w.heap.size (fun _ => True) v173 y172) ∧ (b 4 = true → Kd.R (Kd.int .u8) 5 w' w.heap.size (fun _ => True) v177 t176) ∧ (b 7 = true → Kd.R (Kd.int .u8) 5 w' w.heap.size (fun _ => True) v180 y179) ∧ (b 9 = true → Kd.R (Kd.int .u8) 5 w' w.heap.size (fun _ => True) v184 t183) ∧ (b 10 = true → (m10_ : Value) = v184)) HT_.out HW_.out (by kernel_rfl) (by kernel_rfl) ?_ ?_ ?_
                  ·exact ⟨.bool false, .bool false, .bool false, .bool false, .bool false, by simp only [putSel, Bool.false_eq_true, if_false], BK170.out, BK171.out, HB.out, fun h_ => absurd h_ (by decide), fun h_ => absurd h_ (by decide), fun h_ => absurd h_ (by decide), fun h_ => absurd h_ (by decide), fun h_ => absurd h_ (by decide)⟩
                  ·skip
                   clear BK170 BK171 HB
                   refine steps_cons ?_ ?_
                   ·rintro b a w' ⟨v173, v177, v180, v184, m10_, ha, Q_BK170, Q_BK171, Q_HB, Q_HO174, Q_HO178, Q_HO181, Q_HO185, Q_X10_⟩ hb_ hon hoff
                    refine ⟨_, rfl, fun K hK => ?_⟩
                    have e2 : a.tmps[2]? = some (.pointer (some ⟨gb170, 0, none⟩)) := by rw [ha]; exact (putSel_off rfl).trans rfl
                    replace ha := qS ha
                    have BK170 := qS Q_BK170
                    have BK171 := qS Q_BK171
                    have HB := qS Q_HB
                    have hc0_ : w'.cell? ⟨gb170, 0, none⟩ = some (.int .u8 a0_0) := (qC BK170.out 0).trans rfl
                    have hc1_ : w'.cell? ⟨gb170, 1, none⟩ = some (.int .u8 a0_1) := (qC BK170.out 1).trans rfl
                    have hc2_ : w'.cell? ⟨gb170, 2, none⟩ = some (.int .u8 a0_2) := (qC BK170.out 2).trans rfl
                    have hc3_ : w'.cell? ⟨gb170, 3, none⟩ = some (.int .u8 a0_3) := (qC BK170.out 3).trans rfl
                    have hc4_ : w'.cell? ⟨gb170, 4, none⟩ = some (.int .u8 a0_4) := (qC BK170.out 4).trans rfl
                    have hc5_ : w'.cell? ⟨gb170, 5, none⟩ = some (.int .u8 a0_5) := (qC BK170.out 5).trans rfl
                    have hc6_ : w'.cell? ⟨gb170, 6, none⟩ = some (.int .u8 a0_6) := (qC BK170.out 6).trans rfl
                    have hc7_ : w'.cell? ⟨gb170, 7, none⟩ = some (.int .u8 a0_7) := (qC BK170.out 7).trans rfl
                    have hc8_ : w'.cell? ⟨gb170, 8, none⟩ = some (.int .u8 a0_8) := (qC BK170.out 8).trans rfl
                    have hc9_ : w'.cell? ⟨gb170, 9, none⟩ = some (.int .u8 a0_9) := (qC BK170.out 9).trans rfl
                    have hc10_ : w'.cell? ⟨gb170, 10, none⟩ = some (.int .u8 a0_10) := (qC BK170.out 10).trans rfl
                    have hc11_ : w'.cell? ⟨gb170, 11, none⟩ = some (.int .u8 a0_11) := (qC BK170.out 11).trans rfl
                    have hc12_ : w'.cell? ⟨gb170, 12, none⟩ = some (.int .u8 a0_12) := (qC BK170.out 12).trans rfl
                    have hc13_ : w'.cell? ⟨gb170, 13, none⟩ = some (.int .u8 a0_13) := (qC BK170.out 13).trans rfl
                    have hc14_ : w'.cell? ⟨gb170, 14, none⟩ = some (.int .u8 a0_14) := (qC BK170.out 14).trans rfl
                    have hc15_ : w'.cell? ⟨gb170, 15, none⟩ = some (.int .u8 a0_15) := (qC BK170.out 15).trans rfl
                    refine value_ (w1 := w') (v := .agg #[.int .u8 a0_0, .int .u8 a0_1, .int .u8 a0_2, .int .u8 a0_3, .int .u8 a0_4, .int .u8 a0_5, .int .u8 a0_6, .int .u8 a0_7, .int .u8 a0_8, .int .u8 a0_9, .int .u8 a0_10, .int .u8 a0_11, .int .u8 a0_12, .int .u8 a0_13, .int .u8 a0_14, .int .u8 a0_15]) (by rfl) rfl ?_ ?_
                    ·go_simp
                     (try simp only [i64_w])
                     try rfl
                    refine hK.out _ _ ⟨v173, v177, v180, v184, m10_, (by rw [ha.out]; exact putSel_upk 0 hb_ rfl rfl rfl), Q_BK170, Q_BK171, Q_HB, Q_HO174, fun h0_ => absurd ((hoff 4 (by kernel_rfl)).symm.trans h0_) (by decide), Q_HO181, fun h0_ => absurd ((hoff 9 (by kernel_rfl)).symm.trans h0_) (by decide), fun h0_ => absurd ((hoff 10 (by kernel_rfl)).symm.trans h0_) (by decide)⟩
                   refine steps_cons ?_ ?_
                   ·rintro b a w' ⟨v173, v177, v180, v184, m10_, ha, Q_BK170, Q_BK171, Q_HB, Q_HO174, Q_HO178, Q_HO181, Q_HO185, Q_X10_⟩ hb_ hon hoff
                    refine ⟨_, rfl, fun K hK => ?_⟩
                    have e9 : a.tmps[9]? = some (.int .u8 a1) := by rw [ha]; exact (putSel_off rfl).trans rfl
                    replace ha := qS ha
                    have BK170 := qS Q_BK170
                    have BK171 := qS Q_BK171
                    have HB := qS Q_HB
                    refine Kd.R_lit_step (Kd.int .u8) _ 5 ?hg (N := 10) ?hd (xs := ([a1, 0] : List Int)) (inner := [.int .u8 a1, .int .u8 0]) (ok := fun _ => True) (okp := fun _ => True) ?hr ?hp (fun _ hk => hk) trivial (Below.refl _ _) (Nat.le_refl _) (by simp) ?_; (case hd => rfl); (case hg => rfl); (case hr => first | (go_simp; done) | (go_simp; rfl)); (case hp => exact (Reps.one (show Kd.M (Kd.int .u8) _ _ _ a1 [.int .u8 a1] from rfl) (Reps.one (show Kd.M (Kd.int .u8) _ _ _ 0 [.int .u8 0] from rfl) (Reps.none _ _))))
                    intro v173 w26 ho27 hb hg_ hnew_
                    clear hg_ hnew_
                    (first | rw [← Ny172.out] at ho27 | (simp only [Int.reduceToNat] at ho27; rw [← Ny172.out] at ho27))
                    have n0_ := qS (Kd.R_lower ho27 (below_size (by repeat (first | (with_reducible first | exact HB.out | apply qpA | apply qpN | apply qp1 | refine qpS ?_ GE170.out | refine qpS ?_ GE171.out) | exact HB.out))))
                    have n1_ := qS (qB (g := gb170) (o := .cells #[.int .u8 a0_0, .int .u8 a0_1, .int .u8 a0_2, .int .u8 a0_3, .int .u8 a0_4, .int .u8 a0_5, .int .u8 a0_6, .int .u8 a0_7, .int .u8 a0_8, .int .u8 a0_9, .int .u8 a0_10, .int .u8 a0_11, .int .u8 a0_12, .int .u8 a0_13, .int .u8 a0_14, .int .u8 a0_15] 22 (0, 0)) (by (with_reducible repeat (first | refine qN ?_ _ | refine qD ?_ | refine qA ?_ _)); exact BK170.out) hb)
                    have n2_ := qS (qB (g := gb171) (o := .cells #[.int .u8 0, .int .u8 0, .int .u8 0, .int .u8 0, .int .u8 0, .int .u8 0, .int .u8 0, .int .u8 0, .int .u8 0, .int .u8 0, .int .u8 0, .int .u8 0, .int .u8 0, .int .u8 0, .int .u8 0, .int .u8 0] 22 (0, 0)) (by (with_reducible repeat (first | refine qN ?_ _ | refine qD ?_ | refine qA ?_ _)); exact BK171.out) hb)
                    have n3_ := qS (below_step (by repeat (first | (with_reducible first | exact HB.out | apply qpA | apply qpN | apply qp1 | refine qpS ?_ GE170.out | refine qpS ?_ GE171.out) | exact HB.out)) hb)
                    have z_HO181 := fun (h0_ : b 7 = true) => (show Kd.R (Kd.int .u8) 5 w26 w.heap.size (fun _ => True) v180 y179 from by first | exact (Kd.R_elder' (by (with_reducible repeat (first | apply Kd.R_alloc | apply Kd.R_drewN | apply Kd.R_drew)); exact (Q_HO181 h0_)) (Kd.R_base ho27) hb) | exact Kd.R_mono (Kd.R_elder' (by (with_reducible repeat (first | apply Kd.R_alloc | apply Kd.R_drewN | apply Kd.R_drew)); exact (Q_HO181 h0_)) (Kd.R_base ho27) hb) (fun _ h_ => by first | trivial | exact h_ | exact h_.1))
                    clear BK170
                    clear BK171
                    clear HB
                    have HO174 := n0_
                    have BK170 := n1_
                    have BK171 := n2_
                    have HB := n3_
                    clear n0_ n1_ n2_ n3_
                    clear hb ho27
                    refine hK.out _ _ ⟨v173, v177, v180, v184, m10_, (by rw [ha.out]; exact putSel_upk 1 hb_ rfl rfl rfl), (by (with_reducible repeat (first | refine qN ?_ _ | refine qD ?_ | refine qA ?_ _)); exact BK170.out), (by (with_reducible repeat (first | refine qN ?_ _ | refine qD ?_ | refine qA ?_ _)); exact BK171.out), (by repeat (first | (with_reducible first | exact HB.out | apply qpA | apply qpN | apply qp1 | refine qpS ?_ GE170.out | refine qpS ?_ GE171.out) | exact HB.out)), fun _ => (by (with_reducible repeat (first | apply Kd.R_alloc | apply Kd.R_drewN | apply Kd.R_drew)); exact HO174.out), fun h0_ => absurd ((hoff 4 (by kernel_rfl)).symm.trans h0_) (by decide), z_HO181, fun h0_ => absurd ((hoff 9 (by kernel_rfl)).symm.trans h0_) (by decide), fun h0_ => absurd ((hoff 10 (by kernel_rfl)).symm.trans h0_) (by decide)⟩
                   refine steps_cons ?_ ?_
                   ·rintro b a w' ⟨v173, v177, v180, v184, m10_, ha, Q_BK170, Q_BK171, Q_HB, Q_HO174, Q_HO178, Q_HO181, Q_HO185, Q_X10_⟩ hb_ hon hoff
                    refine ⟨_, rfl, fun K hK => ?_⟩
                    have e8 : a.tmps[8]? = some (.agg #[.int .u8 a0_0, .int .u8 a0_1, .int .u8 a0_2, .int .u8 a0_3, .int .u8 a0_4, .int .u8 a0_5, .int .u8 a0_6, .int .u8 a0_7, .int .u8 a0_8, .int .u8 a0_9, .int .u8 a0_10, .int .u8 a0_11, .int .u8 a0_12, .int .u8 a0_13, .int .u8 a0_14, .int .u8 a0_15]) := by rw [ha]; exact putSel_on (e := (0, 8, .agg #[.int .u8 a0_0, .int .u8 a0_1, .int .u8 a0_2, .int .u8 a0_3, .int .u8 a0_4, .int .u8 a0_5, .int .u8 a0_6, .int .u8 a0_7, .int .u8 a0_8, .int .u8 a0_9, .int .u8 a0_10, .int .u8 a0_11, .int .u8 a0_12, .int .u8 a0_13, .int .u8 a0_14, .int .u8 a0_15])) 0 rfl rfl (hon 0 (by kernel_rfl)) rfl
                    have e10 : a.tmps[10]? = some (v173) := by rw [ha]; exact putSel_on (e := (2, 10, v173)) 1 rfl rfl (hon 2 (by kernel_rfl)) rfl
                    replace ha := qS ha
                    have BK170 := qS Q_BK170
                    have BK171 := qS Q_BK171
                    have HB := qS Q_HB
                    have HO174 := qS (Q_HO174 (hon 2 (by kernel_rfl)))
                    obtain ⟨Ao29, co29, eo29⟩ := Kd.R_slice HO174.out
                    (first | subst eo29 | (injection eo29 with f1_ f2_ f3_; have f4_ := f1_.symm; have f5_ := f3_.symm; clear f1_ f2_ f3_; subst f4_; subst f5_))
                    refine goes_ Try.func9 (by kernel_rfl) rfl #[.agg #[.int .u8 a0_0, .int .u8 a0_1, .int .u8 a0_2, .int .u8 a0_3, .int .u8 a0_4, .int .u8 a0_5, .int .u8 a0_6, .int .u8 a0_7, .int .u8 a0_8, .int .u8 a0_9, .int .u8 a0_10, .int .u8 a0_11, .int .u8 a0_12, .int .u8 a0_13, .int .u8 a0_14, .int .u8 a0_15], .slice Ao29 y172.length co29] (by rfl) rfl rfl (by (try simp only [List.map_toArray, List.map_cons, List.map_nil]); first | done | rfl | (simp only [*]; done) | (simp only [List.length_drop, List.length_take]; rfl) | (simp only [Act.eval, Array.getD_eq_getD_getElem?, Option.getD_some, *])) ?_
                    with_reducible refine (fuseeref23_Sum.calls a0_0 a0_1 a0_2 a0_3 a0_4 a0_5 a0_6 a0_7 a0_8 a0_9 a0_10 a0_11 a0_12 a0_13 a0_14 a0_15 _ _ y172 t175 _ ?side1 ?side2 A3.out).mono ?_
                    (case side1 => repeat (first | exact (Kd.R_reads' HO174.out).2.2 | (with_reducible refine Kd.C_alloc ?_ _) | (with_reducible refine Kd.C_drewN ?_ _) | (with_reducible refine Kd.C_drew ?_)))
                    (case side2 => exact (Kd.R_reads' HO174.out).2.1)
                    rintro e w30 ⟨rfl, hb⟩
                    refine ⟨_, rfl, ?_⟩
                    have n0_ := qS (Kd.R_below (by (with_reducible repeat (first | apply Kd.R_alloc | apply Kd.R_drewN | apply Kd.R_drew)); exact HO174.out) hb)
                    have n1_ := qS (qB (g := gb170) (o := .cells #[.int .u8 a0_0, .int .u8 a0_1, .int .u8 a0_2, .int .u8 a0_3, .int .u8 a0_4, .int .u8 a0_5, .int .u8 a0_6, .int .u8 a0_7, .int .u8 a0_8, .int .u8 a0_9, .int .u8 a0_10, .int .u8 a0_11, .int .u8 a0_12, .int .u8 a0_13, .int .u8 a0_14, .int .u8 a0_15] 22 (0, 0)) (by (with_reducible repeat (first | refine qN ?_ _ | refine qD ?_ | refine qA ?_ _)); exact BK170.out) hb)
                    have n2_ := qS (qB (g := gb171) (o := .cells #[.int .u8 0, .int .u8 0, .int .u8 0, .int .u8 0, .int .u8 0, .int .u8 0, .int .u8 0, .int .u8 0, .int .u8 0, .int .u8 0, .int .u8 0, .int .u8 0, .int .u8 0, .int .u8 0, .int .u8 0, .int .u8 0] 22 (0, 0)) (by (with_reducible repeat (first | refine qN ?_ _ | refine qD ?_ | refine qA ?_ _)); exact BK171.out) hb)
                    have n3_ := qS (below_step (by repeat (first | (with_reducible first | exact HB.out | apply qpA | apply qpN | apply qp1 | refine qpS ?_ GE170.out | refine qpS ?_ GE171.out) | exact HB.out)) hb)
                    have z_HO181 := fun (h0_ : b 7 = true) => (show Kd.R (Kd.int .u8) 5 w30 w.heap.size (fun _ => True) v180 y179 from by first | exact (Kd.R_below (by (with_reducible repeat (first | apply Kd.R_alloc | apply Kd.R_drewN | apply Kd.R_drew)); exact (Q_HO181 h0_)) hb) | exact Kd.R_mono (Kd.R_below (by (with_reducible repeat (first | apply Kd.R_alloc | apply Kd.R_drewN | apply Kd.R_drew)); exact (Q_HO181 h0_)) hb) (fun _ h_ => by first | trivial | exact h_ | exact h_.1))
                    clear HO174
                    clear BK170
                    clear BK171
                    clear HB
                    have HO174 := n0_
                    have BK170 := n1_
                    have BK171 := n2_
                    have HB := n3_
                    clear n0_ n1_ n2_ n3_
                    (try clear hb)
                    (try clear hb2)
                    (try clear hk)
                    (try clear hi)
                    refine hK.out _ _ ⟨.slice Ao29 y172.length co29, v177, v180, v184, m10_, (by rw [ha.out]; exact putSel_upk 2 hb_ rfl rfl rfl), (by (with_reducible repeat (first | refine qN ?_ _ | refine qD ?_ | refine qA ?_ _)); exact BK170.out), (by (with_reducible repeat (first | refine qN ?_ _ | refine qD ?_ | refine qA ?_ _)); exact BK171.out), (by repeat (first | (with_reducible first | exact HB.out | apply qpA | apply qpN | apply qp1 | refine qpS ?_ GE170.out | refine qpS ?_ GE171.out) | exact HB.out)), fun _ => (by (with_reducible repeat (first | apply Kd.R_alloc | apply Kd.R_drewN | apply Kd.R_drew)); exact HO174.out), fun h0_ => absurd ((hoff 4 (by kernel_rfl)).symm.trans h0_) (by decide), z_HO181, fun h0_ => absurd ((hoff 9 (by kernel_rfl)).symm.trans h0_) (by decide), fun h0_ => absurd ((hoff 10 (by kernel_rfl)).symm.trans h0_) (by decide)⟩
                   refine steps_cons ?_ ?_
                   ·rintro b a w' ⟨v173, v177, v180, v184, m10_, ha, Q_BK170, Q_BK171, Q_HB, Q_HO174, Q_HO178, Q_HO181, Q_HO185, Q_X10_⟩ hb_ hon hoff
                    refine ⟨_, rfl, fun K hK => ?_⟩
                    have e11 : a.tmps[11]? = some (.int .u64 t175) := by rw [ha]; exact putSel_on (e := (3, 11, .int .u64 t175)) 2 rfl rfl (hon 3 (by kernel_rfl)) rfl
                    replace ha := qS ha
                    have BK170 := qS Q_BK170
                    have BK171 := qS Q_BK171
                    have HB := qS Q_HB
                    have HO174 := qS (Q_HO174 (hon 2 (by kernel_rfl)))
                    refine goes_ Try.func35 (by kernel_rfl) rfl #[.slice none 0 0, .int .u64 t175, .int .i64 8] (by rfl) rfl rfl (by (try simp only [List.map_toArray, List.map_cons, List.map_nil]); first | done | rfl | (simp only [*]; done) | (simp only [List.length_drop, List.length_take]; rfl) | (simp only [Act.eval, Array.getD_eq_getD_getElem?, Option.getD_some, *])) ?_
                    refine (fuseeref05_Put.calls k _ _ ([] : List Int) t175 8 t176 _ ?side1 ?side2 A4.out).mono ?_
                    (case side1 => exact Kd.C_nil _ _)
                    (case side2 => exact Nat.le_refl _)
                    rintro e w31 ⟨v177, rfl, ho0, hb⟩
                    refine ⟨_, rfl, ?_⟩
                    have n0_ := qS (Kd.R_elder' (by (with_reducible repeat (first | apply Kd.R_alloc | apply Kd.R_drewN | apply Kd.R_drew)); exact HO174.out) (Kd.R_base ho0) hb)
                    have n1_ := qS (Kd.R_lower (Kd.R_new' ho0 (Kd.R_lt (by (with_reducible repeat (first | apply Kd.R_alloc | apply Kd.R_drewN | apply Kd.R_drew)); exact HO174.out))) (below_size (by repeat (first | (with_reducible first | exact HB.out | apply qpA | apply qpN | apply qp1 | refine qpS ?_ GE170.out | refine qpS ?_ GE171.out) | exact HB.out))))
                    have n2_ := qS (qB (g := gb170) (o := .cells #[.int .u8 a0_0, .int .u8 a0_1, .int .u8 a0_2, .int .u8 a0_3, .int .u8 a0_4, .int .u8 a0_5, .int .u8 a0_6, .int .u8 a0_7, .int .u8 a0_8, .int .u8 a0_9, .int .u8 a0_10, .int .u8 a0_11, .int .u8 a0_12, .int .u8 a0_13, .int .u8 a0_14, .int .u8 a0_15] 22 (0, 0)) (by (with_reducible repeat (first | refine qN ?_ _ | refine qD ?_ | refine qA ?_ _)); exact BK170.out) hb)
                    have n3_ := qS (qB (g := gb171) (o := .cells #[.int .u8 0, .int .u8 0, .int .u8 0, .int .u8 0, .int .u8 0, .int .u8 0, .int .u8 0, .int .u8 0, .int .u8 0, .int .u8 0, .int .u8 0, .int .u8 0, .int .u8 0, .int .u8 0, .int .u8 0, .int .u8 0] 22 (0, 0)) (by (with_reducible repeat (first | refine qN ?_ _ | refine qD ?_ | refine qA ?_ _)); exact BK171.out) hb)
                    have n4_ := qS (below_step (by repeat (first | (with_reducible first | exact HB.out | apply qpA | apply qpN | apply qp1 | refine qpS ?_ GE170.out | refine qpS ?_ GE171.out) | exact HB.out)) hb)
                    have z_HO181 := fun (h0_ : b 7 = true) => (show Kd.R (Kd.int .u8) 5 w31 w.heap.size (fun _ => True) v180 y179 from by first | exact (Kd.R_elder' (by (with_reducible repeat (first | apply Kd.R_alloc | apply Kd.R_drewN | apply Kd.R_drew)); exact (Q_HO181 h0_)) (Kd.R_base ho0) hb) | exact Kd.R_mono (Kd.R_elder' (by (with_reducible repeat (first | apply Kd.R_alloc | apply Kd.R_drewN | apply Kd.R_drew)); exact (Q_HO181 h0_)) (Kd.R_base ho0) hb) (fun _ h_ => by first | trivial | exact h_ | exact h_.1))
                    clear HO174
                    clear BK170
                    clear BK171
                    clear HB
                    have HO174 := n0_
                    have HO178 := n1_
                    have BK170 := n2_
                    have BK171 := n3_
                    have HB := n4_
                    clear n0_ n1_ n2_ n3_ n4_
                    (try clear hb)
                    (try clear hb2)
                    (try clear hk)
                    (try clear hi)
                    (try clear ho0)
                    refine hK.out _ _ ⟨v173, v177, v180, v184, m10_, (by rw [ha.out]; exact putSel_upk 3 hb_ rfl rfl rfl), (by (with_reducible repeat (first | refine qN ?_ _ | refine qD ?_ | refine qA ?_ _)); exact BK170.out), (by (with_reducible repeat (first | refine qN ?_ _ | refine qD ?_ | refine qA ?_ _)); exact BK171.out), (by repeat (first | (with_reducible first | exact HB.out | apply qpA | apply qpN | apply qp1 | refine qpS ?_ GE170.out | refine qpS ?_ GE171.out) | exact HB.out)), fun _ => (by (with_reducible repeat (first | apply Kd.R_alloc | apply Kd.R_drewN | apply Kd.R_drew)); exact Kd.R_mono HO174.out (fun _ hk => by first | exact hk.2 | exact True.intro)), fun _ => (by (with_reducible repeat (first | apply Kd.R_alloc | apply Kd.R_drewN | apply Kd.R_drew)); exact Kd.R_mono HO178.out (fun _ hk => by first | exact hk.2 | exact True.intro)), z_HO181, fun h0_ => absurd ((hoff 9 (by kernel_rfl)).symm.trans h0_) (by decide), fun h0_ => absurd ((hoff 10 (by kernel_rfl)).symm.trans h0_) (by decide)⟩
                   refine steps_cons ?_ ?_
                   ·rintro b a w' ⟨v173, v177, v180, v184, m10_, ha, Q_BK170, Q_BK171, Q_HB, Q_HO174, Q_HO178, Q_HO181, Q_HO185, Q_X10_⟩ hb_ hon hoff
                    refine ⟨_, rfl, fun K hK => ?_⟩
                    have e2 : a.tmps[2]? = some (.pointer (some ⟨gb170, 0, none⟩)) := by rw [ha]; exact (putSel_off rfl).trans rfl
                    replace ha := qS ha
                    have BK170 := qS Q_BK170
                    have BK171 := qS Q_BK171
                    have HB := qS Q_HB
                    have hc0_ : w'.cell? ⟨gb170, 0, none⟩ = some (.int .u8 a0_0) := (qC BK170.out 0).trans rfl
                    have hc1_ : w'.cell? ⟨gb170, 1, none⟩ = some (.int .u8 a0_1) := (qC BK170.out 1).trans rfl
                    have hc2_ : w'.cell? ⟨gb170, 2, none⟩ = some (.int .u8 a0_2) := (qC BK170.out 2).trans rfl
                    have hc3_ : w'.cell? ⟨gb170, 3, none⟩ = some (.int .u8 a0_3) := (qC BK170.out 3).trans rfl
                    have hc4_ : w'.cell? ⟨gb170, 4, none⟩ = some (.int .u8 a0_4) := (qC BK170.out 4).trans rfl
                    have hc5_ : w'.cell? ⟨gb170, 5, none⟩ = some (.int .u8 a0_5) := (qC BK170.out 5).trans rfl
                    have hc6_ : w'.cell? ⟨gb170, 6, none⟩ = some (.int .u8 a0_6) := (qC BK170.out 6).trans rfl
                    have hc7_ : w'.cell? ⟨gb170, 7, none⟩ = some (.int .u8 a0_7) := (qC BK170.out 7).trans rfl
                    have hc8_ : w'.cell? ⟨gb170, 8, none⟩ = some (.int .u8 a0_8) := (qC BK170.out 8).trans rfl
                    have hc9_ : w'.cell? ⟨gb170, 9, none⟩ = some (.int .u8 a0_9) := (qC BK170.out 9).trans rfl
                    have hc10_ : w'.cell? ⟨gb170, 10, none⟩ = some (.int .u8 a0_10) := (qC BK170.out 10).trans rfl
                    have hc11_ : w'.cell? ⟨gb170, 11, none⟩ = some (.int .u8 a0_11) := (qC BK170.out 11).trans rfl
                    have hc12_ : w'.cell? ⟨gb170, 12, none⟩ = some (.int .u8 a0_12) := (qC BK170.out 12).trans rfl
                    have hc13_ : w'.cell? ⟨gb170, 13, none⟩ = some (.int .u8 a0_13) := (qC BK170.out 13).trans rfl
                    have hc14_ : w'.cell? ⟨gb170, 14, none⟩ = some (.int .u8 a0_14) := (qC BK170.out 14).trans rfl
                    have hc15_ : w'.cell? ⟨gb170, 15, none⟩ = some (.int .u8 a0_15) := (qC BK170.out 15).trans rfl
                    refine value_ (w1 := w') (v := .agg #[.int .u8 a0_0, .int .u8 a0_1, .int .u8 a0_2, .int .u8 a0_3, .int .u8 a0_4, .int .u8 a0_5, .int .u8 a0_6, .int .u8 a0_7, .int .u8 a0_8, .int .u8 a0_9, .int .u8 a0_10, .int .u8 a0_11, .int .u8 a0_12, .int .u8 a0_13, .int .u8 a0_14, .int .u8 a0_15]) (by rfl) rfl ?_ ?_
                    ·go_simp
                     (try simp only [i64_w])
                     try rfl
                    refine hK.out _ _ ⟨v173, v177, v180, v184, m10_, (by rw [ha.out]; exact putSel_upk 4 hb_ rfl rfl rfl), Q_BK170, Q_BK171, Q_HB, Q_HO174, Q_HO178, Q_HO181, fun h0_ => absurd ((hoff 9 (by kernel_rfl)).symm.trans h0_) (by decide), fun h0_ => absurd ((hoff 10 (by kernel_rfl)).symm.trans h0_) (by decide)⟩
                   refine steps_cons ?_ ?_
                   ·rintro b a w' ⟨v173, v177, v180, v184, m10_, ha, Q_BK170, Q_BK171, Q_HB, Q_HO174, Q_HO178, Q_HO181, Q_HO185, Q_X10_⟩ hb_ hon hoff
                    refine ⟨_, rfl, fun K hK => ?_⟩
                    have e14 : a.tmps[14]? = some (.int .u8 a1) := by rw [ha]; exact (putSel_off rfl).trans rfl
                    replace ha := qS ha
                    have BK170 := qS Q_BK170
                    have BK171 := qS Q_BK171
                    have HB := qS Q_HB
                    refine Kd.R_lit_step (Kd.int .u8) _ 5 ?hg (N := 15) ?hd (xs := ([a1, 1] : List Int)) (inner := [.int .u8 a1, .int .u8 1]) (ok := fun _ => True) (okp := fun _ => True) ?hr ?hp (fun _ hk => hk) trivial (Below.refl _ _) (Nat.le_refl _) (by simp) ?_; (case hd => rfl); (case hg => rfl); (case hr => first | (go_simp; done) | (go_simp; rfl)); (case hp => exact (Reps.one (show Kd.M (Kd.int .u8) _ _ _ a1 [.int .u8 a1] from rfl) (Reps.one (show Kd.M (Kd.int .u8) _ _ _ 1 [.int .u8 1] from rfl) (Reps.none _ _))))
                    intro v180 w26 ho27 hb hg_ hnew_
                    clear hg_ hnew_
                    (first | rw [← Ny179.out] at ho27 | (simp only [Int.reduceToNat] at ho27; rw [← Ny179.out] at ho27))
                    have n0_ := qS (Kd.R_lower ho27 (below_size (by repeat (first | (with_reducible first | exact HB.out | apply qpA | apply qpN | apply qp1 | refine qpS ?_ GE170.out | refine qpS ?_ GE171.out) | exact HB.out))))
                    have n1_ := qS (qB (g := gb170) (o := .cells #[.int .u8 a0_0, .int .u8 a0_1, .int .u8 a0_2, .int .u8 a0_3, .int .u8 a0_4, .int .u8 a0_5, .int .u8 a0_6, .int .u8 a0_7, .int .u8 a0_8, .int .u8 a0_9, .int .u8 a0_10, .int .u8 a0_11, .int .u8 a0_12, .int .u8 a0_13, .int .u8 a0_14, .int .u8 a0_15] 22 (0, 0)) (by (with_reducible repeat (first | refine qN ?_ _ | refine qD ?_ | refine qA ?_ _)); exact BK170.out) hb)
                    have n2_ := qS (qB (g := gb171) (o := .cells #[.int .u8 0, .int .u8 0, .int .u8 0, .int .u8 0, .int .u8 0, .int .u8 0, .int .u8 0, .int .u8 0, .int .u8 0, .int .u8 0, .int .u8 0, .int .u8 0, .int .u8 0, .int .u8 0, .int .u8 0, .int .u8 0] 22 (0, 0)) (by (with_reducible repeat (first | refine qN ?_ _ | refine qD ?_ | refine qA ?_ _)); exact BK171.out) hb)
                    have n3_ := qS (below_step (by repeat (first | (with_reducible first | exact HB.out | apply qpA | apply qpN | apply qp1 | refine qpS ?_ GE170.out | refine qpS ?_ GE171.out) | exact HB.out)) hb)
                    have z_HO174 := fun (h0_ : b 2 = true) => (show Kd.R (Kd.int .u8) 5 w26 w.heap.size (fun _ => True) v173 y172 from by first | exact (Kd.R_elder' (by (with_reducible repeat (first | apply Kd.R_alloc | apply Kd.R_drewN | apply Kd.R_drew)); exact (Q_HO174 h0_)) (Kd.R_base ho27) hb) | exact Kd.R_mono (Kd.R_elder' (by (with_reducible repeat (first | apply Kd.R_alloc | apply Kd.R_drewN | apply Kd.R_drew)); exact (Q_HO174 h0_)) (Kd.R_base ho27) hb) (fun _ h_ => by first | trivial | exact h_ | exact h_.1))
                    have z_HO178 := fun (h0_ : b 4 = true) => (show Kd.R (Kd.int .u8) 5 w26 w.heap.size (fun _ => True) v177 t176 from by first | exact (Kd.R_elder' (by (with_reducible repeat (first | apply Kd.R_alloc | apply Kd.R_drewN | apply Kd.R_drew)); exact (Q_HO178 h0_)) (Kd.R_base ho27) hb) | exact Kd.R_mono (Kd.R_elder' (by (with_reducible repeat (first | apply Kd.R_alloc | apply Kd.R_drewN | apply Kd.R_drew)); exact (Q_HO178 h0_)) (Kd.R_base ho27) hb) (fun _ h_ => by first | trivial | exact h_ | exact h_.1))
                    clear BK170
                    clear BK171
                    clear HB
                    have HO181 := n0_
                    have BK170 := n1_
                    have BK171 := n2_
                    have HB := n3_
                    clear n0_ n1_ n2_ n3_
                    clear hb ho27
                    refine hK.out _ _ ⟨v173, v177, v180, v184, m10_, (by rw [ha.out]; exact putSel_upk 5 hb_ rfl rfl rfl), (by (with_reducible repeat (first | refine qN ?_ _ | refine qD ?_ | refine qA ?_ _)); exact BK170.out), (by (with_reducible repeat (first | refine qN ?_ _ | refine qD ?_ | refine qA ?_ _)); exact BK171.out), (by repeat (first | (with_reducible first | exact HB.out | apply qpA | apply qpN | apply qp1 | refine qpS ?_ GE170.out | refine qpS ?_ GE171.out) | exact HB.out)), z_HO174, z_HO178, fun _ => (by (with_reducible repeat (first | apply Kd.R_alloc | apply Kd.R_drewN | apply Kd.R_drew)); exact HO181.out), fun h0_ => absurd ((hoff 9 (by kernel_rfl)).symm.trans h0_) (by decide), fun h0_ => absurd ((hoff 10 (by kernel_rfl)).symm.trans h0_) (by decide)⟩
                   refine steps_cons ?_ ?_
                   ·rintro b a w' ⟨v173, v177, v180, v184, m10_, ha, Q_BK170, Q_BK171, Q_HB, Q_HO174, Q_HO178, Q_HO181, Q_HO185, Q_X10_⟩ hb_ hon hoff
                    refine ⟨_, rfl, fun K hK => ?_⟩
                    have e13 : a.tmps[13]? = some (.agg #[.int .u8 a0_0, .int .u8 a0_1, .int .u8 a0_2, .int .u8 a0_3, .int .u8 a0_4, .int .u8 a0_5, .int .u8 a0_6, .int .u8 a0_7, .int .u8 a0_8, .int .u8 a0_9, .int .u8 a0_10, .int .u8 a0_11, .int .u8 a0_12, .int .u8 a0_13, .int .u8 a0_14, .int .u8 a0_15]) := by rw [ha]; exact putSel_on (e := (5, 13, .agg #[.int .u8 a0_0, .int .u8 a0_1, .int .u8 a0_2, .int .u8 a0_3, .int .u8 a0_4, .int .u8 a0_5, .int .u8 a0_6, .int .u8 a0_7, .int .u8 a0_8, .int .u8 a0_9, .int .u8 a0_10, .int .u8 a0_11, .int .u8 a0_12, .int .u8 a0_13, .int .u8 a0_14, .int .u8 a0_15])) 4 rfl rfl (hon 5 (by kernel_rfl)) rfl
                    have e15 : a.tmps[15]? = some (v180) := by rw [ha]; exact putSel_on (e := (7, 15, v180)) 5 rfl rfl (hon 7 (by kernel_rfl)) rfl
                    replace ha := qS ha
                    have BK170 := qS Q_BK170
                    have BK171 := qS Q_BK171
                    have HB := qS Q_HB
                    have HO174 := qS (Q_HO174 (hon 2 (by kernel_rfl)))
                    have HO178 := qS (Q_HO178 (hon 4 (by kernel_rfl)))
                    have HO181 := qS (Q_HO181 (hon 7 (by kernel_rfl)))
                    obtain ⟨Ao34, co34, eo34⟩ := Kd.R_slice HO181.out
                    (first | subst eo34 | (injection eo34 with f1_ f2_ f3_; have f4_ := f1_.symm; have f5_ := f3_.symm; clear f1_ f2_ f3_; subst f4_; subst f5_))
                    refine goes_ Try.func9 (by kernel_rfl) rfl #[.agg #[.int .u8 a0_0, .int .u8 a0_1, .int .u8 a0_2, .int .u8 a0_3, .int .u8 a0_4, .int .u8 a0_5, .int .u8 a0_6, .int .u8 a0_7, .int .u8 a0_8, .int .u8 a0_9, .int .u8 a0_10, .int .u8 a0_11, .int .u8 a0_12, .int .u8 a0_13, .int .u8 a0_14, .int .u8 a0_15], .slice Ao34 y179.length co34] (by rfl) rfl rfl (by (try simp only [List.map_toArray, List.map_cons, List.map_nil]); first | done | rfl | (simp only [*]; done) | (simp only [List.length_drop, List.length_take]; rfl) | (simp only [Act.eval, Array.getD_eq_getD_getElem?, Option.getD_some, *])) ?_
                    with_reducible refine (fuseeref23_Sum.calls a0_0 a0_1 a0_2 a0_3 a0_4 a0_5 a0_6 a0_7 a0_8 a0_9 a0_10 a0_11 a0_12 a0_13 a0_14 a0_15 _ _ y179 t182 _ ?side1 ?side2 A5.out).mono ?_
                    (case side1 => repeat (first | exact (Kd.R_reads' HO181.out).2.2 | (with_reducible refine Kd.C_alloc ?_ _) | (with_reducible refine Kd.C_drewN ?_ _) | (with_reducible refine Kd.C_drew ?_)))
                    (case side2 => exact (Kd.R_reads' HO181.out).2.1)
                    rintro e w35 ⟨rfl, hb⟩
                    refine ⟨_, rfl, ?_⟩
                    have n0_ := qS (Kd.R_below (by (with_reducible repeat (first | apply Kd.R_alloc | apply Kd.R_drewN | apply Kd.R_drew)); exact HO174.out) hb)
                    have n1_ := qS (Kd.R_below (by (with_reducible repeat (first | apply Kd.R_alloc | apply Kd.R_drewN | apply Kd.R_drew)); exact HO178.out) hb)
                    have n2_ := qS (Kd.R_below (by (with_reducible repeat (first | apply Kd.R_alloc | apply Kd.R_drewN | apply Kd.R_drew)); exact HO181.out) hb)
                    have n3_ := qS (qB (g := gb170) (o := .cells #[.int .u8 a0_0, .int .u8 a0_1, .int .u8 a0_2, .int .u8 a0_3, .int .u8 a0_4, .int .u8 a0_5, .int .u8 a0_6, .int .u8 a0_7, .int .u8 a0_8, .int .u8 a0_9, .int .u8 a0_10, .int .u8 a0_11, .int .u8 a0_12, .int .u8 a0_13, .int .u8 a0_14, .int .u8 a0_15] 22 (0, 0)) (by (with_reducible repeat (first | refine qN ?_ _ | refine qD ?_ | refine qA ?_ _)); exact BK170.out) hb)
                    have n4_ := qS (qB (g := gb171) (o := .cells #[.int .u8 0, .int .u8 0, .int .u8 0, .int .u8 0, .int .u8 0, .int .u8 0, .int .u8 0, .int .u8 0, .int .u8 0, .int .u8 0, .int .u8 0, .int .u8 0, .int .u8 0, .int .u8 0, .int .u8 0, .int .u8 0] 22 (0, 0)) (by (with_reducible repeat (first | refine qN ?_ _ | refine qD ?_ | refine qA ?_ _)); exact BK171.out) hb)
                    have n5_ := qS (below_step (by repeat (first | (with_reducible first | exact HB.out | apply qpA | apply qpN | apply qp1 | refine qpS ?_ GE170.out | refine qpS ?_ GE171.out) | exact HB.out)) hb)
                    clear HO174
                    clear HO178
                    clear HO181
                    clear BK170
                    clear BK171
                    clear HB
                    have HO174 := n0_
                    have HO178 := n1_
                    have HO181 := n2_
                    have BK170 := n3_
                    have BK171 := n4_
                    have HB := n5_
                    clear n0_ n1_ n2_ n3_ n4_ n5_
                    (try clear hb)
                    (try clear hb2)
                    (try clear hk)
                    (try clear hi)
                    refine hK.out _ _ ⟨v173, v177, .slice Ao34 y179.length co34, v184, m10_, (by rw [ha.out]; exact putSel_upk 6 hb_ rfl rfl rfl), (by (with_reducible repeat (first | refine qN ?_ _ | refine qD ?_ | refine qA ?_ _)); exact BK170.out), (by (with_reducible repeat (first | refine qN ?_ _ | refine qD ?_ | refine qA ?_ _)); exact BK171.out), (by repeat (first | (with_reducible first | exact HB.out | apply qpA | apply qpN | apply qp1 | refine qpS ?_ GE170.out | refine qpS ?_ GE171.out) | exact HB.out)), fun _ => (by (with_reducible repeat (first | apply Kd.R_alloc | apply Kd.R_drewN | apply Kd.R_drew)); exact HO174.out), fun _ => (by (with_reducible repeat (first | apply Kd.R_alloc | apply Kd.R_drewN | apply Kd.R_drew)); exact HO178.out), fun _ => (by (with_reducible repeat (first | apply Kd.R_alloc | apply Kd.R_drewN | apply Kd.R_drew)); exact HO181.out), fun h0_ => absurd ((hoff 9 (by kernel_rfl)).symm.trans h0_) (by decide), fun h0_ => absurd ((hoff 10 (by kernel_rfl)).symm.trans h0_) (by decide)⟩
                   refine steps_cons ?_ ?_
                   ·rintro b a w' ⟨v173, v177, v180, v184, m10_, ha, Q_BK170, Q_BK171, Q_HB, Q_HO174, Q_HO178, Q_HO181, Q_HO185, Q_X10_⟩ hb_ hon hoff
                    refine ⟨_, rfl, fun K hK => ?_⟩
                    have e12 : a.tmps[12]? = some (v177) := by rw [ha]; exact putSel_on (e := (4, 12, v177)) 3 rfl rfl (hon 4 (by kernel_rfl)) rfl
                    have e16 : a.tmps[16]? = some (.int .u64 t182) := by rw [ha]; exact putSel_on (e := (8, 16, .int .u64 t182)) 6 rfl rfl (hon 8 (by kernel_rfl)) rfl
                    replace ha := qS ha
                    have BK170 := qS Q_BK170
                    have BK171 := qS Q_BK171
                    have HB := qS Q_HB
                    have HO174 := qS (Q_HO174 (hon 2 (by kernel_rfl)))
                    have HO178 := qS (Q_HO178 (hon 4 (by kernel_rfl)))
                    have HO181 := qS (Q_HO181 (hon 7 (by kernel_rfl)))
                    obtain ⟨Ao36, co36, eo36⟩ := Kd.R_slice HO178.out
                    (first | subst eo36 | (injection eo36 with f1_ f2_ f3_; have f4_ := f1_.symm; have f5_ := f3_.symm; clear f1_ f2_ f3_; subst f4_; subst f5_))
                    refine goes_ Try.func35 (by kernel_rfl) rfl #[.slice Ao36 t176.length co36, .int .u64 t182, .int .i64 8] (by rfl) rfl rfl (by (try simp only [List.map_toArray, List.map_cons, List.map_nil]); first | done | rfl | (simp only [*]; done) | (simp only [List.length_drop, List.length_take]; rfl) | (simp only [Act.eval, Array.getD_eq_getD_getElem?, Option.getD_some, *])) ?_
                    with_reducible refine (fuseeref05_Put.calls k _ _ t176 t182 8 t183 _ ?side1 ?side2 A6.out).mono ?_
                    (case side1 => repeat (first | exact (Kd.R_reads' HO178.out).2.2 | (with_reducible refine Kd.C_alloc ?_ _) | (with_reducible refine Kd.C_drewN ?_ _) | (with_reducible refine Kd.C_drew ?_)))
                    (case side2 => exact (Kd.R_reads' HO178.out).2.1)
                    rintro e w37 ⟨v184, rfl, ho0, hb⟩
                    refine ⟨_, rfl, ?_⟩
                    have n0_ := qS (Kd.R_elder' (by (with_reducible repeat (first | apply Kd.R_alloc | apply Kd.R_drewN | apply Kd.R_drew)); exact HO174.out) (Kd.R_base ho0) hb)
                    have n1_ := qS (Kd.R_elder' (by (with_reducible repeat (first | apply Kd.R_alloc | apply Kd.R_drewN | apply Kd.R_drew)); exact HO178.out) (Kd.R_base ho0) hb)
                    have n2_ := qS (Kd.R_elder' (by (with_reducible repeat (first | apply Kd.R_alloc | apply Kd.R_drewN | apply Kd.R_drew)); exact HO181.out) (Kd.R_base ho0) hb)
                    have n3_ := qS (Kd.R_lower (Kd.R_new' (Kd.R_new' (Kd.R_new' ho0 (Kd.R_lt (by (with_reducible repeat (first | apply Kd.R_alloc | apply Kd.R_drewN | apply Kd.R_drew)); exact HO174.out))) (Kd.R_lt (by (with_reducible repeat (first | apply Kd.R_alloc | apply Kd.R_drewN | apply Kd.R_drew)); exact HO178.out))) (Kd.R_lt (by (with_reducible repeat (first | apply Kd.R_alloc | apply Kd.R_drewN | apply Kd.R_drew)); exact HO181.out))) (below_size (by repeat (first | (with_reducible first | exact HB.out | apply qpA | apply qpN | apply qp1 | refine qpS ?_ GE170.out | refine qpS ?_ GE171.out) | exact HB.out))))
                    have n4_ := qS (qB (g := gb170) (o := .cells #[.int .u8 a0_0, .int .u8 a0_1, .int .u8 a0_2, .int .u8 a0_3, .int .u8 a0_4, .int .u8 a0_5, .int .u8 a0_6, .int .u8 a0_7, .int .u8 a0_8, .int .u8 a0_9, .int .u8 a0_10, .int .u8 a0_11, .int .u8 a0_12, .int .u8 a0_13, .int .u8 a0_14, .int .u8 a0_15] 22 (0, 0)) (by (with_reducible repeat (first | refine qN ?_ _ | refine qD ?_ | refine qA ?_ _)); exact BK170.out) hb)
                    have n5_ := qS (qB (g := gb171) (o := .cells #[.int .u8 0, .int .u8 0, .int .u8 0, .int .u8 0, .int .u8 0, .int .u8 0, .int .u8 0, .int .u8 0, .int .u8 0, .int .u8 0, .int .u8 0, .int .u8 0, .int .u8 0, .int .u8 0, .int .u8 0, .int .u8 0] 22 (0, 0)) (by (with_reducible repeat (first | refine qN ?_ _ | refine qD ?_ | refine qA ?_ _)); exact BK171.out) hb)
                    have n6_ := qS (below_step (by repeat (first | (with_reducible first | exact HB.out | apply qpA | apply qpN | apply qp1 | refine qpS ?_ GE170.out | refine qpS ?_ GE171.out) | exact HB.out)) hb)
                    clear HO174
                    clear HO178
                    clear HO181
                    clear BK170
                    clear BK171
                    clear HB
                    have HO174 := n0_
                    have HO178 := n1_
                    have HO181 := n2_
                    have HO185 := n3_
                    have BK170 := n4_
                    have BK171 := n5_
                    have HB := n6_
                    clear n0_ n1_ n2_ n3_ n4_ n5_ n6_
                    (try clear hb)
                    (try clear hb2)
                    (try clear hk)
                    (try clear hi)
                    (try clear ho0)
                    refine hK.out _ _ ⟨v173, .slice Ao36 t176.length co36, v180, v184, m10_, (by rw [ha.out]; exact putSel_upk 7 hb_ rfl rfl rfl), (by (with_reducible repeat (first | refine qN ?_ _ | refine qD ?_ | refine qA ?_ _)); exact BK170.out), (by (with_reducible repeat (first | refine qN ?_ _ | refine qD ?_ | refine qA ?_ _)); exact BK171.out), (by repeat (first | (with_reducible first | exact HB.out | apply qpA | apply qpN | apply qp1 | refine qpS ?_ GE170.out | refine qpS ?_ GE171.out) | exact HB.out)), fun _ => (by (with_reducible repeat (first | apply Kd.R_alloc | apply Kd.R_drewN | apply Kd.R_drew)); exact Kd.R_mono HO174.out (fun _ hk => by first | exact ⟨hk.1.1, ⟨hk.1.2, hk.2⟩⟩ | exact True.intro)), fun _ => (by (with_reducible repeat (first | apply Kd.R_alloc | apply Kd.R_drewN | apply Kd.R_drew)); exact Kd.R_mono HO178.out (fun _ hk => by first | exact ⟨hk.1.1, ⟨hk.1.2, hk.2⟩⟩ | exact True.intro)), fun _ => (by (with_reducible repeat (first | apply Kd.R_alloc | apply Kd.R_drewN | apply Kd.R_drew)); exact Kd.R_mono HO181.out (fun _ hk => by first | exact ⟨hk.1.1, ⟨hk.1.2, hk.2⟩⟩ | exact True.intro)), fun _ => (by (with_reducible repeat (first | apply Kd.R_alloc | apply Kd.R_drewN | apply Kd.R_drew)); exact Kd.R_mono HO185.out (fun _ hk => by first | exact ⟨hk.1.1.2, ⟨hk.1.2, hk.2⟩⟩ | exact True.intro)), fun h0_ => absurd ((hoff 10 (by kernel_rfl)).symm.trans h0_) (by decide)⟩
                   refine steps_cons ?_ ?_
                   ·rintro b a w' ⟨v173, v177, v180, v184, m10_, ha, Q_BK170, Q_BK171, Q_HB, Q_HO174, Q_HO178, Q_HO181, Q_HO185, Q_X10_⟩ hb_ hon hoff
                    refine ⟨_, rfl, fun K hK => ?_⟩
                    have e17 : a.tmps[17]? = some (v184) := by rw [ha]; exact putSel_on (e := (9, 17, v184)) 7 rfl rfl (hon 9 (by kernel_rfl)) rfl
                    replace ha := qS ha
                    have BK170 := qS Q_BK170
                    have BK171 := qS Q_BK171
                    have HB := qS Q_HB
                    have HO174 := qS (Q_HO174 (hon 2 (by kernel_rfl)))
                    have HO178 := qS (Q_HO178 (hon 4 (by kernel_rfl)))
                    have HO181 := qS (Q_HO181 (hon 7 (by kernel_rfl)))
                    have HO185 := qS (Q_HO185 (hon 9 (by kernel_rfl)))
                    refine value_ (w1 := w') (v := v184) (by rfl) rfl ?_ ?_
                    ·go_simp
                     (try simp only [i64_w])
                     try rfl
                    refine hK.out _ _ ⟨v173, v177, v180, v184, (v184), (by rw [ha.out]; exact putSel_upk 8 hb_ rfl rfl rfl), Q_BK170, Q_BK171, Q_HB, Q_HO174, Q_HO178, Q_HO181, Q_HO185, fun _ => rfl⟩
                   exact steps_nil
                  rintro b a w37 hall ⟨v173, v177, v180, v184, m10_, ha, Q_BK170, Q_BK171, Q_HB, Q_HO174, Q_HO178, Q_HO181, Q_HO185, Q_X10_⟩
                  clear BK170 BK171 HB
                  have hb0_ := hall 0 (by kernel_rfl)
                  have hb2_ := hall 2 (by kernel_rfl)
                  have hb3_ := hall 3 (by kernel_rfl)
                  have hb4_ := hall 4 (by kernel_rfl)
                  have hb5_ := hall 5 (by kernel_rfl)
                  have hb7_ := hall 7 (by kernel_rfl)
                  have hb8_ := hall 8 (by kernel_rfl)
                  have hb9_ := hall 9 (by kernel_rfl)
                  have hb10_ := hall 10 (by kernel_rfl)
                  subst ha
                  obtain rfl := Eq.symm <| Q_X10_ hb10_
                  simp only [putSel, hb0_, hb2_, hb3_, hb4_, hb5_, hb7_, hb8_, hb9_, hb10_, if_true, Act.put, List.setIfInBounds_toArray, List.set_cons_zero, List.set_cons_succ]
                  have BK170 := qS Q_BK170
                  clear Q_BK170
                  have BK171 := qS Q_BK171
                  clear Q_BK171
                  have HB := qS Q_HB
                  clear Q_HB
                  have HO174 := qS (Q_HO174 hb2_)
                  clear Q_HO174
                  have HO178 := qS (Q_HO178 hb4_)
                  clear Q_HO178
                  have HO181 := qS (Q_HO181 hb7_)
                  clear Q_HO181
                  have HO185 := qS (Q_HO185 hb9_)
                  clear Q_HO185
                  clear hall hb0_ hb2_ hb3_ hb4_ hb5_ hb7_ hb8_ hb9_ hb10_
                  try go_wp2_with (first | ((with_reducible refine gate_dst (N := 6) rfl ?_); refine box_event ?hg (N := 6) ?hd (cs := #[.int .u8 0, .int .u8 0, .int .u8 0, .int .u8 0, .int .u8 0, .int .u8 0, .int .u8 0, .int .u8 0, .int .u8 0, .int .u8 0, .int .u8 0, .int .u8 0, .int .u8 0, .int .u8 0, .int .u8 0, .int .u8 0]) (t := 22) ?hr ?_; (case hd => rfl); (case hg => rfl); (case hr => first | (go_simp; done) | (go_simp; rfl)); intro gb186 hg w38 hbox hb; have n0_ := qS (Kd.R_below (by (with_reducible repeat (first | apply Kd.R_alloc | apply Kd.R_drewN | apply Kd.R_drew)); exact HO174.out) hb); have n1_ := qS (Kd.R_below (by (with_reducible repeat (first | apply Kd.R_alloc | apply Kd.R_drewN | apply Kd.R_drew)); exact HO178.out) hb); have n2_ := qS (Kd.R_below (by (with_reducible repeat (first | apply Kd.R_alloc | apply Kd.R_drewN | apply Kd.R_drew)); exact HO181.out) hb); have n3_ := qS (Kd.R_below (by (with_reducible repeat (first | apply Kd.R_alloc | apply Kd.R_drewN | apply Kd.R_drew)); exact HO185.out) hb); have n4_ := qS (qB (g := gb170) (o := .cells #[.int .u8 a0_0, .int .u8 a0_1, .int .u8 a0_2, .int .u8 a0_3, .int .u8 a0_4, .int .u8 a0_5, .int .u8 a0_6, .int .u8 a0_7, .int .u8 a0_8, .int .u8 a0_9, .int .u8 a0_10, .int .u8 a0_11, .int .u8 a0_12, .int .u8 a0_13, .int .u8 a0_14, .int .u8 a0_15] 22 (0, 0)) (by (with_reducible repeat (first | refine qN ?_ _ | refine qD ?_ | refine qA ?_ _)); exact BK170.out) hb); have n5_ := qS (qB (g := gb171) (o := .cells #[.int .u8 0, .int .u8 0, .int .u8 0, .int .u8 0, .int .u8 0, .int .u8 0, .int .u8 0, .int .u8 0, .int .u8 0, .int .u8 0, .int .u8 0, .int .u8 0, .int .u8 0, .int .u8 0, .int .u8 0, .int .u8 0] 22 (0, 0)) (by (with_reducible repeat (first | refine qN ?_ _ | refine qD ?_ | refine qA ?_ _)); exact BK171.out) hb); have n6_ := qS (below_step (by repeat (first | (with_reducible first | exact HB.out | apply qpA | apply qpN | apply qp1 | refine qpS ?_ GE170.out | refine qpS ?_ GE171.out) | exact HB.out)) hb); have n7_ := qS (hbox); have n8_ := qS ((by rw [hg]; exact (below_size (by repeat (first | (with_reducible first | exact HB.out | apply qpA | apply qpN | apply qp1 | refine qpS ?_ GE170.out | refine qpS ?_ GE171.out) | exact HB.out))) : w.heap.size ≤ gb186)); have n9_ := qS ((by rw [hg]; exact (below_size (by repeat (first | (with_reducible first | exact HB.out | apply qpA | apply qpN | apply qp1 | refine qpS ?_ GE170.out | refine qpS ?_ GE171.out) | exact HB.out))) : w.heap.size ≤ gb186)); have n10_ := qS ((by rw [hg]; exact Nat.ne_of_lt (blk_lt (g := gb170) (o := .cells #[.int .u8 a0_0, .int .u8 a0_1, .int .u8 a0_2, .int .u8 a0_3, .int .u8 a0_4, .int .u8 a0_5, .int .u8 a0_6, .int .u8 a0_7, .int .u8 a0_8, .int .u8 a0_9, .int .u8 a0_10, .int .u8 a0_11, .int .u8 a0_12, .int .u8 a0_13, .int .u8 a0_14, .int .u8 a0_15] 22 (0, 0)) (by (with_reducible repeat (first | refine qN ?_ _ | refine qD ?_ | refine qA ?_ _)); exact BK170.out)) : gb170 ≠ gb186)); have n11_ := qS ((by rw [hg]; exact Nat.ne_of_gt (blk_lt (g := gb170) (o := .cells #[.int .u8 a0_0, .int .u8 a0_1, .int .u8 a0_2, .int .u8 a0_3, .int .u8 a0_4, .int .u8 a0_5, .int .u8 a0_6, .int .u8 a0_7, .int .u8 a0_8, .int .u8 a0_9, .int .u8 a0_10, .int .u8 a0_11, .int .u8 a0_12, .int .u8 a0_13, .int .u8 a0_14, .int .u8 a0_15] 22 (0, 0)) (by (with_reducible repeat (first | refine qN ?_ _ | refine qD ?_ | refine qA ?_ _)); exact BK170.out)) : gb186 ≠ gb170)); have n12_ := qS ((by rw [hg]; exact Nat.ne_of_lt (blk_lt (g := gb171) (o := .cells #[.int .u8 0, .int .u8 0, .int .u8 0, .int .u8 0, .int .u8 0, .int .u8 0, .int .u8 0, .int .u8 0, .int .u8 0, .int .u8 0, .int .u8 0, .int .u8 0, .int .u8 0, .int .u8 0, .int .u8 0, .int .u8 0] 22 (0, 0)) (by (with_reducible repeat (first | refine qN ?_ _ | refine qD ?_ | refine qA ?_ _)); exact BK171.out)) : gb171 ≠ gb186)); have n13_ := qS ((by rw [hg]; exact Nat.ne_of_gt (blk_lt (g := gb171) (o := .cells #[.int .u8 0, .int .u8 0, .int .u8 0, .int .u8 0, .int .u8 0, .int .u8 0, .int .u8 0, .int .u8 0, .int .u8 0, .int .u8 0, .int .u8 0, .int .u8 0, .int .u8 0, .int .u8 0, .int .u8 0, .int .u8 0] 22 (0, 0)) (by (with_reducible repeat (first | refine qN ?_ _ | refine qD ?_ | refine qA ?_ _)); exact BK171.out)) : gb186 ≠ gb171)); clear HO174; clear HO178; clear HO181; clear HO185; clear BK170; clear BK171; clear HB; have HO174 := n0_; have HO178 := n1_; have HO181 := n2_; have HO185 := n3_; have BK170 := n4_; have BK171 := n5_; have HB := n6_; have BK186 := n7_; have GW186 := n8_; have GE186 := n9_; have NB170_186 := n10_; have NB186_170 := n11_; have NB171_186 := n12_; have NB186_171 := n13_; clear n0_ n1_ n2_ n3_ n4_ n5_ n6_ n7_ n8_ n9_ n10_ n11_ n12_ n13_; clear hb hbox hg))
                  obtain ⟨Az, cz, ez⟩ := Kd.R_slice HO185.out
                  subst ez
                  have hl16 : 16 ≤ t183.length := by have := of_decide_eq_true (show decide (15 < (t183.length : Int)) = true by assumption); omega
                  have HO16 := qS hl16
                  go_loopw [7] (fun v wr => ∃ (i : Nat) (x : Int), Aside0 (i ≤ 16 ∧ x = (i : Int)) ∧ v = .int .i64 x ∧ Aside0 (wr.heap[gb186]? = some (.cells ((t183.take i ++ List.replicate (16 - i) 0).map (Value.int .u8)).toArray 22 (0, 0))) ∧ Aside0 (Kd.R (Kd.int .u8) 5 wr w.heap.size (fun _ => True) (.slice Az t183.length cz) t183) ∧ Aside0 (wr.heap[gb171]? = some (.cells #[.int .u8 0, .int .u8 0, .int .u8 0, .int .u8 0, .int .u8 0, .int .u8 0, .int .u8 0, .int .u8 0, .int .u8 0, .int .u8 0, .int .u8 0, .int .u8 0, .int .u8 0, .int .u8 0, .int .u8 0, .int .u8 0] 22 (0, 0))) ∧ Aside0 (Below w.heap.size w wr)) (fun v _ => match v with | .int _ i => (16 - i).toNat | _ => 0)
                  case atStart => exact ⟨0, 0, ⟨by omega, rfl⟩, rfl, BK186, HO185, BK171, HB⟩
                  case round =>
                    clear BK186 BK171 HB HO185 hl16
                    obtain ⟨i, x, hi, rfl, hO, hR, hz, hB⟩ := hrel
                    by_cases h16 : x < 16
                    · have h0 : 0 ≤ x := by have := hi.out.2; omega
                      have hq : x < (t183.length : Int) := by have := HO16.out; omega
                      obtain ⟨ad, e_, hx0⟩ := Kd.at_int (Kd.R_reads' hR.out).2.2 x h0 hq
                      cases e_
                      have hxi := hi.out.2
                      obtain ⟨uu, hcell⟩ : ∃ uu, wr.cell? ⟨gb186, x.toNat, none⟩ = some uu := by
                        have hlen : ((t183.take i ++ List.replicate (16 - i) 0).map (Value.int .u8)).length = 16 := by have := HO16.out; simp; omega
                        rw [show x.toNat = i by omega, blk_cell hO.out i, List.getElem?_toArray, List.getElem?_eq_getElem (by rw [hlen]; omega)]
                        exact ⟨_, rfl⟩
                      have hfro := blk_frozen hO.out x.toNat
                      have hd := decide_eq_true h16
                      have p_ := eq_true h0
                      have q_ := eq_true hq
                      have q2_ := eq_true h16
                      have H0 := qS (And.intro h0 h16)
                      have hty : ∀ q, q ∈ 5 :: (Kd.int .u8).E → q ≠ 22 := by
                        intro q hq
                        rcases List.mem_cons.1 hq with rfl | h_
                        · decide
                        · cases h_
                      clear hxi h0 hq h16
                      go_wp2_with (fail)
                      refine ⟨⟨i + 1, x + 1, ⟨by have := hi.out; have := H0.out; omega⟩, ?_, ⟨?_⟩, ⟨Kd.R_set hR.out hO.out hty _ _⟩, ⟨?_⟩, ⟨hB.out.setCell GE186.out _⟩⟩, ?_⟩
                      · rw [show wrap64 (x + 1) = x + 1 by have := H0.out; unfold wrap64; omega]
                      · have e := _root_.Go.Proofs.Ytiljnlhmeolhfaa.MPf.row_step t183 i (by have := hi.out; have := H0.out; omega) HO16.out
                        have hxi := hi.out.2
                        subst hxi
                        exact blk_put hO.out _ _ e
                      · exact (Below.heap_setCell wr ⟨gb186, x.toNat, none⟩ _ gb171 NB171_186.out).trans hz.out
                      · have := H0.out
                        show (16 - wrap64 (x + 1)).toNat < (16 - x).toNat
                        rw [show wrap64 (x + 1) = x + 1 by unfold wrap64; omega]
                        omega
                    · have hd := decide_eq_false h16
                      have hi16 : i = 16 := by have := hi.out; omega
                      subst hi16
                      have hO16 : wr.heap[gb186]? = some (.cells #[.int .u8 (rd t183 0), .int .u8 (rd t183 1), .int .u8 (rd t183 2), .int .u8 (rd t183 3), .int .u8 (rd t183 4), .int .u8 (rd t183 5), .int .u8 (rd t183 6), .int .u8 (rd t183 7), .int .u8 (rd t183 8), .int .u8 (rd t183 9), .int .u8 (rd t183 10), .int .u8 (rd t183 11), .int .u8 (rd t183 12), .int .u8 (rd t183 13), .int .u8 (rd t183 14), .int .u8 (rd t183 15)] 22 (0, 0)) := by
                        have := hO.out
                        rw [_root_.Go.Proofs.Ytiljnlhmeolhfaa.MPf.take16 t183 HO16.out] at this
                        exact this
                      have HO6 := qS hO16
                      clear hO16 hO h16
                      go_wp2_with (first | ((with_reducible refine gate_dst (N := 28) rfl ?_); refine rowget_event rfl rfl gb186 0 22 #[.int .u8 (rd t183 0), .int .u8 (rd t183 1), .int .u8 (rd t183 2), .int .u8 (rd t183 3), .int .u8 (rd t183 4), .int .u8 (rd t183 5), .int .u8 (rd t183 6), .int .u8 (rd t183 7), .int .u8 (rd t183 8), .int .u8 (rd t183 9), .int .u8 (rd t183 10), .int .u8 (rd t183 11), .int .u8 (rd t183 12), .int .u8 (rd t183 13), .int .u8 (rd t183 14), .int .u8 (rd t183 15)] #[.int .u8 (rd t183 0), .int .u8 (rd t183 1), .int .u8 (rd t183 2), .int .u8 (rd t183 3), .int .u8 (rd t183 4), .int .u8 (rd t183 5), .int .u8 (rd t183 6), .int .u8 (rd t183 7), .int .u8 (rd t183 8), .int .u8 (rd t183 9), .int .u8 (rd t183 10), .int .u8 (rd t183 11), .int .u8 (rd t183 12), .int .u8 (rd t183 13), .int .u8 (rd t183 14), .int .u8 (rd t183 15)] _ rfl HO6.out rfl Try.underlying22 rfl (by kernel_rfl) ?_) | ((with_reducible refine gate_store (t := 22) (p := 4) rfl ?_); refine rowput_event rfl rfl rfl gb171 0 22 #[.int .u8 0, .int .u8 0, .int .u8 0, .int .u8 0, .int .u8 0, .int .u8 0, .int .u8 0, .int .u8 0, .int .u8 0, .int .u8 0, .int .u8 0, .int .u8 0, .int .u8 0, .int .u8 0, .int .u8 0, .int .u8 0] #[.int .u8 (rd t183 0), .int .u8 (rd t183 1), .int .u8 (rd t183 2), .int .u8 (rd t183 3), .int .u8 (rd t183 4), .int .u8 (rd t183 5), .int .u8 (rd t183 6), .int .u8 (rd t183 7), .int .u8 (rd t183 8), .int .u8 (rd t183 9), .int .u8 (rd t183 10), .int .u8 (rd t183 11), .int .u8 (rd t183 12), .int .u8 (rd t183 13), .int .u8 (rd t183 14), .int .u8 (rd t183 15)] _ [.int .u8 (rd t183 0), .int .u8 (rd t183 1), .int .u8 (rd t183 2), .int .u8 (rd t183 3), .int .u8 (rd t183 4), .int .u8 (rd t183 5), .int .u8 (rd t183 6), .int .u8 (rd t183 7), .int .u8 (rd t183 8), .int .u8 (rd t183 9), .int .u8 (rd t183 10), .int .u8 (rd t183 11), .int .u8 (rd t183 12), .int .u8 (rd t183 13), .int .u8 (rd t183 14), .int .u8 (rd t183 15)] rfl rfl rfl hz.out (by kernel_rfl) (by simp) (by simp [Value.oneCell']) rfl hB.out GE171.out ?_; intro wz hnw_ hfar_ hb_; have HN_ := qS hnw_; have HBz := qS hb_; clear hnw_ hfar_ hb_))
                      refine bodyPost_ret (results_cell_row rfl _ _ gb171 22 #[.int .u8 (rd t183 0), .int .u8 (rd t183 1), .int .u8 (rd t183 2), .int .u8 (rd t183 3), .int .u8 (rd t183 4), .int .u8 (rd t183 5), .int .u8 (rd t183 6), .int .u8 (rd t183 7), .int .u8 (rd t183 8), .int .u8 (rd t183 9), .int .u8 (rd t183 10), .int .u8 (rd t183 11), .int .u8 (rd t183 12), .int .u8 (rd t183 13), .int .u8 (rd t183 14), .int .u8 (rd t183 15)] (0, 0) _ rfl HN_.out Try.underlying22 rfl (by kernel_rfl)) rfl ?_
                      exact ⟨rfl, HBz.out⟩
                ·rw [if_neg c22] at H
                 exact absurd H (by simp)
               ·rw [if_neg c21] at H
                exact absurd H (by simp)
              ·rw [if_neg c20] at H
               exact absurd H (by simp)
             ·rw [if_neg c19] at H
              exact absurd H (by simp)
            ·rw [if_neg c18] at H
             exact absurd H (by simp)
           ·rw [if_neg c17] at H
            exact absurd H (by simp)
          ·rw [if_neg c16] at H
           exact absurd H (by simp)
         ·rw [if_neg c15] at H
          exact absurd H (by simp)
        ·rw [if_neg c14] at H
         exact absurd H (by simp)
       ·rw [if_neg c13] at H
        exact absurd H (by simp)
      ·rw [if_neg c12] at H
       exact absurd H (by simp)
     ·rw [if_neg c11] at H
      exact absurd H (by simp)
    ·rw [if_neg c10] at H
     exact absurd H (by simp)
   ·rw [if_neg c9] at H
    exact absurd H (by simp)
  ·rw [if_neg c8] at H
   exact absurd H (by simp)
 ·rw [if_neg c7] at H
  exact absurd H (by simp)

end Go.Proofs.Ytiljnlhmeolhfaa.MPrfSums
