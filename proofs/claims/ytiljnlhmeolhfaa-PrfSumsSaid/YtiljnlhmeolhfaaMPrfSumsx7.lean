/- Printed by wip/gen/mp.py: Go functions as plain Lean functions, and that the calls do what these say. -/
import Derived.Test.YtiljnlhmeolhfaaMPrfSumsx0
import Derived.Test.YtiljnlhmeolhfaaMPrfSumsx1
import Derived.Test.YtiljnlhmeolhfaaMPrfSumsx2
import Derived.Test.YtiljnlhmeolhfaaMPrfSumsx3
import Derived.Test.YtiljnlhmeolhfaaMPrfSumsx4
import Derived.Test.YtiljnlhmeolhfaaMPrfSumsx5
import Derived.Test.YtiljnlhmeolhfaaMPrfSumsx6
namespace Go.Proofs.Ytiljnlhmeolhfaa.MPrfSums
open Go.RowKit Go.Proofs.YtiljnlhmeolhfaaW.PrintWords Go.Proofs.YtiljnlhmeolhfaaW.PrintLast Go.Proofs.YtiljnlhmeolhfaaW.PrintMore
attribute [local go_sem] max2_int min2_int max_two min_two max_three min_three max_four min_four   -- for this text's walks alone
set_option linter.unusedVariables false
set_option linter.unusedSimpArgs false

attribute [local go_sem high] eqA27
/-! ### fuseelaw23_PrfSums: function 3 -/
def fuseelaw23_PrfSums.f (k : Nat) (a0_0 : Int) (a0_1 : Int) (a0_2 : Int) (a0_3 : Int) (a0_4 : Int) (a0_5 : Int) (a0_6 : Int) (a0_7 : Int) (a0_8 : Int) (a0_9 : Int) (a0_10 : Int) (a0_11 : Int) (a0_12 : Int) (a0_13 : Int) (a0_14 : Int) (a0_15 : Int) (l1 : List Int) (a2 : Int) : Option (Bool) := if (l1.length : Int) > 300 then ((fuseelaw23_sure.f k).bind fun t204 => (some t204)) else ((prf_Sum.f a0_0 a0_1 a0_2 a0_3 a0_4 a0_5 a0_6 a0_7 a0_8 a0_9 a0_10 a0_11 a0_12 a0_13 a0_14 a0_15 l1).bind fun t205 => ((fuseeref23_Sum.f a0_0 a0_1 a0_2 a0_3 a0_4 a0_5 a0_6 a0_7 a0_8 a0_9 a0_10 a0_11 a0_12 a0_13 a0_14 a0_15 l1).bind fun t206 => (if t205 = t206 then ((prf_Number.f k a0_0 a0_1 a0_2 a0_3 a0_4 a0_5 a0_6 a0_7 a0_8 a0_9 a0_10 a0_11 a0_12 a0_13 a0_14 a0_15 (wrap64 ((l1.length : Int) - 20)) a2).bind fun t207 => ((fuseeref23_Number.f k a0_0 a0_1 a0_2 a0_3 a0_4 a0_5 a0_6 a0_7 a0_8 a0_9 a0_10 a0_11 a0_12 a0_13 a0_14 a0_15 (wrap64 ((l1.length : Int) - 20)) a2).bind fun t208 => (if t207 = t208 then ((prf_Derive.f k a0_0 a0_1 a0_2 a0_3 a0_4 a0_5 a0_6 a0_7 a0_8 a0_9 a0_10 a0_11 a0_12 a0_13 a0_14 a0_15 ((a2) % 256)).bind fun bt209 => ((fuseeref23_Derive.f k a0_0 a0_1 a0_2 a0_3 a0_4 a0_5 a0_6 a0_7 a0_8 a0_9 a0_10 a0_11 a0_12 a0_13 a0_14 a0_15 ((a2) % 256)).bind fun bt225 => (if (bt209.1 == bt225.1 && (bt209.2.1 == bt225.2.1 && (bt209.2.2.1 == bt225.2.2.1 && (bt209.2.2.2.1 == bt225.2.2.2.1 && (bt209.2.2.2.2.1 == bt225.2.2.2.2.1 && (bt209.2.2.2.2.2.1 == bt225.2.2.2.2.2.1 && (bt209.2.2.2.2.2.2.1 == bt225.2.2.2.2.2.2.1 && (bt209.2.2.2.2.2.2.2.1 == bt225.2.2.2.2.2.2.2.1 && (bt209.2.2.2.2.2.2.2.2.1 == bt225.2.2.2.2.2.2.2.2.1 && (bt209.2.2.2.2.2.2.2.2.2.1 == bt225.2.2.2.2.2.2.2.2.2.1 && (bt209.2.2.2.2.2.2.2.2.2.2.1 == bt225.2.2.2.2.2.2.2.2.2.2.1 && (bt209.2.2.2.2.2.2.2.2.2.2.2.1 == bt225.2.2.2.2.2.2.2.2.2.2.2.1 && (bt209.2.2.2.2.2.2.2.2.2.2.2.2.1 == bt225.2.2.2.2.2.2.2.2.2.2.2.2.1 && (bt209.2.2.2.2.2.2.2.2.2.2.2.2.2.1 == bt225.2.2.2.2.2.2.2.2.2.2.2.2.2.1 && (bt209.2.2.2.2.2.2.2.2.2.2.2.2.2.2.1 == bt225.2.2.2.2.2.2.2.2.2.2.2.2.2.2.1 && (bt209.2.2.2.2.2.2.2.2.2.2.2.2.2.2.2 == bt225.2.2.2.2.2.2.2.2.2.2.2.2.2.2.2)))))))))))))))) = true then ((fuseelaw23_sure.f k).bind fun t241 => (some t241)) else (none)))) else (none)))) else (none))))
theorem fuseelaw23_PrfSums.mono : ∀ a0 a1 a2 a3 a4 a5 a6 a7 a8 a9 a10 a11 a12 a13 a14 a15 a16 a17 k, LeO (fuseelaw23_PrfSums.f k a0 a1 a2 a3 a4 a5 a6 a7 a8 a9 a10 a11 a12 a13 a14 a15 a16 a17) (fuseelaw23_PrfSums.f (k + 1) a0 a1 a2 a3 a4 a5 a6 a7 a8 a9 a10 a11 a12 a13 a14 a15 a16 a17) := by
 intro a0 a1 a2 a3 a4 a5 a6 a7 a8 a9 a10 a11 a12 a13 a14 a15 a16 a17 k
 unfold fuseelaw23_PrfSums.f
 repeat' first
   | (with_reducible exact fuseelaw23_sure.mono _)
   | (with_reducible exact fuseeref23_Derive.mono _ _ _ _ _ _ _ _ _ _ _ _ _ _ _ _ _ _)
   | (with_reducible exact fuseeref23_Number.mono _ _ _ _ _ _ _ _ _ _ _ _ _ _ _ _ _ _ _)
   | (with_reducible exact prf_Derive.mono _ _ _ _ _ _ _ _ _ _ _ _ _ _ _ _ _ _)
   | (with_reducible exact prf_Number.mono _ _ _ _ _ _ _ _ _ _ _ _ _ _ _ _ _ _ _)
   | (with_reducible exact LeO.refl _)
   | (with_reducible exact LeO.none _)
   | (with_reducible refine LeO.ite ?_ ?_)
   | (with_reducible refine LeO.bind ?_ (fun _ => ?_))
   | exact fuseelaw23_sure.mono _
   | exact fuseeref23_Derive.mono _ _ _ _ _ _ _ _ _ _ _ _ _ _ _ _ _ _
   | exact fuseeref23_Number.mono _ _ _ _ _ _ _ _ _ _ _ _ _ _ _ _ _ _ _
   | exact prf_Derive.mono _ _ _ _ _ _ _ _ _ _ _ _ _ _ _ _ _ _
   | exact prf_Number.mono _ _ _ _ _ _ _ _ _ _ _ _ _ _ _ _ _ _ _
   | exact LeO.none _
   | refine LeO.ite ?_ ?_
   | refine LeO.bind ?_ (fun _ => ?_)
def fuseelaw23_PrfSums.T4 : Bool × List (List Nat × List Nat) := (true, [([], []), ([], []), ([0, 1], [0, 1]), ([], []), ([], []), ([3, 4, 2], [3, 4]), ([2, 5], [2, 5]), ([6, 5], [6]), ([7], [7]), ([7], [7]), ([7], [7]), ([8, 9, 10, 7, 7], [7, 8, 9, 10]), ([7], [7]), ([7], [7]), ([7], [7]), ([12, 13, 14, 11, 7], [7, 12, 13, 14]), ([11, 15, 7], [7, 11, 15]), ([7, 16], [7, 16]), ([17, 15], [17]), ([18], [18]), ([18], [18]), ([19, 20, 18, 18], [18, 19, 20]), ([18], [18]), ([18], [18]), ([22, 23, 21, 18], [18, 22, 23]), ([21, 24, 18], [18, 21, 24]), ([18, 25], [18, 25]), ([26, 24], [26]), ([27, 27], [27]), ([27, 28], [27, 28]), ([29, 28, 0, 1, 2, 3, 4, 5, 6, 7, 8, 9, 10, 11, 12, 13, 14, 15, 16, 17, 18, 19, 20, 21, 22, 23, 24, 25, 26, 27, 28, 29], [29])])
def fuseelaw23_PrfSums.B4 : List Nat := [0, 0, 3, 0, 0, 31, 63, 127, 255, 255, 255, 2047, 255, 255, 255, 32767, 65535, 131071, 262143, 524287, 524287, 2097151, 524287, 524287, 16777215, 33554431, 67108863, 134217727, 268435455, 536870911, 1073741823]
theorem fuseelaw23_PrfSums.tab4 : rtab .any (opsOf Try.f3 4) = fuseelaw23_PrfSums.T4 := by kernel_rfl
theorem fuseelaw23_PrfSums.bits4 : waitsOk fuseelaw23_PrfSums.T4.2 fuseelaw23_PrfSums.B4 = true := by kernel_rfl
set_option maxHeartbeats 8000000 in
set_option maxRecDepth 100000 in
theorem fuseelaw23_PrfSums.calls (k : Nat) (a0_0 : Int) (a0_1 : Int) (a0_2 : Int) (a0_3 : Int) (a0_4 : Int) (a0_5 : Int) (a0_6 : Int) (a0_7 : Int) (a0_8 : Int) (a0_9 : Int) (a0_10 : Int) (a0_11 : Int) (a0_12 : Int) (a0_13 : Int) (a0_14 : Int) (a0_15 : Int) (A1 : Option Addr) (c1 : Nat) (l1 : List Int) (a2 : Int) (r : Bool) (w : World) (hr1 : Kd.C (Kd.int .u8) w A1 l1.length l1) (hc1 : l1.length ≤ c1) (h : fuseelaw23_PrfSums.f k a0_0 a0_1 a0_2 a0_3 a0_4 a0_5 a0_6 a0_7 a0_8 a0_9 a0_10 a0_11 a0_12 a0_13 a0_14 a0_15 l1 a2 = some r) :
  Calls Try.prog 3 #[.agg #[.int .u8 a0_0, .int .u8 a0_1, .int .u8 a0_2, .int .u8 a0_3, .int .u8 a0_4, .int .u8 a0_5, .int .u8 a0_6, .int .u8 a0_7, .int .u8 a0_8, .int .u8 a0_9, .int .u8 a0_10, .int .u8 a0_11, .int .u8 a0_12, .int .u8 a0_13, .int .u8 a0_14, .int .u8 a0_15], .slice A1 l1.length c1, .int .u64 a2] w fun e w' => e = .returned (.bool r) ∧ Below w.heap.size w w' := by
 have hu22 := Try.underlying22
 have HR1 := qS hr1
 have HC1 := qS hc1
 clear hr1 hc1
 have HB := qS (Below.refl w.heap.size w)
 have H : (if (l1.length : Int) > 300 then ((fuseelaw23_sure.f k).bind fun t204 => (some t204)) else ((prf_Sum.f a0_0 a0_1 a0_2 a0_3 a0_4 a0_5 a0_6 a0_7 a0_8 a0_9 a0_10 a0_11 a0_12 a0_13 a0_14 a0_15 l1).bind fun t205 => ((fuseeref23_Sum.f a0_0 a0_1 a0_2 a0_3 a0_4 a0_5 a0_6 a0_7 a0_8 a0_9 a0_10 a0_11 a0_12 a0_13 a0_14 a0_15 l1).bind fun t206 => (if t205 = t206 then ((prf_Number.f k a0_0 a0_1 a0_2 a0_3 a0_4 a0_5 a0_6 a0_7 a0_8 a0_9 a0_10 a0_11 a0_12 a0_13 a0_14 a0_15 (wrap64 ((l1.length : Int) - 20)) a2).bind fun t207 => ((fuseeref23_Number.f k a0_0 a0_1 a0_2 a0_3 a0_4 a0_5 a0_6 a0_7 a0_8 a0_9 a0_10 a0_11 a0_12 a0_13 a0_14 a0_15 (wrap64 ((l1.length : Int) - 20)) a2).bind fun t208 => (if t207 = t208 then ((prf_Derive.f k a0_0 a0_1 a0_2 a0_3 a0_4 a0_5 a0_6 a0_7 a0_8 a0_9 a0_10 a0_11 a0_12 a0_13 a0_14 a0_15 ((a2) % 256)).bind fun bt209 => ((fuseeref23_Derive.f k a0_0 a0_1 a0_2 a0_3 a0_4 a0_5 a0_6 a0_7 a0_8 a0_9 a0_10 a0_11 a0_12 a0_13 a0_14 a0_15 ((a2) % 256)).bind fun bt225 => (if (bt209.1 == bt225.1 && (bt209.2.1 == bt225.2.1 && (bt209.2.2.1 == bt225.2.2.1 && (bt209.2.2.2.1 == bt225.2.2.2.1 && (bt209.2.2.2.2.1 == bt225.2.2.2.2.1 && (bt209.2.2.2.2.2.1 == bt225.2.2.2.2.2.1 && (bt209.2.2.2.2.2.2.1 == bt225.2.2.2.2.2.2.1 && (bt209.2.2.2.2.2.2.2.1 == bt225.2.2.2.2.2.2.2.1 && (bt209.2.2.2.2.2.2.2.2.1 == bt225.2.2.2.2.2.2.2.2.1 && (bt209.2.2.2.2.2.2.2.2.2.1 == bt225.2.2.2.2.2.2.2.2.2.1 && (bt209.2.2.2.2.2.2.2.2.2.2.1 == bt225.2.2.2.2.2.2.2.2.2.2.1 && (bt209.2.2.2.2.2.2.2.2.2.2.2.1 == bt225.2.2.2.2.2.2.2.2.2.2.2.1 && (bt209.2.2.2.2.2.2.2.2.2.2.2.2.1 == bt225.2.2.2.2.2.2.2.2.2.2.2.2.1 && (bt209.2.2.2.2.2.2.2.2.2.2.2.2.2.1 == bt225.2.2.2.2.2.2.2.2.2.2.2.2.2.1 && (bt209.2.2.2.2.2.2.2.2.2.2.2.2.2.2.1 == bt225.2.2.2.2.2.2.2.2.2.2.2.2.2.2.1 && (bt209.2.2.2.2.2.2.2.2.2.2.2.2.2.2.2 == bt225.2.2.2.2.2.2.2.2.2.2.2.2.2.2.2)))))))))))))))) = true then ((fuseelaw23_sure.f k).bind fun t241 => (some t241)) else (none)))) else (none)))) else (none))))) = some r := h
 clear h
 by_cases c4 : (l1.length : Int) > 300
 ·rw [if_pos c4] at H
  have c4b0 : decide (300 < (l1.length : Int)) = true := decide_eq_true c4
  have c4b1 : decide (300 < l1.length) = true := decide_eq_true (by omega)
  clear c4
  replace H := Option.bind_eq_some_iff.mp H
  obtain ⟨t204, A50, H⟩ := H
  replace H : (some t204) = some r := H
  have A5 := qS A50
  clear A50
  as_aux_lemma =>
   obtain rfl := Option.some.inj H
   go_enter Try.func3, Try.ntmps3
   go_wp2_with (first | ((with_reducible refine gate_dst (N := 3) rfl ?_); refine box_event ?hg (N := 3) ?hd (cs := #[.int .u8 a0_0, .int .u8 a0_1, .int .u8 a0_2, .int .u8 a0_3, .int .u8 a0_4, .int .u8 a0_5, .int .u8 a0_6, .int .u8 a0_7, .int .u8 a0_8, .int .u8 a0_9, .int .u8 a0_10, .int .u8 a0_11, .int .u8 a0_12, .int .u8 a0_13, .int .u8 a0_14, .int .u8 a0_15]) (t := 22) ?hr ?_; (case hd => rfl); (case hg => rfl); (case hr => first | (go_simp; done) | (go_simp; rfl)); intro gb203 hg w6 hbox hb; have n0_ := qS (below_step (by repeat (first | (with_reducible first | exact HB.out | apply qpA | apply qpN | apply qp1) | exact HB.out)) hb); have n1_ := qS (hbox); have n2_ := qS ((by rw [hg]; exact (below_size (by repeat (first | (with_reducible first | exact HB.out | apply qpA | apply qpN | apply qp1) | exact HB.out))) : w.heap.size ≤ gb203)); have n3_ := qS ((by rw [hg]; exact (below_size (by repeat (first | (with_reducible first | exact HB.out | apply qpA | apply qpN | apply qp1) | exact HB.out))) : w.heap.size ≤ gb203)); clear HB; have HB := n0_; have BK203 := n1_; have GW203 := n2_; have GE203 := n3_; clear n0_ n1_ n2_ n3_; clear hb hbox hg) | ((with_reducible refine gate_callee (f := 7) rfl ?_); refine goesL_ (some 12) rfl rfl Try.func7 (by kernel_rfl) rfl #[] rfl (by (try simp only [List.map_toArray, List.map_cons, List.map_nil]); first | done | rfl | (simp only [*]; done) | (simp only [List.length_drop, List.length_take]; rfl) | (simp only [Act.eval, Array.getD_eq_getD_getElem?, Option.getD_some, *])) ?_; (with_reducible refine (fuseelaw23_sure.calls k  t204 _ A5.out).mono ?_); rintro e w7 ⟨rfl, hb⟩; refine ⟨_, rfl, ?_⟩; have n0_ := qS (qB (g := gb203) (o := .cells #[.int .u8 a0_0, .int .u8 a0_1, .int .u8 a0_2, .int .u8 a0_3, .int .u8 a0_4, .int .u8 a0_5, .int .u8 a0_6, .int .u8 a0_7, .int .u8 a0_8, .int .u8 a0_9, .int .u8 a0_10, .int .u8 a0_11, .int .u8 a0_12, .int .u8 a0_13, .int .u8 a0_14, .int .u8 a0_15] 22 (0, 0)) (by (with_reducible repeat (first | refine qN ?_ _ | refine qD ?_ | refine qA ?_ _)); exact BK203.out) hb); have n1_ := qS (below_step (by repeat (first | (with_reducible first | exact HB.out | apply qpA | apply qpN | apply qp1 | refine qpS ?_ GE203.out) | exact HB.out)) hb); clear BK203; clear HB; have BK203 := n0_; have HB := n1_; clear n0_ n1_; (try clear hb); (try clear hb2); (try clear hk); (try clear hi)))
   go_ret
   exact ⟨by first | rfl | (simp [errW_none, errW_some] <;> rfl) | (simp [*, errW_none, errW_some] <;> rfl), by repeat (first | (with_reducible first | exact HB.out | apply qpA | apply qpN | apply qp1 | refine qpS ?_ GE203.out) | exact HB.out)⟩
 ·rw [if_neg c4] at H
  have c4b0 : decide (300 < (l1.length : Int)) = false := decide_eq_false c4
  have c4b1 : decide (300 < l1.length) = false := decide_eq_false (by omega)
  clear c4
  replace H := Option.bind_eq_some_iff.mp H
  obtain ⟨t205, A80, H⟩ := H
  replace H : ((fuseeref23_Sum.f a0_0 a0_1 a0_2 a0_3 a0_4 a0_5 a0_6 a0_7 a0_8 a0_9 a0_10 a0_11 a0_12 a0_13 a0_14 a0_15 l1).bind fun t206 => (if t205 = t206 then ((prf_Number.f k a0_0 a0_1 a0_2 a0_3 a0_4 a0_5 a0_6 a0_7 a0_8 a0_9 a0_10 a0_11 a0_12 a0_13 a0_14 a0_15 (wrap64 ((l1.length : Int) - 20)) a2).bind fun t207 => ((fuseeref23_Number.f k a0_0 a0_1 a0_2 a0_3 a0_4 a0_5 a0_6 a0_7 a0_8 a0_9 a0_10 a0_11 a0_12 a0_13 a0_14 a0_15 (wrap64 ((l1.length : Int) - 20)) a2).bind fun t208 => (if t207 = t208 then ((prf_Derive.f k a0_0 a0_1 a0_2 a0_3 a0_4 a0_5 a0_6 a0_7 a0_8 a0_9 a0_10 a0_11 a0_12 a0_13 a0_14 a0_15 ((a2) % 256)).bind fun bt209 => ((fuseeref23_Derive.f k a0_0 a0_1 a0_2 a0_3 a0_4 a0_5 a0_6 a0_7 a0_8 a0_9 a0_10 a0_11 a0_12 a0_13 a0_14 a0_15 ((a2) % 256)).bind fun bt225 => (if (bt209.1 == bt225.1 && (bt209.2.1 == bt225.2.1 && (bt209.2.2.1 == bt225.2.2.1 && (bt209.2.2.2.1 == bt225.2.2.2.1 && (bt209.2.2.2.2.1 == bt225.2.2.2.2.1 && (bt209.2.2.2.2.2.1 == bt225.2.2.2.2.2.1 && (bt209.2.2.2.2.2.2.1 == bt225.2.2.2.2.2.2.1 && (bt209.2.2.2.2.2.2.2.1 == bt225.2.2.2.2.2.2.2.1 && (bt209.2.2.2.2.2.2.2.2.1 == bt225.2.2.2.2.2.2.2.2.1 && (bt209.2.2.2.2.2.2.2.2.2.1 == bt225.2.2.2.2.2.2.2.2.2.1 && (bt209.2.2.2.2.2.2.2.2.2.2.1 == bt225.2.2.2.2.2.2.2.2.2.2.1 && (bt209.2.2.2.2.2.2.2.2.2.2.2.1 == bt225.2.2.2.2.2.2.2.2.2.2.2.1 && (bt209.2.2.2.2.2.2.2.2.2.2.2.2.1 == bt225.2.2.2.2.2.2.2.2.2.2.2.2.1 && (bt209.2.2.2.2.2.2.2.2.2.2.2.2.2.1 == bt225.2.2.2.2.2.2.2.2.2.2.2.2.2.1 && (bt209.2.2.2.2.2.2.2.2.2.2.2.2.2.2.1 == bt225.2.2.2.2.2.2.2.2.2.2.2.2.2.2.1 && (bt209.2.2.2.2.2.2.2.2.2.2.2.2.2.2.2 == bt225.2.2.2.2.2.2.2.2.2.2.2.2.2.2.2)))))))))))))))) = true then ((fuseelaw23_sure.f k).bind fun t241 => (some t241)) else (none)))) else (none)))) else (none))) = some r := H
  have A8 := qS A80
  clear A80
  replace H := Option.bind_eq_some_iff.mp H
  obtain ⟨t206, A90, H⟩ := H
  replace H : (if t205 = t206 then ((prf_Number.f k a0_0 a0_1 a0_2 a0_3 a0_4 a0_5 a0_6 a0_7 a0_8 a0_9 a0_10 a0_11 a0_12 a0_13 a0_14 a0_15 (wrap64 ((l1.length : Int) - 20)) a2).bind fun t207 => ((fuseeref23_Number.f k a0_0 a0_1 a0_2 a0_3 a0_4 a0_5 a0_6 a0_7 a0_8 a0_9 a0_10 a0_11 a0_12 a0_13 a0_14 a0_15 (wrap64 ((l1.length : Int) - 20)) a2).bind fun t208 => (if t207 = t208 then ((prf_Derive.f k a0_0 a0_1 a0_2 a0_3 a0_4 a0_5 a0_6 a0_7 a0_8 a0_9 a0_10 a0_11 a0_12 a0_13 a0_14 a0_15 ((a2) % 256)).bind fun bt209 => ((fuseeref23_Derive.f k a0_0 a0_1 a0_2 a0_3 a0_4 a0_5 a0_6 a0_7 a0_8 a0_9 a0_10 a0_11 a0_12 a0_13 a0_14 a0_15 ((a2) % 256)).bind fun bt225 => (if (bt209.1 == bt225.1 && (bt209.2.1 == bt225.2.1 && (bt209.2.2.1 == bt225.2.2.1 && (bt209.2.2.2.1 == bt225.2.2.2.1 && (bt209.2.2.2.2.1 == bt225.2.2.2.2.1 && (bt209.2.2.2.2.2.1 == bt225.2.2.2.2.2.1 && (bt209.2.2.2.2.2.2.1 == bt225.2.2.2.2.2.2.1 && (bt209.2.2.2.2.2.2.2.1 == bt225.2.2.2.2.2.2.2.1 && (bt209.2.2.2.2.2.2.2.2.1 == bt225.2.2.2.2.2.2.2.2.1 && (bt209.2.2.2.2.2.2.2.2.2.1 == bt225.2.2.2.2.2.2.2.2.2.1 && (bt209.2.2.2.2.2.2.2.2.2.2.1 == bt225.2.2.2.2.2.2.2.2.2.2.1 && (bt209.2.2.2.2.2.2.2.2.2.2.2.1 == bt225.2.2.2.2.2.2.2.2.2.2.2.1 && (bt209.2.2.2.2.2.2.2.2.2.2.2.2.1 == bt225.2.2.2.2.2.2.2.2.2.2.2.2.1 && (bt209.2.2.2.2.2.2.2.2.2.2.2.2.2.1 == bt225.2.2.2.2.2.2.2.2.2.2.2.2.2.1 && (bt209.2.2.2.2.2.2.2.2.2.2.2.2.2.2.1 == bt225.2.2.2.2.2.2.2.2.2.2.2.2.2.2.1 && (bt209.2.2.2.2.2.2.2.2.2.2.2.2.2.2.2 == bt225.2.2.2.2.2.2.2.2.2.2.2.2.2.2.2)))))))))))))))) = true then ((fuseelaw23_sure.f k).bind fun t241 => (some t241)) else (none)))) else (none)))) else (none)) = some r := H
  have A9 := qS A90
  clear A90
  by_cases c10 : t205 = t206
  ·rw [if_pos c10] at H
   have c10b0 : (t205 == t206) = true := beq_iff_eq.mpr c10
   have c10b1 : (t205 != t206) = false := bne_eq_false_iff_eq.mpr c10
   clear c10
   replace H := Option.bind_eq_some_iff.mp H
   obtain ⟨t207, A110, H⟩ := H
   replace H : ((fuseeref23_Number.f k a0_0 a0_1 a0_2 a0_3 a0_4 a0_5 a0_6 a0_7 a0_8 a0_9 a0_10 a0_11 a0_12 a0_13 a0_14 a0_15 (wrap64 ((l1.length : Int) - 20)) a2).bind fun t208 => (if t207 = t208 then ((prf_Derive.f k a0_0 a0_1 a0_2 a0_3 a0_4 a0_5 a0_6 a0_7 a0_8 a0_9 a0_10 a0_11 a0_12 a0_13 a0_14 a0_15 ((a2) % 256)).bind fun bt209 => ((fuseeref23_Derive.f k a0_0 a0_1 a0_2 a0_3 a0_4 a0_5 a0_6 a0_7 a0_8 a0_9 a0_10 a0_11 a0_12 a0_13 a0_14 a0_15 ((a2) % 256)).bind fun bt225 => (if (bt209.1 == bt225.1 && (bt209.2.1 == bt225.2.1 && (bt209.2.2.1 == bt225.2.2.1 && (bt209.2.2.2.1 == bt225.2.2.2.1 && (bt209.2.2.2.2.1 == bt225.2.2.2.2.1 && (bt209.2.2.2.2.2.1 == bt225.2.2.2.2.2.1 && (bt209.2.2.2.2.2.2.1 == bt225.2.2.2.2.2.2.1 && (bt209.2.2.2.2.2.2.2.1 == bt225.2.2.2.2.2.2.2.1 && (bt209.2.2.2.2.2.2.2.2.1 == bt225.2.2.2.2.2.2.2.2.1 && (bt209.2.2.2.2.2.2.2.2.2.1 == bt225.2.2.2.2.2.2.2.2.2.1 && (bt209.2.2.2.2.2.2.2.2.2.2.1 == bt225.2.2.2.2.2.2.2.2.2.2.1 && (bt209.2.2.2.2.2.2.2.2.2.2.2.1 == bt225.2.2.2.2.2.2.2.2.2.2.2.1 && (bt209.2.2.2.2.2.2.2.2.2.2.2.2.1 == bt225.2.2.2.2.2.2.2.2.2.2.2.2.1 && (bt209.2.2.2.2.2.2.2.2.2.2.2.2.2.1 == bt225.2.2.2.2.2.2.2.2.2.2.2.2.2.1 && (bt209.2.2.2.2.2.2.2.2.2.2.2.2.2.2.1 == bt225.2.2.2.2.2.2.2.2.2.2.2.2.2.2.1 && (bt209.2.2.2.2.2.2.2.2.2.2.2.2.2.2.2 == bt225.2.2.2.2.2.2.2.2.2.2.2.2.2.2.2)))))))))))))))) = true then ((fuseelaw23_sure.f k).bind fun t241 => (some t241)) else (none)))) else (none))) = some r := H
   have A11 := qS A110
   clear A110
   replace H := Option.bind_eq_some_iff.mp H
   obtain ⟨t208, A120, H⟩ := H
   replace H : (if t207 = t208 then ((prf_Derive.f k a0_0 a0_1 a0_2 a0_3 a0_4 a0_5 a0_6 a0_7 a0_8 a0_9 a0_10 a0_11 a0_12 a0_13 a0_14 a0_15 ((a2) % 256)).bind fun bt209 => ((fuseeref23_Derive.f k a0_0 a0_1 a0_2 a0_3 a0_4 a0_5 a0_6 a0_7 a0_8 a0_9 a0_10 a0_11 a0_12 a0_13 a0_14 a0_15 ((a2) % 256)).bind fun bt225 => (if (bt209.1 == bt225.1 && (bt209.2.1 == bt225.2.1 && (bt209.2.2.1 == bt225.2.2.1 && (bt209.2.2.2.1 == bt225.2.2.2.1 && (bt209.2.2.2.2.1 == bt225.2.2.2.2.1 && (bt209.2.2.2.2.2.1 == bt225.2.2.2.2.2.1 && (bt209.2.2.2.2.2.2.1 == bt225.2.2.2.2.2.2.1 && (bt209.2.2.2.2.2.2.2.1 == bt225.2.2.2.2.2.2.2.1 && (bt209.2.2.2.2.2.2.2.2.1 == bt225.2.2.2.2.2.2.2.2.1 && (bt209.2.2.2.2.2.2.2.2.2.1 == bt225.2.2.2.2.2.2.2.2.2.1 && (bt209.2.2.2.2.2.2.2.2.2.2.1 == bt225.2.2.2.2.2.2.2.2.2.2.1 && (bt209.2.2.2.2.2.2.2.2.2.2.2.1 == bt225.2.2.2.2.2.2.2.2.2.2.2.1 && (bt209.2.2.2.2.2.2.2.2.2.2.2.2.1 == bt225.2.2.2.2.2.2.2.2.2.2.2.2.1 && (bt209.2.2.2.2.2.2.2.2.2.2.2.2.2.1 == bt225.2.2.2.2.2.2.2.2.2.2.2.2.2.1 && (bt209.2.2.2.2.2.2.2.2.2.2.2.2.2.2.1 == bt225.2.2.2.2.2.2.2.2.2.2.2.2.2.2.1 && (bt209.2.2.2.2.2.2.2.2.2.2.2.2.2.2.2 == bt225.2.2.2.2.2.2.2.2.2.2.2.2.2.2.2)))))))))))))))) = true then ((fuseelaw23_sure.f k).bind fun t241 => (some t241)) else (none)))) else (none)) = some r := H
   have A12 := qS A120
   clear A120
   by_cases c13 : t207 = t208
   ·rw [if_pos c13] at H
    have c13b0 : (t207 == t208) = true := beq_iff_eq.mpr c13
    have c13b1 : (t207 != t208) = false := bne_eq_false_iff_eq.mpr c13
    clear c13
    replace H := Option.bind_eq_some_iff.mp H
    obtain ⟨⟨t209, t210, t211, t212, t213, t214, t215, t216, t217, t218, t219, t220, t221, t222, t223, t224⟩, A140, H⟩ := H
    replace H : ((fuseeref23_Derive.f k a0_0 a0_1 a0_2 a0_3 a0_4 a0_5 a0_6 a0_7 a0_8 a0_9 a0_10 a0_11 a0_12 a0_13 a0_14 a0_15 ((a2) % 256)).bind fun bt225 => (if (t209 == bt225.1 && (t210 == bt225.2.1 && (t211 == bt225.2.2.1 && (t212 == bt225.2.2.2.1 && (t213 == bt225.2.2.2.2.1 && (t214 == bt225.2.2.2.2.2.1 && (t215 == bt225.2.2.2.2.2.2.1 && (t216 == bt225.2.2.2.2.2.2.2.1 && (t217 == bt225.2.2.2.2.2.2.2.2.1 && (t218 == bt225.2.2.2.2.2.2.2.2.2.1 && (t219 == bt225.2.2.2.2.2.2.2.2.2.2.1 && (t220 == bt225.2.2.2.2.2.2.2.2.2.2.2.1 && (t221 == bt225.2.2.2.2.2.2.2.2.2.2.2.2.1 && (t222 == bt225.2.2.2.2.2.2.2.2.2.2.2.2.2.1 && (t223 == bt225.2.2.2.2.2.2.2.2.2.2.2.2.2.2.1 && (t224 == bt225.2.2.2.2.2.2.2.2.2.2.2.2.2.2.2)))))))))))))))) = true then ((fuseelaw23_sure.f k).bind fun t241 => (some t241)) else (none))) = some r := H
    have A14 := qS A140
    clear A140
    replace H := Option.bind_eq_some_iff.mp H
    obtain ⟨⟨t225, t226, t227, t228, t229, t230, t231, t232, t233, t234, t235, t236, t237, t238, t239, t240⟩, A150, H⟩ := H
    replace H : (if (t209 == t225 && (t210 == t226 && (t211 == t227 && (t212 == t228 && (t213 == t229 && (t214 == t230 && (t215 == t231 && (t216 == t232 && (t217 == t233 && (t218 == t234 && (t219 == t235 && (t220 == t236 && (t221 == t237 && (t222 == t238 && (t223 == t239 && (t224 == t240)))))))))))))))) = true then ((fuseelaw23_sure.f k).bind fun t241 => (some t241)) else (none)) = some r := H
    have A15 := qS A150
    clear A150
    by_cases c16 : (t209 == t225 && (t210 == t226 && (t211 == t227 && (t212 == t228 && (t213 == t229 && (t214 == t230 && (t215 == t231 && (t216 == t232 && (t217 == t233 && (t218 == t234 && (t219 == t235 && (t220 == t236 && (t221 == t237 && (t222 == t238 && (t223 == t239 && (t224 == t240)))))))))))))))) = true
    ·rw [if_pos c16] at H
     have c16b0 : (t209 == t225 && (t210 == t226 && (t211 == t227 && (t212 == t228 && (t213 == t229 && (t214 == t230 && (t215 == t231 && (t216 == t232 && (t217 == t233 && (t218 == t234 && (t219 == t235 && (t220 == t236 && (t221 == t237 && (t222 == t238 && (t223 == t239 && (t224 == t240)))))))))))))))) = true := c16
     (try (have c16b1 : decide (t209 = t225 && (t210 == t226 && (t211 == t227 && (t212 == t228 && (t213 == t229 && (t214 == t230 && (t215 == t231 && (t216 == t232 && (t217 == t233 && (t218 == t234 && (t219 == t235 && (t220 == t236 && (t221 == t237 && (t222 == t238 && (t223 == t239 && (t224 == t240)))))))))))))))) = true := by simpa using c16))
     (try (have c16b2 : (t209 == t225 && (t210 == t226 && (t211 == t227 && (t212 == t228 && (t213 == t229 && (t214 == t230 && (t215 == t231 && (t216 == t232 && (t217 == t233 && (t218 == t234 && (t219 == t235 && (t220 == t236 && (t221 == t237 && (t222 == t238 && (t223 == t239 && (t224 == t240)))))))))))))))) = true := by simpa using c16))
     clear c16
     replace H := Option.bind_eq_some_iff.mp H
     obtain ⟨t241, A170, H⟩ := H
     replace H : (some t241) = some r := H
     have A17 := qS A170
     clear A170
     as_aux_lemma =>
      obtain rfl := Option.some.inj H
      go_enter Try.func3, Try.ntmps3
      try go_wp2_with (first | ((with_reducible refine gate_dst (N := 3) rfl ?_); refine box_event ?hg (N := 3) ?hd (cs := #[.int .u8 a0_0, .int .u8 a0_1, .int .u8 a0_2, .int .u8 a0_3, .int .u8 a0_4, .int .u8 a0_5, .int .u8 a0_6, .int .u8 a0_7, .int .u8 a0_8, .int .u8 a0_9, .int .u8 a0_10, .int .u8 a0_11, .int .u8 a0_12, .int .u8 a0_13, .int .u8 a0_14, .int .u8 a0_15]) (t := 22) ?hr ?_; (case hd => rfl); (case hg => rfl); (case hr => first | (go_simp; done) | (go_simp; rfl)); intro gb203 hg w18 hbox hb; have n0_ := qS (below_step (by repeat (first | (with_reducible first | exact HB.out | apply qpA | apply qpN | apply qp1) | exact HB.out)) hb); have n1_ := qS (hbox); have n2_ := qS ((by rw [hg]; exact (below_size (by repeat (first | (with_reducible first | exact HB.out | apply qpA | apply qpN | apply qp1) | exact HB.out))) : w.heap.size ≤ gb203)); have n3_ := qS ((by rw [hg]; exact (below_size (by repeat (first | (with_reducible first | exact HB.out | apply qpA | apply qpN | apply qp1) | exact HB.out))) : w.heap.size ≤ gb203)); clear HB; have HB := n0_; have BK203 := n1_; have GW203 := n2_; have GE203 := n3_; clear n0_ n1_ n2_ n3_; clear hb hbox hg))
      have n0_ := qS (qD BK203.out)
      have n1_ := qS (qp1 HB.out)
      clear BK203
      clear HB
      have BK203 := n0_
      have HB := n1_
      clear n0_ n1_
      refine start_ (n := 31) (S := fun w' => w'.cell? ⟨gb203, 0, none⟩ = some (.int .u8 a0_0) ∧ w'.cell? ⟨gb203, 1, none⟩ = some (.int .u8 a0_1) ∧ w'.cell? ⟨gb203, 2, none⟩ = some (.int .u8 a0_2) ∧ w'.cell? ⟨gb203, 3, none⟩ = some (.int .u8 a0_3) ∧ w'.cell? ⟨gb203, 4, none⟩ = some (.int .u8 a0_4) ∧ w'.cell? ⟨gb203, 5, none⟩ = some (.int .u8 a0_5) ∧ w'.cell? ⟨gb203, 6, none⟩ = some (.int .u8 a0_6) ∧ w'.cell? ⟨gb203, 7, none⟩ = some (.int .u8 a0_7) ∧ w'.cell? ⟨gb203, 8, none⟩ = some (.int .u8 a0_8) ∧ w'.cell? ⟨gb203, 9, none⟩ = some (.int .u8 a0_9) ∧ w'.cell? ⟨gb203, 10, none⟩ = some (.int .u8 a0_10) ∧ w'.cell? ⟨gb203, 11, none⟩ = some (.int .u8 a0_11) ∧ w'.cell? ⟨gb203, 12, none⟩ = some (.int .u8 a0_12) ∧ w'.cell? ⟨gb203, 13, none⟩ = some (.int .u8 a0_13) ∧ w'.cell? ⟨gb203, 14, none⟩ = some (.int .u8 a0_14) ∧ w'.cell? ⟨gb203, 15, none⟩ = some (.int .u8 a0_15)) (ds := []) #[false, false, false, false, false, false, false, false, false, false, false, false, false, false, false, false, false, false, false, false, false, false, false, false, false, false, false, false, false, false, false] (by kernel_rfl) rfl rfl ⟨(qC BK203.out 0).trans rfl, (qC BK203.out 1).trans rfl, (qC BK203.out 2).trans rfl, (qC BK203.out 3).trans rfl, (qC BK203.out 4).trans rfl, (qC BK203.out 5).trans rfl, (qC BK203.out 6).trans rfl, (qC BK203.out 7).trans rfl, (qC BK203.out 8).trans rfl, (qC BK203.out 9).trans rfl, (qC BK203.out 10).trans rfl, (qC BK203.out 11).trans rfl, (qC BK203.out 12).trans rfl, (qC BK203.out 13).trans rfl, (qC BK203.out 14).trans rfl, (qC BK203.out 15).trans rfl⟩ (fun hHeld => ?_); refine with_tabW fuseelaw23_PrfSums.tab4 fuseelaw23_PrfSums.bits4 (fun HT_ HW_ => ?_)
      generalize w18.drew = w19 at BK203 HB hHeld ⊢
      refine pure_ (i := 1) (N := some 19) (v := ?_) (a' := ?_) #[false, true, false, false, false, false, false, false, false, false, false, false, false, false, false, false, false, false, false, false, false, false, false, false, false, false, false, false, false, false, false] rfl rfl (any_of HT_.out (by kernel_rfl)) (fun _ _ _ h => h) (Or.inl ⟨by rfl, ?_⟩) ?_ ?_
      rotate_left
      ·intro w'
       go_simp
       with_reducible rfl
      rotate_left
      ·simp only [Act.put, List.setIfInBounds_toArray, List.set_cons_zero, List.set_cons_succ, i64_w, i32_w]
       rfl
      refine pure_ (i := 4) (N := some 22) (v := ?_) (a' := ?_) #[false, true, false, false, true, false, false, false, false, false, false, false, false, false, false, false, false, false, false, false, false, false, false, false, false, false, false, false, false, false, false] rfl rfl (any_of HT_.out (by kernel_rfl)) (fun _ _ _ h => h) (Or.inl ⟨by rfl, ?_⟩) ?_ ?_
      rotate_left
      ·intro w'
       go_simp
       with_reducible rfl
      rotate_left
      ·simp only [Act.put, List.setIfInBounds_toArray, List.set_cons_zero, List.set_cons_succ, i64_w, i32_w]
       rfl
      refine take_ (i := 0) (N := some 18) (v := ?_) (a' := ?_) #[true, true, false, false, true, false, false, false, false, false, false, false, false, false, false, false, false, false, false, false, false, false, false, false, false, false, false, false, false, false, false] rfl rfl (take_ofW HT_.out HW_.out (by kernel_rfl)) (fun _ _ _ h => h) (Or.inl ⟨by rfl, ?_⟩) hHeld ?_ ?_
      rotate_left
      ·rintro w' ⟨s0, s1, s2, s3, s4, s5, s6, s7, s8, s9, s10, s11, s12, s13, s14, s15⟩
       go_simp
       with_reducible rfl
      rotate_left
      ·simp only [Act.put, List.setIfInBounds_toArray, List.set_cons_zero, List.set_cons_succ, i64_w, i32_w]
       rfl
      refine take_ (i := 3) (N := some 21) (v := ?_) (a' := ?_) #[true, true, false, true, true, false, false, false, false, false, false, false, false, false, false, false, false, false, false, false, false, false, false, false, false, false, false, false, false, false, false] rfl rfl (take_ofW HT_.out HW_.out (by kernel_rfl)) (fun _ _ _ h => h) (Or.inl ⟨by rfl, ?_⟩) hHeld ?_ ?_
      rotate_left
      ·rintro w' ⟨s0, s1, s2, s3, s4, s5, s6, s7, s8, s9, s10, s11, s12, s13, s14, s15⟩
       go_simp
       with_reducible rfl
      rotate_left
      ·simp only [Act.put, List.setIfInBounds_toArray, List.set_cons_zero, List.set_cons_succ, i64_w, i32_w]
       rfl
      refine one_ (i := 2) (N := some 20) #[true, true, true, true, true, false, false, false, false, false, false, false, false, false, false, false, false, false, false, false, false, false, false, false, false, false, false, false, false, false, false] rfl rfl (one_of HT_.out (by kernel_rfl)) (by decide) (fun K hK => ?_)
      refine goes_ Try.func8 (by kernel_rfl) rfl #[.agg #[.int .u8 a0_0, .int .u8 a0_1, .int .u8 a0_2, .int .u8 a0_3, .int .u8 a0_4, .int .u8 a0_5, .int .u8 a0_6, .int .u8 a0_7, .int .u8 a0_8, .int .u8 a0_9, .int .u8 a0_10, .int .u8 a0_11, .int .u8 a0_12, .int .u8 a0_13, .int .u8 a0_14, .int .u8 a0_15], .slice A1 l1.length c1] (by rfl) rfl rfl (by (try simp only [List.map_toArray, List.map_cons, List.map_nil]); first | done | rfl | (simp only [*]; done) | (simp only [List.length_drop, List.length_take]; rfl) | (simp only [Act.eval, Array.getD_eq_getD_getElem?, Option.getD_some, *])) ?_
      with_reducible refine (prf_Sum.calls a0_0 a0_1 a0_2 a0_3 a0_4 a0_5 a0_6 a0_7 a0_8 a0_9 a0_10 a0_11 a0_12 a0_13 a0_14 a0_15 _ _ l1 t205 _ ?side1 ?side2 A8.out).mono ?_
      (case side1 => repeat (first | exact (Kd.C_below HR1.out HB.out) | (with_reducible refine Kd.C_alloc ?_ _) | (with_reducible refine Kd.C_drewN ?_ _) | (with_reducible refine Kd.C_drew ?_)))
      (case side2 => exact HC1.out)
      rintro e w20 ⟨rfl, hb⟩
      refine ⟨_, rfl, ?_⟩
      have n0_ := qS (qB (g := gb203) (o := .cells #[.int .u8 a0_0, .int .u8 a0_1, .int .u8 a0_2, .int .u8 a0_3, .int .u8 a0_4, .int .u8 a0_5, .int .u8 a0_6, .int .u8 a0_7, .int .u8 a0_8, .int .u8 a0_9, .int .u8 a0_10, .int .u8 a0_11, .int .u8 a0_12, .int .u8 a0_13, .int .u8 a0_14, .int .u8 a0_15] 22 (0, 0)) (by (with_reducible repeat (first | refine qN ?_ _ | refine qD ?_ | refine qA ?_ _)); exact BK203.out) hb)
      have n1_ := qS (below_step (by repeat (first | (with_reducible first | exact HB.out | apply qpA | apply qpN | apply qp1 | refine qpS ?_ GE203.out) | exact HB.out)) hb)
      clear BK203
      clear HB
      have BK203 := n0_
      have HB := n1_
      clear n0_ n1_
      (try clear hb)
      (try clear hb2)
      (try clear hk)
      (try clear hi)
      refine hK.out _ _ ⟨(qC BK203.out 0).trans rfl, (qC BK203.out 1).trans rfl, (qC BK203.out 2).trans rfl, (qC BK203.out 3).trans rfl, (qC BK203.out 4).trans rfl, (qC BK203.out 5).trans rfl, (qC BK203.out 6).trans rfl, (qC BK203.out 7).trans rfl, (qC BK203.out 8).trans rfl, (qC BK203.out 9).trans rfl, (qC BK203.out 10).trans rfl, (qC BK203.out 11).trans rfl, (qC BK203.out 12).trans rfl, (qC BK203.out 13).trans rfl, (qC BK203.out 14).trans rfl, (qC BK203.out 15).trans rfl⟩ (fun hHeld => ?_)
      clear hK K
      as_aux_lemma =>
       refine norm_ (a' := ?_) ?_ ?_
       rotate_left
       ·show Act.put _ (some 20) _ = _
        simp only [Act.put, List.setIfInBounds_toArray, List.set_cons_zero, List.set_cons_succ, i64_w, i32_w]
        rfl
       refine one_ (i := 5) (N := some 23) #[true, true, true, true, true, true, false, false, false, false, false, false, false, false, false, false, false, false, false, false, false, false, false, false, false, false, false, false, false, false, false] rfl rfl (one_of HT_.out (by kernel_rfl)) (by decide) (fun K hK => ?_)
       refine goes_ Try.func9 (by kernel_rfl) rfl #[.agg #[.int .u8 a0_0, .int .u8 a0_1, .int .u8 a0_2, .int .u8 a0_3, .int .u8 a0_4, .int .u8 a0_5, .int .u8 a0_6, .int .u8 a0_7, .int .u8 a0_8, .int .u8 a0_9, .int .u8 a0_10, .int .u8 a0_11, .int .u8 a0_12, .int .u8 a0_13, .int .u8 a0_14, .int .u8 a0_15], .slice A1 l1.length c1] (by rfl) rfl rfl (by (try simp only [List.map_toArray, List.map_cons, List.map_nil]); first | done | rfl | (simp only [*]; done) | (simp only [List.length_drop, List.length_take]; rfl) | (simp only [Act.eval, Array.getD_eq_getD_getElem?, Option.getD_some, *])) ?_
       with_reducible refine (fuseeref23_Sum.calls a0_0 a0_1 a0_2 a0_3 a0_4 a0_5 a0_6 a0_7 a0_8 a0_9 a0_10 a0_11 a0_12 a0_13 a0_14 a0_15 _ _ l1 t206 _ ?side1 ?side2 A9.out).mono ?_
       (case side1 => repeat (first | exact (Kd.C_below HR1.out HB.out) | (with_reducible refine Kd.C_alloc ?_ _) | (with_reducible refine Kd.C_drewN ?_ _) | (with_reducible refine Kd.C_drew ?_)))
       (case side2 => exact HC1.out)
       rintro e w21 ⟨rfl, hb⟩
       refine ⟨_, rfl, ?_⟩
       have n0_ := qS (qB (g := gb203) (o := .cells #[.int .u8 a0_0, .int .u8 a0_1, .int .u8 a0_2, .int .u8 a0_3, .int .u8 a0_4, .int .u8 a0_5, .int .u8 a0_6, .int .u8 a0_7, .int .u8 a0_8, .int .u8 a0_9, .int .u8 a0_10, .int .u8 a0_11, .int .u8 a0_12, .int .u8 a0_13, .int .u8 a0_14, .int .u8 a0_15] 22 (0, 0)) (by (with_reducible repeat (first | refine qN ?_ _ | refine qD ?_ | refine qA ?_ _)); exact BK203.out) hb)
       have n1_ := qS (below_step (by repeat (first | (with_reducible first | exact HB.out | apply qpA | apply qpN | apply qp1 | refine qpS ?_ GE203.out) | exact HB.out)) hb)
       clear BK203
       clear HB
       have BK203 := n0_
       have HB := n1_
       clear n0_ n1_
       (try clear hb)
       (try clear hb2)
       (try clear hk)
       (try clear hi)
       refine hK.out _ _ ⟨(qC BK203.out 0).trans rfl, (qC BK203.out 1).trans rfl, (qC BK203.out 2).trans rfl, (qC BK203.out 3).trans rfl, (qC BK203.out 4).trans rfl, (qC BK203.out 5).trans rfl, (qC BK203.out 6).trans rfl, (qC BK203.out 7).trans rfl, (qC BK203.out 8).trans rfl, (qC BK203.out 9).trans rfl, (qC BK203.out 10).trans rfl, (qC BK203.out 11).trans rfl, (qC BK203.out 12).trans rfl, (qC BK203.out 13).trans rfl, (qC BK203.out 14).trans rfl, (qC BK203.out 15).trans rfl⟩ (fun hHeld => ?_)
       clear hK K
       as_aux_lemma =>
        refine norm_ (a' := ?_) ?_ ?_
        rotate_left
        ·show Act.put _ (some 23) _ = _
         simp only [Act.put, List.setIfInBounds_toArray, List.set_cons_zero, List.set_cons_succ, i64_w, i32_w]
         rfl
        refine pure_ (i := 6) (N := some 24) (v := ?_) (a' := ?_) #[true, true, true, true, true, true, true, false, false, false, false, false, false, false, false, false, false, false, false, false, false, false, false, false, false, false, false, false, false, false, false] rfl rfl (any_of HT_.out (by kernel_rfl)) (fun _ _ _ h => h) (Or.inl ⟨by rfl, ?_⟩) ?_ ?_
        rotate_left
        ·intro w'
         go_simp
         with_reducible rfl
        rotate_left
        ·simp only [Act.put, List.setIfInBounds_toArray, List.set_cons_zero, List.set_cons_succ, i64_w, i32_w]
         rfl
        refine pure_ (i := 7) (N := some 25) (v := ?_) (a' := ?_) #[true, true, true, true, true, true, true, true, false, false, false, false, false, false, false, false, false, false, false, false, false, false, false, false, false, false, false, false, false, false, false] rfl rfl (any_of HT_.out (by kernel_rfl)) (fun _ _ _ h => h) (Or.inl ⟨by rfl, ?_⟩) ?_ ?_
        rotate_left
        ·intro w'
         go_simp
         with_reducible rfl
        rotate_left
        ·simp only [Act.put, List.setIfInBounds_toArray, List.set_cons_zero, List.set_cons_succ, i64_w, i32_w]
         rfl
        refine pure_ (i := 9) (N := some 27) (v := ?_) (a' := ?_) #[true, true, true, true, true, true, true, true, false, true, false, false, false, false, false, false, false, false, false, false, false, false, false, false, false, false, false, false, false, false, false] rfl rfl (any_of HT_.out (by kernel_rfl)) (fun _ _ _ h => h) (Or.inl ⟨by rfl, ?_⟩) ?_ ?_
        rotate_left
        ·intro w'
         go_simp
         with_reducible rfl
        rotate_left
        ·simp only [Act.put, List.setIfInBounds_toArray, List.set_cons_zero, List.set_cons_succ, i64_w, i32_w]
         rfl
        refine pure_ (i := 10) (N := some 28) (v := ?_) (a' := ?_) #[true, true, true, true, true, true, true, true, false, true, true, false, false, false, false, false, false, false, false, false, false, false, false, false, false, false, false, false, false, false, false] rfl rfl (any_of HT_.out (by kernel_rfl)) (fun _ _ _ h => h) (Or.inl ⟨by rfl, ?_⟩) ?_ ?_
        rotate_left
        ·intro w'
         go_simp
         with_reducible rfl
        rotate_left
        ·simp only [Act.put, List.setIfInBounds_toArray, List.set_cons_zero, List.set_cons_succ, i64_w, i32_w]
         rfl
        refine pure_ (i := 13) (N := some 31) (v := ?_) (a' := ?_) #[true, true, true, true, true, true, true, true, false, true, true, false, false, true, false, false, false, false, false, false, false, false, false, false, false, false, false, false, false, false, false] rfl rfl (any_of HT_.out (by kernel_rfl)) (fun _ _ _ h => h) (Or.inl ⟨by rfl, ?_⟩) ?_ ?_
        rotate_left
        ·intro w'
         go_simp
         with_reducible rfl
        rotate_left
        ·simp only [Act.put, List.setIfInBounds_toArray, List.set_cons_zero, List.set_cons_succ, i64_w, i32_w]
         rfl
        refine pure_ (i := 14) (N := some 32) (v := ?_) (a' := ?_) #[true, true, true, true, true, true, true, true, false, true, true, false, false, true, true, false, false, false, false, false, false, false, false, false, false, false, false, false, false, false, false] rfl rfl (any_of HT_.out (by kernel_rfl)) (fun _ _ _ h => h) (Or.inl ⟨by rfl, ?_⟩) ?_ ?_
        rotate_left
        ·intro w'
         go_simp
         with_reducible rfl
        rotate_left
        ·simp only [Act.put, List.setIfInBounds_toArray, List.set_cons_zero, List.set_cons_succ, i64_w, i32_w]
         rfl
        refine take_ (i := 8) (N := some 26) (v := ?_) (a' := ?_) #[true, true, true, true, true, true, true, true, true, true, true, false, false, true, true, false, false, false, false, false, false, false, false, false, false, false, false, false, false, false, false] rfl rfl (take_ofW HT_.out HW_.out (by kernel_rfl)) (fun _ _ _ h => h) (Or.inl ⟨by rfl, ?_⟩) hHeld ?_ ?_
        rotate_left
        ·rintro w' ⟨s0, s1, s2, s3, s4, s5, s6, s7, s8, s9, s10, s11, s12, s13, s14, s15⟩
         go_simp
         with_reducible rfl
        rotate_left
        ·simp only [Act.put, List.setIfInBounds_toArray, List.set_cons_zero, List.set_cons_succ, i64_w, i32_w]
         rfl
        refine take_ (i := 12) (N := some 30) (v := ?_) (a' := ?_) #[true, true, true, true, true, true, true, true, true, true, true, false, true, true, true, false, false, false, false, false, false, false, false, false, false, false, false, false, false, false, false] rfl rfl (take_ofW HT_.out HW_.out (by kernel_rfl)) (fun _ _ _ h => h) (Or.inl ⟨by rfl, ?_⟩) hHeld ?_ ?_
        rotate_left
        ·rintro w' ⟨s0, s1, s2, s3, s4, s5, s6, s7, s8, s9, s10, s11, s12, s13, s14, s15⟩
         go_simp
         with_reducible rfl
        rotate_left
        ·simp only [Act.put, List.setIfInBounds_toArray, List.set_cons_zero, List.set_cons_succ, i64_w, i32_w]
         rfl
        refine one_ (i := 11) (N := some 29) #[true, true, true, true, true, true, true, true, true, true, true, true, true, true, true, false, false, false, false, false, false, false, false, false, false, false, false, false, false, false, false] rfl rfl (one_of HT_.out (by kernel_rfl)) (by decide) (fun K hK => ?_)
        refine goes_ Try.func10 (by kernel_rfl) rfl #[.agg #[.int .u8 a0_0, .int .u8 a0_1, .int .u8 a0_2, .int .u8 a0_3, .int .u8 a0_4, .int .u8 a0_5, .int .u8 a0_6, .int .u8 a0_7, .int .u8 a0_8, .int .u8 a0_9, .int .u8 a0_10, .int .u8 a0_11, .int .u8 a0_12, .int .u8 a0_13, .int .u8 a0_14, .int .u8 a0_15], .int .i64 (wrap64 ((l1.length : Int) - 20)), .int .u64 a2] (by rfl) rfl rfl (by (try simp only [List.map_toArray, List.map_cons, List.map_nil]); first | done | rfl | (simp only [*]; done) | (simp only [List.length_drop, List.length_take]; rfl) | (simp only [Act.eval, Array.getD_eq_getD_getElem?, Option.getD_some, *])) ?_
        with_reducible refine (prf_Number.calls k a0_0 a0_1 a0_2 a0_3 a0_4 a0_5 a0_6 a0_7 a0_8 a0_9 a0_10 a0_11 a0_12 a0_13 a0_14 a0_15 (wrap64 ((l1.length : Int) - 20)) a2 t207 _ A11.out).mono ?_
        rintro e w22 ⟨rfl, hb⟩
        refine ⟨_, rfl, ?_⟩
        have n0_ := qS (qB (g := gb203) (o := .cells #[.int .u8 a0_0, .int .u8 a0_1, .int .u8 a0_2, .int .u8 a0_3, .int .u8 a0_4, .int .u8 a0_5, .int .u8 a0_6, .int .u8 a0_7, .int .u8 a0_8, .int .u8 a0_9, .int .u8 a0_10, .int .u8 a0_11, .int .u8 a0_12, .int .u8 a0_13, .int .u8 a0_14, .int .u8 a0_15] 22 (0, 0)) (by (with_reducible repeat (first | refine qN ?_ _ | refine qD ?_ | refine qA ?_ _)); exact BK203.out) hb)
        have n1_ := qS (below_step (by repeat (first | (with_reducible first | exact HB.out | apply qpA | apply qpN | apply qp1 | refine qpS ?_ GE203.out) | exact HB.out)) hb)
        clear BK203
        clear HB
        have BK203 := n0_
        have HB := n1_
        clear n0_ n1_
        (try clear hb)
        (try clear hb2)
        (try clear hk)
        (try clear hi)
        refine hK.out _ _ ⟨(qC BK203.out 0).trans rfl, (qC BK203.out 1).trans rfl, (qC BK203.out 2).trans rfl, (qC BK203.out 3).trans rfl, (qC BK203.out 4).trans rfl, (qC BK203.out 5).trans rfl, (qC BK203.out 6).trans rfl, (qC BK203.out 7).trans rfl, (qC BK203.out 8).trans rfl, (qC BK203.out 9).trans rfl, (qC BK203.out 10).trans rfl, (qC BK203.out 11).trans rfl, (qC BK203.out 12).trans rfl, (qC BK203.out 13).trans rfl, (qC BK203.out 14).trans rfl, (qC BK203.out 15).trans rfl⟩ (fun hHeld => ?_)
        clear hK K
        as_aux_lemma =>
         refine norm_ (a' := ?_) ?_ ?_
         rotate_left
         ·show Act.put _ (some 29) _ = _
          simp only [Act.put, List.setIfInBounds_toArray, List.set_cons_zero, List.set_cons_succ, i64_w, i32_w]
          rfl
         refine one_ (i := 15) (N := some 33) #[true, true, true, true, true, true, true, true, true, true, true, true, true, true, true, true, false, false, false, false, false, false, false, false, false, false, false, false, false, false, false] rfl rfl (one_of HT_.out (by kernel_rfl)) (by decide) (fun K hK => ?_)
         refine goes_ Try.func11 (by kernel_rfl) rfl #[.agg #[.int .u8 a0_0, .int .u8 a0_1, .int .u8 a0_2, .int .u8 a0_3, .int .u8 a0_4, .int .u8 a0_5, .int .u8 a0_6, .int .u8 a0_7, .int .u8 a0_8, .int .u8 a0_9, .int .u8 a0_10, .int .u8 a0_11, .int .u8 a0_12, .int .u8 a0_13, .int .u8 a0_14, .int .u8 a0_15], .int .i64 (wrap64 ((l1.length : Int) - 20)), .int .u64 a2] (by rfl) rfl rfl (by (try simp only [List.map_toArray, List.map_cons, List.map_nil]); first | done | rfl | (simp only [*]; done) | (simp only [List.length_drop, List.length_take]; rfl) | (simp only [Act.eval, Array.getD_eq_getD_getElem?, Option.getD_some, *])) ?_
         with_reducible refine (fuseeref23_Number.calls k a0_0 a0_1 a0_2 a0_3 a0_4 a0_5 a0_6 a0_7 a0_8 a0_9 a0_10 a0_11 a0_12 a0_13 a0_14 a0_15 (wrap64 ((l1.length : Int) - 20)) a2 t208 _ A12.out).mono ?_
         rintro e w23 ⟨rfl, hb⟩
         refine ⟨_, rfl, ?_⟩
         have n0_ := qS (qB (g := gb203) (o := .cells #[.int .u8 a0_0, .int .u8 a0_1, .int .u8 a0_2, .int .u8 a0_3, .int .u8 a0_4, .int .u8 a0_5, .int .u8 a0_6, .int .u8 a0_7, .int .u8 a0_8, .int .u8 a0_9, .int .u8 a0_10, .int .u8 a0_11, .int .u8 a0_12, .int .u8 a0_13, .int .u8 a0_14, .int .u8 a0_15] 22 (0, 0)) (by (with_reducible repeat (first | refine qN ?_ _ | refine qD ?_ | refine qA ?_ _)); exact BK203.out) hb)
         have n1_ := qS (below_step (by repeat (first | (with_reducible first | exact HB.out | apply qpA | apply qpN | apply qp1 | refine qpS ?_ GE203.out) | exact HB.out)) hb)
         clear BK203
         clear HB
         have BK203 := n0_
         have HB := n1_
         clear n0_ n1_
         (try clear hb)
         (try clear hb2)
         (try clear hk)
         (try clear hi)
         refine hK.out _ _ ⟨(qC BK203.out 0).trans rfl, (qC BK203.out 1).trans rfl, (qC BK203.out 2).trans rfl, (qC BK203.out 3).trans rfl, (qC BK203.out 4).trans rfl, (qC BK203.out 5).trans rfl, (qC BK203.out 6).trans rfl, (qC BK203.out 7).trans rfl, (qC BK203.out 8).trans rfl, (qC BK203.out 9).trans rfl, (qC BK203.out 10).trans rfl, (qC BK203.out 11).trans rfl, (qC BK203.out 12).trans rfl, (qC BK203.out 13).trans rfl, (qC BK203.out 14).trans rfl, (qC BK203.out 15).trans rfl⟩ (fun hHeld => ?_)
         clear hK K
         as_aux_lemma =>
          refine norm_ (a' := ?_) ?_ ?_
          rotate_left
          ·show Act.put _ (some 33) _ = _
           simp only [Act.put, List.setIfInBounds_toArray, List.set_cons_zero, List.set_cons_succ, i64_w, i32_w]
           rfl
          refine pure_ (i := 16) (N := some 34) (v := ?_) (a' := ?_) #[true, true, true, true, true, true, true, true, true, true, true, true, true, true, true, true, true, false, false, false, false, false, false, false, false, false, false, false, false, false, false] rfl rfl (any_of HT_.out (by kernel_rfl)) (fun _ _ _ h => h) (Or.inl ⟨by rfl, ?_⟩) ?_ ?_
          rotate_left
          ·intro w'
           go_simp
           with_reducible rfl
          rotate_left
          ·simp only [Act.put, List.setIfInBounds_toArray, List.set_cons_zero, List.set_cons_succ, i64_w, i32_w]
           rfl
          refine pure_ (i := 17) (N := some 35) (v := ?_) (a' := ?_) #[true, true, true, true, true, true, true, true, true, true, true, true, true, true, true, true, true, true, false, false, false, false, false, false, false, false, false, false, false, false, false] rfl rfl (any_of HT_.out (by kernel_rfl)) (fun _ _ _ h => h) (Or.inl ⟨by rfl, ?_⟩) ?_ ?_
          rotate_left
          ·intro w'
           go_simp
           with_reducible rfl
          rotate_left
          ·simp only [Act.put, List.setIfInBounds_toArray, List.set_cons_zero, List.set_cons_succ, i64_w, i32_w]
           rfl
          refine pure_ (i := 18) (N := some 36) (v := ?_) (a' := ?_) #[true, true, true, true, true, true, true, true, true, true, true, true, true, true, true, true, true, true, true, false, false, false, false, false, false, false, false, false, false, false, false] rfl rfl (any_of HT_.out (by kernel_rfl)) (fun _ _ _ h => h) (Or.inl ⟨by rfl, ?_⟩) ?_ ?_
          rotate_left
          ·intro w'
           go_simp
           with_reducible rfl
          rotate_left
          ·simp only [Act.put, List.setIfInBounds_toArray, List.set_cons_zero, List.set_cons_succ, i64_w, i32_w]
           rfl
          refine pure_ (i := 20) (N := some 38) (v := ?_) (a' := ?_) #[true, true, true, true, true, true, true, true, true, true, true, true, true, true, true, true, true, true, true, false, true, false, false, false, false, false, false, false, false, false, false] rfl rfl (any_of HT_.out (by kernel_rfl)) (fun _ _ _ h => h) (Or.inl ⟨by rfl, ?_⟩) ?_ ?_
          rotate_left
          ·intro w'
           go_simp
           with_reducible rfl
          rotate_left
          ·simp only [Act.put, List.setIfInBounds_toArray, List.set_cons_zero, List.set_cons_succ, i64_w, i32_w]
           rfl
          refine pure_ (i := 23) (N := some 41) (v := ?_) (a' := ?_) #[true, true, true, true, true, true, true, true, true, true, true, true, true, true, true, true, true, true, true, false, true, false, false, true, false, false, false, false, false, false, false] rfl rfl (any_of HT_.out (by kernel_rfl)) (fun _ _ _ h => h) (Or.inl ⟨by rfl, ?_⟩) ?_ ?_
          rotate_left
          ·intro w'
           go_simp
           with_reducible rfl
          rotate_left
          ·simp only [Act.put, List.setIfInBounds_toArray, List.set_cons_zero, List.set_cons_succ, i64_w, i32_w]
           rfl
          refine take_ (i := 19) (N := some 37) (v := ?_) (a' := ?_) #[true, true, true, true, true, true, true, true, true, true, true, true, true, true, true, true, true, true, true, true, true, false, false, true, false, false, false, false, false, false, false] rfl rfl (take_ofW HT_.out HW_.out (by kernel_rfl)) (fun _ _ _ h => h) (Or.inl ⟨by rfl, ?_⟩) hHeld ?_ ?_
          rotate_left
          ·rintro w' ⟨s0, s1, s2, s3, s4, s5, s6, s7, s8, s9, s10, s11, s12, s13, s14, s15⟩
           go_simp
           with_reducible rfl
          rotate_left
          ·simp only [Act.put, List.setIfInBounds_toArray, List.set_cons_zero, List.set_cons_succ, i64_w, i32_w]
           rfl
          refine take_ (i := 22) (N := some 40) (v := ?_) (a' := ?_) #[true, true, true, true, true, true, true, true, true, true, true, true, true, true, true, true, true, true, true, true, true, false, true, true, false, false, false, false, false, false, false] rfl rfl (take_ofW HT_.out HW_.out (by kernel_rfl)) (fun _ _ _ h => h) (Or.inl ⟨by rfl, ?_⟩) hHeld ?_ ?_
          rotate_left
          ·rintro w' ⟨s0, s1, s2, s3, s4, s5, s6, s7, s8, s9, s10, s11, s12, s13, s14, s15⟩
           go_simp
           with_reducible rfl
          rotate_left
          ·simp only [Act.put, List.setIfInBounds_toArray, List.set_cons_zero, List.set_cons_succ, i64_w, i32_w]
           rfl
          refine one_ (i := 21) (N := some 39) #[true, true, true, true, true, true, true, true, true, true, true, true, true, true, true, true, true, true, true, true, true, true, true, true, false, false, false, false, false, false, false] rfl rfl (one_of HT_.out (by kernel_rfl)) (by decide) (fun K hK => ?_)
          refine goes_ Try.func12 (by kernel_rfl) rfl #[.agg #[.int .u8 a0_0, .int .u8 a0_1, .int .u8 a0_2, .int .u8 a0_3, .int .u8 a0_4, .int .u8 a0_5, .int .u8 a0_6, .int .u8 a0_7, .int .u8 a0_8, .int .u8 a0_9, .int .u8 a0_10, .int .u8 a0_11, .int .u8 a0_12, .int .u8 a0_13, .int .u8 a0_14, .int .u8 a0_15], .int .u8 ((a2) % 256)] (by rfl) rfl rfl (by (try simp only [List.map_toArray, List.map_cons, List.map_nil]); first | done | rfl | (simp only [*]; done) | (simp only [List.length_drop, List.length_take]; rfl) | (simp only [Act.eval, Array.getD_eq_getD_getElem?, Option.getD_some, *])) ?_
          with_reducible refine (prf_Derive.calls k a0_0 a0_1 a0_2 a0_3 a0_4 a0_5 a0_6 a0_7 a0_8 a0_9 a0_10 a0_11 a0_12 a0_13 a0_14 a0_15 ((a2) % 256) t209 t210 t211 t212 t213 t214 t215 t216 t217 t218 t219 t220 t221 t222 t223 t224 _ A14.out).mono ?_
          rintro e w24 ⟨rfl, hb⟩
          refine ⟨_, rfl, ?_⟩
          have n0_ := qS (qB (g := gb203) (o := .cells #[.int .u8 a0_0, .int .u8 a0_1, .int .u8 a0_2, .int .u8 a0_3, .int .u8 a0_4, .int .u8 a0_5, .int .u8 a0_6, .int .u8 a0_7, .int .u8 a0_8, .int .u8 a0_9, .int .u8 a0_10, .int .u8 a0_11, .int .u8 a0_12, .int .u8 a0_13, .int .u8 a0_14, .int .u8 a0_15] 22 (0, 0)) (by (with_reducible repeat (first | refine qN ?_ _ | refine qD ?_ | refine qA ?_ _)); exact BK203.out) hb)
          have n1_ := qS (below_step (by repeat (first | (with_reducible first | exact HB.out | apply qpA | apply qpN | apply qp1 | refine qpS ?_ GE203.out) | exact HB.out)) hb)
          clear BK203
          clear HB
          have BK203 := n0_
          have HB := n1_
          clear n0_ n1_
          (try clear hb)
          (try clear hb2)
          (try clear hk)
          (try clear hi)
          refine hK.out _ _ ⟨(qC BK203.out 0).trans rfl, (qC BK203.out 1).trans rfl, (qC BK203.out 2).trans rfl, (qC BK203.out 3).trans rfl, (qC BK203.out 4).trans rfl, (qC BK203.out 5).trans rfl, (qC BK203.out 6).trans rfl, (qC BK203.out 7).trans rfl, (qC BK203.out 8).trans rfl, (qC BK203.out 9).trans rfl, (qC BK203.out 10).trans rfl, (qC BK203.out 11).trans rfl, (qC BK203.out 12).trans rfl, (qC BK203.out 13).trans rfl, (qC BK203.out 14).trans rfl, (qC BK203.out 15).trans rfl⟩ (fun hHeld => ?_)
          clear hK K
          as_aux_lemma =>
           refine norm_ (a' := ?_) ?_ ?_
           rotate_left
           ·show Act.put _ (some 39) _ = _
            simp only [Act.put, List.setIfInBounds_toArray, List.set_cons_zero, List.set_cons_succ, i64_w, i32_w]
            rfl
           refine one_ (i := 24) (N := some 42) #[true, true, true, true, true, true, true, true, true, true, true, true, true, true, true, true, true, true, true, true, true, true, true, true, true, false, false, false, false, false, false] rfl rfl (one_of HT_.out (by kernel_rfl)) (by decide) (fun K hK => ?_)
           refine goes_ Try.func13 (by kernel_rfl) rfl #[.agg #[.int .u8 a0_0, .int .u8 a0_1, .int .u8 a0_2, .int .u8 a0_3, .int .u8 a0_4, .int .u8 a0_5, .int .u8 a0_6, .int .u8 a0_7, .int .u8 a0_8, .int .u8 a0_9, .int .u8 a0_10, .int .u8 a0_11, .int .u8 a0_12, .int .u8 a0_13, .int .u8 a0_14, .int .u8 a0_15], .int .u8 ((a2) % 256)] (by rfl) rfl rfl (by (try simp only [List.map_toArray, List.map_cons, List.map_nil]); first | done | rfl | (simp only [*]; done) | (simp only [List.length_drop, List.length_take]; rfl) | (simp only [Act.eval, Array.getD_eq_getD_getElem?, Option.getD_some, *])) ?_
           with_reducible refine (fuseeref23_Derive.calls k a0_0 a0_1 a0_2 a0_3 a0_4 a0_5 a0_6 a0_7 a0_8 a0_9 a0_10 a0_11 a0_12 a0_13 a0_14 a0_15 ((a2) % 256) t225 t226 t227 t228 t229 t230 t231 t232 t233 t234 t235 t236 t237 t238 t239 t240 _ A15.out).mono ?_
           rintro e w25 ⟨rfl, hb⟩
           refine ⟨_, rfl, ?_⟩
           have n0_ := qS (qB (g := gb203) (o := .cells #[.int .u8 a0_0, .int .u8 a0_1, .int .u8 a0_2, .int .u8 a0_3, .int .u8 a0_4, .int .u8 a0_5, .int .u8 a0_6, .int .u8 a0_7, .int .u8 a0_8, .int .u8 a0_9, .int .u8 a0_10, .int .u8 a0_11, .int .u8 a0_12, .int .u8 a0_13, .int .u8 a0_14, .int .u8 a0_15] 22 (0, 0)) (by (with_reducible repeat (first | refine qN ?_ _ | refine qD ?_ | refine qA ?_ _)); exact BK203.out) hb)
           have n1_ := qS (below_step (by repeat (first | (with_reducible first | exact HB.out | apply qpA | apply qpN | apply qp1 | refine qpS ?_ GE203.out) | exact HB.out)) hb)
           clear BK203
           clear HB
           have BK203 := n0_
           have HB := n1_
           clear n0_ n1_
           (try clear hb)
           (try clear hb2)
           (try clear hk)
           (try clear hi)
           refine hK.out _ _ ⟨(qC BK203.out 0).trans rfl, (qC BK203.out 1).trans rfl, (qC BK203.out 2).trans rfl, (qC BK203.out 3).trans rfl, (qC BK203.out 4).trans rfl, (qC BK203.out 5).trans rfl, (qC BK203.out 6).trans rfl, (qC BK203.out 7).trans rfl, (qC BK203.out 8).trans rfl, (qC BK203.out 9).trans rfl, (qC BK203.out 10).trans rfl, (qC BK203.out 11).trans rfl, (qC BK203.out 12).trans rfl, (qC BK203.out 13).trans rfl, (qC BK203.out 14).trans rfl, (qC BK203.out 15).trans rfl⟩ (fun hHeld => ?_)
           clear hK K
           as_aux_lemma =>
            refine norm_ (a' := ?_) ?_ ?_
            rotate_left
            ·show Act.put _ (some 42) _ = _
             simp only [Act.put, List.setIfInBounds_toArray, List.set_cons_zero, List.set_cons_succ, i64_w, i32_w]
             rfl
            refine pure_ (i := 25) (N := some 43) (v := ?_) (a' := ?_) #[true, true, true, true, true, true, true, true, true, true, true, true, true, true, true, true, true, true, true, true, true, true, true, true, true, true, false, false, false, false, false] rfl rfl (any_of HT_.out (by kernel_rfl)) (fun _ _ _ h => h) (Or.inl ⟨by rfl, ?_⟩) ?_ ?_
            rotate_left
            ·intro w'
             go_simp
             with_reducible rfl
            rotate_left
            ·simp only [Act.put, List.setIfInBounds_toArray, List.set_cons_zero, List.set_cons_succ, i64_w, i32_w]
             rfl
            refine pure_ (i := 26) (N := some 44) (v := ?_) (a' := ?_) #[true, true, true, true, true, true, true, true, true, true, true, true, true, true, true, true, true, true, true, true, true, true, true, true, true, true, true, false, false, false, false] rfl rfl (any_of HT_.out (by kernel_rfl)) (fun _ _ _ h => h) (Or.inl ⟨by rfl, ?_⟩) ?_ ?_
            rotate_left
            ·intro w'
             go_simp
             with_reducible rfl
            rotate_left
            ·simp only [Act.put, List.setIfInBounds_toArray, List.set_cons_zero, List.set_cons_succ, i64_w, i32_w]
             rfl
            refine pure_ (i := 27) (N := some 45) (v := ?_) (a' := ?_) #[true, true, true, true, true, true, true, true, true, true, true, true, true, true, true, true, true, true, true, true, true, true, true, true, true, true, true, true, false, false, false] rfl rfl (any_of HT_.out (by kernel_rfl)) (fun _ _ _ h => h) (Or.inl ⟨by rfl, ?_⟩) ?_ ?_
            rotate_left
            ·intro w'
             go_simp
             with_reducible rfl
            rotate_left
            ·simp only [Act.put, List.setIfInBounds_toArray, List.set_cons_zero, List.set_cons_succ, i64_w, i32_w]
             rfl
            refine one_ (i := 28) (N := some 46) #[true, true, true, true, true, true, true, true, true, true, true, true, true, true, true, true, true, true, true, true, true, true, true, true, true, true, true, true, true, false, false] rfl rfl (one_of HT_.out (by kernel_rfl)) (by decide) (fun K hK => ?_)
            refine goes_ Try.func7 (by kernel_rfl) rfl #[] (by rfl) rfl rfl (by (try simp only [List.map_toArray, List.map_cons, List.map_nil]); first | done | rfl | (simp only [*]; done) | (simp only [List.length_drop, List.length_take]; rfl) | (simp only [Act.eval, Array.getD_eq_getD_getElem?, Option.getD_some, *])) ?_
            with_reducible refine (fuseelaw23_sure.calls k  t241 _ A17.out).mono ?_
            rintro e w26 ⟨rfl, hb⟩
            refine ⟨_, rfl, ?_⟩
            have n0_ := qS (qB (g := gb203) (o := .cells #[.int .u8 a0_0, .int .u8 a0_1, .int .u8 a0_2, .int .u8 a0_3, .int .u8 a0_4, .int .u8 a0_5, .int .u8 a0_6, .int .u8 a0_7, .int .u8 a0_8, .int .u8 a0_9, .int .u8 a0_10, .int .u8 a0_11, .int .u8 a0_12, .int .u8 a0_13, .int .u8 a0_14, .int .u8 a0_15] 22 (0, 0)) (by (with_reducible repeat (first | refine qN ?_ _ | refine qD ?_ | refine qA ?_ _)); exact BK203.out) hb)
            have n1_ := qS (below_step (by repeat (first | (with_reducible first | exact HB.out | apply qpA | apply qpN | apply qp1 | refine qpS ?_ GE203.out) | exact HB.out)) hb)
            clear BK203
            clear HB
            have BK203 := n0_
            have HB := n1_
            clear n0_ n1_
            (try clear hb)
            (try clear hb2)
            (try clear hk)
            (try clear hi)
            refine hK.out _ _ ⟨(qC BK203.out 0).trans rfl, (qC BK203.out 1).trans rfl, (qC BK203.out 2).trans rfl, (qC BK203.out 3).trans rfl, (qC BK203.out 4).trans rfl, (qC BK203.out 5).trans rfl, (qC BK203.out 6).trans rfl, (qC BK203.out 7).trans rfl, (qC BK203.out 8).trans rfl, (qC BK203.out 9).trans rfl, (qC BK203.out 10).trans rfl, (qC BK203.out 11).trans rfl, (qC BK203.out 12).trans rfl, (qC BK203.out 13).trans rfl, (qC BK203.out 14).trans rfl, (qC BK203.out 15).trans rfl⟩ (fun hHeld => ?_)
            clear hK K
            as_aux_lemma =>
             refine norm_ (a' := ?_) ?_ ?_
             rotate_left
             ·show Act.put _ (some 46) _ = _
              simp only [Act.put, List.setIfInBounds_toArray, List.set_cons_zero, List.set_cons_succ, i64_w, i32_w]
              rfl
             refine pure_ (i := 29) (N := some 47) (v := ?_) (a' := ?_) #[true, true, true, true, true, true, true, true, true, true, true, true, true, true, true, true, true, true, true, true, true, true, true, true, true, true, true, true, true, true, false] rfl rfl (any_of HT_.out (by kernel_rfl)) (fun _ _ _ h => h) (Or.inl ⟨by rfl, ?_⟩) ?_ ?_
             rotate_left
             ·intro w'
              go_simp
              with_reducible rfl
             rotate_left
             ·simp only [Act.put, List.setIfInBounds_toArray, List.set_cons_zero, List.set_cons_succ, i64_w, i32_w]
              rfl
             refine pure_ (i := 30) (N := some 6) (v := ?_) (a' := ?_) #[true, true, true, true, true, true, true, true, true, true, true, true, true, true, true, true, true, true, true, true, true, true, true, true, true, true, true, true, true, true, true] rfl rfl (any_of HT_.out (by kernel_rfl)) (fun _ _ _ h => h) (Or.inl ⟨by rfl, ?_⟩) ?_ ?_
             rotate_left
             ·intro w'
              go_simp
              with_reducible rfl
             rotate_left
             ·simp only [Act.put, List.setIfInBounds_toArray, List.set_cons_zero, List.set_cons_succ, i64_w, i32_w]
              rfl
             refine done_ (done_of HT_.out (by kernel_rfl)) ?_
             try go_wp2
             go_ret
             exact ⟨by first | rfl | (simp [errW_none, errW_some] <;> rfl) | (simp [*, errW_none, errW_some] <;> rfl), by repeat (first | (with_reducible first | exact HB.out | apply qpA | apply qpN | apply qp1 | refine qpS ?_ GE203.out) | exact HB.out)⟩
    ·rw [if_neg c16] at H
     exact absurd H (by simp)
   ·rw [if_neg c13] at H
    exact absurd H (by simp)
  ·rw [if_neg c10] at H
   exact absurd H (by simp)

end Go.Proofs.Ytiljnlhmeolhfaa.MPrfSums
