/- Printed by wip/gen/mp.py: Go functions as plain Lean functions, and that the calls do what these say. -/
import Derived.Test.YtfipgpfmlkfkfaaDoorMSpanStepsx0
import Derived.Test.YtfipgpfmlkfkfaaDoorMSpanStepsx1
import Derived.Test.YtfipgpfmlkfkfaaDoorMSpanStepsx2
import Derived.Test.YtfipgpfmlkfkfaaDoorMSpanStepsx3
import Derived.Test.YtfipgpfmlkfkfaaDoorMSpanStepsx4
import Derived.Test.YtfipgpfmlkfkfaaDoorMSpanStepsx5
namespace Go.Proofs.YtfipgpfmlkfkfaaDoor.MSpanSteps
open Go.RowKit Go.Proofs.YtfipgpfmlkfkfaaDoorW.PrintWords Go.Proofs.YtfipgpfmlkfkfaaDoorW.PrintLast Go.Proofs.YtfipgpfmlkfkfaaDoorW.PrintMore
attribute [local go_sem] max2_int min2_int max_two min_two max_three min_three max_four min_four   -- for this text's walks alone
set_option linter.unusedVariables false
set_option linter.unusedSimpArgs false

attribute [local go_sem high] eqA68
/-! ### fuseelaw13_SpanSteps: function 13 -/
mutual
def fuseelaw13_SpanSteps.j0 : Nat → Int → Bool → Option Int → Int → Int → Option Int → Bool → Int → Int → Int → Int → Int → Int → Int → Int → Option (Bool)
 | 0, _, _, _, _, _, _, _, _, _, _, _, _, _, _, _ => none
 | k + 1, x2, x10, x12, x13, x14, x15, x63, x189000, x189001, x190000, x190001, x196000, x196001, x200000, x200001 => if x63 = true then (none) else (if x189000 ≤ x189001 then (if x190000 ≤ x190001 then (if x189000 ≤ x190001 then (fuseelaw13_SpanSteps.j1 k x2 x10 x12 x13 x14 x15 (decide (x190000 ≤ x189001)) x189000 x189001 x190000 x190001 x196000 x196001 x200000 x200001) else (fuseelaw13_SpanSteps.j1 k x2 x10 x12 x13 x14 x15 false x189000 x189001 x190000 x190001 x196000 x196001 x200000 x200001)) else (fuseelaw13_SpanSteps.j1 k x2 x10 x12 x13 x14 x15 false x189000 x189001 x190000 x190001 x196000 x196001 x200000 x200001)) else (fuseelaw13_SpanSteps.j1 k x2 x10 x12 x13 x14 x15 false x189000 x189001 x190000 x190001 x196000 x196001 x200000 x200001))
def fuseelaw13_SpanSteps.j1 : Nat → Int → Bool → Option Int → Int → Int → Option Int → Bool → Int → Int → Int → Int → Int → Int → Int → Int → Option (Bool)
 | 0, _, _, _, _, _, _, _, _, _, _, _, _, _, _, _ => none
 | k + 1, x2, x10, x12, x13, x14, x15, x16, x189000, x189001, x190000, x190001, x196000, x196001, x200000, x200001 => if (x10 != x16) = true then (fuseelaw13_SpanSteps.j2 k x2 x12 x13 x14 x15 true x189000 x189001 x200000 x200001) else (if x10 = true then (if (!(x196000 == (mx x189000 x190000)) || (!(x196001 == (mn x189001 x190001)))) = true then (fuseelaw13_SpanSteps.j2 k x2 x12 x13 x14 x15 true x189000 x189001 x200000 x200001) else (fuseelaw13_SpanSteps.j2 k x2 x12 x13 x14 x15 false x189000 x189001 x200000 x200001)) else (fuseelaw13_SpanSteps.j2 k x2 x12 x13 x14 x15 (!(x196000 == 0) || (!(x196001 == 0))) x189000 x189001 x200000 x200001))
def fuseelaw13_SpanSteps.j2 : Nat → Int → Option Int → Int → Int → Option Int → Bool → Int → Int → Int → Int → Option (Bool)
 | 0, _, _, _, _, _, _, _, _, _, _ => none
 | k + 1, x2, x12, x13, x14, x15, x119, x189000, x189001, x200000, x200001 => if x119 = true then (none) else (if x189000 > x189001 then ((fuseelaw13_num.f x12).bind fun t208 => (if t208 = 1 then ((fuseelaw13_num.f x15).bind fun t209 => (if t209 = 1 then (if (x200000 == 0 && (x200001 == 0)) = true then (if x13 = 0 then (if x14 = 0 then ((fuseelaw13_sure.f k).bind fun t210 => (some t210)) else (none)) else (none)) else (none)) else (none))) else (none))) else ((fuseeref13_Mid.f k x189000 x189001).bind fun bt211 => (if x15.isNone = true then (if x13 = bt211.1 then (fuseelaw13_SpanSteps.j3 k x2 x12 (x14 != bt211.2) x189000 x189001 x200000 x200001) else (fuseelaw13_SpanSteps.j3 k x2 x12 true x189000 x189001 x200000 x200001)) else (fuseelaw13_SpanSteps.j3 k x2 x12 true x189000 x189001 x200000 x200001))))
def fuseelaw13_SpanSteps.j3 : Nat → Int → Option Int → Bool → Int → Int → Int → Int → Option (Bool)
 | 0, _, _, _, _, _, _, _ => none
 | k + 1, x2, x12, x165, x189000, x189001, x200000, x200001 => if x165 = true then (none) else (if x2 < 0 then ((fuseelaw13_num.f x12).bind fun t214 => (if t214 = 1 then (if (x200000 == 0 && (x200001 == 0)) = true then ((fuseelaw13_sure.f k).bind fun t215 => (some t215)) else (none)) else (none))) else (if x12.isNone = true then ((fuseeref13_Grow.f k x189000 x189001 x2).bind fun bt217 => (if (x200000 == bt217.1 && (x200001 == bt217.2)) = true then ((fuseelaw13_sure.f k).bind fun t219 => (some t219)) else (none))) else (none)))
end
def fuseelaw13_SpanSteps.f (k : Nat) (a0_0 : Int) (a0_1 : Int) (a1_0 : Int) (a1_1 : Int) (a2 : Int) : Option (Bool) := (span_Meet.f a0_0 a0_1 a1_0 a1_1).bind fun bt192 => ((span_Grow.f k a0_0 a0_1 a2).bind fun bt196 => ((span_Mid.f a0_0 a0_1).bind fun bt200 => ((span_Has.f a0_0 a0_1 a2).bind fun t203 => (if a0_0 ≤ a2 then (if (t203 != (decide (a2 ≤ a0_1))) = true then (fuseelaw13_SpanSteps.j0 k a2 bt192.2.2 bt196.2.2 bt200.1 bt200.2.1 bt200.2.2 true a0_0 a0_1 a1_0 a1_1 bt192.1 bt192.2.1 bt196.1 bt196.2.1) else ((span_Check.f a0_0 a0_1).bind fun t204 => (if t204.isNone = true then (fuseelaw13_SpanSteps.j0 k a2 bt192.2.2 bt196.2.2 bt200.1 bt200.2.1 bt200.2.2 (!(decide (a0_0 ≤ a0_1))) a0_0 a0_1 a1_0 a1_1 bt192.1 bt192.2.1 bt196.1 bt196.2.1) else (fuseelaw13_SpanSteps.j0 k a2 bt192.2.2 bt196.2.2 bt200.1 bt200.2.1 bt200.2.2 (decide (a0_0 ≤ a0_1)) a0_0 a0_1 a1_0 a1_1 bt192.1 bt192.2.1 bt196.1 bt196.2.1)))) else (if t203 = true then (fuseelaw13_SpanSteps.j0 k a2 bt192.2.2 bt196.2.2 bt200.1 bt200.2.1 bt200.2.2 true a0_0 a0_1 a1_0 a1_1 bt192.1 bt192.2.1 bt196.1 bt196.2.1) else ((span_Check.f a0_0 a0_1).bind fun t206 => (if t206.isNone = true then (fuseelaw13_SpanSteps.j0 k a2 bt192.2.2 bt196.2.2 bt200.1 bt200.2.1 bt200.2.2 (!(decide (a0_0 ≤ a0_1))) a0_0 a0_1 a1_0 a1_1 bt192.1 bt192.2.1 bt196.1 bt196.2.1) else (fuseelaw13_SpanSteps.j0 k a2 bt192.2.2 bt196.2.2 bt200.1 bt200.2.1 bt200.2.2 (decide (a0_0 ≤ a0_1)) a0_0 a0_1 a1_0 a1_1 bt192.1 bt192.2.1 bt196.1 bt196.2.1))))))))
theorem fuseelaw13_SpanSteps.mono_l : ∀ k, (∀ y0 y1 y2 y3 y4 y5 y6 y7 y8 y9 y10 y11 y12 y13 y14, LeO (fuseelaw13_SpanSteps.j0 k y0 y1 y2 y3 y4 y5 y6 y7 y8 y9 y10 y11 y12 y13 y14) (fuseelaw13_SpanSteps.j0 (k + 1) y0 y1 y2 y3 y4 y5 y6 y7 y8 y9 y10 y11 y12 y13 y14)) ∧ (∀ y0 y1 y2 y3 y4 y5 y6 y7 y8 y9 y10 y11 y12 y13 y14, LeO (fuseelaw13_SpanSteps.j1 k y0 y1 y2 y3 y4 y5 y6 y7 y8 y9 y10 y11 y12 y13 y14) (fuseelaw13_SpanSteps.j1 (k + 1) y0 y1 y2 y3 y4 y5 y6 y7 y8 y9 y10 y11 y12 y13 y14)) ∧ (∀ y0 y1 y2 y3 y4 y5 y6 y7 y8 y9, LeO (fuseelaw13_SpanSteps.j2 k y0 y1 y2 y3 y4 y5 y6 y7 y8 y9) (fuseelaw13_SpanSteps.j2 (k + 1) y0 y1 y2 y3 y4 y5 y6 y7 y8 y9)) ∧ (∀ y0 y1 y2 y3 y4 y5 y6, LeO (fuseelaw13_SpanSteps.j3 k y0 y1 y2 y3 y4 y5 y6) (fuseelaw13_SpanSteps.j3 (k + 1) y0 y1 y2 y3 y4 y5 y6))
 | 0 => ⟨fun _ _ _ _ _ _ _ _ _ _ _ _ _ _ _ r h => by simp [fuseelaw13_SpanSteps.j0] at h, fun _ _ _ _ _ _ _ _ _ _ _ _ _ _ _ r h => by simp [fuseelaw13_SpanSteps.j1] at h, fun _ _ _ _ _ _ _ _ _ _ r h => by simp [fuseelaw13_SpanSteps.j2] at h, fun _ _ _ _ _ _ _ r h => by simp [fuseelaw13_SpanSteps.j3] at h⟩
 | k + 1 => by
  obtain ⟨ih0, ih1, ih2, ih3⟩ := fuseelaw13_SpanSteps.mono_l k
  refine ⟨?_, ?_, ?_, ?_⟩
  ·intro y0 y1 y2 y3 y4 y5 y6 y7 y8 y9 y10 y11 y12 y13 y14
   unfold fuseelaw13_SpanSteps.j0
   repeat' first
   | (with_reducible exact ih0 _ _ _ _ _ _ _ _ _ _ _ _ _ _ _)
   | (with_reducible exact ih1 _ _ _ _ _ _ _ _ _ _ _ _ _ _ _)
   | (with_reducible exact ih2 _ _ _ _ _ _ _ _ _ _)
   | (with_reducible exact ih3 _ _ _ _ _ _ _)
   | (with_reducible exact fuseelaw13_sure.mono _)
   | (with_reducible exact fuseeref13_Grow.mono _ _ _ _)
   | (with_reducible exact fuseeref13_Mid.mono _ _ _)
   | (with_reducible exact span_Grow.mono _ _ _ _)
   | (with_reducible exact LeO.refl _)
   | (with_reducible exact LeO.none _)
   | (with_reducible refine LeO.ite ?_ ?_)
   | (with_reducible refine LeO.bind ?_ (fun _ => ?_))
   | exact ih0 _ _ _ _ _ _ _ _ _ _ _ _ _ _ _
   | exact ih1 _ _ _ _ _ _ _ _ _ _ _ _ _ _ _
   | exact ih2 _ _ _ _ _ _ _ _ _ _
   | exact ih3 _ _ _ _ _ _ _
   | exact fuseelaw13_sure.mono _
   | exact fuseeref13_Grow.mono _ _ _ _
   | exact fuseeref13_Mid.mono _ _ _
   | exact span_Grow.mono _ _ _ _
   | exact LeO.none _
   | refine LeO.ite ?_ ?_
   | refine LeO.bind ?_ (fun _ => ?_)
  ·intro y0 y1 y2 y3 y4 y5 y6 y7 y8 y9 y10 y11 y12 y13 y14
   unfold fuseelaw13_SpanSteps.j1
   repeat' first
   | (with_reducible exact ih0 _ _ _ _ _ _ _ _ _ _ _ _ _ _ _)
   | (with_reducible exact ih1 _ _ _ _ _ _ _ _ _ _ _ _ _ _ _)
   | (with_reducible exact ih2 _ _ _ _ _ _ _ _ _ _)
   | (with_reducible exact ih3 _ _ _ _ _ _ _)
   | (with_reducible exact fuseelaw13_sure.mono _)
   | (with_reducible exact fuseeref13_Grow.mono _ _ _ _)
   | (with_reducible exact fuseeref13_Mid.mono _ _ _)
   | (with_reducible exact span_Grow.mono _ _ _ _)
   | (with_reducible exact LeO.refl _)
   | (with_reducible exact LeO.none _)
   | (with_reducible refine LeO.ite ?_ ?_)
   | (with_reducible refine LeO.bind ?_ (fun _ => ?_))
   | exact ih0 _ _ _ _ _ _ _ _ _ _ _ _ _ _ _
   | exact ih1 _ _ _ _ _ _ _ _ _ _ _ _ _ _ _
   | exact ih2 _ _ _ _ _ _ _ _ _ _
   | exact ih3 _ _ _ _ _ _ _
   | exact fuseelaw13_sure.mono _
   | exact fuseeref13_Grow.mono _ _ _ _
   | exact fuseeref13_Mid.mono _ _ _
   | exact span_Grow.mono _ _ _ _
   | exact LeO.none _
   | refine LeO.ite ?_ ?_
   | refine LeO.bind ?_ (fun _ => ?_)
  ·intro y0 y1 y2 y3 y4 y5 y6 y7 y8 y9
   unfold fuseelaw13_SpanSteps.j2
   repeat' first
   | (with_reducible exact ih0 _ _ _ _ _ _ _ _ _ _ _ _ _ _ _)
   | (with_reducible exact ih1 _ _ _ _ _ _ _ _ _ _ _ _ _ _ _)
   | (with_reducible exact ih2 _ _ _ _ _ _ _ _ _ _)
   | (with_reducible exact ih3 _ _ _ _ _ _ _)
   | (with_reducible exact fuseelaw13_sure.mono _)
   | (with_reducible exact fuseeref13_Grow.mono _ _ _ _)
   | (with_reducible exact fuseeref13_Mid.mono _ _ _)
   | (with_reducible exact span_Grow.mono _ _ _ _)
   | (with_reducible exact LeO.refl _)
   | (with_reducible exact LeO.none _)
   | (with_reducible refine LeO.ite ?_ ?_)
   | (with_reducible refine LeO.bind ?_ (fun _ => ?_))
   | exact ih0 _ _ _ _ _ _ _ _ _ _ _ _ _ _ _
   | exact ih1 _ _ _ _ _ _ _ _ _ _ _ _ _ _ _
   | exact ih2 _ _ _ _ _ _ _ _ _ _
   | exact ih3 _ _ _ _ _ _ _
   | exact fuseelaw13_sure.mono _
   | exact fuseeref13_Grow.mono _ _ _ _
   | exact fuseeref13_Mid.mono _ _ _
   | exact span_Grow.mono _ _ _ _
   | exact LeO.none _
   | refine LeO.ite ?_ ?_
   | refine LeO.bind ?_ (fun _ => ?_)
  ·intro y0 y1 y2 y3 y4 y5 y6
   unfold fuseelaw13_SpanSteps.j3
   repeat' first
   | (with_reducible exact ih0 _ _ _ _ _ _ _ _ _ _ _ _ _ _ _)
   | (with_reducible exact ih1 _ _ _ _ _ _ _ _ _ _ _ _ _ _ _)
   | (with_reducible exact ih2 _ _ _ _ _ _ _ _ _ _)
   | (with_reducible exact ih3 _ _ _ _ _ _ _)
   | (with_reducible exact fuseelaw13_sure.mono _)
   | (with_reducible exact fuseeref13_Grow.mono _ _ _ _)
   | (with_reducible exact fuseeref13_Mid.mono _ _ _)
   | (with_reducible exact span_Grow.mono _ _ _ _)
   | (with_reducible exact LeO.refl _)
   | (with_reducible exact LeO.none _)
   | (with_reducible refine LeO.ite ?_ ?_)
   | (with_reducible refine LeO.bind ?_ (fun _ => ?_))
   | exact ih0 _ _ _ _ _ _ _ _ _ _ _ _ _ _ _
   | exact ih1 _ _ _ _ _ _ _ _ _ _ _ _ _ _ _
   | exact ih2 _ _ _ _ _ _ _ _ _ _
   | exact ih3 _ _ _ _ _ _ _
   | exact fuseelaw13_sure.mono _
   | exact fuseeref13_Grow.mono _ _ _ _
   | exact fuseeref13_Mid.mono _ _ _
   | exact span_Grow.mono _ _ _ _
   | exact LeO.none _
   | refine LeO.ite ?_ ?_
   | refine LeO.bind ?_ (fun _ => ?_)
theorem fuseelaw13_SpanSteps.mono : ∀ a0 a1 a2 a3 a4 k, LeO (fuseelaw13_SpanSteps.f k a0 a1 a2 a3 a4) (fuseelaw13_SpanSteps.f (k + 1) a0 a1 a2 a3 a4) := by
 intro a0 a1 a2 a3 a4 k
 obtain ⟨ih0, ih1, ih2, ih3⟩ := fuseelaw13_SpanSteps.mono_l k
 unfold fuseelaw13_SpanSteps.f
 repeat' first
   | (with_reducible exact ih0 _ _ _ _ _ _ _ _ _ _ _ _ _ _ _)
   | (with_reducible exact ih1 _ _ _ _ _ _ _ _ _ _ _ _ _ _ _)
   | (with_reducible exact ih2 _ _ _ _ _ _ _ _ _ _)
   | (with_reducible exact ih3 _ _ _ _ _ _ _)
   | (with_reducible exact fuseelaw13_sure.mono _)
   | (with_reducible exact fuseeref13_Grow.mono _ _ _ _)
   | (with_reducible exact fuseeref13_Mid.mono _ _ _)
   | (with_reducible exact span_Grow.mono _ _ _ _)
   | (with_reducible exact LeO.refl _)
   | (with_reducible exact LeO.none _)
   | (with_reducible refine LeO.ite ?_ ?_)
   | (with_reducible refine LeO.bind ?_ (fun _ => ?_))
   | exact ih0 _ _ _ _ _ _ _ _ _ _ _ _ _ _ _
   | exact ih1 _ _ _ _ _ _ _ _ _ _ _ _ _ _ _
   | exact ih2 _ _ _ _ _ _ _ _ _ _
   | exact ih3 _ _ _ _ _ _ _
   | exact fuseelaw13_sure.mono _
   | exact fuseeref13_Grow.mono _ _ _ _
   | exact fuseeref13_Mid.mono _ _ _
   | exact span_Grow.mono _ _ _ _
   | exact LeO.none _
   | refine LeO.ite ?_ ?_
   | refine LeO.bind ?_ (fun _ => ?_)
def fuseelaw13_SpanSteps.T5 : Bool × List (List Nat × List Nat) := (true, [([], []), ([], []), ([0, 1], [0, 1]), ([], []), ([3], [3]), ([], []), ([4, 5], [4, 5]), ([6, 2], [6]), ([7], [7]), ([7], [7]), ([9, 7], [7, 9]), ([8, 10, 7], [7, 8, 10]), ([7, 11], [7, 11]), ([2, 12], [2, 12]), ([13, 7], [13]), ([14], [14]), ([15, 14, 14], [14, 15]), ([16, 14], [14, 16]), ([14], [14]), ([18, 14], [14, 18]), ([14], [14]), ([20, 14], [14, 20]), ([19, 21, 14], [14, 19, 21]), ([17, 22, 14], [14, 17, 22]), ([14, 23], [14, 23])])
def fuseelaw13_SpanSteps.B5 : List Nat := [0, 0, 3, 0, 8, 0, 56, 127, 255, 255, 767, 2047, 4095, 8191, 16383, 32767, 65535, 131071, 32767, 294911, 32767, 1081343, 3964927, 8388607, 16777215]
theorem fuseelaw13_SpanSteps.tab5 : rtab .any (opsOf Tryd.f13 5) = fuseelaw13_SpanSteps.T5 := by kernel_rfl
theorem fuseelaw13_SpanSteps.bits5 : waitsOk fuseelaw13_SpanSteps.T5.2 fuseelaw13_SpanSteps.B5 = true := by kernel_rfl
def fuseelaw13_SpanSteps.T17 : Bool × List (List Nat × List Nat) := (true, [([], []), ([0], [0]), ([1], [1]), ([2], [2]), ([2], [2]), ([2], [2]), ([4, 5, 2, 2], [2, 4, 5]), ([3, 6, 2], [2, 3, 6]), ([2, 7], [2, 7]), ([8, 6], [8]), ([9, 9], [9]), ([9, 10], [9, 10]), ([11, 10, 0, 1, 2, 3, 4, 5, 6, 7, 8, 9, 10, 11], [11])])
def fuseelaw13_SpanSteps.B17 : List Nat := [0, 1, 3, 7, 7, 7, 55, 127, 255, 511, 1023, 2047, 4095]
theorem fuseelaw13_SpanSteps.tab17 : rtab .any (opsOf Tryd.f13 17) = fuseelaw13_SpanSteps.T17 := by kernel_rfl
theorem fuseelaw13_SpanSteps.bits17 : waitsOk fuseelaw13_SpanSteps.T17.2 fuseelaw13_SpanSteps.B17 = true := by kernel_rfl
set_option maxHeartbeats 8000000 in
set_option maxRecDepth 100000 in
theorem fuseelaw13_SpanSteps.calls (k : Nat) (a0_0 : Int) (a0_1 : Int) (a1_0 : Int) (a1_1 : Int) (a2 : Int) (r : Bool) (w : World) (hgL : HG w) (h : fuseelaw13_SpanSteps.f k a0_0 a0_1 a1_0 a1_1 a2 = some r) :
  Calls Tryd.prog 13 #[.agg #[.int .i64 a0_0, .int .i64 a0_1], .agg #[.int .i64 a1_0, .int .i64 a1_1], .int .i64 a2] w fun e w' => e = .returned (.bool r) ∧ Below w.heap.size w w' := by
 have hu73 := Tryd.underlying73
 have hu68 := Tryd.underlying68
 have hu29 := Tryd.underlying29
 have hu115 := Tryd.underlying115
 have HB := qS (Below.refl w.heap.size w)
 have H : ((span_Meet.f a0_0 a0_1 a1_0 a1_1).bind fun bt192 => ((span_Grow.f k a0_0 a0_1 a2).bind fun bt196 => ((span_Mid.f a0_0 a0_1).bind fun bt200 => ((span_Has.f a0_0 a0_1 a2).bind fun t203 => (if a0_0 ≤ a2 then (if (t203 != (decide (a2 ≤ a0_1))) = true then (fuseelaw13_SpanSteps.j0 k a2 bt192.2.2 bt196.2.2 bt200.1 bt200.2.1 bt200.2.2 true a0_0 a0_1 a1_0 a1_1 bt192.1 bt192.2.1 bt196.1 bt196.2.1) else ((span_Check.f a0_0 a0_1).bind fun t204 => (if t204.isNone = true then (fuseelaw13_SpanSteps.j0 k a2 bt192.2.2 bt196.2.2 bt200.1 bt200.2.1 bt200.2.2 (!(decide (a0_0 ≤ a0_1))) a0_0 a0_1 a1_0 a1_1 bt192.1 bt192.2.1 bt196.1 bt196.2.1) else (fuseelaw13_SpanSteps.j0 k a2 bt192.2.2 bt196.2.2 bt200.1 bt200.2.1 bt200.2.2 (decide (a0_0 ≤ a0_1)) a0_0 a0_1 a1_0 a1_1 bt192.1 bt192.2.1 bt196.1 bt196.2.1)))) else (if t203 = true then (fuseelaw13_SpanSteps.j0 k a2 bt192.2.2 bt196.2.2 bt200.1 bt200.2.1 bt200.2.2 true a0_0 a0_1 a1_0 a1_1 bt192.1 bt192.2.1 bt196.1 bt196.2.1) else ((span_Check.f a0_0 a0_1).bind fun t206 => (if t206.isNone = true then (fuseelaw13_SpanSteps.j0 k a2 bt192.2.2 bt196.2.2 bt200.1 bt200.2.1 bt200.2.2 (!(decide (a0_0 ≤ a0_1))) a0_0 a0_1 a1_0 a1_1 bt192.1 bt192.2.1 bt196.1 bt196.2.1) else (fuseelaw13_SpanSteps.j0 k a2 bt192.2.2 bt196.2.2 bt200.1 bt200.2.1 bt200.2.2 (decide (a0_0 ≤ a0_1)) a0_0 a0_1 a1_0 a1_1 bt192.1 bt192.2.1 bt196.1 bt196.2.1))))))))) = some r := h
 clear h
 replace H := Option.bind_eq_some_iff.mp H
 obtain ⟨⟨t192, t193, t194⟩, A40, H⟩ := H
 replace H : ((span_Grow.f k a0_0 a0_1 a2).bind fun bt196 => ((span_Mid.f a0_0 a0_1).bind fun bt200 => ((span_Has.f a0_0 a0_1 a2).bind fun t203 => (if a0_0 ≤ a2 then (if (t203 != (decide (a2 ≤ a0_1))) = true then (fuseelaw13_SpanSteps.j0 k a2 t194 bt196.2.2 bt200.1 bt200.2.1 bt200.2.2 true a0_0 a0_1 a1_0 a1_1 t192 t193 bt196.1 bt196.2.1) else ((span_Check.f a0_0 a0_1).bind fun t204 => (if t204.isNone = true then (fuseelaw13_SpanSteps.j0 k a2 t194 bt196.2.2 bt200.1 bt200.2.1 bt200.2.2 (!(decide (a0_0 ≤ a0_1))) a0_0 a0_1 a1_0 a1_1 t192 t193 bt196.1 bt196.2.1) else (fuseelaw13_SpanSteps.j0 k a2 t194 bt196.2.2 bt200.1 bt200.2.1 bt200.2.2 (decide (a0_0 ≤ a0_1)) a0_0 a0_1 a1_0 a1_1 t192 t193 bt196.1 bt196.2.1)))) else (if t203 = true then (fuseelaw13_SpanSteps.j0 k a2 t194 bt196.2.2 bt200.1 bt200.2.1 bt200.2.2 true a0_0 a0_1 a1_0 a1_1 t192 t193 bt196.1 bt196.2.1) else ((span_Check.f a0_0 a0_1).bind fun t206 => (if t206.isNone = true then (fuseelaw13_SpanSteps.j0 k a2 t194 bt196.2.2 bt200.1 bt200.2.1 bt200.2.2 (!(decide (a0_0 ≤ a0_1))) a0_0 a0_1 a1_0 a1_1 t192 t193 bt196.1 bt196.2.1) else (fuseelaw13_SpanSteps.j0 k a2 t194 bt196.2.2 bt200.1 bt200.2.1 bt200.2.2 (decide (a0_0 ≤ a0_1)) a0_0 a0_1 a1_0 a1_1 t192 t193 bt196.1 bt196.2.1)))))))) = some r := H
 have A4 := qS A40
 clear A40
 replace H := Option.bind_eq_some_iff.mp H
 obtain ⟨⟨t196, t197, t198⟩, A50, H⟩ := H
 replace H : ((span_Mid.f a0_0 a0_1).bind fun bt200 => ((span_Has.f a0_0 a0_1 a2).bind fun t203 => (if a0_0 ≤ a2 then (if (t203 != (decide (a2 ≤ a0_1))) = true then (fuseelaw13_SpanSteps.j0 k a2 t194 t198 bt200.1 bt200.2.1 bt200.2.2 true a0_0 a0_1 a1_0 a1_1 t192 t193 t196 t197) else ((span_Check.f a0_0 a0_1).bind fun t204 => (if t204.isNone = true then (fuseelaw13_SpanSteps.j0 k a2 t194 t198 bt200.1 bt200.2.1 bt200.2.2 (!(decide (a0_0 ≤ a0_1))) a0_0 a0_1 a1_0 a1_1 t192 t193 t196 t197) else (fuseelaw13_SpanSteps.j0 k a2 t194 t198 bt200.1 bt200.2.1 bt200.2.2 (decide (a0_0 ≤ a0_1)) a0_0 a0_1 a1_0 a1_1 t192 t193 t196 t197)))) else (if t203 = true then (fuseelaw13_SpanSteps.j0 k a2 t194 t198 bt200.1 bt200.2.1 bt200.2.2 true a0_0 a0_1 a1_0 a1_1 t192 t193 t196 t197) else ((span_Check.f a0_0 a0_1).bind fun t206 => (if t206.isNone = true then (fuseelaw13_SpanSteps.j0 k a2 t194 t198 bt200.1 bt200.2.1 bt200.2.2 (!(decide (a0_0 ≤ a0_1))) a0_0 a0_1 a1_0 a1_1 t192 t193 t196 t197) else (fuseelaw13_SpanSteps.j0 k a2 t194 t198 bt200.1 bt200.2.1 bt200.2.2 (decide (a0_0 ≤ a0_1)) a0_0 a0_1 a1_0 a1_1 t192 t193 t196 t197))))))) = some r := H
 have A5 := qS A50
 clear A50
 replace H := Option.bind_eq_some_iff.mp H
 obtain ⟨⟨t200, t201, t202⟩, A60, H⟩ := H
 replace H : ((span_Has.f a0_0 a0_1 a2).bind fun t203 => (if a0_0 ≤ a2 then (if (t203 != (decide (a2 ≤ a0_1))) = true then (fuseelaw13_SpanSteps.j0 k a2 t194 t198 t200 t201 t202 true a0_0 a0_1 a1_0 a1_1 t192 t193 t196 t197) else ((span_Check.f a0_0 a0_1).bind fun t204 => (if t204.isNone = true then (fuseelaw13_SpanSteps.j0 k a2 t194 t198 t200 t201 t202 (!(decide (a0_0 ≤ a0_1))) a0_0 a0_1 a1_0 a1_1 t192 t193 t196 t197) else (fuseelaw13_SpanSteps.j0 k a2 t194 t198 t200 t201 t202 (decide (a0_0 ≤ a0_1)) a0_0 a0_1 a1_0 a1_1 t192 t193 t196 t197)))) else (if t203 = true then (fuseelaw13_SpanSteps.j0 k a2 t194 t198 t200 t201 t202 true a0_0 a0_1 a1_0 a1_1 t192 t193 t196 t197) else ((span_Check.f a0_0 a0_1).bind fun t206 => (if t206.isNone = true then (fuseelaw13_SpanSteps.j0 k a2 t194 t198 t200 t201 t202 (!(decide (a0_0 ≤ a0_1))) a0_0 a0_1 a1_0 a1_1 t192 t193 t196 t197) else (fuseelaw13_SpanSteps.j0 k a2 t194 t198 t200 t201 t202 (decide (a0_0 ≤ a0_1)) a0_0 a0_1 a1_0 a1_1 t192 t193 t196 t197)))))) = some r := H
 have A6 := qS A60
 clear A60
 have HC7 := qS H
 clear H
 go_enter Tryd.func13, Tryd.ntmps13
 try go_wp2_with (first | ((with_reducible refine gate_dst (N := 3) rfl ?_); (try (refine gate_guard (by rfl) ?_; dsimp only)); refine box_event ?hg (N := 3) ?hd (cs := #[.int .i64 a0_0, .int .i64 a0_1]) (t := 73) ?hr ?_; (case hd => rfl); (case hg => rfl); (case hr => first | (go_simp; done) | (go_simp; rfl)); intro gb188 hg w8 hbox hb; have n0_ := qS (below_step (by repeat (first | (with_reducible first | exact HB.out | apply qpA | apply qpN | apply qp1) | exact HB.out)) hb); have n1_ := qS (hbox); have n2_ := qS ((by rw [hg]; exact (below_size (by repeat (first | (with_reducible first | exact HB.out | apply qpA | apply qpN | apply qp1) | exact HB.out))) : w.heap.size ≤ gb188)); have n3_ := qS ((by rw [hg]; exact (below_size (by repeat (first | (with_reducible first | exact HB.out | apply qpA | apply qpN | apply qp1) | exact HB.out))) : w.heap.size ≤ gb188)); clear HB; have HB := n0_; have BK188 := n1_; have GW188 := n2_; have GE188 := n3_; clear n0_ n1_ n2_ n3_; clear hb hbox hg) | ((with_reducible refine gate_dst (N := 4) rfl ?_); (try (refine gate_guard (by rfl) ?_; dsimp only)); refine box_event ?hg (N := 4) ?hd (cs := #[.int .i64 a1_0, .int .i64 a1_1]) (t := 73) ?hr ?_; (case hd => rfl); (case hg => rfl); (case hr => first | (go_simp; done) | (go_simp; rfl)); intro gb189 hg w9 hbox hb; have n0_ := qS (qB (g := gb188) (o := .cells #[.int .i64 a0_0, .int .i64 a0_1] 73 (0, 0)) (by (with_reducible repeat (first | refine qN ?_ _ | refine qD ?_ | refine qA ?_ _)); exact BK188.out) hb); have n1_ := qS (below_step (by repeat (first | (with_reducible first | exact HB.out | apply qpA | apply qpN | apply qp1 | refine qpS ?_ GE188.out) | exact HB.out)) hb); have n2_ := qS (hbox); have n3_ := qS ((by rw [hg]; exact (below_size (by repeat (first | (with_reducible first | exact HB.out | apply qpA | apply qpN | apply qp1 | refine qpS ?_ GE188.out) | exact HB.out))) : w.heap.size ≤ gb189)); have n4_ := qS ((by rw [hg]; exact (below_size (by repeat (first | (with_reducible first | exact HB.out | apply qpA | apply qpN | apply qp1 | refine qpS ?_ GE188.out) | exact HB.out))) : w.heap.size ≤ gb189)); have n5_ := qS ((by rw [hg]; exact Nat.ne_of_lt (blk_lt (g := gb188) (o := .cells #[.int .i64 a0_0, .int .i64 a0_1] 73 (0, 0)) (by (with_reducible repeat (first | refine qN ?_ _ | refine qD ?_ | refine qA ?_ _)); exact BK188.out)) : gb188 ≠ gb189)); have n6_ := qS ((by rw [hg]; exact Nat.ne_of_gt (blk_lt (g := gb188) (o := .cells #[.int .i64 a0_0, .int .i64 a0_1] 73 (0, 0)) (by (with_reducible repeat (first | refine qN ?_ _ | refine qD ?_ | refine qA ?_ _)); exact BK188.out)) : gb189 ≠ gb188)); clear BK188; clear HB; have BK188 := n0_; have HB := n1_; have BK189 := n2_; have GW189 := n3_; have GE189 := n4_; have NB188_189 := n5_; have NB189_188 := n6_; clear n0_ n1_ n2_ n3_ n4_ n5_ n6_; clear hb hbox hg))
 have n0_ := qS (qD BK188.out)
 have n1_ := qS (qD BK189.out)
 have n2_ := qS (qp1 HB.out)
 clear BK188
 clear BK189
 clear HB
 have BK188 := n0_
 have BK189 := n1_
 have HB := n2_
 clear n0_ n1_ n2_
 refine start_ (n := 6) (S := fun w' => w'.cell? ⟨gb188, 0, none⟩ = some (.int .i64 a0_0) ∧ w'.cell? ⟨gb188, 1, none⟩ = some (.int .i64 a0_1) ∧ w'.cell? ⟨gb189, 0, none⟩ = some (.int .i64 a1_0) ∧ w'.cell? ⟨gb189, 1, none⟩ = some (.int .i64 a1_1)) (ds := []) #[false, false, false, false, false, false] (by kernel_rfl) rfl rfl ⟨(qC BK188.out 0).trans rfl, (qC BK188.out 1).trans rfl, (qC BK189.out 0).trans rfl, (qC BK189.out 1).trans rfl⟩ (fun hHeld => ?_)
 generalize w9.drew = w10 at BK188 BK189 HB hHeld ⊢
 refine take_ (i := 0) (N := some 19) (v := ?_) (a' := ?_) #[true, false, false, false, false, false] rfl rfl (by kernel_rfl) (fun _ _ _ h => h) (Or.inl ⟨by rfl, ?_⟩) hHeld ?_ ?_
 rotate_left
 ·rintro w' ⟨s0, s1, s2, s3⟩
  go_simp
  with_reducible rfl
 rotate_left
 ·simp only [Act.put, List.setIfInBounds_toArray, List.set_cons_zero, List.set_cons_succ, i64_w, i32_w]
  rfl
 refine take_ (i := 1) (N := some 20) (v := ?_) (a' := ?_) #[true, true, false, false, false, false] rfl rfl (by kernel_rfl) (fun _ _ _ h => h) (Or.inl ⟨by rfl, ?_⟩) hHeld ?_ ?_
 rotate_left
 ·rintro w' ⟨s0, s1, s2, s3⟩
  go_simp
  with_reducible rfl
 rotate_left
 ·simp only [Act.put, List.setIfInBounds_toArray, List.set_cons_zero, List.set_cons_succ, i64_w, i32_w]
  rfl
 refine join_ (σ := Nat × Nat) 2 #[true, true, true, true, false, false] (fun s_ => [(7, .pointer (some ⟨s_.1, 0, none⟩)), (8, .pointer (some ⟨s_.2, 0, none⟩))]) (fun s_ w' => (w'.cell? ⟨gb188, 0, none⟩ = some (.int .i64 a0_0) ∧ w'.cell? ⟨gb188, 1, none⟩ = some (.int .i64 a0_1) ∧ w'.cell? ⟨gb189, 0, none⟩ = some (.int .i64 a1_0) ∧ w'.cell? ⟨gb189, 1, none⟩ = some (.int .i64 a1_1)) ∧ (w'.heap[gb188]? = some (.cells #[.int .i64 a0_0, .int .i64 a0_1] 73 (0, 0))) ∧ (w'.heap[gb189]? = some (.cells #[.int .i64 a1_0, .int .i64 a1_1] 73 (0, 0))) ∧ (w'.heap[s_.1]? = some (.cells #[.int .i64 0, .int .i64 0] 68 (0, 0))) ∧ (w'.heap[s_.2]? = some (.cells #[.int .i64 0, .int .i64 0] 68 (0, 0))) ∧ (w.heap.size ≤ s_.1) ∧ (w.heap.size ≤ s_.1) ∧ (gb188 ≠ s_.1) ∧ (s_.1 ≠ gb188) ∧ (gb189 ≠ s_.1) ∧ (s_.1 ≠ gb189) ∧ (s_.2 ≠ s_.1) ∧ (s_.1 ≠ s_.2) ∧ (w.heap.size ≤ s_.2) ∧ (w.heap.size ≤ s_.2) ∧ (gb188 ≠ s_.2) ∧ (s_.2 ≠ gb188) ∧ (gb189 ≠ s_.2) ∧ (s_.2 ≠ gb189) ∧ (Below w.heap.size w w')) ?_ ?_
 rotate_left
 ·intro hCont
  refine two_ (i := 2) (j := 3) (Ni := some 7) (Nj := some 8) #[true, true, true, false, false, false] #[true, true, false, true, false, false] rfl rfl rfl rfl (by kernel_rfl) (by decide) (by decide) (fun K hK => ?_) (fun K hK => ?_)
  ·skip
   refine box_step ?hg (N := 7) ?hd (cs := #[.int .i64 0, .int .i64 0]) (t := 68) ?hr ?_; (case hd => rfl); (case hg => rfl); (case hr => first | (go_simp; done) | (go_simp; rfl))
   intro gb190 hg w11 hbox hb
   have n0_ := qS (qB (g := gb188) (o := .cells #[.int .i64 a0_0, .int .i64 a0_1] 73 (0, 0)) (by (with_reducible repeat (first | refine qN ?_ _ | refine qD ?_ | refine qA ?_ _)); exact BK188.out) hb)
   have n1_ := qS (qB (g := gb189) (o := .cells #[.int .i64 a1_0, .int .i64 a1_1] 73 (0, 0)) (by (with_reducible repeat (first | refine qN ?_ _ | refine qD ?_ | refine qA ?_ _)); exact BK189.out) hb)
   have n2_ := qS (below_step (by repeat (first | (with_reducible first | exact HB.out | apply qpA | apply qpN | apply qp1 | refine qpS ?_ GE188.out | refine qpS ?_ GE189.out) | exact HB.out)) hb)
   have n3_ := qS (hbox)
   have n4_ := qS ((by rw [hg]; exact (below_size (by repeat (first | (with_reducible first | exact HB.out | apply qpA | apply qpN | apply qp1 | refine qpS ?_ GE188.out | refine qpS ?_ GE189.out) | exact HB.out))) : w.heap.size ≤ gb190))
   have n5_ := qS ((by rw [hg]; exact (below_size (by repeat (first | (with_reducible first | exact HB.out | apply qpA | apply qpN | apply qp1 | refine qpS ?_ GE188.out | refine qpS ?_ GE189.out) | exact HB.out))) : w.heap.size ≤ gb190))
   have n6_ := qS ((by rw [hg]; exact Nat.ne_of_lt (blk_lt (g := gb188) (o := .cells #[.int .i64 a0_0, .int .i64 a0_1] 73 (0, 0)) (by (with_reducible repeat (first | refine qN ?_ _ | refine qD ?_ | refine qA ?_ _)); exact BK188.out)) : gb188 ≠ gb190))
   have n7_ := qS ((by rw [hg]; exact Nat.ne_of_gt (blk_lt (g := gb188) (o := .cells #[.int .i64 a0_0, .int .i64 a0_1] 73 (0, 0)) (by (with_reducible repeat (first | refine qN ?_ _ | refine qD ?_ | refine qA ?_ _)); exact BK188.out)) : gb190 ≠ gb188))
   have n8_ := qS ((by rw [hg]; exact Nat.ne_of_lt (blk_lt (g := gb189) (o := .cells #[.int .i64 a1_0, .int .i64 a1_1] 73 (0, 0)) (by (with_reducible repeat (first | refine qN ?_ _ | refine qD ?_ | refine qA ?_ _)); exact BK189.out)) : gb189 ≠ gb190))
   have n9_ := qS ((by rw [hg]; exact Nat.ne_of_gt (blk_lt (g := gb189) (o := .cells #[.int .i64 a1_0, .int .i64 a1_1] 73 (0, 0)) (by (with_reducible repeat (first | refine qN ?_ _ | refine qD ?_ | refine qA ?_ _)); exact BK189.out)) : gb190 ≠ gb189))
   clear BK188
   clear BK189
   clear HB
   have BK188 := n0_
   have BK189 := n1_
   have HB := n2_
   have BK190 := n3_
   have GW190 := n4_
   have GE190 := n5_
   have NB188_190 := n6_
   have NB190_188 := n7_
   have NB189_190 := n8_
   have NB190_189 := n9_
   clear n0_ n1_ n2_ n3_ n4_ n5_ n6_ n7_ n8_ n9_
   clear hb hbox hg
   refine hK.out _ _ ⟨(qC BK188.out 0).trans rfl, (qC BK188.out 1).trans rfl, (qC BK189.out 0).trans rfl, (qC BK189.out 1).trans rfl⟩ (fun hHeld => ?_)
   clear hK K
   refine norm_ (a' := ?_) ?_ ?_
   rotate_left
   ·show Act.put _ (some 7) _ = _
    simp only [Act.put, List.setIfInBounds_toArray, List.set_cons_zero, List.set_cons_succ, i64_w, i32_w]
    rfl
   refine one_ (i := 3) (N := some 8) #[true, true, true, true, false, false] rfl rfl (by kernel_rfl) (by decide) (fun K hK => ?_)
   refine box_step ?hg (N := 8) ?hd (cs := #[.int .i64 0, .int .i64 0]) (t := 68) ?hr ?_; (case hd => rfl); (case hg => rfl); (case hr => first | (go_simp; done) | (go_simp; rfl))
   intro gb191 hg w12 hbox hb
   have n0_ := qS (qB (g := gb188) (o := .cells #[.int .i64 a0_0, .int .i64 a0_1] 73 (0, 0)) (by (with_reducible repeat (first | refine qN ?_ _ | refine qD ?_ | refine qA ?_ _)); exact BK188.out) hb)
   have n1_ := qS (qB (g := gb189) (o := .cells #[.int .i64 a1_0, .int .i64 a1_1] 73 (0, 0)) (by (with_reducible repeat (first | refine qN ?_ _ | refine qD ?_ | refine qA ?_ _)); exact BK189.out) hb)
   have n2_ := qS (qB (g := gb190) (o := .cells #[.int .i64 0, .int .i64 0] 68 (0, 0)) (by (with_reducible repeat (first | refine qN ?_ _ | refine qD ?_ | refine qA ?_ _)); exact BK190.out) hb)
   have n3_ := qS (below_step (by repeat (first | (with_reducible first | exact HB.out | apply qpA | apply qpN | apply qp1 | refine qpS ?_ GE188.out | refine qpS ?_ GE189.out | refine qpS ?_ GE190.out) | exact HB.out)) hb)
   have n4_ := qS (hbox)
   have n5_ := qS ((by rw [hg]; exact (below_size (by repeat (first | (with_reducible first | exact HB.out | apply qpA | apply qpN | apply qp1 | refine qpS ?_ GE188.out | refine qpS ?_ GE189.out | refine qpS ?_ GE190.out) | exact HB.out))) : w.heap.size ≤ gb191))
   have n6_ := qS ((by rw [hg]; exact (below_size (by repeat (first | (with_reducible first | exact HB.out | apply qpA | apply qpN | apply qp1 | refine qpS ?_ GE188.out | refine qpS ?_ GE189.out | refine qpS ?_ GE190.out) | exact HB.out))) : w.heap.size ≤ gb191))
   have n7_ := qS ((by rw [hg]; exact Nat.ne_of_lt (blk_lt (g := gb188) (o := .cells #[.int .i64 a0_0, .int .i64 a0_1] 73 (0, 0)) (by (with_reducible repeat (first | refine qN ?_ _ | refine qD ?_ | refine qA ?_ _)); exact BK188.out)) : gb188 ≠ gb191))
   have n8_ := qS ((by rw [hg]; exact Nat.ne_of_gt (blk_lt (g := gb188) (o := .cells #[.int .i64 a0_0, .int .i64 a0_1] 73 (0, 0)) (by (with_reducible repeat (first | refine qN ?_ _ | refine qD ?_ | refine qA ?_ _)); exact BK188.out)) : gb191 ≠ gb188))
   have n9_ := qS ((by rw [hg]; exact Nat.ne_of_lt (blk_lt (g := gb189) (o := .cells #[.int .i64 a1_0, .int .i64 a1_1] 73 (0, 0)) (by (with_reducible repeat (first | refine qN ?_ _ | refine qD ?_ | refine qA ?_ _)); exact BK189.out)) : gb189 ≠ gb191))
   have n10_ := qS ((by rw [hg]; exact Nat.ne_of_gt (blk_lt (g := gb189) (o := .cells #[.int .i64 a1_0, .int .i64 a1_1] 73 (0, 0)) (by (with_reducible repeat (first | refine qN ?_ _ | refine qD ?_ | refine qA ?_ _)); exact BK189.out)) : gb191 ≠ gb189))
   have n11_ := qS ((by rw [hg]; exact Nat.ne_of_lt (blk_lt (g := gb190) (o := .cells #[.int .i64 0, .int .i64 0] 68 (0, 0)) (by (with_reducible repeat (first | refine qN ?_ _ | refine qD ?_ | refine qA ?_ _)); exact BK190.out)) : gb190 ≠ gb191))
   have n12_ := qS ((by rw [hg]; exact Nat.ne_of_gt (blk_lt (g := gb190) (o := .cells #[.int .i64 0, .int .i64 0] 68 (0, 0)) (by (with_reducible repeat (first | refine qN ?_ _ | refine qD ?_ | refine qA ?_ _)); exact BK190.out)) : gb191 ≠ gb190))
   clear BK188
   clear BK189
   clear BK190
   clear HB
   have BK188 := n0_
   have BK189 := n1_
   have BK190 := n2_
   have HB := n3_
   have BK191 := n4_
   have GW191 := n5_
   have GE191 := n6_
   have NB188_191 := n7_
   have NB191_188 := n8_
   have NB189_191 := n9_
   have NB191_189 := n10_
   have NB190_191 := n11_
   have NB191_190 := n12_
   clear n0_ n1_ n2_ n3_ n4_ n5_ n6_ n7_ n8_ n9_ n10_ n11_ n12_
   clear hb hbox hg
   refine hK.out _ _ ⟨(qC BK188.out 0).trans rfl, (qC BK188.out 1).trans rfl, (qC BK189.out 0).trans rfl, (qC BK189.out 1).trans rfl⟩ (fun hHeld => ?_)
   clear hK K
   refine norm_ (a' := ?_) ?_ ?_
   rotate_left
   ·show Act.put _ (some 8) _ = _
    simp only [Act.put, List.setIfInBounds_toArray, List.set_cons_zero, List.set_cons_succ, i64_w, i32_w]
    rfl
   exact norm_ (by simp only [putAll, Act.put, List.setIfInBounds_toArray, List.set_cons_zero, List.set_cons_succ]) (hCont (gb190, gb191) _ ⟨hHeld, (by (with_reducible repeat (first | refine qN ?_ _ | refine qD ?_ | refine qA ?_ _)); exact BK188.out), (by (with_reducible repeat (first | refine qN ?_ _ | refine qD ?_ | refine qA ?_ _)); exact BK189.out), (by (with_reducible repeat (first | refine qN ?_ _ | refine qD ?_ | refine qA ?_ _)); exact BK190.out), (by (with_reducible repeat (first | refine qN ?_ _ | refine qD ?_ | refine qA ?_ _)); exact BK191.out), GW190.out, GE190.out, NB188_190.out, NB190_188.out, NB189_190.out, NB190_189.out, NB191_190.out, NB190_191.out, GW191.out, GE191.out, NB188_191.out, NB191_188.out, NB189_191.out, NB191_189.out, (by repeat (first | (with_reducible first | exact HB.out | apply qpA | apply qpN | apply qp1 | refine qpS ?_ GE188.out | refine qpS ?_ GE189.out | refine qpS ?_ GE190.out | refine qpS ?_ GE191.out) | exact HB.out))⟩)
  ·skip
   refine box_step ?hg (N := 8) ?hd (cs := #[.int .i64 0, .int .i64 0]) (t := 68) ?hr ?_; (case hd => rfl); (case hg => rfl); (case hr => first | (go_simp; done) | (go_simp; rfl))
   intro gb191 hg w11 hbox hb
   have n0_ := qS (qB (g := gb188) (o := .cells #[.int .i64 a0_0, .int .i64 a0_1] 73 (0, 0)) (by (with_reducible repeat (first | refine qN ?_ _ | refine qD ?_ | refine qA ?_ _)); exact BK188.out) hb)
   have n1_ := qS (qB (g := gb189) (o := .cells #[.int .i64 a1_0, .int .i64 a1_1] 73 (0, 0)) (by (with_reducible repeat (first | refine qN ?_ _ | refine qD ?_ | refine qA ?_ _)); exact BK189.out) hb)
   have n2_ := qS (below_step (by repeat (first | (with_reducible first | exact HB.out | apply qpA | apply qpN | apply qp1 | refine qpS ?_ GE188.out | refine qpS ?_ GE189.out) | exact HB.out)) hb)
   have n3_ := qS (hbox)
   have n4_ := qS ((by rw [hg]; exact (below_size (by repeat (first | (with_reducible first | exact HB.out | apply qpA | apply qpN | apply qp1 | refine qpS ?_ GE188.out | refine qpS ?_ GE189.out) | exact HB.out))) : w.heap.size ≤ gb191))
   have n5_ := qS ((by rw [hg]; exact (below_size (by repeat (first | (with_reducible first | exact HB.out | apply qpA | apply qpN | apply qp1 | refine qpS ?_ GE188.out | refine qpS ?_ GE189.out) | exact HB.out))) : w.heap.size ≤ gb191))
   have n6_ := qS ((by rw [hg]; exact Nat.ne_of_lt (blk_lt (g := gb188) (o := .cells #[.int .i64 a0_0, .int .i64 a0_1] 73 (0, 0)) (by (with_reducible repeat (first | refine qN ?_ _ | refine qD ?_ | refine qA ?_ _)); exact BK188.out)) : gb188 ≠ gb191))
   have n7_ := qS ((by rw [hg]; exact Nat.ne_of_gt (blk_lt (g := gb188) (o := .cells #[.int .i64 a0_0, .int .i64 a0_1] 73 (0, 0)) (by (with_reducible repeat (first | refine qN ?_ _ | refine qD ?_ | refine qA ?_ _)); exact BK188.out)) : gb191 ≠ gb188))
   have n8_ := qS ((by rw [hg]; exact Nat.ne_of_lt (blk_lt (g := gb189) (o := .cells #[.int .i64 a1_0, .int .i64 a1_1] 73 (0, 0)) (by (with_reducible repeat (first | refine qN ?_ _ | refine qD ?_ | refine qA ?_ _)); exact BK189.out)) : gb189 ≠ gb191))
   have n9_ := qS ((by rw [hg]; exact Nat.ne_of_gt (blk_lt (g := gb189) (o := .cells #[.int .i64 a1_0, .int .i64 a1_1] 73 (0, 0)) (by (with_reducible repeat (first | refine qN ?_ _ | refine qD ?_ | refine qA ?_ _)); exact BK189.out)) : gb191 ≠ gb189))
   clear BK188
   clear BK189
   clear HB
   have BK188 := n0_
   have BK189 := n1_
   have HB := n2_
   have BK191 := n3_
   have GW191 := n4_
   have GE191 := n5_
   have NB188_191 := n6_
   have NB191_188 := n7_
   have NB189_191 := n8_
   have NB191_189 := n9_
   clear n0_ n1_ n2_ n3_ n4_ n5_ n6_ n7_ n8_ n9_
   clear hb hbox hg
   refine hK.out _ _ ⟨(qC BK188.out 0).trans rfl, (qC BK188.out 1).trans rfl, (qC BK189.out 0).trans rfl, (qC BK189.out 1).trans rfl⟩ (fun hHeld => ?_)
   clear hK K
   refine norm_ (a' := ?_) ?_ ?_
   rotate_left
   ·show Act.put _ (some 8) _ = _
    simp only [Act.put, List.setIfInBounds_toArray, List.set_cons_zero, List.set_cons_succ, i64_w, i32_w]
    rfl
   refine one_ (i := 2) (N := some 7) #[true, true, true, true, false, false] rfl rfl (by kernel_rfl) (by decide) (fun K hK => ?_)
   refine box_step ?hg (N := 7) ?hd (cs := #[.int .i64 0, .int .i64 0]) (t := 68) ?hr ?_; (case hd => rfl); (case hg => rfl); (case hr => first | (go_simp; done) | (go_simp; rfl))
   intro gb190 hg w12 hbox hb
   have n0_ := qS (qB (g := gb188) (o := .cells #[.int .i64 a0_0, .int .i64 a0_1] 73 (0, 0)) (by (with_reducible repeat (first | refine qN ?_ _ | refine qD ?_ | refine qA ?_ _)); exact BK188.out) hb)
   have n1_ := qS (qB (g := gb189) (o := .cells #[.int .i64 a1_0, .int .i64 a1_1] 73 (0, 0)) (by (with_reducible repeat (first | refine qN ?_ _ | refine qD ?_ | refine qA ?_ _)); exact BK189.out) hb)
   have n2_ := qS (qB (g := gb191) (o := .cells #[.int .i64 0, .int .i64 0] 68 (0, 0)) (by (with_reducible repeat (first | refine qN ?_ _ | refine qD ?_ | refine qA ?_ _)); exact BK191.out) hb)
   have n3_ := qS (below_step (by repeat (first | (with_reducible first | exact HB.out | apply qpA | apply qpN | apply qp1 | refine qpS ?_ GE188.out | refine qpS ?_ GE189.out | refine qpS ?_ GE191.out) | exact HB.out)) hb)
   have n4_ := qS (hbox)
   have n5_ := qS ((by rw [hg]; exact (below_size (by repeat (first | (with_reducible first | exact HB.out | apply qpA | apply qpN | apply qp1 | refine qpS ?_ GE188.out | refine qpS ?_ GE189.out | refine qpS ?_ GE191.out) | exact HB.out))) : w.heap.size ≤ gb190))
   have n6_ := qS ((by rw [hg]; exact (below_size (by repeat (first | (with_reducible first | exact HB.out | apply qpA | apply qpN | apply qp1 | refine qpS ?_ GE188.out | refine qpS ?_ GE189.out | refine qpS ?_ GE191.out) | exact HB.out))) : w.heap.size ≤ gb190))
   have n7_ := qS ((by rw [hg]; exact Nat.ne_of_lt (blk_lt (g := gb188) (o := .cells #[.int .i64 a0_0, .int .i64 a0_1] 73 (0, 0)) (by (with_reducible repeat (first | refine qN ?_ _ | refine qD ?_ | refine qA ?_ _)); exact BK188.out)) : gb188 ≠ gb190))
   have n8_ := qS ((by rw [hg]; exact Nat.ne_of_gt (blk_lt (g := gb188) (o := .cells #[.int .i64 a0_0, .int .i64 a0_1] 73 (0, 0)) (by (with_reducible repeat (first | refine qN ?_ _ | refine qD ?_ | refine qA ?_ _)); exact BK188.out)) : gb190 ≠ gb188))
   have n9_ := qS ((by rw [hg]; exact Nat.ne_of_lt (blk_lt (g := gb189) (o := .cells #[.int .i64 a1_0, .int .i64 a1_1] 73 (0, 0)) (by (with_reducible repeat (first | refine qN ?_ _ | refine qD ?_ | refine qA ?_ _)); exact BK189.out)) : gb189 ≠ gb190))
   have n10_ := qS ((by rw [hg]; exact Nat.ne_of_gt (blk_lt (g := gb189) (o := .cells #[.int .i64 a1_0, .int .i64 a1_1] 73 (0, 0)) (by (with_reducible repeat (first | refine qN ?_ _ | refine qD ?_ | refine qA ?_ _)); exact BK189.out)) : gb190 ≠ gb189))
   have n11_ := qS ((by rw [hg]; exact Nat.ne_of_lt (blk_lt (g := gb191) (o := .cells #[.int .i64 0, .int .i64 0] 68 (0, 0)) (by (with_reducible repeat (first | refine qN ?_ _ | refine qD ?_ | refine qA ?_ _)); exact BK191.out)) : gb191 ≠ gb190))
   have n12_ := qS ((by rw [hg]; exact Nat.ne_of_gt (blk_lt (g := gb191) (o := .cells #[.int .i64 0, .int .i64 0] 68 (0, 0)) (by (with_reducible repeat (first | refine qN ?_ _ | refine qD ?_ | refine qA ?_ _)); exact BK191.out)) : gb190 ≠ gb191))
   clear BK188
   clear BK189
   clear BK191
   clear HB
   have BK188 := n0_
   have BK189 := n1_
   have BK191 := n2_
   have HB := n3_
   have BK190 := n4_
   have GW190 := n5_
   have GE190 := n6_
   have NB188_190 := n7_
   have NB190_188 := n8_
   have NB189_190 := n9_
   have NB190_189 := n10_
   have NB191_190 := n11_
   have NB190_191 := n12_
   clear n0_ n1_ n2_ n3_ n4_ n5_ n6_ n7_ n8_ n9_ n10_ n11_ n12_
   clear hb hbox hg
   refine hK.out _ _ ⟨(qC BK188.out 0).trans rfl, (qC BK188.out 1).trans rfl, (qC BK189.out 0).trans rfl, (qC BK189.out 1).trans rfl⟩ (fun hHeld => ?_)
   clear hK K
   refine norm_ (a' := ?_) ?_ ?_
   rotate_left
   ·show Act.put _ (some 7) _ = _
    simp only [Act.put, List.setIfInBounds_toArray, List.set_cons_zero, List.set_cons_succ, i64_w, i32_w]
    rfl
   exact norm_ (by simp only [putAll, Act.put, List.setIfInBounds_toArray, List.set_cons_zero, List.set_cons_succ]) (hCont (gb190, gb191) _ ⟨hHeld, (by (with_reducible repeat (first | refine qN ?_ _ | refine qD ?_ | refine qA ?_ _)); exact BK188.out), (by (with_reducible repeat (first | refine qN ?_ _ | refine qD ?_ | refine qA ?_ _)); exact BK189.out), (by (with_reducible repeat (first | refine qN ?_ _ | refine qD ?_ | refine qA ?_ _)); exact BK190.out), (by (with_reducible repeat (first | refine qN ?_ _ | refine qD ?_ | refine qA ?_ _)); exact BK191.out), GW190.out, GE190.out, NB188_190.out, NB190_188.out, NB189_190.out, NB190_189.out, NB191_190.out, NB190_191.out, GW191.out, GE191.out, NB188_191.out, NB191_188.out, NB189_191.out, NB191_189.out, (by repeat (first | (with_reducible first | exact HB.out | apply qpA | apply qpN | apply qp1 | refine qpS ?_ GE188.out | refine qpS ?_ GE189.out | refine qpS ?_ GE191.out | refine qpS ?_ GE190.out) | exact HB.out))⟩)
 rintro ⟨gb190, gb191⟩ w13 ⟨hS_, h0_, h1_, h2_, h3_, h4_, h5_, h6_, h7_, h8_, h9_, h10_, h11_, h12_, h13_, h14_, h15_, h16_, h17_, h18_⟩
 have n0_ : Aside0 (w13.heap[gb188]? = some (.cells #[.int .i64 a0_0, .int .i64 a0_1] 73 (0, 0))) := ⟨h0_⟩
 have n1_ : Aside0 (w13.heap[gb189]? = some (.cells #[.int .i64 a1_0, .int .i64 a1_1] 73 (0, 0))) := ⟨h1_⟩
 have n2_ : Aside0 (w13.heap[gb190]? = some (.cells #[.int .i64 0, .int .i64 0] 68 (0, 0))) := ⟨h2_⟩
 have n3_ : Aside0 (w13.heap[gb191]? = some (.cells #[.int .i64 0, .int .i64 0] 68 (0, 0))) := ⟨h3_⟩
 have n4_ : Aside0 (w.heap.size ≤ gb190) := ⟨h4_⟩
 have n5_ : Aside0 (w.heap.size ≤ gb190) := ⟨h5_⟩
 have n6_ : Aside0 (gb188 ≠ gb190) := ⟨h6_⟩
 have n7_ : Aside0 (gb190 ≠ gb188) := ⟨h7_⟩
 have n8_ : Aside0 (gb189 ≠ gb190) := ⟨h8_⟩
 have n9_ : Aside0 (gb190 ≠ gb189) := ⟨h9_⟩
 have n10_ : Aside0 (gb191 ≠ gb190) := ⟨h10_⟩
 have n11_ : Aside0 (gb190 ≠ gb191) := ⟨h11_⟩
 have n12_ : Aside0 (w.heap.size ≤ gb191) := ⟨h12_⟩
 have n13_ : Aside0 (w.heap.size ≤ gb191) := ⟨h13_⟩
 have n14_ : Aside0 (gb188 ≠ gb191) := ⟨h14_⟩
 have n15_ : Aside0 (gb191 ≠ gb188) := ⟨h15_⟩
 have n16_ : Aside0 (gb189 ≠ gb191) := ⟨h16_⟩
 have n17_ : Aside0 (gb191 ≠ gb189) := ⟨h17_⟩
 have n18_ : Aside0 (Below w.heap.size w w13) := ⟨h18_⟩
 clear BK188
 clear BK189
 clear HB
 clear h0_ h1_ h2_ h3_ h4_ h5_ h6_ h7_ h8_ h9_ h10_ h11_ h12_ h13_ h14_ h15_ h16_ h17_ h18_
 have BK188 := n0_
 have BK189 := n1_
 have BK190 := n2_
 have BK191 := n3_
 have GW190 := n4_
 have GE190 := n5_
 have NB188_190 := n6_
 have NB190_188 := n7_
 have NB189_190 := n8_
 have NB190_189 := n9_
 have NB191_190 := n10_
 have NB190_191 := n11_
 have GW191 := n12_
 have GE191 := n13_
 have NB188_191 := n14_
 have NB191_188 := n15_
 have NB189_191 := n16_
 have NB191_189 := n17_
 have HB := n18_
 clear n0_ n1_ n2_ n3_ n4_ n5_ n6_ n7_ n8_ n9_ n10_ n11_ n12_ n13_ n14_ n15_ n16_ n17_ n18_
 have hHeld : w13.cell? ⟨gb188, 0, none⟩ = some (.int .i64 a0_0) ∧ w13.cell? ⟨gb188, 1, none⟩ = some (.int .i64 a0_1) ∧ w13.cell? ⟨gb189, 0, none⟩ = some (.int .i64 a1_0) ∧ w13.cell? ⟨gb189, 1, none⟩ = some (.int .i64 a1_1) := hS_
 refine norm_ (a' := ?_) ?_ ?_
 rotate_left
 ·simp only [putAll, Act.put, List.setIfInBounds_toArray, List.set_cons_zero, List.set_cons_succ]
  rfl
 refine one_ (i := 4) (N := none) #[true, true, true, true, true, false] rfl rfl (by kernel_rfl) (by decide) (fun K hK => ?_)
 have hs14 : w13.cell? ⟨gb190, 0, none⟩ = some (.int .i64 0) := (qC BK190.out 0).trans rfl
 have hfs14 := qF BK190.out 0
 have hns14_0 := NB188_190.out
 have hns14_1 := NB189_190.out
 have hns14_3 := NB191_190.out
 have hms14_0 := NB190_188.out
 have hms14_1 := NB190_189.out
 have hms14_3 := NB190_191.out
 have hs15 : w13.cell? ⟨gb190, 1, none⟩ = some (.int .i64 0) := (qC BK190.out 1).trans rfl
 have hfs15 := qF BK190.out 1
 have hns15_0 := NB188_190.out
 have hns15_1 := NB189_190.out
 have hns15_3 := NB191_190.out
 have hms15_0 := NB190_188.out
 have hms15_1 := NB190_189.out
 have hms15_3 := NB190_191.out
 refine skip_ (w1 := ?_) (by rfl) rfl ?_ ?_
 rotate_left
 ·go_simp
  rfl
 refine hK.out _ _ ⟨((cell_far (p := ⟨gb190, _, none⟩) NB188_190.out _).trans (((cell_far (p := ⟨gb190, _, none⟩) NB188_190.out _).trans (hHeld.1)))), ((cell_far (p := ⟨gb190, _, none⟩) NB188_190.out _).trans (((cell_far (p := ⟨gb190, _, none⟩) NB188_190.out _).trans (hHeld.2.1)))), ((cell_far (p := ⟨gb190, _, none⟩) NB189_190.out _).trans (((cell_far (p := ⟨gb190, _, none⟩) NB189_190.out _).trans (hHeld.2.2.1)))), ((cell_far (p := ⟨gb190, _, none⟩) NB189_190.out _).trans (((cell_far (p := ⟨gb190, _, none⟩) NB189_190.out _).trans (hHeld.2.2.2))))⟩ (fun hHeld => ?_)
 clear hK K
 refine one_ (i := 5) (N := none) #[true, true, true, true, true, true] rfl rfl (by kernel_rfl) (by decide) (fun K hK => ?_)
 have hs16 : w13.cell? ⟨gb191, 0, none⟩ = some (.int .i64 0) := (qC BK191.out 0).trans rfl
 have hfs16 := qF BK191.out 0
 have hns16_0 := NB188_191.out
 have hns16_1 := NB189_191.out
 have hns16_2 := NB190_191.out
 have hms16_0 := NB191_188.out
 have hms16_1 := NB191_189.out
 have hms16_2 := NB191_190.out
 have hs17 : w13.cell? ⟨gb191, 1, none⟩ = some (.int .i64 0) := (qC BK191.out 1).trans rfl
 have hfs17 := qF BK191.out 1
 have hns17_0 := NB188_191.out
 have hns17_1 := NB189_191.out
 have hns17_2 := NB190_191.out
 have hms17_0 := NB191_188.out
 have hms17_1 := NB191_189.out
 have hms17_2 := NB191_190.out
 refine skip_ (w1 := ?_) (by rfl) rfl ?_ ?_
 rotate_left
 ·go_simp
  rfl
 refine hK.out _ _ ⟨((cell_far (p := ⟨gb191, _, none⟩) NB188_191.out _).trans (((cell_far (p := ⟨gb191, _, none⟩) NB188_191.out _).trans (hHeld.1)))), ((cell_far (p := ⟨gb191, _, none⟩) NB188_191.out _).trans (((cell_far (p := ⟨gb191, _, none⟩) NB188_191.out _).trans (hHeld.2.1)))), ((cell_far (p := ⟨gb191, _, none⟩) NB189_191.out _).trans (((cell_far (p := ⟨gb191, _, none⟩) NB189_191.out _).trans (hHeld.2.2.1)))), ((cell_far (p := ⟨gb191, _, none⟩) NB189_191.out _).trans (((cell_far (p := ⟨gb191, _, none⟩) NB189_191.out _).trans (hHeld.2.2.2))))⟩ (fun hHeld => ?_)
 clear hK K
 refine done_ (by kernel_rfl) ?_
 have hnb18 := NB190_188.out
 have hnc18 := NB188_190.out
 have hnb19 := NB190_189.out
 have hnc19 := NB189_190.out
 have hnb20 := NB190_191.out
 have hnc20 := NB191_190.out
 have hcz21_0 : w13.cell? ⟨gb190, 0, none⟩ = some (.int .i64 0) := (qC BK190.out 0).trans rfl
 have hcz21_1 : w13.cell? ⟨gb190, 1, none⟩ = some (.int .i64 0) := (qC BK190.out 1).trans rfl
 have hfz21_0 := qF BK190.out 0
 have hfz21_1 := qF BK190.out 1
 have hnb22 := NB191_188.out
 have hnc22 := NB188_191.out
 have hnb23 := NB191_189.out
 have hnc23 := NB189_191.out
 have hcz24_0 : w13.cell? ⟨gb191, 0, none⟩ = some (.int .i64 0) := (qC BK191.out 0).trans rfl
 have hcz24_1 : w13.cell? ⟨gb191, 1, none⟩ = some (.int .i64 0) := (qC BK191.out 1).trans rfl
 have hfz24_0 := qF BK191.out 0
 have hfz24_1 := qF BK191.out 1
 go_upto_region 5 with (first | ((with_reducible refine gate_callee (f := 50) rfl ?_); refine goesL_ (some 24) rfl rfl Tryd.func50 (by kernel_rfl) rfl #[.agg #[.int .i64 a0_0, .int .i64 a0_1], .agg #[.int .i64 a1_0, .int .i64 a1_1]] rfl (by (try simp only [List.map_toArray, List.map_cons, List.map_nil]); first | done | rfl | (simp only [*]; done) | (simp only [List.length_drop, List.length_take]; rfl)) ?_; (with_reducible refine (span_Meet.calls a0_0 a0_1 a1_0 a1_1 t192 t193 t194 _ A4.out).mono ?_); rintro e w25 ⟨rfl, hb⟩; refine ⟨_, rfl, ?_⟩; have n0_ := qS (qB (g := gb188) (o := .cells #[.int .i64 a0_0, .int .i64 a0_1] 73 (0, 0)) (by (with_reducible repeat (first | refine qN ?_ _ | refine qD ?_ | refine qA ?_ _)); refine blk_far ?_ NB188_191.out _; (with_reducible repeat (first | refine qN ?_ _ | refine qD ?_ | refine qA ?_ _)); refine blk_far ?_ NB188_191.out _; (with_reducible repeat (first | refine qN ?_ _ | refine qD ?_ | refine qA ?_ _)); refine blk_far ?_ NB188_190.out _; (with_reducible repeat (first | refine qN ?_ _ | refine qD ?_ | refine qA ?_ _)); refine blk_far ?_ NB188_190.out _; (with_reducible repeat (first | refine qN ?_ _ | refine qD ?_ | refine qA ?_ _)); exact BK188.out) hb); have n1_ := qS (qB (g := gb189) (o := .cells #[.int .i64 a1_0, .int .i64 a1_1] 73 (0, 0)) (by (with_reducible repeat (first | refine qN ?_ _ | refine qD ?_ | refine qA ?_ _)); refine blk_far ?_ NB189_191.out _; (with_reducible repeat (first | refine qN ?_ _ | refine qD ?_ | refine qA ?_ _)); refine blk_far ?_ NB189_191.out _; (with_reducible repeat (first | refine qN ?_ _ | refine qD ?_ | refine qA ?_ _)); refine blk_far ?_ NB189_190.out _; (with_reducible repeat (first | refine qN ?_ _ | refine qD ?_ | refine qA ?_ _)); refine blk_far ?_ NB189_190.out _; (with_reducible repeat (first | refine qN ?_ _ | refine qD ?_ | refine qA ?_ _)); exact BK189.out) hb); have n2_ := qS (qB (g := gb190) (o := .cells #[.int .i64 a0_0, .int .i64 a0_1] 68 (0, 0)) (by (with_reducible repeat (first | refine qN ?_ _ | refine qD ?_ | refine qA ?_ _)); refine blk_far ?_ NB190_191.out _; (with_reducible repeat (first | refine qN ?_ _ | refine qD ?_ | refine qA ?_ _)); refine blk_far ?_ NB190_191.out _; (with_reducible repeat (first | refine qN ?_ _ | refine qD ?_ | refine qA ?_ _)); refine blk_put (cs := #[.int .i64 a0_0, .int .i64 0]) ?_ 1 _ rfl; (with_reducible repeat (first | refine qN ?_ _ | refine qD ?_ | refine qA ?_ _)); refine blk_put (cs := #[.int .i64 0, .int .i64 0]) ?_ 0 _ rfl; (with_reducible repeat (first | refine qN ?_ _ | refine qD ?_ | refine qA ?_ _)); exact BK190.out) hb); have n3_ := qS (qB (g := gb191) (o := .cells #[.int .i64 a1_0, .int .i64 a1_1] 68 (0, 0)) (by (with_reducible repeat (first | refine qN ?_ _ | refine qD ?_ | refine qA ?_ _)); refine blk_put (cs := #[.int .i64 a1_0, .int .i64 0]) ?_ 1 _ rfl; (with_reducible repeat (first | refine qN ?_ _ | refine qD ?_ | refine qA ?_ _)); refine blk_put (cs := #[.int .i64 0, .int .i64 0]) ?_ 0 _ rfl; (with_reducible repeat (first | refine qN ?_ _ | refine qD ?_ | refine qA ?_ _)); refine blk_far ?_ NB191_190.out _; (with_reducible repeat (first | refine qN ?_ _ | refine qD ?_ | refine qA ?_ _)); refine blk_far ?_ NB191_190.out _; (with_reducible repeat (first | refine qN ?_ _ | refine qD ?_ | refine qA ?_ _)); exact BK191.out) hb); have n4_ := qS (below_step (by repeat (first | (with_reducible first | exact HB.out | apply qpA | apply qpN | apply qp1 | refine qpS ?_ GE188.out | refine qpS ?_ GE189.out | refine qpS ?_ GE190.out | refine qpS ?_ GE191.out) | exact HB.out)) hb); clear BK188; clear BK189; clear BK190; clear BK191; clear HB; have BK188 := n0_; have BK189 := n1_; have BK190 := n2_; have BK191 := n3_; have HB := n4_; clear n0_ n1_ n2_ n3_ n4_; (try clear hb); (try clear hb2); (try clear hk); (try clear hi)) | ((with_reducible refine gate_dst (N := 9) rfl ?_); (try (refine gate_guard (by rfl) ?_; dsimp only)); refine box_event ?hg (N := 9) ?hd (cs := #[.int .i64 0, .int .i64 0]) (t := 68) ?hr ?_; (case hd => rfl); (case hg => rfl); (case hr => first | (go_simp; done) | (go_simp; rfl)); intro gb195 hg w26 hbox hb; have n0_ := qS (qB (g := gb188) (o := .cells #[.int .i64 a0_0, .int .i64 a0_1] 73 (0, 0)) (by (with_reducible repeat (first | refine qN ?_ _ | refine qD ?_ | refine qA ?_ _)); exact BK188.out) hb); have n1_ := qS (qB (g := gb189) (o := .cells #[.int .i64 a1_0, .int .i64 a1_1] 73 (0, 0)) (by (with_reducible repeat (first | refine qN ?_ _ | refine qD ?_ | refine qA ?_ _)); exact BK189.out) hb); have n2_ := qS (qB (g := gb190) (o := .cells #[.int .i64 a0_0, .int .i64 a0_1] 68 (0, 0)) (by (with_reducible repeat (first | refine qN ?_ _ | refine qD ?_ | refine qA ?_ _)); exact BK190.out) hb); have n3_ := qS (qB (g := gb191) (o := .cells #[.int .i64 a1_0, .int .i64 a1_1] 68 (0, 0)) (by (with_reducible repeat (first | refine qN ?_ _ | refine qD ?_ | refine qA ?_ _)); exact BK191.out) hb); have n4_ := qS (below_step (by repeat (first | (with_reducible first | exact HB.out | apply qpA | apply qpN | apply qp1 | refine qpS ?_ GE188.out | refine qpS ?_ GE189.out | refine qpS ?_ GE190.out | refine qpS ?_ GE191.out) | exact HB.out)) hb); have n5_ := qS (hbox); have n6_ := qS ((by rw [hg]; exact (below_size (by repeat (first | (with_reducible first | exact HB.out | apply qpA | apply qpN | apply qp1 | refine qpS ?_ GE188.out | refine qpS ?_ GE189.out | refine qpS ?_ GE190.out | refine qpS ?_ GE191.out) | exact HB.out))) : w.heap.size ≤ gb195)); have n7_ := qS ((by rw [hg]; exact (below_size (by repeat (first | (with_reducible first | exact HB.out | apply qpA | apply qpN | apply qp1 | refine qpS ?_ GE188.out | refine qpS ?_ GE189.out | refine qpS ?_ GE190.out | refine qpS ?_ GE191.out) | exact HB.out))) : w.heap.size ≤ gb195)); have n8_ := qS ((by rw [hg]; exact Nat.ne_of_lt (blk_lt (g := gb188) (o := .cells #[.int .i64 a0_0, .int .i64 a0_1] 73 (0, 0)) (by (with_reducible repeat (first | refine qN ?_ _ | refine qD ?_ | refine qA ?_ _)); exact BK188.out)) : gb188 ≠ gb195)); have n9_ := qS ((by rw [hg]; exact Nat.ne_of_gt (blk_lt (g := gb188) (o := .cells #[.int .i64 a0_0, .int .i64 a0_1] 73 (0, 0)) (by (with_reducible repeat (first | refine qN ?_ _ | refine qD ?_ | refine qA ?_ _)); exact BK188.out)) : gb195 ≠ gb188)); have n10_ := qS ((by rw [hg]; exact Nat.ne_of_lt (blk_lt (g := gb189) (o := .cells #[.int .i64 a1_0, .int .i64 a1_1] 73 (0, 0)) (by (with_reducible repeat (first | refine qN ?_ _ | refine qD ?_ | refine qA ?_ _)); exact BK189.out)) : gb189 ≠ gb195)); have n11_ := qS ((by rw [hg]; exact Nat.ne_of_gt (blk_lt (g := gb189) (o := .cells #[.int .i64 a1_0, .int .i64 a1_1] 73 (0, 0)) (by (with_reducible repeat (first | refine qN ?_ _ | refine qD ?_ | refine qA ?_ _)); exact BK189.out)) : gb195 ≠ gb189)); have n12_ := qS ((by rw [hg]; exact Nat.ne_of_lt (blk_lt (g := gb190) (o := .cells #[.int .i64 a0_0, .int .i64 a0_1] 68 (0, 0)) (by (with_reducible repeat (first | refine qN ?_ _ | refine qD ?_ | refine qA ?_ _)); exact BK190.out)) : gb190 ≠ gb195)); have n13_ := qS ((by rw [hg]; exact Nat.ne_of_gt (blk_lt (g := gb190) (o := .cells #[.int .i64 a0_0, .int .i64 a0_1] 68 (0, 0)) (by (with_reducible repeat (first | refine qN ?_ _ | refine qD ?_ | refine qA ?_ _)); exact BK190.out)) : gb195 ≠ gb190)); have n14_ := qS ((by rw [hg]; exact Nat.ne_of_lt (blk_lt (g := gb191) (o := .cells #[.int .i64 a1_0, .int .i64 a1_1] 68 (0, 0)) (by (with_reducible repeat (first | refine qN ?_ _ | refine qD ?_ | refine qA ?_ _)); exact BK191.out)) : gb191 ≠ gb195)); have n15_ := qS ((by rw [hg]; exact Nat.ne_of_gt (blk_lt (g := gb191) (o := .cells #[.int .i64 a1_0, .int .i64 a1_1] 68 (0, 0)) (by (with_reducible repeat (first | refine qN ?_ _ | refine qD ?_ | refine qA ?_ _)); exact BK191.out)) : gb195 ≠ gb191)); clear BK188; clear BK189; clear BK190; clear BK191; clear HB; have BK188 := n0_; have BK189 := n1_; have BK190 := n2_; have BK191 := n3_; have HB := n4_; have BK195 := n5_; have GW195 := n6_; have GE195 := n7_; have NB188_195 := n8_; have NB195_188 := n9_; have NB189_195 := n10_; have NB195_189 := n11_; have NB190_195 := n12_; have NB195_190 := n13_; have NB191_195 := n14_; have NB195_191 := n15_; clear n0_ n1_ n2_ n3_ n4_ n5_ n6_ n7_ n8_ n9_ n10_ n11_ n12_ n13_ n14_ n15_; clear hb hbox hg; have hnb27 := NB195_188.out; have hnc27 := NB188_195.out; have hnb28 := NB195_189.out; have hnc28 := NB189_195.out; have hnb29 := NB195_190.out; have hnc29 := NB190_195.out; have hnb30 := NB195_191.out; have hnc30 := NB191_195.out; have hcz31_0 : w26.cell? ⟨gb195, 0, none⟩ = some (.int .i64 0) := (qC BK195.out 0).trans rfl; have hcz31_1 : w26.cell? ⟨gb195, 1, none⟩ = some (.int .i64 0) := (qC BK195.out 1).trans rfl; have hfz31_0 := qF BK195.out 0; have hfz31_1 := qF BK195.out 1; have hcz32_0 : w26.cell? ⟨gb190, 0, none⟩ = some (.int .i64 a0_0) := (qC BK190.out 0).trans rfl; have hcz32_1 : w26.cell? ⟨gb190, 1, none⟩ = some (.int .i64 a0_1) := (qC BK190.out 1).trans rfl; have hfz32_0 := qF BK190.out 0; have hfz32_1 := qF BK190.out 1) | ((with_reducible refine gate_callee (f := 51) rfl ?_); refine goesL_ (some 30) rfl rfl Tryd.func51 (by kernel_rfl) rfl #[.agg #[.int .i64 a0_0, .int .i64 a0_1], .int .i64 a2] rfl (by (try simp only [List.map_toArray, List.map_cons, List.map_nil]); first | done | rfl | (simp only [*]; done) | (simp only [List.length_drop, List.length_take]; rfl)) ?_; (with_reducible refine (span_Grow.calls k a0_0 a0_1 a2 t196 t197 t198 _ A5.out).mono ?_); rintro e w33 ⟨rfl, hb⟩; refine ⟨_, rfl, ?_⟩; have n0_ := qS (qB (g := gb188) (o := .cells #[.int .i64 a0_0, .int .i64 a0_1] 73 (0, 0)) (by (with_reducible repeat (first | refine qN ?_ _ | refine qD ?_ | refine qA ?_ _)); refine blk_far ?_ NB188_195.out _; (with_reducible repeat (first | refine qN ?_ _ | refine qD ?_ | refine qA ?_ _)); refine blk_far ?_ NB188_195.out _; (with_reducible repeat (first | refine qN ?_ _ | refine qD ?_ | refine qA ?_ _)); exact BK188.out) hb); have n1_ := qS (qB (g := gb189) (o := .cells #[.int .i64 a1_0, .int .i64 a1_1] 73 (0, 0)) (by (with_reducible repeat (first | refine qN ?_ _ | refine qD ?_ | refine qA ?_ _)); refine blk_far ?_ NB189_195.out _; (with_reducible repeat (first | refine qN ?_ _ | refine qD ?_ | refine qA ?_ _)); refine blk_far ?_ NB189_195.out _; (with_reducible repeat (first | refine qN ?_ _ | refine qD ?_ | refine qA ?_ _)); exact BK189.out) hb); have n2_ := qS (qB (g := gb190) (o := .cells #[.int .i64 a0_0, .int .i64 a0_1] 68 (0, 0)) (by (with_reducible repeat (first | refine qN ?_ _ | refine qD ?_ | refine qA ?_ _)); refine blk_far ?_ NB190_195.out _; (with_reducible repeat (first | refine qN ?_ _ | refine qD ?_ | refine qA ?_ _)); refine blk_far ?_ NB190_195.out _; (with_reducible repeat (first | refine qN ?_ _ | refine qD ?_ | refine qA ?_ _)); exact BK190.out) hb); have n3_ := qS (qB (g := gb191) (o := .cells #[.int .i64 a1_0, .int .i64 a1_1] 68 (0, 0)) (by (with_reducible repeat (first | refine qN ?_ _ | refine qD ?_ | refine qA ?_ _)); refine blk_far ?_ NB191_195.out _; (with_reducible repeat (first | refine qN ?_ _ | refine qD ?_ | refine qA ?_ _)); refine blk_far ?_ NB191_195.out _; (with_reducible repeat (first | refine qN ?_ _ | refine qD ?_ | refine qA ?_ _)); exact BK191.out) hb); have n4_ := qS (qB (g := gb195) (o := .cells #[.int .i64 t192, .int .i64 t193] 68 (0, 0)) (by (with_reducible repeat (first | refine qN ?_ _ | refine qD ?_ | refine qA ?_ _)); refine blk_put (cs := #[.int .i64 t192, .int .i64 0]) ?_ 1 _ rfl; (with_reducible repeat (first | refine qN ?_ _ | refine qD ?_ | refine qA ?_ _)); refine blk_put (cs := #[.int .i64 0, .int .i64 0]) ?_ 0 _ rfl; (with_reducible repeat (first | refine qN ?_ _ | refine qD ?_ | refine qA ?_ _)); exact BK195.out) hb); have n5_ := qS (below_step (by repeat (first | (with_reducible first | exact HB.out | apply qpA | apply qpN | apply qp1 | refine qpS ?_ GE188.out | refine qpS ?_ GE189.out | refine qpS ?_ GE190.out | refine qpS ?_ GE191.out | refine qpS ?_ GE195.out) | exact HB.out)) hb); clear BK188; clear BK189; clear BK190; clear BK191; clear BK195; clear HB; have BK188 := n0_; have BK189 := n1_; have BK190 := n2_; have BK191 := n3_; have BK195 := n4_; have HB := n5_; clear n0_ n1_ n2_ n3_ n4_ n5_; (try clear hb); (try clear hb2); (try clear hk); (try clear hi); (try simp only [errW_none, errW_some])) | ((with_reducible refine gate_dst (N := 11) rfl ?_); (try (refine gate_guard (by rfl) ?_; dsimp only)); refine box_event ?hg (N := 11) ?hd (cs := #[.int .i64 0, .int .i64 0]) (t := 68) ?hr ?_; (case hd => rfl); (case hg => rfl); (case hr => first | (go_simp; done) | (go_simp; rfl)); intro gb199 hg w34 hbox hb; have n0_ := qS (qB (g := gb188) (o := .cells #[.int .i64 a0_0, .int .i64 a0_1] 73 (0, 0)) (by (with_reducible repeat (first | refine qN ?_ _ | refine qD ?_ | refine qA ?_ _)); exact BK188.out) hb); have n1_ := qS (qB (g := gb189) (o := .cells #[.int .i64 a1_0, .int .i64 a1_1] 73 (0, 0)) (by (with_reducible repeat (first | refine qN ?_ _ | refine qD ?_ | refine qA ?_ _)); exact BK189.out) hb); have n2_ := qS (qB (g := gb190) (o := .cells #[.int .i64 a0_0, .int .i64 a0_1] 68 (0, 0)) (by (with_reducible repeat (first | refine qN ?_ _ | refine qD ?_ | refine qA ?_ _)); exact BK190.out) hb); have n3_ := qS (qB (g := gb191) (o := .cells #[.int .i64 a1_0, .int .i64 a1_1] 68 (0, 0)) (by (with_reducible repeat (first | refine qN ?_ _ | refine qD ?_ | refine qA ?_ _)); exact BK191.out) hb); have n4_ := qS (qB (g := gb195) (o := .cells #[.int .i64 t192, .int .i64 t193] 68 (0, 0)) (by (with_reducible repeat (first | refine qN ?_ _ | refine qD ?_ | refine qA ?_ _)); exact BK195.out) hb); have n5_ := qS (below_step (by repeat (first | (with_reducible first | exact HB.out | apply qpA | apply qpN | apply qp1 | refine qpS ?_ GE188.out | refine qpS ?_ GE189.out | refine qpS ?_ GE190.out | refine qpS ?_ GE191.out | refine qpS ?_ GE195.out) | exact HB.out)) hb); have n6_ := qS (hbox); have n7_ := qS ((by rw [hg]; exact (below_size (by repeat (first | (with_reducible first | exact HB.out | apply qpA | apply qpN | apply qp1 | refine qpS ?_ GE188.out | refine qpS ?_ GE189.out | refine qpS ?_ GE190.out | refine qpS ?_ GE191.out | refine qpS ?_ GE195.out) | exact HB.out))) : w.heap.size ≤ gb199)); have n8_ := qS ((by rw [hg]; exact (below_size (by repeat (first | (with_reducible first | exact HB.out | apply qpA | apply qpN | apply qp1 | refine qpS ?_ GE188.out | refine qpS ?_ GE189.out | refine qpS ?_ GE190.out | refine qpS ?_ GE191.out | refine qpS ?_ GE195.out) | exact HB.out))) : w.heap.size ≤ gb199)); have n9_ := qS ((by rw [hg]; exact Nat.ne_of_lt (blk_lt (g := gb188) (o := .cells #[.int .i64 a0_0, .int .i64 a0_1] 73 (0, 0)) (by (with_reducible repeat (first | refine qN ?_ _ | refine qD ?_ | refine qA ?_ _)); exact BK188.out)) : gb188 ≠ gb199)); have n10_ := qS ((by rw [hg]; exact Nat.ne_of_gt (blk_lt (g := gb188) (o := .cells #[.int .i64 a0_0, .int .i64 a0_1] 73 (0, 0)) (by (with_reducible repeat (first | refine qN ?_ _ | refine qD ?_ | refine qA ?_ _)); exact BK188.out)) : gb199 ≠ gb188)); have n11_ := qS ((by rw [hg]; exact Nat.ne_of_lt (blk_lt (g := gb189) (o := .cells #[.int .i64 a1_0, .int .i64 a1_1] 73 (0, 0)) (by (with_reducible repeat (first | refine qN ?_ _ | refine qD ?_ | refine qA ?_ _)); exact BK189.out)) : gb189 ≠ gb199)); have n12_ := qS ((by rw [hg]; exact Nat.ne_of_gt (blk_lt (g := gb189) (o := .cells #[.int .i64 a1_0, .int .i64 a1_1] 73 (0, 0)) (by (with_reducible repeat (first | refine qN ?_ _ | refine qD ?_ | refine qA ?_ _)); exact BK189.out)) : gb199 ≠ gb189)); have n13_ := qS ((by rw [hg]; exact Nat.ne_of_lt (blk_lt (g := gb190) (o := .cells #[.int .i64 a0_0, .int .i64 a0_1] 68 (0, 0)) (by (with_reducible repeat (first | refine qN ?_ _ | refine qD ?_ | refine qA ?_ _)); exact BK190.out)) : gb190 ≠ gb199)); have n14_ := qS ((by rw [hg]; exact Nat.ne_of_gt (blk_lt (g := gb190) (o := .cells #[.int .i64 a0_0, .int .i64 a0_1] 68 (0, 0)) (by (with_reducible repeat (first | refine qN ?_ _ | refine qD ?_ | refine qA ?_ _)); exact BK190.out)) : gb199 ≠ gb190)); have n15_ := qS ((by rw [hg]; exact Nat.ne_of_lt (blk_lt (g := gb191) (o := .cells #[.int .i64 a1_0, .int .i64 a1_1] 68 (0, 0)) (by (with_reducible repeat (first | refine qN ?_ _ | refine qD ?_ | refine qA ?_ _)); exact BK191.out)) : gb191 ≠ gb199)); have n16_ := qS ((by rw [hg]; exact Nat.ne_of_gt (blk_lt (g := gb191) (o := .cells #[.int .i64 a1_0, .int .i64 a1_1] 68 (0, 0)) (by (with_reducible repeat (first | refine qN ?_ _ | refine qD ?_ | refine qA ?_ _)); exact BK191.out)) : gb199 ≠ gb191)); have n17_ := qS ((by rw [hg]; exact Nat.ne_of_lt (blk_lt (g := gb195) (o := .cells #[.int .i64 t192, .int .i64 t193] 68 (0, 0)) (by (with_reducible repeat (first | refine qN ?_ _ | refine qD ?_ | refine qA ?_ _)); exact BK195.out)) : gb195 ≠ gb199)); have n18_ := qS ((by rw [hg]; exact Nat.ne_of_gt (blk_lt (g := gb195) (o := .cells #[.int .i64 t192, .int .i64 t193] 68 (0, 0)) (by (with_reducible repeat (first | refine qN ?_ _ | refine qD ?_ | refine qA ?_ _)); exact BK195.out)) : gb199 ≠ gb195)); clear BK188; clear BK189; clear BK190; clear BK191; clear BK195; clear HB; have BK188 := n0_; have BK189 := n1_; have BK190 := n2_; have BK191 := n3_; have BK195 := n4_; have HB := n5_; have BK199 := n6_; have GW199 := n7_; have GE199 := n8_; have NB188_199 := n9_; have NB199_188 := n10_; have NB189_199 := n11_; have NB199_189 := n12_; have NB190_199 := n13_; have NB199_190 := n14_; have NB191_199 := n15_; have NB199_191 := n16_; have NB195_199 := n17_; have NB199_195 := n18_; clear n0_ n1_ n2_ n3_ n4_ n5_ n6_ n7_ n8_ n9_ n10_ n11_ n12_ n13_ n14_ n15_ n16_ n17_ n18_; clear hb hbox hg; have hnb35 := NB199_188.out; have hnc35 := NB188_199.out; have hnb36 := NB199_189.out; have hnc36 := NB189_199.out; have hnb37 := NB199_190.out; have hnc37 := NB190_199.out; have hnb38 := NB199_191.out; have hnc38 := NB191_199.out; have hnb39 := NB199_195.out; have hnc39 := NB195_199.out; have hcz40_0 : w34.cell? ⟨gb199, 0, none⟩ = some (.int .i64 0) := (qC BK199.out 0).trans rfl; have hcz40_1 : w34.cell? ⟨gb199, 1, none⟩ = some (.int .i64 0) := (qC BK199.out 1).trans rfl; have hfz40_0 := qF BK199.out 0; have hfz40_1 := qF BK199.out 1; have hcz41_0 : w34.cell? ⟨gb190, 0, none⟩ = some (.int .i64 a0_0) := (qC BK190.out 0).trans rfl; have hcz41_1 : w34.cell? ⟨gb190, 1, none⟩ = some (.int .i64 a0_1) := (qC BK190.out 1).trans rfl; have hfz41_0 := qF BK190.out 0; have hfz41_1 := qF BK190.out 1) | ((with_reducible refine gate_callee (f := 52) rfl ?_); refine goesL_ (some 35) rfl rfl Tryd.func52 (by kernel_rfl) rfl #[.agg #[.int .i64 a0_0, .int .i64 a0_1]] rfl (by (try simp only [List.map_toArray, List.map_cons, List.map_nil]); first | done | rfl | (simp only [*]; done) | (simp only [List.length_drop, List.length_take]; rfl)) ?_; (with_reducible refine (span_Mid.calls a0_0 a0_1 t200 t201 t202 _ A6.out).mono ?_); rintro e w42 ⟨rfl, hb⟩; refine ⟨_, rfl, ?_⟩; have n0_ := qS (qB (g := gb188) (o := .cells #[.int .i64 a0_0, .int .i64 a0_1] 73 (0, 0)) (by (with_reducible repeat (first | refine qN ?_ _ | refine qD ?_ | refine qA ?_ _)); refine blk_far ?_ NB188_199.out _; (with_reducible repeat (first | refine qN ?_ _ | refine qD ?_ | refine qA ?_ _)); refine blk_far ?_ NB188_199.out _; (with_reducible repeat (first | refine qN ?_ _ | refine qD ?_ | refine qA ?_ _)); exact BK188.out) hb); have n1_ := qS (qB (g := gb189) (o := .cells #[.int .i64 a1_0, .int .i64 a1_1] 73 (0, 0)) (by (with_reducible repeat (first | refine qN ?_ _ | refine qD ?_ | refine qA ?_ _)); refine blk_far ?_ NB189_199.out _; (with_reducible repeat (first | refine qN ?_ _ | refine qD ?_ | refine qA ?_ _)); refine blk_far ?_ NB189_199.out _; (with_reducible repeat (first | refine qN ?_ _ | refine qD ?_ | refine qA ?_ _)); exact BK189.out) hb); have n2_ := qS (qB (g := gb190) (o := .cells #[.int .i64 a0_0, .int .i64 a0_1] 68 (0, 0)) (by (with_reducible repeat (first | refine qN ?_ _ | refine qD ?_ | refine qA ?_ _)); refine blk_far ?_ NB190_199.out _; (with_reducible repeat (first | refine qN ?_ _ | refine qD ?_ | refine qA ?_ _)); refine blk_far ?_ NB190_199.out _; (with_reducible repeat (first | refine qN ?_ _ | refine qD ?_ | refine qA ?_ _)); exact BK190.out) hb); have n3_ := qS (qB (g := gb191) (o := .cells #[.int .i64 a1_0, .int .i64 a1_1] 68 (0, 0)) (by (with_reducible repeat (first | refine qN ?_ _ | refine qD ?_ | refine qA ?_ _)); refine blk_far ?_ NB191_199.out _; (with_reducible repeat (first | refine qN ?_ _ | refine qD ?_ | refine qA ?_ _)); refine blk_far ?_ NB191_199.out _; (with_reducible repeat (first | refine qN ?_ _ | refine qD ?_ | refine qA ?_ _)); exact BK191.out) hb); have n4_ := qS (qB (g := gb195) (o := .cells #[.int .i64 t192, .int .i64 t193] 68 (0, 0)) (by (with_reducible repeat (first | refine qN ?_ _ | refine qD ?_ | refine qA ?_ _)); refine blk_far ?_ NB195_199.out _; (with_reducible repeat (first | refine qN ?_ _ | refine qD ?_ | refine qA ?_ _)); refine blk_far ?_ NB195_199.out _; (with_reducible repeat (first | refine qN ?_ _ | refine qD ?_ | refine qA ?_ _)); exact BK195.out) hb); have n5_ := qS (qB (g := gb199) (o := .cells #[.int .i64 t196, .int .i64 t197] 68 (0, 0)) (by (with_reducible repeat (first | refine qN ?_ _ | refine qD ?_ | refine qA ?_ _)); refine blk_put (cs := #[.int .i64 t196, .int .i64 0]) ?_ 1 _ rfl; (with_reducible repeat (first | refine qN ?_ _ | refine qD ?_ | refine qA ?_ _)); refine blk_put (cs := #[.int .i64 0, .int .i64 0]) ?_ 0 _ rfl; (with_reducible repeat (first | refine qN ?_ _ | refine qD ?_ | refine qA ?_ _)); exact BK199.out) hb); have n6_ := qS (below_step (by repeat (first | (with_reducible first | exact HB.out | apply qpA | apply qpN | apply qp1 | refine qpS ?_ GE188.out | refine qpS ?_ GE189.out | refine qpS ?_ GE190.out | refine qpS ?_ GE191.out | refine qpS ?_ GE195.out | refine qpS ?_ GE199.out) | exact HB.out)) hb); clear BK188; clear BK189; clear BK190; clear BK191; clear BK195; clear BK199; clear HB; have BK188 := n0_; have BK189 := n1_; have BK190 := n2_; have BK191 := n3_; have BK195 := n4_; have BK199 := n5_; have HB := n6_; clear n0_ n1_ n2_ n3_ n4_ n5_ n6_; (try clear hb); (try clear hb2); (try clear hk); (try clear hi); (try simp only [errW_none, errW_some])))
 (try simp only [Act.put, List.setIfInBounds_toArray, List.set_cons_zero, List.set_cons_succ])
 go_cut [63] (fun v63 wc => ∃ (kq : Nat) (x63_6 : Bool), v63 = .bool x63_6 ∧ Aside0 (fuseelaw13_SpanSteps.j0 kq a2 t194 t198 t200 t201 t202 x63_6 a0_0 a0_1 a1_0 a1_1 t192 t193 t196 t197 = some r) ∧ Aside0 (kq ≤ k) ∧ Aside0 (wc.heap[gb188]? = some (.cells #[.int .i64 a0_0, .int .i64 a0_1] 73 (0, 0))) ∧ Aside0 (wc.heap[gb189]? = some (.cells #[.int .i64 a1_0, .int .i64 a1_1] 73 (0, 0))) ∧ Aside0 (wc.heap[gb190]? = some (.cells #[.int .i64 a0_0, .int .i64 a0_1] 68 (0, 0))) ∧ Aside0 (wc.heap[gb191]? = some (.cells #[.int .i64 a1_0, .int .i64 a1_1] 68 (0, 0))) ∧ Aside0 (wc.heap[gb195]? = some (.cells #[.int .i64 t192, .int .i64 t193] 68 (0, 0))) ∧ Aside0 (wc.heap[gb199]? = some (.cells #[.int .i64 t196, .int .i64 t197] 68 (0, 0))) ∧ Aside0 (Below w.heap.size w wc))
 case first =>
  have H := HC7.out
  clear HC7
  replace H := Option.bind_eq_some_iff.mp H
  obtain ⟨t203, A430, H⟩ := H
  replace H : (if a0_0 ≤ a2 then (if (t203 != (decide (a2 ≤ a0_1))) = true then (fuseelaw13_SpanSteps.j0 k a2 t194 t198 t200 t201 t202 true a0_0 a0_1 a1_0 a1_1 t192 t193 t196 t197) else ((span_Check.f a0_0 a0_1).bind fun t204 => (if t204.isNone = true then (fuseelaw13_SpanSteps.j0 k a2 t194 t198 t200 t201 t202 (!(decide (a0_0 ≤ a0_1))) a0_0 a0_1 a1_0 a1_1 t192 t193 t196 t197) else (fuseelaw13_SpanSteps.j0 k a2 t194 t198 t200 t201 t202 (decide (a0_0 ≤ a0_1)) a0_0 a0_1 a1_0 a1_1 t192 t193 t196 t197)))) else (if t203 = true then (fuseelaw13_SpanSteps.j0 k a2 t194 t198 t200 t201 t202 true a0_0 a0_1 a1_0 a1_1 t192 t193 t196 t197) else ((span_Check.f a0_0 a0_1).bind fun t206 => (if t206.isNone = true then (fuseelaw13_SpanSteps.j0 k a2 t194 t198 t200 t201 t202 (!(decide (a0_0 ≤ a0_1))) a0_0 a0_1 a1_0 a1_1 t192 t193 t196 t197) else (fuseelaw13_SpanSteps.j0 k a2 t194 t198 t200 t201 t202 (decide (a0_0 ≤ a0_1)) a0_0 a0_1 a1_0 a1_1 t192 t193 t196 t197))))) = some r := H
  have A43 := qS A430
  clear A430
  by_cases c44 : a0_0 ≤ a2
  ·rw [if_pos c44] at H
   have c44b0 : decide (a0_0 ≤ a2) = true := decide_eq_true c44
   clear c44
   (first | rw [c44b0] | (simp only [i64_w, i32_w]; rw [c44b0]) | skip)
   by_cases c45 : (t203 != (decide (a2 ≤ a0_1))) = true
   ·rw [if_pos c45] at H
    have c45b0 : (t203 != (decide (a2 ≤ a0_1))) = true := c45
    (try (have c45b1 : decide (t203 = (decide (a2 ≤ a0_1))) = false := by simpa using c45))
    (try (have c45b2 : (t203 == (decide (a2 ≤ a0_1))) = false := by simpa using c45))
    (try (have c45b3 : ¬ (t203 = (decide (a2 ≤ a0_1))) := by simpa using c45))
    clear c45
    as_aux_lemma =>
     have H' := qS H
     clear H
     try go_wp2
     have n0_ := qS (qD BK188.out)
     have n1_ := qS (qD BK189.out)
     have n2_ := qS (qD BK190.out)
     have n3_ := qS (qD BK191.out)
     have n4_ := qS (qD BK195.out)
     have n5_ := qS (qD BK199.out)
     have n6_ := qS (qp1 HB.out)
     clear BK188
     clear BK189
     clear BK190
     clear BK191
     clear BK195
     clear BK199
     clear HB
     have BK188 := n0_
     have BK189 := n1_
     have BK190 := n2_
     have BK191 := n3_
     have BK195 := n4_
     have BK199 := n5_
     have HB := n6_
     clear n0_ n1_ n2_ n3_ n4_ n5_ n6_
     refine start_ (n := 25) (S := fun w' => w'.cell? ⟨gb190, 0, none⟩ = some (.int .i64 a0_0) ∧ w'.cell? ⟨gb190, 1, none⟩ = some (.int .i64 a0_1) ∧ w'.cell? ⟨gb188, 0, none⟩ = some (.int .i64 a0_0) ∧ w'.cell? ⟨gb188, 1, none⟩ = some (.int .i64 a0_1)) (ds := []) #[false, false, false, false, false, false, false, false, false, false, false, false, false, false, false, false, false, false, false, false, false, false, false, false, false] (by kernel_rfl) rfl rfl ⟨(qC BK190.out 0).trans rfl, (qC BK190.out 1).trans rfl, (qC BK188.out 0).trans rfl, (qC BK188.out 1).trans rfl⟩ (fun hHeld => ?_); refine with_tabW fuseelaw13_SpanSteps.tab5 fuseelaw13_SpanSteps.bits5 (fun HT_ HW_ => ?_)
     generalize w42.drew = w46 at BK188 BK189 BK190 BK191 BK195 BK199 HB hHeld ⊢
     refine pure_ (i := 1) (N := some 40) (v := ?_) (a' := ?_) #[false, true, false, false, false, false, false, false, false, false, false, false, false, false, false, false, false, false, false, false, false, false, false, false, false] rfl rfl (any_of HT_.out (by kernel_rfl)) (fun _ _ _ h => h) (Or.inl ⟨by rfl, ?_⟩) ?_ ?_
     rotate_left
     ·intro w'
      go_simp
      with_reducible rfl
     rotate_left
     ·simp only [Act.put, List.setIfInBounds_toArray, List.set_cons_zero, List.set_cons_succ, i64_w, i32_w]
      rfl
     refine pure_ (i := 3) (N := some 42) (v := ?_) (a' := ?_) #[false, true, false, true, false, false, false, false, false, false, false, false, false, false, false, false, false, false, false, false, false, false, false, false, false] rfl rfl (any_of HT_.out (by kernel_rfl)) (fun _ _ _ h => h) (Or.inl ⟨by rfl, ?_⟩) ?_ ?_
     rotate_left
     ·intro w'
      go_simp
      with_reducible rfl
     rotate_left
     ·simp only [Act.put, List.setIfInBounds_toArray, List.set_cons_zero, List.set_cons_succ, i64_w, i32_w]
      rfl
     refine pure_ (i := 5) (N := some 44) (v := ?_) (a' := ?_) #[false, true, false, true, false, true, false, false, false, false, false, false, false, false, false, false, false, false, false, false, false, false, false, false, false] rfl rfl (any_of HT_.out (by kernel_rfl)) (fun _ _ _ h => h) (Or.inl ⟨by rfl, ?_⟩) ?_ ?_
     rotate_left
     ·intro w'
      go_simp
      with_reducible rfl
     rotate_left
     ·simp only [Act.put, List.setIfInBounds_toArray, List.set_cons_zero, List.set_cons_succ, i64_w, i32_w]
      rfl
     refine take_ (i := 0) (N := some 39) (v := ?_) (a' := ?_) #[true, true, false, true, false, true, false, false, false, false, false, false, false, false, false, false, false, false, false, false, false, false, false, false, false] rfl rfl (take_ofW HT_.out HW_.out (by kernel_rfl)) (fun _ _ _ h => h) (Or.inl ⟨by rfl, ?_⟩) hHeld ?_ ?_
     rotate_left
     ·rintro w' ⟨s0, s1, s2, s3⟩
      go_simp
      with_reducible rfl
     rotate_left
     ·simp only [Act.put, List.setIfInBounds_toArray, List.set_cons_zero, List.set_cons_succ, i64_w, i32_w]
      rfl
     refine take_ (i := 4) (N := some 43) (v := ?_) (a' := ?_) #[true, true, false, true, true, true, false, false, false, false, false, false, false, false, false, false, false, false, false, false, false, false, false, false, false] rfl rfl (take_ofW HT_.out HW_.out (by kernel_rfl)) (fun _ _ _ h => h) (Or.inl ⟨by rfl, ?_⟩) hHeld ?_ ?_
     rotate_left
     ·rintro w' ⟨s0, s1, s2, s3⟩
      go_simp
      with_reducible rfl
     rotate_left
     ·simp only [Act.put, List.setIfInBounds_toArray, List.set_cons_zero, List.set_cons_succ, i64_w, i32_w]
      rfl
     refine pure_ (i := 6) (N := some 45) (v := ?_) (a' := ?_) #[true, true, false, true, true, true, true, false, false, false, false, false, false, false, false, false, false, false, false, false, false, false, false, false, false] rfl rfl (any_of HT_.out (by kernel_rfl)) (fun _ _ _ h => h) (Or.inl ⟨by rfl, ?_⟩) ?_ ?_
     rotate_left
     ·intro w'
      go_simp
      with_reducible rfl
     rotate_left
     ·simp only [Act.put, List.setIfInBounds_toArray, List.set_cons_zero, List.set_cons_succ, i64_w, i32_w]
      rfl
     refine one_ (i := 2) (N := some 41) #[true, true, true, true, true, true, true, false, false, false, false, false, false, false, false, false, false, false, false, false, false, false, false, false, false] rfl rfl (one_of HT_.out (by kernel_rfl)) (by decide) (fun K hK => ?_)
     refine goes_ Tryd.func39 (by kernel_rfl) rfl #[.agg #[.int .i64 a0_0, .int .i64 a0_1], .int .i64 a2] (by rfl) rfl rfl (by (try simp only [List.map_toArray, List.map_cons, List.map_nil]); first | done | rfl | (simp only [*]; done) | (simp only [List.length_drop, List.length_take]; rfl)) ?_
     with_reducible refine (span_Has.calls a0_0 a0_1 a2 t203 _ A43.out).mono ?_
     rintro e w47 ⟨rfl, hb⟩
     refine ⟨_, rfl, ?_⟩
     have n0_ := qS (qB (g := gb188) (o := .cells #[.int .i64 a0_0, .int .i64 a0_1] 73 (0, 0)) (by (with_reducible repeat (first | refine qN ?_ _ | refine qD ?_ | refine qA ?_ _)); exact BK188.out) hb)
     have n1_ := qS (qB (g := gb189) (o := .cells #[.int .i64 a1_0, .int .i64 a1_1] 73 (0, 0)) (by (with_reducible repeat (first | refine qN ?_ _ | refine qD ?_ | refine qA ?_ _)); exact BK189.out) hb)
     have n2_ := qS (qB (g := gb190) (o := .cells #[.int .i64 a0_0, .int .i64 a0_1] 68 (0, 0)) (by (with_reducible repeat (first | refine qN ?_ _ | refine qD ?_ | refine qA ?_ _)); exact BK190.out) hb)
     have n3_ := qS (qB (g := gb191) (o := .cells #[.int .i64 a1_0, .int .i64 a1_1] 68 (0, 0)) (by (with_reducible repeat (first | refine qN ?_ _ | refine qD ?_ | refine qA ?_ _)); exact BK191.out) hb)
     have n4_ := qS (qB (g := gb195) (o := .cells #[.int .i64 t192, .int .i64 t193] 68 (0, 0)) (by (with_reducible repeat (first | refine qN ?_ _ | refine qD ?_ | refine qA ?_ _)); exact BK195.out) hb)
     have n5_ := qS (qB (g := gb199) (o := .cells #[.int .i64 t196, .int .i64 t197] 68 (0, 0)) (by (with_reducible repeat (first | refine qN ?_ _ | refine qD ?_ | refine qA ?_ _)); exact BK199.out) hb)
     have n6_ := qS (below_step (by repeat (first | (with_reducible first | exact HB.out | apply qpA | apply qpN | apply qp1 | refine qpS ?_ GE188.out | refine qpS ?_ GE189.out | refine qpS ?_ GE190.out | refine qpS ?_ GE191.out | refine qpS ?_ GE195.out | refine qpS ?_ GE199.out) | exact HB.out)) hb)
     clear BK188
     clear BK189
     clear BK190
     clear BK191
     clear BK195
     clear BK199
     clear HB
     have BK188 := n0_
     have BK189 := n1_
     have BK190 := n2_
     have BK191 := n3_
     have BK195 := n4_
     have BK199 := n5_
     have HB := n6_
     clear n0_ n1_ n2_ n3_ n4_ n5_ n6_
     (try clear hb)
     (try clear hb2)
     (try clear hk)
     (try clear hi)
     refine hK.out _ _ ⟨(qC BK190.out 0).trans rfl, (qC BK190.out 1).trans rfl, (qC BK188.out 0).trans rfl, (qC BK188.out 1).trans rfl⟩ (fun hHeld => ?_)
     clear hK K
     refine norm_ (a' := ?_) ?_ ?_
     rotate_left
     ·show Act.put _ (some 41) _ = _
      simp only [Act.put, List.setIfInBounds_toArray, List.set_cons_zero, List.set_cons_succ, i64_w, i32_w]
      rfl
     refine pure_ (i := 7) (N := some 46) (v := ?_) (a' := ?_) #[true, true, true, true, true, true, true, true, false, false, false, false, false, false, false, false, false, false, false, false, false, false, false, false, false] rfl rfl (any_of HT_.out (by kernel_rfl)) (fun _ _ _ h => h) (Or.inl ⟨by rfl, ?_⟩) ?_ ?_
     rotate_left
     ·intro w'
      go_simp
      with_reducible rfl
     rotate_left
     ·simp only [Act.put, List.setIfInBounds_toArray, List.set_cons_zero, List.set_cons_succ, i64_w, i32_w]
      rfl
     refine pure_ (i := 8) (N := some 47) (v := ?_) (a' := ?_) #[true, true, true, true, true, true, true, true, true, false, false, false, false, false, false, false, false, false, false, false, false, false, false, false, false] rfl rfl (any_of HT_.out (by kernel_rfl)) (fun _ _ _ h => h) (Or.inl ⟨by rfl, ?_⟩) ?_ ?_
     rotate_left
     ·intro w'
      go_simp
      with_reducible rfl
     rotate_left
     ·simp only [Act.put, List.setIfInBounds_toArray, List.set_cons_zero, List.set_cons_succ, i64_w, i32_w]
      rfl
     refine pure_ (i := 9) (N := some 48) (v := ?_) (a' := ?_) #[true, true, true, true, true, true, true, true, true, true, false, false, false, false, false, false, false, false, false, false, false, false, false, false, false] rfl rfl (any_of HT_.out (by kernel_rfl)) (fun _ _ _ h => h) (Or.inl ⟨by rfl, ?_⟩) ?_ ?_
     rotate_left
     ·intro w'
      go_simp
      with_reducible rfl
     rotate_left
     ·simp only [Act.put, List.setIfInBounds_toArray, List.set_cons_zero, List.set_cons_succ, i64_w, i32_w]
      rfl
     refine take_ (i := 10) (N := some 49) (v := ?_) (a' := ?_) #[true, true, true, true, true, true, true, true, true, true, true, false, false, false, false, false, false, false, false, false, false, false, false, false, false] rfl rfl (take_ofW HT_.out HW_.out (by kernel_rfl)) (fun _ _ _ h => h) (Or.inl ⟨by rfl, ?_⟩) hHeld ?_ ?_
     rotate_left
     ·rintro w' ⟨s0, s1, s2, s3⟩
      go_simp
      with_reducible rfl
     rotate_left
     ·simp only [Act.put, List.setIfInBounds_toArray, List.set_cons_zero, List.set_cons_succ, i64_w, i32_w]
      rfl
     refine pure_ (i := 11) (N := some 50) (v := ?_) (a' := ?_) #[true, true, true, true, true, true, true, true, true, true, true, true, false, false, false, false, false, false, false, false, false, false, false, false, false] rfl rfl (any_of HT_.out (by kernel_rfl)) (fun _ _ _ h => h) (Or.inl ⟨by rfl, ?_⟩) ?_ ?_
     rotate_left
     ·intro w'
      go_simp
      with_reducible rfl
     rotate_left
     ·simp only [Act.put, List.setIfInBounds_toArray, List.set_cons_zero, List.set_cons_succ, i64_w, i32_w]
      rfl
     refine pure_ (i := 12) (N := some 51) (v := ?_) (a' := ?_) #[true, true, true, true, true, true, true, true, true, true, true, true, true, false, false, false, false, false, false, false, false, false, false, false, false] rfl rfl (any_of HT_.out (by kernel_rfl)) (fun _ _ _ h => h) (Or.inl ⟨by rfl, ?_⟩) ?_ ?_
     rotate_left
     ·intro w'
      go_simp
      with_reducible rfl
     rotate_left
     ·simp only [Act.put, List.setIfInBounds_toArray, List.set_cons_zero, List.set_cons_succ, i64_w, i32_w]
      rfl
     refine pure_ (i := 13) (N := some 52) (v := ?_) (a' := ?_) #[true, true, true, true, true, true, true, true, true, true, true, true, true, true, false, false, false, false, false, false, false, false, false, false, false] rfl rfl (any_of HT_.out (by kernel_rfl)) (fun _ _ _ h => h) (Or.inl ⟨by rfl, ?_⟩) ?_ ?_
     rotate_left
     ·intro w'
      go_simp
      with_reducible rfl
     rotate_left
     ·simp only [Act.put, List.setIfInBounds_toArray, List.set_cons_zero, List.set_cons_succ, i64_w, i32_w]
      rfl
     refine pure_ (i := 14) (N := some 53) (v := ?_) (a' := ?_) #[true, true, true, true, true, true, true, true, true, true, true, true, true, true, true, false, false, false, false, false, false, false, false, false, false] rfl rfl (any_of HT_.out (by kernel_rfl)) (fun _ _ _ h => h) (Or.inl ⟨by rfl, ?_⟩) ?_ ?_
     rotate_left
     ·intro w'
      go_simp
      with_reducible rfl
     rotate_left
     ·simp only [Act.put, List.setIfInBounds_toArray, List.set_cons_zero, List.set_cons_succ, i64_w, i32_w]
      rfl
     refine pure_ (i := 15) (N := some 54) (v := undef) (a' := ?_) #[true, true, true, true, true, true, true, true, true, true, true, true, true, true, true, true, false, false, false, false, false, false, false, false, false] rfl rfl (any_of HT_.out (by kernel_rfl)) (fun _ _ _ h => h) (Or.inr ⟨by rfl, rfl⟩) ?_ ?_
     rotate_left
     ·simp only [Act.put, List.setIfInBounds_toArray, List.set_cons_zero, List.set_cons_succ, i64_w, i32_w]
      rfl
     refine pure_ (i := 16) (N := some 55) (v := undef) (a' := ?_) #[true, true, true, true, true, true, true, true, true, true, true, true, true, true, true, true, true, false, false, false, false, false, false, false, false] rfl rfl (any_of HT_.out (by kernel_rfl)) (fun _ _ _ h => h) (Or.inr ⟨by rfl, rfl⟩) ?_ ?_
     rotate_left
     ·simp only [Act.put, List.setIfInBounds_toArray, List.set_cons_zero, List.set_cons_succ, i64_w, i32_w]
      rfl
     refine pure_ (i := 17) (N := some 56) (v := undef) (a' := ?_) #[true, true, true, true, true, true, true, true, true, true, true, true, true, true, true, true, true, true, false, false, false, false, false, false, false] rfl rfl (any_of HT_.out (by kernel_rfl)) (fun _ _ _ h => h) (Or.inr ⟨by rfl, rfl⟩) ?_ ?_
     rotate_left
     ·simp only [Act.put, List.setIfInBounds_toArray, List.set_cons_zero, List.set_cons_succ, i64_w, i32_w]
      rfl
     refine pure_ (i := 18) (N := some 57) (v := undef) (a' := ?_) #[true, true, true, true, true, true, true, true, true, true, true, true, true, true, true, true, true, true, true, false, false, false, false, false, false] rfl rfl (any_of HT_.out (by kernel_rfl)) (fun _ _ _ h => h) (Or.inr ⟨by rfl, rfl⟩) ?_ ?_
     rotate_left
     ·simp only [Act.put, List.setIfInBounds_toArray, List.set_cons_zero, List.set_cons_succ, i64_w, i32_w]
      rfl
     refine pure_ (i := 19) (N := some 58) (v := undef) (a' := ?_) #[true, true, true, true, true, true, true, true, true, true, true, true, true, true, true, true, true, true, true, true, false, false, false, false, false] rfl rfl (any_of HT_.out (by kernel_rfl)) (fun _ _ _ h => h) (Or.inr ⟨by rfl, rfl⟩) ?_ ?_
     rotate_left
     ·simp only [Act.put, List.setIfInBounds_toArray, List.set_cons_zero, List.set_cons_succ, i64_w, i32_w]
      rfl
     refine pure_ (i := 20) (N := some 59) (v := undef) (a' := ?_) #[true, true, true, true, true, true, true, true, true, true, true, true, true, true, true, true, true, true, true, true, true, false, false, false, false] rfl rfl (any_of HT_.out (by kernel_rfl)) (fun _ _ _ h => h) (Or.inr ⟨by rfl, rfl⟩) ?_ ?_
     rotate_left
     ·simp only [Act.put, List.setIfInBounds_toArray, List.set_cons_zero, List.set_cons_succ, i64_w, i32_w]
      rfl
     refine pure_ (i := 21) (N := some 60) (v := undef) (a' := ?_) #[true, true, true, true, true, true, true, true, true, true, true, true, true, true, true, true, true, true, true, true, true, true, false, false, false] rfl rfl (any_of HT_.out (by kernel_rfl)) (fun _ _ _ h => h) (Or.inr ⟨by rfl, rfl⟩) ?_ ?_
     rotate_left
     ·simp only [Act.put, List.setIfInBounds_toArray, List.set_cons_zero, List.set_cons_succ, i64_w, i32_w]
      rfl
     refine pure_ (i := 22) (N := some 61) (v := undef) (a' := ?_) #[true, true, true, true, true, true, true, true, true, true, true, true, true, true, true, true, true, true, true, true, true, true, true, false, false] rfl rfl (any_of HT_.out (by kernel_rfl)) (fun _ _ _ h => h) (Or.inr ⟨by rfl, rfl⟩) ?_ ?_
     rotate_left
     ·simp only [Act.put, List.setIfInBounds_toArray, List.set_cons_zero, List.set_cons_succ, i64_w, i32_w]
      rfl
     refine pure_ (i := 23) (N := some 62) (v := undef) (a' := ?_) #[true, true, true, true, true, true, true, true, true, true, true, true, true, true, true, true, true, true, true, true, true, true, true, true, false] rfl rfl (any_of HT_.out (by kernel_rfl)) (fun _ _ _ h => h) (Or.inr ⟨by rfl, rfl⟩) ?_ ?_
     rotate_left
     ·simp only [Act.put, List.setIfInBounds_toArray, List.set_cons_zero, List.set_cons_succ, i64_w, i32_w]
      rfl
     refine pure_ (i := 24) (N := some 63) (v := ?_) (a' := ?_) #[true, true, true, true, true, true, true, true, true, true, true, true, true, true, true, true, true, true, true, true, true, true, true, true, true] rfl rfl (any_of HT_.out (by kernel_rfl)) (fun _ _ _ h => h) (Or.inl ⟨by rfl, ?_⟩) ?_ ?_
     rotate_left
     ·intro w'
      go_simp
      with_reducible rfl
     rotate_left
     ·simp only [Act.put, List.setIfInBounds_toArray, List.set_cons_zero, List.set_cons_succ, i64_w, i32_w]
      rfl
     refine done_ (done_of HT_.out (by kernel_rfl)) ?_
     try go_wp2
     go_meet
     case rel => exact ⟨_, (true), (by first | rfl | (simp; done) | (simp [*]; done)), H', ⟨by first | omega | exact Nat.le_refl _⟩, ⟨by (with_reducible repeat (first | refine qN ?_ _ | refine qD ?_ | refine qA ?_ _)); exact BK188.out⟩, ⟨by (with_reducible repeat (first | refine qN ?_ _ | refine qD ?_ | refine qA ?_ _)); exact BK189.out⟩, ⟨by (with_reducible repeat (first | refine qN ?_ _ | refine qD ?_ | refine qA ?_ _)); exact BK190.out⟩, ⟨by (with_reducible repeat (first | refine qN ?_ _ | refine qD ?_ | refine qA ?_ _)); exact BK191.out⟩, ⟨by (with_reducible repeat (first | refine qN ?_ _ | refine qD ?_ | refine qA ?_ _)); exact BK195.out⟩, ⟨by (with_reducible repeat (first | refine qN ?_ _ | refine qD ?_ | refine qA ?_ _)); exact BK199.out⟩, ⟨by repeat (first | (with_reducible first | exact HB.out | apply qpA | apply qpN | apply qp1 | refine qpS ?_ GE188.out | refine qpS ?_ GE189.out | refine qpS ?_ GE190.out | refine qpS ?_ GE191.out | refine qpS ?_ GE195.out | refine qpS ?_ GE199.out) | exact HB.out)⟩⟩
   ·rw [if_neg c45] at H
    have c45b0 : (t203 != (decide (a2 ≤ a0_1))) = false := by simpa using c45
    (try (have c45b1 : decide (t203 = (decide (a2 ≤ a0_1))) = true := by simpa using c45))
    (try (have c45b2 : (t203 == (decide (a2 ≤ a0_1))) = true := by simpa using c45))
    clear c45
    replace H := Option.bind_eq_some_iff.mp H
    obtain ⟨t204, A480, H⟩ := H
    replace H : (if t204.isNone = true then (fuseelaw13_SpanSteps.j0 k a2 t194 t198 t200 t201 t202 (!(decide (a0_0 ≤ a0_1))) a0_0 a0_1 a1_0 a1_1 t192 t193 t196 t197) else (fuseelaw13_SpanSteps.j0 k a2 t194 t198 t200 t201 t202 (decide (a0_0 ≤ a0_1)) a0_0 a0_1 a1_0 a1_1 t192 t193 t196 t197)) = some r := H
    have A48 := qS A480
    clear A480
    rcases t204 with _ | q205
    ·have H1 : (fuseelaw13_SpanSteps.j0 k a2 t194 t198 t200 t201 t202 (!(decide (a0_0 ≤ a0_1))) a0_0 a0_1 a1_0 a1_1 t192 t193 t196 t197) = some r := by rw [if_pos (show (none : Option Int).isNone = true by rfl)] at H; exact H
     clear H
     have H := H1
     clear H1
     try simp only [errW_none, errW_some]
     as_aux_lemma =>
      have H' := qS H
      clear H
      try go_wp2
      have n0_ := qS (qD BK188.out)
      have n1_ := qS (qD BK189.out)
      have n2_ := qS (qD BK190.out)
      have n3_ := qS (qD BK191.out)
      have n4_ := qS (qD BK195.out)
      have n5_ := qS (qD BK199.out)
      have n6_ := qS (qp1 HB.out)
      clear BK188
      clear BK189
      clear BK190
      clear BK191
      clear BK195
      clear BK199
      clear HB
      have BK188 := n0_
      have BK189 := n1_
      have BK190 := n2_
      have BK191 := n3_
      have BK195 := n4_
      have BK199 := n5_
      have HB := n6_
      clear n0_ n1_ n2_ n3_ n4_ n5_ n6_
      refine start_ (n := 25) (S := fun w' => w'.cell? ⟨gb190, 0, none⟩ = some (.int .i64 a0_0) ∧ w'.cell? ⟨gb190, 1, none⟩ = some (.int .i64 a0_1) ∧ w'.cell? ⟨gb188, 0, none⟩ = some (.int .i64 a0_0) ∧ w'.cell? ⟨gb188, 1, none⟩ = some (.int .i64 a0_1)) (ds := []) #[false, false, false, false, false, false, false, false, false, false, false, false, false, false, false, false, false, false, false, false, false, false, false, false, false] (by kernel_rfl) rfl rfl ⟨(qC BK190.out 0).trans rfl, (qC BK190.out 1).trans rfl, (qC BK188.out 0).trans rfl, (qC BK188.out 1).trans rfl⟩ (fun hHeld => ?_); refine with_tabW fuseelaw13_SpanSteps.tab5 fuseelaw13_SpanSteps.bits5 (fun HT_ HW_ => ?_)
      generalize w42.drew = w49 at BK188 BK189 BK190 BK191 BK195 BK199 HB hHeld ⊢
      refine pure_ (i := 1) (N := some 40) (v := ?_) (a' := ?_) #[false, true, false, false, false, false, false, false, false, false, false, false, false, false, false, false, false, false, false, false, false, false, false, false, false] rfl rfl (any_of HT_.out (by kernel_rfl)) (fun _ _ _ h => h) (Or.inl ⟨by rfl, ?_⟩) ?_ ?_
      rotate_left
      ·intro w'
       go_simp
       with_reducible rfl
      rotate_left
      ·simp only [Act.put, List.setIfInBounds_toArray, List.set_cons_zero, List.set_cons_succ, i64_w, i32_w]
       rfl
      refine pure_ (i := 3) (N := some 42) (v := ?_) (a' := ?_) #[false, true, false, true, false, false, false, false, false, false, false, false, false, false, false, false, false, false, false, false, false, false, false, false, false] rfl rfl (any_of HT_.out (by kernel_rfl)) (fun _ _ _ h => h) (Or.inl ⟨by rfl, ?_⟩) ?_ ?_
      rotate_left
      ·intro w'
       go_simp
       with_reducible rfl
      rotate_left
      ·simp only [Act.put, List.setIfInBounds_toArray, List.set_cons_zero, List.set_cons_succ, i64_w, i32_w]
       rfl
      refine pure_ (i := 5) (N := some 44) (v := ?_) (a' := ?_) #[false, true, false, true, false, true, false, false, false, false, false, false, false, false, false, false, false, false, false, false, false, false, false, false, false] rfl rfl (any_of HT_.out (by kernel_rfl)) (fun _ _ _ h => h) (Or.inl ⟨by rfl, ?_⟩) ?_ ?_
      rotate_left
      ·intro w'
       go_simp
       with_reducible rfl
      rotate_left
      ·simp only [Act.put, List.setIfInBounds_toArray, List.set_cons_zero, List.set_cons_succ, i64_w, i32_w]
       rfl
      refine take_ (i := 0) (N := some 39) (v := ?_) (a' := ?_) #[true, true, false, true, false, true, false, false, false, false, false, false, false, false, false, false, false, false, false, false, false, false, false, false, false] rfl rfl (take_ofW HT_.out HW_.out (by kernel_rfl)) (fun _ _ _ h => h) (Or.inl ⟨by rfl, ?_⟩) hHeld ?_ ?_
      rotate_left
      ·rintro w' ⟨s0, s1, s2, s3⟩
       go_simp
       with_reducible rfl
      rotate_left
      ·simp only [Act.put, List.setIfInBounds_toArray, List.set_cons_zero, List.set_cons_succ, i64_w, i32_w]
       rfl
      refine take_ (i := 4) (N := some 43) (v := ?_) (a' := ?_) #[true, true, false, true, true, true, false, false, false, false, false, false, false, false, false, false, false, false, false, false, false, false, false, false, false] rfl rfl (take_ofW HT_.out HW_.out (by kernel_rfl)) (fun _ _ _ h => h) (Or.inl ⟨by rfl, ?_⟩) hHeld ?_ ?_
      rotate_left
      ·rintro w' ⟨s0, s1, s2, s3⟩
       go_simp
       with_reducible rfl
      rotate_left
      ·simp only [Act.put, List.setIfInBounds_toArray, List.set_cons_zero, List.set_cons_succ, i64_w, i32_w]
       rfl
      refine pure_ (i := 6) (N := some 45) (v := ?_) (a' := ?_) #[true, true, false, true, true, true, true, false, false, false, false, false, false, false, false, false, false, false, false, false, false, false, false, false, false] rfl rfl (any_of HT_.out (by kernel_rfl)) (fun _ _ _ h => h) (Or.inl ⟨by rfl, ?_⟩) ?_ ?_
      rotate_left
      ·intro w'
       go_simp
       with_reducible rfl
      rotate_left
      ·simp only [Act.put, List.setIfInBounds_toArray, List.set_cons_zero, List.set_cons_succ, i64_w, i32_w]
       rfl
      refine one_ (i := 2) (N := some 41) #[true, true, true, true, true, true, true, false, false, false, false, false, false, false, false, false, false, false, false, false, false, false, false, false, false] rfl rfl (one_of HT_.out (by kernel_rfl)) (by decide) (fun K hK => ?_)
      refine goes_ Tryd.func39 (by kernel_rfl) rfl #[.agg #[.int .i64 a0_0, .int .i64 a0_1], .int .i64 a2] (by rfl) rfl rfl (by (try simp only [List.map_toArray, List.map_cons, List.map_nil]); first | done | rfl | (simp only [*]; done) | (simp only [List.length_drop, List.length_take]; rfl)) ?_
      with_reducible refine (span_Has.calls a0_0 a0_1 a2 t203 _ A43.out).mono ?_
      rintro e w50 ⟨rfl, hb⟩
      refine ⟨_, rfl, ?_⟩
      have n0_ := qS (qB (g := gb188) (o := .cells #[.int .i64 a0_0, .int .i64 a0_1] 73 (0, 0)) (by (with_reducible repeat (first | refine qN ?_ _ | refine qD ?_ | refine qA ?_ _)); exact BK188.out) hb)
      have n1_ := qS (qB (g := gb189) (o := .cells #[.int .i64 a1_0, .int .i64 a1_1] 73 (0, 0)) (by (with_reducible repeat (first | refine qN ?_ _ | refine qD ?_ | refine qA ?_ _)); exact BK189.out) hb)
      have n2_ := qS (qB (g := gb190) (o := .cells #[.int .i64 a0_0, .int .i64 a0_1] 68 (0, 0)) (by (with_reducible repeat (first | refine qN ?_ _ | refine qD ?_ | refine qA ?_ _)); exact BK190.out) hb)
      have n3_ := qS (qB (g := gb191) (o := .cells #[.int .i64 a1_0, .int .i64 a1_1] 68 (0, 0)) (by (with_reducible repeat (first | refine qN ?_ _ | refine qD ?_ | refine qA ?_ _)); exact BK191.out) hb)
      have n4_ := qS (qB (g := gb195) (o := .cells #[.int .i64 t192, .int .i64 t193] 68 (0, 0)) (by (with_reducible repeat (first | refine qN ?_ _ | refine qD ?_ | refine qA ?_ _)); exact BK195.out) hb)
      have n5_ := qS (qB (g := gb199) (o := .cells #[.int .i64 t196, .int .i64 t197] 68 (0, 0)) (by (with_reducible repeat (first | refine qN ?_ _ | refine qD ?_ | refine qA ?_ _)); exact BK199.out) hb)
      have n6_ := qS (below_step (by repeat (first | (with_reducible first | exact HB.out | apply qpA | apply qpN | apply qp1 | refine qpS ?_ GE188.out | refine qpS ?_ GE189.out | refine qpS ?_ GE190.out | refine qpS ?_ GE191.out | refine qpS ?_ GE195.out | refine qpS ?_ GE199.out) | exact HB.out)) hb)
      clear BK188
      clear BK189
      clear BK190
      clear BK191
      clear BK195
      clear BK199
      clear HB
      have BK188 := n0_
      have BK189 := n1_
      have BK190 := n2_
      have BK191 := n3_
      have BK195 := n4_
      have BK199 := n5_
      have HB := n6_
      clear n0_ n1_ n2_ n3_ n4_ n5_ n6_
      (try clear hb)
      (try clear hb2)
      (try clear hk)
      (try clear hi)
      refine hK.out _ _ ⟨(qC BK190.out 0).trans rfl, (qC BK190.out 1).trans rfl, (qC BK188.out 0).trans rfl, (qC BK188.out 1).trans rfl⟩ (fun hHeld => ?_)
      clear hK K
      refine norm_ (a' := ?_) ?_ ?_
      rotate_left
      ·show Act.put _ (some 41) _ = _
       simp only [Act.put, List.setIfInBounds_toArray, List.set_cons_zero, List.set_cons_succ, i64_w, i32_w]
       rfl
      refine pure_ (i := 7) (N := some 46) (v := ?_) (a' := ?_) #[true, true, true, true, true, true, true, true, false, false, false, false, false, false, false, false, false, false, false, false, false, false, false, false, false] rfl rfl (any_of HT_.out (by kernel_rfl)) (fun _ _ _ h => h) (Or.inl ⟨by rfl, ?_⟩) ?_ ?_
      rotate_left
      ·intro w'
       go_simp
       with_reducible rfl
      rotate_left
      ·simp only [Act.put, List.setIfInBounds_toArray, List.set_cons_zero, List.set_cons_succ, i64_w, i32_w]
       rfl
      refine pure_ (i := 8) (N := some 47) (v := ?_) (a' := ?_) #[true, true, true, true, true, true, true, true, true, false, false, false, false, false, false, false, false, false, false, false, false, false, false, false, false] rfl rfl (any_of HT_.out (by kernel_rfl)) (fun _ _ _ h => h) (Or.inl ⟨by rfl, ?_⟩) ?_ ?_
      rotate_left
      ·intro w'
       go_simp
       with_reducible rfl
      rotate_left
      ·simp only [Act.put, List.setIfInBounds_toArray, List.set_cons_zero, List.set_cons_succ, i64_w, i32_w]
       rfl
      refine pure_ (i := 9) (N := some 48) (v := ?_) (a' := ?_) #[true, true, true, true, true, true, true, true, true, true, false, false, false, false, false, false, false, false, false, false, false, false, false, false, false] rfl rfl (any_of HT_.out (by kernel_rfl)) (fun _ _ _ h => h) (Or.inl ⟨by rfl, ?_⟩) ?_ ?_
      rotate_left
      ·intro w'
       go_simp
       with_reducible rfl
      rotate_left
      ·simp only [Act.put, List.setIfInBounds_toArray, List.set_cons_zero, List.set_cons_succ, i64_w, i32_w]
       rfl
      refine take_ (i := 10) (N := some 49) (v := ?_) (a' := ?_) #[true, true, true, true, true, true, true, true, true, true, true, false, false, false, false, false, false, false, false, false, false, false, false, false, false] rfl rfl (take_ofW HT_.out HW_.out (by kernel_rfl)) (fun _ _ _ h => h) (Or.inl ⟨by rfl, ?_⟩) hHeld ?_ ?_
      rotate_left
      ·rintro w' ⟨s0, s1, s2, s3⟩
       go_simp
       with_reducible rfl
      rotate_left
      ·simp only [Act.put, List.setIfInBounds_toArray, List.set_cons_zero, List.set_cons_succ, i64_w, i32_w]
       rfl
      refine pure_ (i := 11) (N := some 50) (v := ?_) (a' := ?_) #[true, true, true, true, true, true, true, true, true, true, true, true, false, false, false, false, false, false, false, false, false, false, false, false, false] rfl rfl (any_of HT_.out (by kernel_rfl)) (fun _ _ _ h => h) (Or.inl ⟨by rfl, ?_⟩) ?_ ?_
      rotate_left
      ·intro w'
       go_simp
       with_reducible rfl
      rotate_left
      ·simp only [Act.put, List.setIfInBounds_toArray, List.set_cons_zero, List.set_cons_succ, i64_w, i32_w]
       rfl
      refine pure_ (i := 12) (N := some 51) (v := ?_) (a' := ?_) #[true, true, true, true, true, true, true, true, true, true, true, true, true, false, false, false, false, false, false, false, false, false, false, false, false] rfl rfl (any_of HT_.out (by kernel_rfl)) (fun _ _ _ h => h) (Or.inl ⟨by rfl, ?_⟩) ?_ ?_
      rotate_left
      ·intro w'
       go_simp
       with_reducible rfl
      rotate_left
      ·simp only [Act.put, List.setIfInBounds_toArray, List.set_cons_zero, List.set_cons_succ, i64_w, i32_w]
       rfl
      refine pure_ (i := 13) (N := some 52) (v := ?_) (a' := ?_) #[true, true, true, true, true, true, true, true, true, true, true, true, true, true, false, false, false, false, false, false, false, false, false, false, false] rfl rfl (any_of HT_.out (by kernel_rfl)) (fun _ _ _ h => h) (Or.inl ⟨by rfl, ?_⟩) ?_ ?_
      rotate_left
      ·intro w'
       go_simp
       with_reducible rfl
      rotate_left
      ·simp only [Act.put, List.setIfInBounds_toArray, List.set_cons_zero, List.set_cons_succ, i64_w, i32_w]
       rfl
      refine pure_ (i := 14) (N := some 53) (v := ?_) (a' := ?_) #[true, true, true, true, true, true, true, true, true, true, true, true, true, true, true, false, false, false, false, false, false, false, false, false, false] rfl rfl (any_of HT_.out (by kernel_rfl)) (fun _ _ _ h => h) (Or.inl ⟨by rfl, ?_⟩) ?_ ?_
      rotate_left
      ·intro w'
       go_simp
       with_reducible rfl
      rotate_left
      ·simp only [Act.put, List.setIfInBounds_toArray, List.set_cons_zero, List.set_cons_succ, i64_w, i32_w]
       rfl
      refine pure_ (i := 18) (N := some 57) (v := ?_) (a' := ?_) #[true, true, true, true, true, true, true, true, true, true, true, true, true, true, true, false, false, false, true, false, false, false, false, false, false] rfl rfl (any_of HT_.out (by kernel_rfl)) (fun _ _ _ h => h) (Or.inl ⟨by rfl, ?_⟩) ?_ ?_
      rotate_left
      ·intro w'
       go_simp
       with_reducible rfl
      rotate_left
      ·simp only [Act.put, List.setIfInBounds_toArray, List.set_cons_zero, List.set_cons_succ, i64_w, i32_w]
       rfl
      refine pure_ (i := 20) (N := some 59) (v := ?_) (a' := ?_) #[true, true, true, true, true, true, true, true, true, true, true, true, true, true, true, false, false, false, true, false, true, false, false, false, false] rfl rfl (any_of HT_.out (by kernel_rfl)) (fun _ _ _ h => h) (Or.inl ⟨by rfl, ?_⟩) ?_ ?_
      rotate_left
      ·intro w'
       go_simp
       with_reducible rfl
      rotate_left
      ·simp only [Act.put, List.setIfInBounds_toArray, List.set_cons_zero, List.set_cons_succ, i64_w, i32_w]
       rfl
      refine take_ (i := 15) (N := some 54) (v := ?_) (a' := ?_) #[true, true, true, true, true, true, true, true, true, true, true, true, true, true, true, true, false, false, true, false, true, false, false, false, false] rfl rfl (take_ofW HT_.out HW_.out (by kernel_rfl)) (fun _ _ _ h => h) (Or.inl ⟨by rfl, ?_⟩) hHeld ?_ ?_
      rotate_left
      ·rintro w' ⟨s0, s1, s2, s3⟩
       go_simp
       with_reducible rfl
      rotate_left
      ·simp only [Act.put, List.setIfInBounds_toArray, List.set_cons_zero, List.set_cons_succ, i64_w, i32_w]
       rfl
      refine take_ (i := 19) (N := some 58) (v := ?_) (a' := ?_) #[true, true, true, true, true, true, true, true, true, true, true, true, true, true, true, true, false, false, true, true, true, false, false, false, false] rfl rfl (take_ofW HT_.out HW_.out (by kernel_rfl)) (fun _ _ _ h => h) (Or.inl ⟨by rfl, ?_⟩) hHeld ?_ ?_
      rotate_left
      ·rintro w' ⟨s0, s1, s2, s3⟩
       go_simp
       with_reducible rfl
      rotate_left
      ·simp only [Act.put, List.setIfInBounds_toArray, List.set_cons_zero, List.set_cons_succ, i64_w, i32_w]
       rfl
      refine take_ (i := 21) (N := some 60) (v := ?_) (a' := ?_) #[true, true, true, true, true, true, true, true, true, true, true, true, true, true, true, true, false, false, true, true, true, true, false, false, false] rfl rfl (take_ofW HT_.out HW_.out (by kernel_rfl)) (fun _ _ _ h => h) (Or.inl ⟨by rfl, ?_⟩) hHeld ?_ ?_
      rotate_left
      ·rintro w' ⟨s0, s1, s2, s3⟩
       go_simp
       with_reducible rfl
      rotate_left
      ·simp only [Act.put, List.setIfInBounds_toArray, List.set_cons_zero, List.set_cons_succ, i64_w, i32_w]
       rfl
      refine pure_ (i := 22) (N := some 61) (v := ?_) (a' := ?_) #[true, true, true, true, true, true, true, true, true, true, true, true, true, true, true, true, false, false, true, true, true, true, true, false, false] rfl rfl (any_of HT_.out (by kernel_rfl)) (fun _ _ _ h => h) (Or.inl ⟨by rfl, ?_⟩) ?_ ?_
      rotate_left
      ·intro w'
       go_simp
       with_reducible rfl
      rotate_left
      ·simp only [Act.put, List.setIfInBounds_toArray, List.set_cons_zero, List.set_cons_succ, i64_w, i32_w]
       rfl
      refine one_ (i := 16) (N := some 55) #[true, true, true, true, true, true, true, true, true, true, true, true, true, true, true, true, true, false, true, true, true, true, true, false, false] rfl rfl (one_of HT_.out (by kernel_rfl)) (by decide) (fun K hK => ?_)
      refine goes_ Tryd.func53 (by kernel_rfl) rfl #[.agg #[.int .i64 a0_0, .int .i64 a0_1]] (by rfl) rfl rfl (by (try simp only [List.map_toArray, List.map_cons, List.map_nil]); first | done | rfl | (simp only [*]; done) | (simp only [List.length_drop, List.length_take]; rfl)) ?_
      with_reducible refine (span_Check.calls a0_0 a0_1 none _ A48.out).mono ?_
      rintro e w51 ⟨rfl, hb⟩
      refine ⟨_, rfl, ?_⟩
      have n0_ := qS (qB (g := gb188) (o := .cells #[.int .i64 a0_0, .int .i64 a0_1] 73 (0, 0)) (by (with_reducible repeat (first | refine qN ?_ _ | refine qD ?_ | refine qA ?_ _)); exact BK188.out) hb)
      have n1_ := qS (qB (g := gb189) (o := .cells #[.int .i64 a1_0, .int .i64 a1_1] 73 (0, 0)) (by (with_reducible repeat (first | refine qN ?_ _ | refine qD ?_ | refine qA ?_ _)); exact BK189.out) hb)
      have n2_ := qS (qB (g := gb190) (o := .cells #[.int .i64 a0_0, .int .i64 a0_1] 68 (0, 0)) (by (with_reducible repeat (first | refine qN ?_ _ | refine qD ?_ | refine qA ?_ _)); exact BK190.out) hb)
      have n3_ := qS (qB (g := gb191) (o := .cells #[.int .i64 a1_0, .int .i64 a1_1] 68 (0, 0)) (by (with_reducible repeat (first | refine qN ?_ _ | refine qD ?_ | refine qA ?_ _)); exact BK191.out) hb)
      have n4_ := qS (qB (g := gb195) (o := .cells #[.int .i64 t192, .int .i64 t193] 68 (0, 0)) (by (with_reducible repeat (first | refine qN ?_ _ | refine qD ?_ | refine qA ?_ _)); exact BK195.out) hb)
      have n5_ := qS (qB (g := gb199) (o := .cells #[.int .i64 t196, .int .i64 t197] 68 (0, 0)) (by (with_reducible repeat (first | refine qN ?_ _ | refine qD ?_ | refine qA ?_ _)); exact BK199.out) hb)
      have n6_ := qS (below_step (by repeat (first | (with_reducible first | exact HB.out | apply qpA | apply qpN | apply qp1 | refine qpS ?_ GE188.out | refine qpS ?_ GE189.out | refine qpS ?_ GE190.out | refine qpS ?_ GE191.out | refine qpS ?_ GE195.out | refine qpS ?_ GE199.out) | exact HB.out)) hb)
      clear BK188
      clear BK189
      clear BK190
      clear BK191
      clear BK195
      clear BK199
      clear HB
      have BK188 := n0_
      have BK189 := n1_
      have BK190 := n2_
      have BK191 := n3_
      have BK195 := n4_
      have BK199 := n5_
      have HB := n6_
      clear n0_ n1_ n2_ n3_ n4_ n5_ n6_
      (try clear hb)
      (try clear hb2)
      (try clear hk)
      (try clear hi)
      (try simp only [errW_none, errW_some])
      refine hK.out _ _ ⟨(qC BK190.out 0).trans rfl, (qC BK190.out 1).trans rfl, (qC BK188.out 0).trans rfl, (qC BK188.out 1).trans rfl⟩ (fun hHeld => ?_)
      clear hK K
      refine norm_ (a' := ?_) ?_ ?_
      rotate_left
      ·show Act.put _ (some 55) _ = _
       simp only [Act.put, List.setIfInBounds_toArray, List.set_cons_zero, List.set_cons_succ, i64_w, i32_w]
       rfl
      refine pure_ (i := 17) (N := some 56) (v := ?_) (a' := ?_) #[true, true, true, true, true, true, true, true, true, true, true, true, true, true, true, true, true, true, true, true, true, true, true, false, false] rfl rfl (any_of HT_.out (by kernel_rfl)) (fun _ _ _ h => h) (Or.inl ⟨by rfl, ?_⟩) ?_ ?_
      rotate_left
      ·intro w'
       go_simp
       with_reducible rfl
      rotate_left
      ·simp only [Act.put, List.setIfInBounds_toArray, List.set_cons_zero, List.set_cons_succ, i64_w, i32_w]
       rfl
      refine pure_ (i := 23) (N := some 62) (v := ?_) (a' := ?_) #[true, true, true, true, true, true, true, true, true, true, true, true, true, true, true, true, true, true, true, true, true, true, true, true, false] rfl rfl (any_of HT_.out (by kernel_rfl)) (fun _ _ _ h => h) (Or.inl ⟨by rfl, ?_⟩) ?_ ?_
      rotate_left
      ·intro w'
       go_simp
       with_reducible rfl
      rotate_left
      ·simp only [Act.put, List.setIfInBounds_toArray, List.set_cons_zero, List.set_cons_succ, i64_w, i32_w]
       rfl
      refine pure_ (i := 24) (N := some 63) (v := ?_) (a' := ?_) #[true, true, true, true, true, true, true, true, true, true, true, true, true, true, true, true, true, true, true, true, true, true, true, true, true] rfl rfl (any_of HT_.out (by kernel_rfl)) (fun _ _ _ h => h) (Or.inl ⟨by rfl, ?_⟩) ?_ ?_
      rotate_left
      ·intro w'
       go_simp
       with_reducible rfl
      rotate_left
      ·simp only [Act.put, List.setIfInBounds_toArray, List.set_cons_zero, List.set_cons_succ, i64_w, i32_w]
       rfl
      refine done_ (done_of HT_.out (by kernel_rfl)) ?_
      try go_wp2
      go_meet
      case rel => exact ⟨_, (!(decide (a0_0 ≤ a0_1))), (by first | rfl | (simp; done) | (simp [*]; done)), H', ⟨by first | omega | exact Nat.le_refl _⟩, ⟨by (with_reducible repeat (first | refine qN ?_ _ | refine qD ?_ | refine qA ?_ _)); exact BK188.out⟩, ⟨by (with_reducible repeat (first | refine qN ?_ _ | refine qD ?_ | refine qA ?_ _)); exact BK189.out⟩, ⟨by (with_reducible repeat (first | refine qN ?_ _ | refine qD ?_ | refine qA ?_ _)); exact BK190.out⟩, ⟨by (with_reducible repeat (first | refine qN ?_ _ | refine qD ?_ | refine qA ?_ _)); exact BK191.out⟩, ⟨by (with_reducible repeat (first | refine qN ?_ _ | refine qD ?_ | refine qA ?_ _)); exact BK195.out⟩, ⟨by (with_reducible repeat (first | refine qN ?_ _ | refine qD ?_ | refine qA ?_ _)); exact BK199.out⟩, ⟨by repeat (first | (with_reducible first | exact HB.out | apply qpA | apply qpN | apply qp1 | refine qpS ?_ GE188.out | refine qpS ?_ GE189.out | refine qpS ?_ GE190.out | refine qpS ?_ GE191.out | refine qpS ?_ GE195.out | refine qpS ?_ GE199.out) | exact HB.out)⟩⟩
    ·have H1 : (fuseelaw13_SpanSteps.j0 k a2 t194 t198 t200 t201 t202 (decide (a0_0 ≤ a0_1)) a0_0 a0_1 a1_0 a1_1 t192 t193 t196 t197) = some r := by rw [if_neg (show ¬ (some q205).isNone = true by simp)] at H; exact H
     clear H
     have H := H1
     clear H1
     try simp only [errW_none, errW_some]
     as_aux_lemma =>
      have H' := qS H
      clear H
      try go_wp2
      have n0_ := qS (qD BK188.out)
      have n1_ := qS (qD BK189.out)
      have n2_ := qS (qD BK190.out)
      have n3_ := qS (qD BK191.out)
      have n4_ := qS (qD BK195.out)
      have n5_ := qS (qD BK199.out)
      have n6_ := qS (qp1 HB.out)
      clear BK188
      clear BK189
      clear BK190
      clear BK191
      clear BK195
      clear BK199
      clear HB
      have BK188 := n0_
      have BK189 := n1_
      have BK190 := n2_
      have BK191 := n3_
      have BK195 := n4_
      have BK199 := n5_
      have HB := n6_
      clear n0_ n1_ n2_ n3_ n4_ n5_ n6_
      refine start_ (n := 25) (S := fun w' => w'.cell? ⟨gb190, 0, none⟩ = some (.int .i64 a0_0) ∧ w'.cell? ⟨gb190, 1, none⟩ = some (.int .i64 a0_1) ∧ w'.cell? ⟨gb188, 0, none⟩ = some (.int .i64 a0_0) ∧ w'.cell? ⟨gb188, 1, none⟩ = some (.int .i64 a0_1)) (ds := []) #[false, false, false, false, false, false, false, false, false, false, false, false, false, false, false, false, false, false, false, false, false, false, false, false, false] (by kernel_rfl) rfl rfl ⟨(qC BK190.out 0).trans rfl, (qC BK190.out 1).trans rfl, (qC BK188.out 0).trans rfl, (qC BK188.out 1).trans rfl⟩ (fun hHeld => ?_); refine with_tabW fuseelaw13_SpanSteps.tab5 fuseelaw13_SpanSteps.bits5 (fun HT_ HW_ => ?_)
      generalize w42.drew = w52 at BK188 BK189 BK190 BK191 BK195 BK199 HB hHeld ⊢
      refine pure_ (i := 1) (N := some 40) (v := ?_) (a' := ?_) #[false, true, false, false, false, false, false, false, false, false, false, false, false, false, false, false, false, false, false, false, false, false, false, false, false] rfl rfl (any_of HT_.out (by kernel_rfl)) (fun _ _ _ h => h) (Or.inl ⟨by rfl, ?_⟩) ?_ ?_
      rotate_left
      ·intro w'
       go_simp
       with_reducible rfl
      rotate_left
      ·simp only [Act.put, List.setIfInBounds_toArray, List.set_cons_zero, List.set_cons_succ, i64_w, i32_w]
       rfl
      refine pure_ (i := 3) (N := some 42) (v := ?_) (a' := ?_) #[false, true, false, true, false, false, false, false, false, false, false, false, false, false, false, false, false, false, false, false, false, false, false, false, false] rfl rfl (any_of HT_.out (by kernel_rfl)) (fun _ _ _ h => h) (Or.inl ⟨by rfl, ?_⟩) ?_ ?_
      rotate_left
      ·intro w'
       go_simp
       with_reducible rfl
      rotate_left
      ·simp only [Act.put, List.setIfInBounds_toArray, List.set_cons_zero, List.set_cons_succ, i64_w, i32_w]
       rfl
      refine pure_ (i := 5) (N := some 44) (v := ?_) (a' := ?_) #[false, true, false, true, false, true, false, false, false, false, false, false, false, false, false, false, false, false, false, false, false, false, false, false, false] rfl rfl (any_of HT_.out (by kernel_rfl)) (fun _ _ _ h => h) (Or.inl ⟨by rfl, ?_⟩) ?_ ?_
      rotate_left
      ·intro w'
       go_simp
       with_reducible rfl
      rotate_left
      ·simp only [Act.put, List.setIfInBounds_toArray, List.set_cons_zero, List.set_cons_succ, i64_w, i32_w]
       rfl
      refine take_ (i := 0) (N := some 39) (v := ?_) (a' := ?_) #[true, true, false, true, false, true, false, false, false, false, false, false, false, false, false, false, false, false, false, false, false, false, false, false, false] rfl rfl (take_ofW HT_.out HW_.out (by kernel_rfl)) (fun _ _ _ h => h) (Or.inl ⟨by rfl, ?_⟩) hHeld ?_ ?_
      rotate_left
      ·rintro w' ⟨s0, s1, s2, s3⟩
       go_simp
       with_reducible rfl
      rotate_left
      ·simp only [Act.put, List.setIfInBounds_toArray, List.set_cons_zero, List.set_cons_succ, i64_w, i32_w]
       rfl
      refine take_ (i := 4) (N := some 43) (v := ?_) (a' := ?_) #[true, true, false, true, true, true, false, false, false, false, false, false, false, false, false, false, false, false, false, false, false, false, false, false, false] rfl rfl (take_ofW HT_.out HW_.out (by kernel_rfl)) (fun _ _ _ h => h) (Or.inl ⟨by rfl, ?_⟩) hHeld ?_ ?_
      rotate_left
      ·rintro w' ⟨s0, s1, s2, s3⟩
       go_simp
       with_reducible rfl
      rotate_left
      ·simp only [Act.put, List.setIfInBounds_toArray, List.set_cons_zero, List.set_cons_succ, i64_w, i32_w]
       rfl
      refine pure_ (i := 6) (N := some 45) (v := ?_) (a' := ?_) #[true, true, false, true, true, true, true, false, false, false, false, false, false, false, false, false, false, false, false, false, false, false, false, false, false] rfl rfl (any_of HT_.out (by kernel_rfl)) (fun _ _ _ h => h) (Or.inl ⟨by rfl, ?_⟩) ?_ ?_
      rotate_left
      ·intro w'
       go_simp
       with_reducible rfl
      rotate_left
      ·simp only [Act.put, List.setIfInBounds_toArray, List.set_cons_zero, List.set_cons_succ, i64_w, i32_w]
       rfl
      refine one_ (i := 2) (N := some 41) #[true, true, true, true, true, true, true, false, false, false, false, false, false, false, false, false, false, false, false, false, false, false, false, false, false] rfl rfl (one_of HT_.out (by kernel_rfl)) (by decide) (fun K hK => ?_)
      refine goes_ Tryd.func39 (by kernel_rfl) rfl #[.agg #[.int .i64 a0_0, .int .i64 a0_1], .int .i64 a2] (by rfl) rfl rfl (by (try simp only [List.map_toArray, List.map_cons, List.map_nil]); first | done | rfl | (simp only [*]; done) | (simp only [List.length_drop, List.length_take]; rfl)) ?_
      with_reducible refine (span_Has.calls a0_0 a0_1 a2 t203 _ A43.out).mono ?_
      rintro e w53 ⟨rfl, hb⟩
      refine ⟨_, rfl, ?_⟩
      have n0_ := qS (qB (g := gb188) (o := .cells #[.int .i64 a0_0, .int .i64 a0_1] 73 (0, 0)) (by (with_reducible repeat (first | refine qN ?_ _ | refine qD ?_ | refine qA ?_ _)); exact BK188.out) hb)
      have n1_ := qS (qB (g := gb189) (o := .cells #[.int .i64 a1_0, .int .i64 a1_1] 73 (0, 0)) (by (with_reducible repeat (first | refine qN ?_ _ | refine qD ?_ | refine qA ?_ _)); exact BK189.out) hb)
      have n2_ := qS (qB (g := gb190) (o := .cells #[.int .i64 a0_0, .int .i64 a0_1] 68 (0, 0)) (by (with_reducible repeat (first | refine qN ?_ _ | refine qD ?_ | refine qA ?_ _)); exact BK190.out) hb)
      have n3_ := qS (qB (g := gb191) (o := .cells #[.int .i64 a1_0, .int .i64 a1_1] 68 (0, 0)) (by (with_reducible repeat (first | refine qN ?_ _ | refine qD ?_ | refine qA ?_ _)); exact BK191.out) hb)
      have n4_ := qS (qB (g := gb195) (o := .cells #[.int .i64 t192, .int .i64 t193] 68 (0, 0)) (by (with_reducible repeat (first | refine qN ?_ _ | refine qD ?_ | refine qA ?_ _)); exact BK195.out) hb)
      have n5_ := qS (qB (g := gb199) (o := .cells #[.int .i64 t196, .int .i64 t197] 68 (0, 0)) (by (with_reducible repeat (first | refine qN ?_ _ | refine qD ?_ | refine qA ?_ _)); exact BK199.out) hb)
      have n6_ := qS (below_step (by repeat (first | (with_reducible first | exact HB.out | apply qpA | apply qpN | apply qp1 | refine qpS ?_ GE188.out | refine qpS ?_ GE189.out | refine qpS ?_ GE190.out | refine qpS ?_ GE191.out | refine qpS ?_ GE195.out | refine qpS ?_ GE199.out) | exact HB.out)) hb)
      clear BK188
      clear BK189
      clear BK190
      clear BK191
      clear BK195
      clear BK199
      clear HB
      have BK188 := n0_
      have BK189 := n1_
      have BK190 := n2_
      have BK191 := n3_
      have BK195 := n4_
      have BK199 := n5_
      have HB := n6_
      clear n0_ n1_ n2_ n3_ n4_ n5_ n6_
      (try clear hb)
      (try clear hb2)
      (try clear hk)
      (try clear hi)
      refine hK.out _ _ ⟨(qC BK190.out 0).trans rfl, (qC BK190.out 1).trans rfl, (qC BK188.out 0).trans rfl, (qC BK188.out 1).trans rfl⟩ (fun hHeld => ?_)
      clear hK K
      refine norm_ (a' := ?_) ?_ ?_
      rotate_left
      ·show Act.put _ (some 41) _ = _
       simp only [Act.put, List.setIfInBounds_toArray, List.set_cons_zero, List.set_cons_succ, i64_w, i32_w]
       rfl
      refine pure_ (i := 7) (N := some 46) (v := ?_) (a' := ?_) #[true, true, true, true, true, true, true, true, false, false, false, false, false, false, false, false, false, false, false, false, false, false, false, false, false] rfl rfl (any_of HT_.out (by kernel_rfl)) (fun _ _ _ h => h) (Or.inl ⟨by rfl, ?_⟩) ?_ ?_
      rotate_left
      ·intro w'
       go_simp
       with_reducible rfl
      rotate_left
      ·simp only [Act.put, List.setIfInBounds_toArray, List.set_cons_zero, List.set_cons_succ, i64_w, i32_w]
       rfl
      refine pure_ (i := 8) (N := some 47) (v := ?_) (a' := ?_) #[true, true, true, true, true, true, true, true, true, false, false, false, false, false, false, false, false, false, false, false, false, false, false, false, false] rfl rfl (any_of HT_.out (by kernel_rfl)) (fun _ _ _ h => h) (Or.inl ⟨by rfl, ?_⟩) ?_ ?_
      rotate_left
      ·intro w'
       go_simp
       with_reducible rfl
      rotate_left
      ·simp only [Act.put, List.setIfInBounds_toArray, List.set_cons_zero, List.set_cons_succ, i64_w, i32_w]
       rfl
      refine pure_ (i := 9) (N := some 48) (v := ?_) (a' := ?_) #[true, true, true, true, true, true, true, true, true, true, false, false, false, false, false, false, false, false, false, false, false, false, false, false, false] rfl rfl (any_of HT_.out (by kernel_rfl)) (fun _ _ _ h => h) (Or.inl ⟨by rfl, ?_⟩) ?_ ?_
      rotate_left
      ·intro w'
       go_simp
       with_reducible rfl
      rotate_left
      ·simp only [Act.put, List.setIfInBounds_toArray, List.set_cons_zero, List.set_cons_succ, i64_w, i32_w]
       rfl
      refine take_ (i := 10) (N := some 49) (v := ?_) (a' := ?_) #[true, true, true, true, true, true, true, true, true, true, true, false, false, false, false, false, false, false, false, false, false, false, false, false, false] rfl rfl (take_ofW HT_.out HW_.out (by kernel_rfl)) (fun _ _ _ h => h) (Or.inl ⟨by rfl, ?_⟩) hHeld ?_ ?_
      rotate_left
      ·rintro w' ⟨s0, s1, s2, s3⟩
       go_simp
       with_reducible rfl
      rotate_left
      ·simp only [Act.put, List.setIfInBounds_toArray, List.set_cons_zero, List.set_cons_succ, i64_w, i32_w]
       rfl
      refine pure_ (i := 11) (N := some 50) (v := ?_) (a' := ?_) #[true, true, true, true, true, true, true, true, true, true, true, true, false, false, false, false, false, false, false, false, false, false, false, false, false] rfl rfl (any_of HT_.out (by kernel_rfl)) (fun _ _ _ h => h) (Or.inl ⟨by rfl, ?_⟩) ?_ ?_
      rotate_left
      ·intro w'
       go_simp
       with_reducible rfl
      rotate_left
      ·simp only [Act.put, List.setIfInBounds_toArray, List.set_cons_zero, List.set_cons_succ, i64_w, i32_w]
       rfl
      refine pure_ (i := 12) (N := some 51) (v := ?_) (a' := ?_) #[true, true, true, true, true, true, true, true, true, true, true, true, true, false, false, false, false, false, false, false, false, false, false, false, false] rfl rfl (any_of HT_.out (by kernel_rfl)) (fun _ _ _ h => h) (Or.inl ⟨by rfl, ?_⟩) ?_ ?_
      rotate_left
      ·intro w'
       go_simp
       with_reducible rfl
      rotate_left
      ·simp only [Act.put, List.setIfInBounds_toArray, List.set_cons_zero, List.set_cons_succ, i64_w, i32_w]
       rfl
      refine pure_ (i := 13) (N := some 52) (v := ?_) (a' := ?_) #[true, true, true, true, true, true, true, true, true, true, true, true, true, true, false, false, false, false, false, false, false, false, false, false, false] rfl rfl (any_of HT_.out (by kernel_rfl)) (fun _ _ _ h => h) (Or.inl ⟨by rfl, ?_⟩) ?_ ?_
      rotate_left
      ·intro w'
       go_simp
       with_reducible rfl
      rotate_left
      ·simp only [Act.put, List.setIfInBounds_toArray, List.set_cons_zero, List.set_cons_succ, i64_w, i32_w]
       rfl
      refine pure_ (i := 14) (N := some 53) (v := ?_) (a' := ?_) #[true, true, true, true, true, true, true, true, true, true, true, true, true, true, true, false, false, false, false, false, false, false, false, false, false] rfl rfl (any_of HT_.out (by kernel_rfl)) (fun _ _ _ h => h) (Or.inl ⟨by rfl, ?_⟩) ?_ ?_
      rotate_left
      ·intro w'
       go_simp
       with_reducible rfl
      rotate_left
      ·simp only [Act.put, List.setIfInBounds_toArray, List.set_cons_zero, List.set_cons_succ, i64_w, i32_w]
       rfl
      refine pure_ (i := 18) (N := some 57) (v := ?_) (a' := ?_) #[true, true, true, true, true, true, true, true, true, true, true, true, true, true, true, false, false, false, true, false, false, false, false, false, false] rfl rfl (any_of HT_.out (by kernel_rfl)) (fun _ _ _ h => h) (Or.inl ⟨by rfl, ?_⟩) ?_ ?_
      rotate_left
      ·intro w'
       go_simp
       with_reducible rfl
      rotate_left
      ·simp only [Act.put, List.setIfInBounds_toArray, List.set_cons_zero, List.set_cons_succ, i64_w, i32_w]
       rfl
      refine pure_ (i := 20) (N := some 59) (v := ?_) (a' := ?_) #[true, true, true, true, true, true, true, true, true, true, true, true, true, true, true, false, false, false, true, false, true, false, false, false, false] rfl rfl (any_of HT_.out (by kernel_rfl)) (fun _ _ _ h => h) (Or.inl ⟨by rfl, ?_⟩) ?_ ?_
      rotate_left
      ·intro w'
       go_simp
       with_reducible rfl
      rotate_left
      ·simp only [Act.put, List.setIfInBounds_toArray, List.set_cons_zero, List.set_cons_succ, i64_w, i32_w]
       rfl
      refine take_ (i := 15) (N := some 54) (v := ?_) (a' := ?_) #[true, true, true, true, true, true, true, true, true, true, true, true, true, true, true, true, false, false, true, false, true, false, false, false, false] rfl rfl (take_ofW HT_.out HW_.out (by kernel_rfl)) (fun _ _ _ h => h) (Or.inl ⟨by rfl, ?_⟩) hHeld ?_ ?_
      rotate_left
      ·rintro w' ⟨s0, s1, s2, s3⟩
       go_simp
       with_reducible rfl
      rotate_left
      ·simp only [Act.put, List.setIfInBounds_toArray, List.set_cons_zero, List.set_cons_succ, i64_w, i32_w]
       rfl
      refine take_ (i := 19) (N := some 58) (v := ?_) (a' := ?_) #[true, true, true, true, true, true, true, true, true, true, true, true, true, true, true, true, false, false, true, true, true, false, false, false, false] rfl rfl (take_ofW HT_.out HW_.out (by kernel_rfl)) (fun _ _ _ h => h) (Or.inl ⟨by rfl, ?_⟩) hHeld ?_ ?_
      rotate_left
      ·rintro w' ⟨s0, s1, s2, s3⟩
       go_simp
       with_reducible rfl
      rotate_left
      ·simp only [Act.put, List.setIfInBounds_toArray, List.set_cons_zero, List.set_cons_succ, i64_w, i32_w]
       rfl
      refine take_ (i := 21) (N := some 60) (v := ?_) (a' := ?_) #[true, true, true, true, true, true, true, true, true, true, true, true, true, true, true, true, false, false, true, true, true, true, false, false, false] rfl rfl (take_ofW HT_.out HW_.out (by kernel_rfl)) (fun _ _ _ h => h) (Or.inl ⟨by rfl, ?_⟩) hHeld ?_ ?_
      rotate_left
      ·rintro w' ⟨s0, s1, s2, s3⟩
       go_simp
       with_reducible rfl
      rotate_left
      ·simp only [Act.put, List.setIfInBounds_toArray, List.set_cons_zero, List.set_cons_succ, i64_w, i32_w]
       rfl
      refine pure_ (i := 22) (N := some 61) (v := ?_) (a' := ?_) #[true, true, true, true, true, true, true, true, true, true, true, true, true, true, true, true, false, false, true, true, true, true, true, false, false] rfl rfl (any_of HT_.out (by kernel_rfl)) (fun _ _ _ h => h) (Or.inl ⟨by rfl, ?_⟩) ?_ ?_
      rotate_left
      ·intro w'
       go_simp
       with_reducible rfl
      rotate_left
      ·simp only [Act.put, List.setIfInBounds_toArray, List.set_cons_zero, List.set_cons_succ, i64_w, i32_w]
       rfl
      refine one_ (i := 16) (N := some 55) #[true, true, true, true, true, true, true, true, true, true, true, true, true, true, true, true, true, false, true, true, true, true, true, false, false] rfl rfl (one_of HT_.out (by kernel_rfl)) (by decide) (fun K hK => ?_)
      refine goes_ Tryd.func53 (by kernel_rfl) rfl #[.agg #[.int .i64 a0_0, .int .i64 a0_1]] (by rfl) rfl rfl (by (try simp only [List.map_toArray, List.map_cons, List.map_nil]); first | done | rfl | (simp only [*]; done) | (simp only [List.length_drop, List.length_take]; rfl)) ?_
      with_reducible refine (span_Check.calls a0_0 a0_1 (some q205) _ A48.out).mono ?_
      rintro e w54 ⟨rfl, hb⟩
      refine ⟨_, rfl, ?_⟩
      have n0_ := qS (qB (g := gb188) (o := .cells #[.int .i64 a0_0, .int .i64 a0_1] 73 (0, 0)) (by (with_reducible repeat (first | refine qN ?_ _ | refine qD ?_ | refine qA ?_ _)); exact BK188.out) hb)
      have n1_ := qS (qB (g := gb189) (o := .cells #[.int .i64 a1_0, .int .i64 a1_1] 73 (0, 0)) (by (with_reducible repeat (first | refine qN ?_ _ | refine qD ?_ | refine qA ?_ _)); exact BK189.out) hb)
      have n2_ := qS (qB (g := gb190) (o := .cells #[.int .i64 a0_0, .int .i64 a0_1] 68 (0, 0)) (by (with_reducible repeat (first | refine qN ?_ _ | refine qD ?_ | refine qA ?_ _)); exact BK190.out) hb)
      have n3_ := qS (qB (g := gb191) (o := .cells #[.int .i64 a1_0, .int .i64 a1_1] 68 (0, 0)) (by (with_reducible repeat (first | refine qN ?_ _ | refine qD ?_ | refine qA ?_ _)); exact BK191.out) hb)
      have n4_ := qS (qB (g := gb195) (o := .cells #[.int .i64 t192, .int .i64 t193] 68 (0, 0)) (by (with_reducible repeat (first | refine qN ?_ _ | refine qD ?_ | refine qA ?_ _)); exact BK195.out) hb)
      have n5_ := qS (qB (g := gb199) (o := .cells #[.int .i64 t196, .int .i64 t197] 68 (0, 0)) (by (with_reducible repeat (first | refine qN ?_ _ | refine qD ?_ | refine qA ?_ _)); exact BK199.out) hb)
      have n6_ := qS (below_step (by repeat (first | (with_reducible first | exact HB.out | apply qpA | apply qpN | apply qp1 | refine qpS ?_ GE188.out | refine qpS ?_ GE189.out | refine qpS ?_ GE190.out | refine qpS ?_ GE191.out | refine qpS ?_ GE195.out | refine qpS ?_ GE199.out) | exact HB.out)) hb)
      clear BK188
      clear BK189
      clear BK190
      clear BK191
      clear BK195
      clear BK199
      clear HB
      have BK188 := n0_
      have BK189 := n1_
      have BK190 := n2_
      have BK191 := n3_
      have BK195 := n4_
      have BK199 := n5_
      have HB := n6_
      clear n0_ n1_ n2_ n3_ n4_ n5_ n6_
      (try clear hb)
      (try clear hb2)
      (try clear hk)
      (try clear hi)
      (try simp only [errW_none, errW_some])
      refine hK.out _ _ ⟨(qC BK190.out 0).trans rfl, (qC BK190.out 1).trans rfl, (qC BK188.out 0).trans rfl, (qC BK188.out 1).trans rfl⟩ (fun hHeld => ?_)
      clear hK K
      refine norm_ (a' := ?_) ?_ ?_
      rotate_left
      ·show Act.put _ (some 55) _ = _
       simp only [Act.put, List.setIfInBounds_toArray, List.set_cons_zero, List.set_cons_succ, i64_w, i32_w]
       rfl
      refine pure_ (i := 17) (N := some 56) (v := ?_) (a' := ?_) #[true, true, true, true, true, true, true, true, true, true, true, true, true, true, true, true, true, true, true, true, true, true, true, false, false] rfl rfl (any_of HT_.out (by kernel_rfl)) (fun _ _ _ h => h) (Or.inl ⟨by rfl, ?_⟩) ?_ ?_
      rotate_left
      ·intro w'
       go_simp
       with_reducible rfl
      rotate_left
      ·simp only [Act.put, List.setIfInBounds_toArray, List.set_cons_zero, List.set_cons_succ, i64_w, i32_w]
       rfl
      refine pure_ (i := 23) (N := some 62) (v := ?_) (a' := ?_) #[true, true, true, true, true, true, true, true, true, true, true, true, true, true, true, true, true, true, true, true, true, true, true, true, false] rfl rfl (any_of HT_.out (by kernel_rfl)) (fun _ _ _ h => h) (Or.inl ⟨by rfl, ?_⟩) ?_ ?_
      rotate_left
      ·intro w'
       go_simp
       with_reducible rfl
      rotate_left
      ·simp only [Act.put, List.setIfInBounds_toArray, List.set_cons_zero, List.set_cons_succ, i64_w, i32_w]
       rfl
      refine pure_ (i := 24) (N := some 63) (v := ?_) (a' := ?_) #[true, true, true, true, true, true, true, true, true, true, true, true, true, true, true, true, true, true, true, true, true, true, true, true, true] rfl rfl (any_of HT_.out (by kernel_rfl)) (fun _ _ _ h => h) (Or.inl ⟨by rfl, ?_⟩) ?_ ?_
      rotate_left
      ·intro w'
       go_simp
       with_reducible rfl
      rotate_left
      ·simp only [Act.put, List.setIfInBounds_toArray, List.set_cons_zero, List.set_cons_succ, i64_w, i32_w]
       rfl
      refine done_ (done_of HT_.out (by kernel_rfl)) ?_
      try go_wp2
      go_meet
      case rel => exact ⟨_, (decide (a0_0 ≤ a0_1)), (by first | rfl | (simp; done) | (simp [*]; done)), H', ⟨by first | omega | exact Nat.le_refl _⟩, ⟨by (with_reducible repeat (first | refine qN ?_ _ | refine qD ?_ | refine qA ?_ _)); exact BK188.out⟩, ⟨by (with_reducible repeat (first | refine qN ?_ _ | refine qD ?_ | refine qA ?_ _)); exact BK189.out⟩, ⟨by (with_reducible repeat (first | refine qN ?_ _ | refine qD ?_ | refine qA ?_ _)); exact BK190.out⟩, ⟨by (with_reducible repeat (first | refine qN ?_ _ | refine qD ?_ | refine qA ?_ _)); exact BK191.out⟩, ⟨by (with_reducible repeat (first | refine qN ?_ _ | refine qD ?_ | refine qA ?_ _)); exact BK195.out⟩, ⟨by (with_reducible repeat (first | refine qN ?_ _ | refine qD ?_ | refine qA ?_ _)); exact BK199.out⟩, ⟨by repeat (first | (with_reducible first | exact HB.out | apply qpA | apply qpN | apply qp1 | refine qpS ?_ GE188.out | refine qpS ?_ GE189.out | refine qpS ?_ GE190.out | refine qpS ?_ GE191.out | refine qpS ?_ GE195.out | refine qpS ?_ GE199.out) | exact HB.out)⟩⟩
  ·rw [if_neg c44] at H
   have c44b0 : decide (a0_0 ≤ a2) = false := decide_eq_false c44
   clear c44
   (first | rw [c44b0] | (simp only [i64_w, i32_w]; rw [c44b0]) | skip)
   by_cases c55 : t203 = true
   ·subst c55
    have H1 : (fuseelaw13_SpanSteps.j0 k a2 t194 t198 t200 t201 t202 true a0_0 a0_1 a1_0 a1_1 t192 t193 t196 t197) = some r := by rw [if_pos rfl] at H; exact H
    clear H
    have H := H1
    clear H1
    as_aux_lemma =>
     have H' := qS H
     clear H
     try go_wp2
     have n0_ := qS (qD BK188.out)
     have n1_ := qS (qD BK189.out)
     have n2_ := qS (qD BK190.out)
     have n3_ := qS (qD BK191.out)
     have n4_ := qS (qD BK195.out)
     have n5_ := qS (qD BK199.out)
     have n6_ := qS (qp1 HB.out)
     clear BK188
     clear BK189
     clear BK190
     clear BK191
     clear BK195
     clear BK199
     clear HB
     have BK188 := n0_
     have BK189 := n1_
     have BK190 := n2_
     have BK191 := n3_
     have BK195 := n4_
     have BK199 := n5_
     have HB := n6_
     clear n0_ n1_ n2_ n3_ n4_ n5_ n6_
     refine start_ (n := 25) (S := fun w' => w'.cell? ⟨gb190, 0, none⟩ = some (.int .i64 a0_0) ∧ w'.cell? ⟨gb190, 1, none⟩ = some (.int .i64 a0_1) ∧ w'.cell? ⟨gb188, 0, none⟩ = some (.int .i64 a0_0) ∧ w'.cell? ⟨gb188, 1, none⟩ = some (.int .i64 a0_1)) (ds := []) #[false, false, false, false, false, false, false, false, false, false, false, false, false, false, false, false, false, false, false, false, false, false, false, false, false] (by kernel_rfl) rfl rfl ⟨(qC BK190.out 0).trans rfl, (qC BK190.out 1).trans rfl, (qC BK188.out 0).trans rfl, (qC BK188.out 1).trans rfl⟩ (fun hHeld => ?_); refine with_tabW fuseelaw13_SpanSteps.tab5 fuseelaw13_SpanSteps.bits5 (fun HT_ HW_ => ?_)
     generalize w42.drew = w56 at BK188 BK189 BK190 BK191 BK195 BK199 HB hHeld ⊢
     refine pure_ (i := 1) (N := some 40) (v := ?_) (a' := ?_) #[false, true, false, false, false, false, false, false, false, false, false, false, false, false, false, false, false, false, false, false, false, false, false, false, false] rfl rfl (any_of HT_.out (by kernel_rfl)) (fun _ _ _ h => h) (Or.inl ⟨by rfl, ?_⟩) ?_ ?_
     rotate_left
     ·intro w'
      go_simp
      with_reducible rfl
     rotate_left
     ·simp only [Act.put, List.setIfInBounds_toArray, List.set_cons_zero, List.set_cons_succ, i64_w, i32_w]
      rfl
     refine pure_ (i := 3) (N := some 42) (v := ?_) (a' := ?_) #[false, true, false, true, false, false, false, false, false, false, false, false, false, false, false, false, false, false, false, false, false, false, false, false, false] rfl rfl (any_of HT_.out (by kernel_rfl)) (fun _ _ _ h => h) (Or.inl ⟨by rfl, ?_⟩) ?_ ?_
     rotate_left
     ·intro w'
      go_simp
      with_reducible rfl
     rotate_left
     ·simp only [Act.put, List.setIfInBounds_toArray, List.set_cons_zero, List.set_cons_succ, i64_w, i32_w]
      rfl
     refine pure_ (i := 5) (N := some 44) (v := ?_) (a' := ?_) #[false, true, false, true, false, true, false, false, false, false, false, false, false, false, false, false, false, false, false, false, false, false, false, false, false] rfl rfl (any_of HT_.out (by kernel_rfl)) (fun _ _ _ h => h) (Or.inl ⟨by rfl, ?_⟩) ?_ ?_
     rotate_left
     ·intro w'
      go_simp
      with_reducible rfl
     rotate_left
     ·simp only [Act.put, List.setIfInBounds_toArray, List.set_cons_zero, List.set_cons_succ, i64_w, i32_w]
      rfl
     refine take_ (i := 0) (N := some 39) (v := ?_) (a' := ?_) #[true, true, false, true, false, true, false, false, false, false, false, false, false, false, false, false, false, false, false, false, false, false, false, false, false] rfl rfl (take_ofW HT_.out HW_.out (by kernel_rfl)) (fun _ _ _ h => h) (Or.inl ⟨by rfl, ?_⟩) hHeld ?_ ?_
     rotate_left
     ·rintro w' ⟨s0, s1, s2, s3⟩
      go_simp
      with_reducible rfl
     rotate_left
     ·simp only [Act.put, List.setIfInBounds_toArray, List.set_cons_zero, List.set_cons_succ, i64_w, i32_w]
      rfl
     refine take_ (i := 4) (N := some 43) (v := ?_) (a' := ?_) #[true, true, false, true, true, true, false, false, false, false, false, false, false, false, false, false, false, false, false, false, false, false, false, false, false] rfl rfl (take_ofW HT_.out HW_.out (by kernel_rfl)) (fun _ _ _ h => h) (Or.inl ⟨by rfl, ?_⟩) hHeld ?_ ?_
     rotate_left
     ·rintro w' ⟨s0, s1, s2, s3⟩
      go_simp
      with_reducible rfl
     rotate_left
     ·simp only [Act.put, List.setIfInBounds_toArray, List.set_cons_zero, List.set_cons_succ, i64_w, i32_w]
      rfl
     refine pure_ (i := 6) (N := some 45) (v := ?_) (a' := ?_) #[true, true, false, true, true, true, true, false, false, false, false, false, false, false, false, false, false, false, false, false, false, false, false, false, false] rfl rfl (any_of HT_.out (by kernel_rfl)) (fun _ _ _ h => h) (Or.inl ⟨by rfl, ?_⟩) ?_ ?_
     rotate_left
     ·intro w'
      go_simp
      with_reducible rfl
     rotate_left
     ·simp only [Act.put, List.setIfInBounds_toArray, List.set_cons_zero, List.set_cons_succ, i64_w, i32_w]
      rfl
     refine one_ (i := 2) (N := some 41) #[true, true, true, true, true, true, true, false, false, false, false, false, false, false, false, false, false, false, false, false, false, false, false, false, false] rfl rfl (one_of HT_.out (by kernel_rfl)) (by decide) (fun K hK => ?_)
     refine goes_ Tryd.func39 (by kernel_rfl) rfl #[.agg #[.int .i64 a0_0, .int .i64 a0_1], .int .i64 a2] (by rfl) rfl rfl (by (try simp only [List.map_toArray, List.map_cons, List.map_nil]); first | done | rfl | (simp only [*]; done) | (simp only [List.length_drop, List.length_take]; rfl)) ?_
     with_reducible refine (span_Has.calls a0_0 a0_1 a2 true _ A43.out).mono ?_
     rintro e w57 ⟨rfl, hb⟩
     refine ⟨_, rfl, ?_⟩
     have n0_ := qS (qB (g := gb188) (o := .cells #[.int .i64 a0_0, .int .i64 a0_1] 73 (0, 0)) (by (with_reducible repeat (first | refine qN ?_ _ | refine qD ?_ | refine qA ?_ _)); exact BK188.out) hb)
     have n1_ := qS (qB (g := gb189) (o := .cells #[.int .i64 a1_0, .int .i64 a1_1] 73 (0, 0)) (by (with_reducible repeat (first | refine qN ?_ _ | refine qD ?_ | refine qA ?_ _)); exact BK189.out) hb)
     have n2_ := qS (qB (g := gb190) (o := .cells #[.int .i64 a0_0, .int .i64 a0_1] 68 (0, 0)) (by (with_reducible repeat (first | refine qN ?_ _ | refine qD ?_ | refine qA ?_ _)); exact BK190.out) hb)
     have n3_ := qS (qB (g := gb191) (o := .cells #[.int .i64 a1_0, .int .i64 a1_1] 68 (0, 0)) (by (with_reducible repeat (first | refine qN ?_ _ | refine qD ?_ | refine qA ?_ _)); exact BK191.out) hb)
     have n4_ := qS (qB (g := gb195) (o := .cells #[.int .i64 t192, .int .i64 t193] 68 (0, 0)) (by (with_reducible repeat (first | refine qN ?_ _ | refine qD ?_ | refine qA ?_ _)); exact BK195.out) hb)
     have n5_ := qS (qB (g := gb199) (o := .cells #[.int .i64 t196, .int .i64 t197] 68 (0, 0)) (by (with_reducible repeat (first | refine qN ?_ _ | refine qD ?_ | refine qA ?_ _)); exact BK199.out) hb)
     have n6_ := qS (below_step (by repeat (first | (with_reducible first | exact HB.out | apply qpA | apply qpN | apply qp1 | refine qpS ?_ GE188.out | refine qpS ?_ GE189.out | refine qpS ?_ GE190.out | refine qpS ?_ GE191.out | refine qpS ?_ GE195.out | refine qpS ?_ GE199.out) | exact HB.out)) hb)
     clear BK188
     clear BK189
     clear BK190
     clear BK191
     clear BK195
     clear BK199
     clear HB
     have BK188 := n0_
     have BK189 := n1_
     have BK190 := n2_
     have BK191 := n3_
     have BK195 := n4_
     have BK199 := n5_
     have HB := n6_
     clear n0_ n1_ n2_ n3_ n4_ n5_ n6_
     (try clear hb)
     (try clear hb2)
     (try clear hk)
     (try clear hi)
     refine hK.out _ _ ⟨(qC BK190.out 0).trans rfl, (qC BK190.out 1).trans rfl, (qC BK188.out 0).trans rfl, (qC BK188.out 1).trans rfl⟩ (fun hHeld => ?_)
     clear hK K
     refine norm_ (a' := ?_) ?_ ?_
     rotate_left
     ·show Act.put _ (some 41) _ = _
      simp only [Act.put, List.setIfInBounds_toArray, List.set_cons_zero, List.set_cons_succ, i64_w, i32_w]
      rfl
     refine pure_ (i := 7) (N := some 46) (v := ?_) (a' := ?_) #[true, true, true, true, true, true, true, true, false, false, false, false, false, false, false, false, false, false, false, false, false, false, false, false, false] rfl rfl (any_of HT_.out (by kernel_rfl)) (fun _ _ _ h => h) (Or.inl ⟨by rfl, ?_⟩) ?_ ?_
     rotate_left
     ·intro w'
      go_simp
      with_reducible rfl
     rotate_left
     ·simp only [Act.put, List.setIfInBounds_toArray, List.set_cons_zero, List.set_cons_succ, i64_w, i32_w]
      rfl
     refine pure_ (i := 8) (N := some 47) (v := undef) (a' := ?_) #[true, true, true, true, true, true, true, true, true, false, false, false, false, false, false, false, false, false, false, false, false, false, false, false, false] rfl rfl (any_of HT_.out (by kernel_rfl)) (fun _ _ _ h => h) (Or.inr ⟨by rfl, rfl⟩) ?_ ?_
     rotate_left
     ·simp only [Act.put, List.setIfInBounds_toArray, List.set_cons_zero, List.set_cons_succ, i64_w, i32_w]
      rfl
     refine pure_ (i := 9) (N := some 48) (v := undef) (a' := ?_) #[true, true, true, true, true, true, true, true, true, true, false, false, false, false, false, false, false, false, false, false, false, false, false, false, false] rfl rfl (any_of HT_.out (by kernel_rfl)) (fun _ _ _ h => h) (Or.inr ⟨by rfl, rfl⟩) ?_ ?_
     rotate_left
     ·simp only [Act.put, List.setIfInBounds_toArray, List.set_cons_zero, List.set_cons_succ, i64_w, i32_w]
      rfl
     refine pure_ (i := 10) (N := some 49) (v := undef) (a' := ?_) #[true, true, true, true, true, true, true, true, true, true, true, false, false, false, false, false, false, false, false, false, false, false, false, false, false] rfl rfl (any_of HT_.out (by kernel_rfl)) (fun _ _ _ h => h) (Or.inr ⟨by rfl, rfl⟩) ?_ ?_
     rotate_left
     ·simp only [Act.put, List.setIfInBounds_toArray, List.set_cons_zero, List.set_cons_succ, i64_w, i32_w]
      rfl
     refine pure_ (i := 11) (N := some 50) (v := undef) (a' := ?_) #[true, true, true, true, true, true, true, true, true, true, true, true, false, false, false, false, false, false, false, false, false, false, false, false, false] rfl rfl (any_of HT_.out (by kernel_rfl)) (fun _ _ _ h => h) (Or.inr ⟨by rfl, rfl⟩) ?_ ?_
     rotate_left
     ·simp only [Act.put, List.setIfInBounds_toArray, List.set_cons_zero, List.set_cons_succ, i64_w, i32_w]
      rfl
     refine pure_ (i := 12) (N := some 51) (v := ?_) (a' := ?_) #[true, true, true, true, true, true, true, true, true, true, true, true, true, false, false, false, false, false, false, false, false, false, false, false, false] rfl rfl (any_of HT_.out (by kernel_rfl)) (fun _ _ _ h => h) (Or.inl ⟨by rfl, ?_⟩) ?_ ?_
     rotate_left
     ·intro w'
      go_simp
      with_reducible rfl
     rotate_left
     ·simp only [Act.put, List.setIfInBounds_toArray, List.set_cons_zero, List.set_cons_succ, i64_w, i32_w]
      rfl
     refine pure_ (i := 13) (N := some 52) (v := ?_) (a' := ?_) #[true, true, true, true, true, true, true, true, true, true, true, true, true, true, false, false, false, false, false, false, false, false, false, false, false] rfl rfl (any_of HT_.out (by kernel_rfl)) (fun _ _ _ h => h) (Or.inl ⟨by rfl, ?_⟩) ?_ ?_
     rotate_left
     ·intro w'
      go_simp
      with_reducible rfl
     rotate_left
     ·simp only [Act.put, List.setIfInBounds_toArray, List.set_cons_zero, List.set_cons_succ, i64_w, i32_w]
      rfl
     refine pure_ (i := 14) (N := some 53) (v := ?_) (a' := ?_) #[true, true, true, true, true, true, true, true, true, true, true, true, true, true, true, false, false, false, false, false, false, false, false, false, false] rfl rfl (any_of HT_.out (by kernel_rfl)) (fun _ _ _ h => h) (Or.inl ⟨by rfl, ?_⟩) ?_ ?_
     rotate_left
     ·intro w'
      go_simp
      with_reducible rfl
     rotate_left
     ·simp only [Act.put, List.setIfInBounds_toArray, List.set_cons_zero, List.set_cons_succ, i64_w, i32_w]
      rfl
     refine pure_ (i := 15) (N := some 54) (v := undef) (a' := ?_) #[true, true, true, true, true, true, true, true, true, true, true, true, true, true, true, true, false, false, false, false, false, false, false, false, false] rfl rfl (any_of HT_.out (by kernel_rfl)) (fun _ _ _ h => h) (Or.inr ⟨by rfl, rfl⟩) ?_ ?_
     rotate_left
     ·simp only [Act.put, List.setIfInBounds_toArray, List.set_cons_zero, List.set_cons_succ, i64_w, i32_w]
      rfl
     refine pure_ (i := 16) (N := some 55) (v := undef) (a' := ?_) #[true, true, true, true, true, true, true, true, true, true, true, true, true, true, true, true, true, false, false, false, false, false, false, false, false] rfl rfl (any_of HT_.out (by kernel_rfl)) (fun _ _ _ h => h) (Or.inr ⟨by rfl, rfl⟩) ?_ ?_
     rotate_left
     ·simp only [Act.put, List.setIfInBounds_toArray, List.set_cons_zero, List.set_cons_succ, i64_w, i32_w]
      rfl
     refine pure_ (i := 17) (N := some 56) (v := undef) (a' := ?_) #[true, true, true, true, true, true, true, true, true, true, true, true, true, true, true, true, true, true, false, false, false, false, false, false, false] rfl rfl (any_of HT_.out (by kernel_rfl)) (fun _ _ _ h => h) (Or.inr ⟨by rfl, rfl⟩) ?_ ?_
     rotate_left
     ·simp only [Act.put, List.setIfInBounds_toArray, List.set_cons_zero, List.set_cons_succ, i64_w, i32_w]
      rfl
     refine pure_ (i := 18) (N := some 57) (v := undef) (a' := ?_) #[true, true, true, true, true, true, true, true, true, true, true, true, true, true, true, true, true, true, true, false, false, false, false, false, false] rfl rfl (any_of HT_.out (by kernel_rfl)) (fun _ _ _ h => h) (Or.inr ⟨by rfl, rfl⟩) ?_ ?_
     rotate_left
     ·simp only [Act.put, List.setIfInBounds_toArray, List.set_cons_zero, List.set_cons_succ, i64_w, i32_w]
      rfl
     refine pure_ (i := 19) (N := some 58) (v := undef) (a' := ?_) #[true, true, true, true, true, true, true, true, true, true, true, true, true, true, true, true, true, true, true, true, false, false, false, false, false] rfl rfl (any_of HT_.out (by kernel_rfl)) (fun _ _ _ h => h) (Or.inr ⟨by rfl, rfl⟩) ?_ ?_
     rotate_left
     ·simp only [Act.put, List.setIfInBounds_toArray, List.set_cons_zero, List.set_cons_succ, i64_w, i32_w]
      rfl
     refine pure_ (i := 20) (N := some 59) (v := undef) (a' := ?_) #[true, true, true, true, true, true, true, true, true, true, true, true, true, true, true, true, true, true, true, true, true, false, false, false, false] rfl rfl (any_of HT_.out (by kernel_rfl)) (fun _ _ _ h => h) (Or.inr ⟨by rfl, rfl⟩) ?_ ?_
     rotate_left
     ·simp only [Act.put, List.setIfInBounds_toArray, List.set_cons_zero, List.set_cons_succ, i64_w, i32_w]
      rfl
     refine pure_ (i := 21) (N := some 60) (v := undef) (a' := ?_) #[true, true, true, true, true, true, true, true, true, true, true, true, true, true, true, true, true, true, true, true, true, true, false, false, false] rfl rfl (any_of HT_.out (by kernel_rfl)) (fun _ _ _ h => h) (Or.inr ⟨by rfl, rfl⟩) ?_ ?_
     rotate_left
     ·simp only [Act.put, List.setIfInBounds_toArray, List.set_cons_zero, List.set_cons_succ, i64_w, i32_w]
      rfl
     refine pure_ (i := 22) (N := some 61) (v := undef) (a' := ?_) #[true, true, true, true, true, true, true, true, true, true, true, true, true, true, true, true, true, true, true, true, true, true, true, false, false] rfl rfl (any_of HT_.out (by kernel_rfl)) (fun _ _ _ h => h) (Or.inr ⟨by rfl, rfl⟩) ?_ ?_
     rotate_left
     ·simp only [Act.put, List.setIfInBounds_toArray, List.set_cons_zero, List.set_cons_succ, i64_w, i32_w]
      rfl
     refine pure_ (i := 23) (N := some 62) (v := undef) (a' := ?_) #[true, true, true, true, true, true, true, true, true, true, true, true, true, true, true, true, true, true, true, true, true, true, true, true, false] rfl rfl (any_of HT_.out (by kernel_rfl)) (fun _ _ _ h => h) (Or.inr ⟨by rfl, rfl⟩) ?_ ?_
     rotate_left
     ·simp only [Act.put, List.setIfInBounds_toArray, List.set_cons_zero, List.set_cons_succ, i64_w, i32_w]
      rfl
     refine pure_ (i := 24) (N := some 63) (v := ?_) (a' := ?_) #[true, true, true, true, true, true, true, true, true, true, true, true, true, true, true, true, true, true, true, true, true, true, true, true, true] rfl rfl (any_of HT_.out (by kernel_rfl)) (fun _ _ _ h => h) (Or.inl ⟨by rfl, ?_⟩) ?_ ?_
     rotate_left
     ·intro w'
      go_simp
      with_reducible rfl
     rotate_left
     ·simp only [Act.put, List.setIfInBounds_toArray, List.set_cons_zero, List.set_cons_succ, i64_w, i32_w]
      rfl
     refine done_ (done_of HT_.out (by kernel_rfl)) ?_
     try go_wp2
     go_meet
     case rel => exact ⟨_, (true), (by first | rfl | (simp; done) | (simp [*]; done)), H', ⟨by first | omega | exact Nat.le_refl _⟩, ⟨by (with_reducible repeat (first | refine qN ?_ _ | refine qD ?_ | refine qA ?_ _)); exact BK188.out⟩, ⟨by (with_reducible repeat (first | refine qN ?_ _ | refine qD ?_ | refine qA ?_ _)); exact BK189.out⟩, ⟨by (with_reducible repeat (first | refine qN ?_ _ | refine qD ?_ | refine qA ?_ _)); exact BK190.out⟩, ⟨by (with_reducible repeat (first | refine qN ?_ _ | refine qD ?_ | refine qA ?_ _)); exact BK191.out⟩, ⟨by (with_reducible repeat (first | refine qN ?_ _ | refine qD ?_ | refine qA ?_ _)); exact BK195.out⟩, ⟨by (with_reducible repeat (first | refine qN ?_ _ | refine qD ?_ | refine qA ?_ _)); exact BK199.out⟩, ⟨by repeat (first | (with_reducible first | exact HB.out | apply qpA | apply qpN | apply qp1 | refine qpS ?_ GE188.out | refine qpS ?_ GE189.out | refine qpS ?_ GE190.out | refine qpS ?_ GE191.out | refine qpS ?_ GE195.out | refine qpS ?_ GE199.out) | exact HB.out)⟩⟩
   ·replace c55 := Bool.eq_false_iff.mpr c55
    subst c55
    have H1 : ((span_Check.f a0_0 a0_1).bind fun t206 => (if t206.isNone = true then (fuseelaw13_SpanSteps.j0 k a2 t194 t198 t200 t201 t202 (!(decide (a0_0 ≤ a0_1))) a0_0 a0_1 a1_0 a1_1 t192 t193 t196 t197) else (fuseelaw13_SpanSteps.j0 k a2 t194 t198 t200 t201 t202 (decide (a0_0 ≤ a0_1)) a0_0 a0_1 a1_0 a1_1 t192 t193 t196 t197))) = some r := by rw [if_neg (show ¬ (false = true) by decide)] at H; exact H
    clear H
    have H := H1
    clear H1
    replace H := Option.bind_eq_some_iff.mp H
    obtain ⟨t206, A580, H⟩ := H
    replace H : (if t206.isNone = true then (fuseelaw13_SpanSteps.j0 k a2 t194 t198 t200 t201 t202 (!(decide (a0_0 ≤ a0_1))) a0_0 a0_1 a1_0 a1_1 t192 t193 t196 t197) else (fuseelaw13_SpanSteps.j0 k a2 t194 t198 t200 t201 t202 (decide (a0_0 ≤ a0_1)) a0_0 a0_1 a1_0 a1_1 t192 t193 t196 t197)) = some r := H
    have A58 := qS A580
    clear A580
    rcases t206 with _ | q207
    ·have H1 : (fuseelaw13_SpanSteps.j0 k a2 t194 t198 t200 t201 t202 (!(decide (a0_0 ≤ a0_1))) a0_0 a0_1 a1_0 a1_1 t192 t193 t196 t197) = some r := by rw [if_pos (show (none : Option Int).isNone = true by rfl)] at H; exact H
     clear H
     have H := H1
     clear H1
     try simp only [errW_none, errW_some]
     as_aux_lemma =>
      have H' := qS H
      clear H
      try go_wp2
      have n0_ := qS (qD BK188.out)
      have n1_ := qS (qD BK189.out)
      have n2_ := qS (qD BK190.out)
      have n3_ := qS (qD BK191.out)
      have n4_ := qS (qD BK195.out)
      have n5_ := qS (qD BK199.out)
      have n6_ := qS (qp1 HB.out)
      clear BK188
      clear BK189
      clear BK190
      clear BK191
      clear BK195
      clear BK199
      clear HB
      have BK188 := n0_
      have BK189 := n1_
      have BK190 := n2_
      have BK191 := n3_
      have BK195 := n4_
      have BK199 := n5_
      have HB := n6_
      clear n0_ n1_ n2_ n3_ n4_ n5_ n6_
      refine start_ (n := 25) (S := fun w' => w'.cell? ⟨gb190, 0, none⟩ = some (.int .i64 a0_0) ∧ w'.cell? ⟨gb190, 1, none⟩ = some (.int .i64 a0_1) ∧ w'.cell? ⟨gb188, 0, none⟩ = some (.int .i64 a0_0) ∧ w'.cell? ⟨gb188, 1, none⟩ = some (.int .i64 a0_1)) (ds := []) #[false, false, false, false, false, false, false, false, false, false, false, false, false, false, false, false, false, false, false, false, false, false, false, false, false] (by kernel_rfl) rfl rfl ⟨(qC BK190.out 0).trans rfl, (qC BK190.out 1).trans rfl, (qC BK188.out 0).trans rfl, (qC BK188.out 1).trans rfl⟩ (fun hHeld => ?_); refine with_tabW fuseelaw13_SpanSteps.tab5 fuseelaw13_SpanSteps.bits5 (fun HT_ HW_ => ?_)
      generalize w42.drew = w59 at BK188 BK189 BK190 BK191 BK195 BK199 HB hHeld ⊢
      refine pure_ (i := 1) (N := some 40) (v := ?_) (a' := ?_) #[false, true, false, false, false, false, false, false, false, false, false, false, false, false, false, false, false, false, false, false, false, false, false, false, false] rfl rfl (any_of HT_.out (by kernel_rfl)) (fun _ _ _ h => h) (Or.inl ⟨by rfl, ?_⟩) ?_ ?_
      rotate_left
      ·intro w'
       go_simp
       with_reducible rfl
      rotate_left
      ·simp only [Act.put, List.setIfInBounds_toArray, List.set_cons_zero, List.set_cons_succ, i64_w, i32_w]
       rfl
      refine pure_ (i := 3) (N := some 42) (v := ?_) (a' := ?_) #[false, true, false, true, false, false, false, false, false, false, false, false, false, false, false, false, false, false, false, false, false, false, false, false, false] rfl rfl (any_of HT_.out (by kernel_rfl)) (fun _ _ _ h => h) (Or.inl ⟨by rfl, ?_⟩) ?_ ?_
      rotate_left
      ·intro w'
       go_simp
       with_reducible rfl
      rotate_left
      ·simp only [Act.put, List.setIfInBounds_toArray, List.set_cons_zero, List.set_cons_succ, i64_w, i32_w]
       rfl
      refine pure_ (i := 5) (N := some 44) (v := ?_) (a' := ?_) #[false, true, false, true, false, true, false, false, false, false, false, false, false, false, false, false, false, false, false, false, false, false, false, false, false] rfl rfl (any_of HT_.out (by kernel_rfl)) (fun _ _ _ h => h) (Or.inl ⟨by rfl, ?_⟩) ?_ ?_
      rotate_left
      ·intro w'
       go_simp
       with_reducible rfl
      rotate_left
      ·simp only [Act.put, List.setIfInBounds_toArray, List.set_cons_zero, List.set_cons_succ, i64_w, i32_w]
       rfl
      refine take_ (i := 0) (N := some 39) (v := ?_) (a' := ?_) #[true, true, false, true, false, true, false, false, false, false, false, false, false, false, false, false, false, false, false, false, false, false, false, false, false] rfl rfl (take_ofW HT_.out HW_.out (by kernel_rfl)) (fun _ _ _ h => h) (Or.inl ⟨by rfl, ?_⟩) hHeld ?_ ?_
      rotate_left
      ·rintro w' ⟨s0, s1, s2, s3⟩
       go_simp
       with_reducible rfl
      rotate_left
      ·simp only [Act.put, List.setIfInBounds_toArray, List.set_cons_zero, List.set_cons_succ, i64_w, i32_w]
       rfl
      refine take_ (i := 4) (N := some 43) (v := ?_) (a' := ?_) #[true, true, false, true, true, true, false, false, false, false, false, false, false, false, false, false, false, false, false, false, false, false, false, false, false] rfl rfl (take_ofW HT_.out HW_.out (by kernel_rfl)) (fun _ _ _ h => h) (Or.inl ⟨by rfl, ?_⟩) hHeld ?_ ?_
      rotate_left
      ·rintro w' ⟨s0, s1, s2, s3⟩
       go_simp
       with_reducible rfl
      rotate_left
      ·simp only [Act.put, List.setIfInBounds_toArray, List.set_cons_zero, List.set_cons_succ, i64_w, i32_w]
       rfl
      refine pure_ (i := 6) (N := some 45) (v := ?_) (a' := ?_) #[true, true, false, true, true, true, true, false, false, false, false, false, false, false, false, false, false, false, false, false, false, false, false, false, false] rfl rfl (any_of HT_.out (by kernel_rfl)) (fun _ _ _ h => h) (Or.inl ⟨by rfl, ?_⟩) ?_ ?_
      rotate_left
      ·intro w'
       go_simp
       with_reducible rfl
      rotate_left
      ·simp only [Act.put, List.setIfInBounds_toArray, List.set_cons_zero, List.set_cons_succ, i64_w, i32_w]
       rfl
      refine one_ (i := 2) (N := some 41) #[true, true, true, true, true, true, true, false, false, false, false, false, false, false, false, false, false, false, false, false, false, false, false, false, false] rfl rfl (one_of HT_.out (by kernel_rfl)) (by decide) (fun K hK => ?_)
      refine goes_ Tryd.func39 (by kernel_rfl) rfl #[.agg #[.int .i64 a0_0, .int .i64 a0_1], .int .i64 a2] (by rfl) rfl rfl (by (try simp only [List.map_toArray, List.map_cons, List.map_nil]); first | done | rfl | (simp only [*]; done) | (simp only [List.length_drop, List.length_take]; rfl)) ?_
      with_reducible refine (span_Has.calls a0_0 a0_1 a2 false _ A43.out).mono ?_
      rintro e w60 ⟨rfl, hb⟩
      refine ⟨_, rfl, ?_⟩
      have n0_ := qS (qB (g := gb188) (o := .cells #[.int .i64 a0_0, .int .i64 a0_1] 73 (0, 0)) (by (with_reducible repeat (first | refine qN ?_ _ | refine qD ?_ | refine qA ?_ _)); exact BK188.out) hb)
      have n1_ := qS (qB (g := gb189) (o := .cells #[.int .i64 a1_0, .int .i64 a1_1] 73 (0, 0)) (by (with_reducible repeat (first | refine qN ?_ _ | refine qD ?_ | refine qA ?_ _)); exact BK189.out) hb)
      have n2_ := qS (qB (g := gb190) (o := .cells #[.int .i64 a0_0, .int .i64 a0_1] 68 (0, 0)) (by (with_reducible repeat (first | refine qN ?_ _ | refine qD ?_ | refine qA ?_ _)); exact BK190.out) hb)
      have n3_ := qS (qB (g := gb191) (o := .cells #[.int .i64 a1_0, .int .i64 a1_1] 68 (0, 0)) (by (with_reducible repeat (first | refine qN ?_ _ | refine qD ?_ | refine qA ?_ _)); exact BK191.out) hb)
      have n4_ := qS (qB (g := gb195) (o := .cells #[.int .i64 t192, .int .i64 t193] 68 (0, 0)) (by (with_reducible repeat (first | refine qN ?_ _ | refine qD ?_ | refine qA ?_ _)); exact BK195.out) hb)
      have n5_ := qS (qB (g := gb199) (o := .cells #[.int .i64 t196, .int .i64 t197] 68 (0, 0)) (by (with_reducible repeat (first | refine qN ?_ _ | refine qD ?_ | refine qA ?_ _)); exact BK199.out) hb)
      have n6_ := qS (below_step (by repeat (first | (with_reducible first | exact HB.out | apply qpA | apply qpN | apply qp1 | refine qpS ?_ GE188.out | refine qpS ?_ GE189.out | refine qpS ?_ GE190.out | refine qpS ?_ GE191.out | refine qpS ?_ GE195.out | refine qpS ?_ GE199.out) | exact HB.out)) hb)
      clear BK188
      clear BK189
      clear BK190
      clear BK191
      clear BK195
      clear BK199
      clear HB
      have BK188 := n0_
      have BK189 := n1_
      have BK190 := n2_
      have BK191 := n3_
      have BK195 := n4_
      have BK199 := n5_
      have HB := n6_
      clear n0_ n1_ n2_ n3_ n4_ n5_ n6_
      (try clear hb)
      (try clear hb2)
      (try clear hk)
      (try clear hi)
      refine hK.out _ _ ⟨(qC BK190.out 0).trans rfl, (qC BK190.out 1).trans rfl, (qC BK188.out 0).trans rfl, (qC BK188.out 1).trans rfl⟩ (fun hHeld => ?_)
      clear hK K
      refine norm_ (a' := ?_) ?_ ?_
      rotate_left
      ·show Act.put _ (some 41) _ = _
       simp only [Act.put, List.setIfInBounds_toArray, List.set_cons_zero, List.set_cons_succ, i64_w, i32_w]
       rfl
      refine pure_ (i := 7) (N := some 46) (v := ?_) (a' := ?_) #[true, true, true, true, true, true, true, true, false, false, false, false, false, false, false, false, false, false, false, false, false, false, false, false, false] rfl rfl (any_of HT_.out (by kernel_rfl)) (fun _ _ _ h => h) (Or.inl ⟨by rfl, ?_⟩) ?_ ?_
      rotate_left
      ·intro w'
       go_simp
       with_reducible rfl
      rotate_left
      ·simp only [Act.put, List.setIfInBounds_toArray, List.set_cons_zero, List.set_cons_succ, i64_w, i32_w]
       rfl
      refine pure_ (i := 8) (N := some 47) (v := undef) (a' := ?_) #[true, true, true, true, true, true, true, true, true, false, false, false, false, false, false, false, false, false, false, false, false, false, false, false, false] rfl rfl (any_of HT_.out (by kernel_rfl)) (fun _ _ _ h => h) (Or.inr ⟨by rfl, rfl⟩) ?_ ?_
      rotate_left
      ·simp only [Act.put, List.setIfInBounds_toArray, List.set_cons_zero, List.set_cons_succ, i64_w, i32_w]
       rfl
      refine pure_ (i := 9) (N := some 48) (v := undef) (a' := ?_) #[true, true, true, true, true, true, true, true, true, true, false, false, false, false, false, false, false, false, false, false, false, false, false, false, false] rfl rfl (any_of HT_.out (by kernel_rfl)) (fun _ _ _ h => h) (Or.inr ⟨by rfl, rfl⟩) ?_ ?_
      rotate_left
      ·simp only [Act.put, List.setIfInBounds_toArray, List.set_cons_zero, List.set_cons_succ, i64_w, i32_w]
       rfl
      refine pure_ (i := 10) (N := some 49) (v := undef) (a' := ?_) #[true, true, true, true, true, true, true, true, true, true, true, false, false, false, false, false, false, false, false, false, false, false, false, false, false] rfl rfl (any_of HT_.out (by kernel_rfl)) (fun _ _ _ h => h) (Or.inr ⟨by rfl, rfl⟩) ?_ ?_
      rotate_left
      ·simp only [Act.put, List.setIfInBounds_toArray, List.set_cons_zero, List.set_cons_succ, i64_w, i32_w]
       rfl
      refine pure_ (i := 11) (N := some 50) (v := undef) (a' := ?_) #[true, true, true, true, true, true, true, true, true, true, true, true, false, false, false, false, false, false, false, false, false, false, false, false, false] rfl rfl (any_of HT_.out (by kernel_rfl)) (fun _ _ _ h => h) (Or.inr ⟨by rfl, rfl⟩) ?_ ?_
      rotate_left
      ·simp only [Act.put, List.setIfInBounds_toArray, List.set_cons_zero, List.set_cons_succ, i64_w, i32_w]
       rfl
      refine pure_ (i := 12) (N := some 51) (v := ?_) (a' := ?_) #[true, true, true, true, true, true, true, true, true, true, true, true, true, false, false, false, false, false, false, false, false, false, false, false, false] rfl rfl (any_of HT_.out (by kernel_rfl)) (fun _ _ _ h => h) (Or.inl ⟨by rfl, ?_⟩) ?_ ?_
      rotate_left
      ·intro w'
       go_simp
       with_reducible rfl
      rotate_left
      ·simp only [Act.put, List.setIfInBounds_toArray, List.set_cons_zero, List.set_cons_succ, i64_w, i32_w]
       rfl
      refine pure_ (i := 13) (N := some 52) (v := ?_) (a' := ?_) #[true, true, true, true, true, true, true, true, true, true, true, true, true, true, false, false, false, false, false, false, false, false, false, false, false] rfl rfl (any_of HT_.out (by kernel_rfl)) (fun _ _ _ h => h) (Or.inl ⟨by rfl, ?_⟩) ?_ ?_
      rotate_left
      ·intro w'
       go_simp
       with_reducible rfl
      rotate_left
      ·simp only [Act.put, List.setIfInBounds_toArray, List.set_cons_zero, List.set_cons_succ, i64_w, i32_w]
       rfl
      refine pure_ (i := 14) (N := some 53) (v := ?_) (a' := ?_) #[true, true, true, true, true, true, true, true, true, true, true, true, true, true, true, false, false, false, false, false, false, false, false, false, false] rfl rfl (any_of HT_.out (by kernel_rfl)) (fun _ _ _ h => h) (Or.inl ⟨by rfl, ?_⟩) ?_ ?_
      rotate_left
      ·intro w'
       go_simp
       with_reducible rfl
      rotate_left
      ·simp only [Act.put, List.setIfInBounds_toArray, List.set_cons_zero, List.set_cons_succ, i64_w, i32_w]
       rfl
      refine pure_ (i := 18) (N := some 57) (v := ?_) (a' := ?_) #[true, true, true, true, true, true, true, true, true, true, true, true, true, true, true, false, false, false, true, false, false, false, false, false, false] rfl rfl (any_of HT_.out (by kernel_rfl)) (fun _ _ _ h => h) (Or.inl ⟨by rfl, ?_⟩) ?_ ?_
      rotate_left
      ·intro w'
       go_simp
       with_reducible rfl
      rotate_left
      ·simp only [Act.put, List.setIfInBounds_toArray, List.set_cons_zero, List.set_cons_succ, i64_w, i32_w]
       rfl
      refine pure_ (i := 20) (N := some 59) (v := ?_) (a' := ?_) #[true, true, true, true, true, true, true, true, true, true, true, true, true, true, true, false, false, false, true, false, true, false, false, false, false] rfl rfl (any_of HT_.out (by kernel_rfl)) (fun _ _ _ h => h) (Or.inl ⟨by rfl, ?_⟩) ?_ ?_
      rotate_left
      ·intro w'
       go_simp
       with_reducible rfl
      rotate_left
      ·simp only [Act.put, List.setIfInBounds_toArray, List.set_cons_zero, List.set_cons_succ, i64_w, i32_w]
       rfl
      refine take_ (i := 15) (N := some 54) (v := ?_) (a' := ?_) #[true, true, true, true, true, true, true, true, true, true, true, true, true, true, true, true, false, false, true, false, true, false, false, false, false] rfl rfl (take_ofW HT_.out HW_.out (by kernel_rfl)) (fun _ _ _ h => h) (Or.inl ⟨by rfl, ?_⟩) hHeld ?_ ?_
      rotate_left
      ·rintro w' ⟨s0, s1, s2, s3⟩
       go_simp
       with_reducible rfl
      rotate_left
      ·simp only [Act.put, List.setIfInBounds_toArray, List.set_cons_zero, List.set_cons_succ, i64_w, i32_w]
       rfl
      refine take_ (i := 19) (N := some 58) (v := ?_) (a' := ?_) #[true, true, true, true, true, true, true, true, true, true, true, true, true, true, true, true, false, false, true, true, true, false, false, false, false] rfl rfl (take_ofW HT_.out HW_.out (by kernel_rfl)) (fun _ _ _ h => h) (Or.inl ⟨by rfl, ?_⟩) hHeld ?_ ?_
      rotate_left
      ·rintro w' ⟨s0, s1, s2, s3⟩
       go_simp
       with_reducible rfl
      rotate_left
      ·simp only [Act.put, List.setIfInBounds_toArray, List.set_cons_zero, List.set_cons_succ, i64_w, i32_w]
       rfl
      refine take_ (i := 21) (N := some 60) (v := ?_) (a' := ?_) #[true, true, true, true, true, true, true, true, true, true, true, true, true, true, true, true, false, false, true, true, true, true, false, false, false] rfl rfl (take_ofW HT_.out HW_.out (by kernel_rfl)) (fun _ _ _ h => h) (Or.inl ⟨by rfl, ?_⟩) hHeld ?_ ?_
      rotate_left
      ·rintro w' ⟨s0, s1, s2, s3⟩
       go_simp
       with_reducible rfl
      rotate_left
      ·simp only [Act.put, List.setIfInBounds_toArray, List.set_cons_zero, List.set_cons_succ, i64_w, i32_w]
       rfl
      refine pure_ (i := 22) (N := some 61) (v := ?_) (a' := ?_) #[true, true, true, true, true, true, true, true, true, true, true, true, true, true, true, true, false, false, true, true, true, true, true, false, false] rfl rfl (any_of HT_.out (by kernel_rfl)) (fun _ _ _ h => h) (Or.inl ⟨by rfl, ?_⟩) ?_ ?_
      rotate_left
      ·intro w'
       go_simp
       with_reducible rfl
      rotate_left
      ·simp only [Act.put, List.setIfInBounds_toArray, List.set_cons_zero, List.set_cons_succ, i64_w, i32_w]
       rfl
      refine one_ (i := 16) (N := some 55) #[true, true, true, true, true, true, true, true, true, true, true, true, true, true, true, true, true, false, true, true, true, true, true, false, false] rfl rfl (one_of HT_.out (by kernel_rfl)) (by decide) (fun K hK => ?_)
      refine goes_ Tryd.func53 (by kernel_rfl) rfl #[.agg #[.int .i64 a0_0, .int .i64 a0_1]] (by rfl) rfl rfl (by (try simp only [List.map_toArray, List.map_cons, List.map_nil]); first | done | rfl | (simp only [*]; done) | (simp only [List.length_drop, List.length_take]; rfl)) ?_
      with_reducible refine (span_Check.calls a0_0 a0_1 none _ A58.out).mono ?_
      rintro e w61 ⟨rfl, hb⟩
      refine ⟨_, rfl, ?_⟩
      have n0_ := qS (qB (g := gb188) (o := .cells #[.int .i64 a0_0, .int .i64 a0_1] 73 (0, 0)) (by (with_reducible repeat (first | refine qN ?_ _ | refine qD ?_ | refine qA ?_ _)); exact BK188.out) hb)
      have n1_ := qS (qB (g := gb189) (o := .cells #[.int .i64 a1_0, .int .i64 a1_1] 73 (0, 0)) (by (with_reducible repeat (first | refine qN ?_ _ | refine qD ?_ | refine qA ?_ _)); exact BK189.out) hb)
      have n2_ := qS (qB (g := gb190) (o := .cells #[.int .i64 a0_0, .int .i64 a0_1] 68 (0, 0)) (by (with_reducible repeat (first | refine qN ?_ _ | refine qD ?_ | refine qA ?_ _)); exact BK190.out) hb)
      have n3_ := qS (qB (g := gb191) (o := .cells #[.int .i64 a1_0, .int .i64 a1_1] 68 (0, 0)) (by (with_reducible repeat (first | refine qN ?_ _ | refine qD ?_ | refine qA ?_ _)); exact BK191.out) hb)
      have n4_ := qS (qB (g := gb195) (o := .cells #[.int .i64 t192, .int .i64 t193] 68 (0, 0)) (by (with_reducible repeat (first | refine qN ?_ _ | refine qD ?_ | refine qA ?_ _)); exact BK195.out) hb)
      have n5_ := qS (qB (g := gb199) (o := .cells #[.int .i64 t196, .int .i64 t197] 68 (0, 0)) (by (with_reducible repeat (first | refine qN ?_ _ | refine qD ?_ | refine qA ?_ _)); exact BK199.out) hb)
      have n6_ := qS (below_step (by repeat (first | (with_reducible first | exact HB.out | apply qpA | apply qpN | apply qp1 | refine qpS ?_ GE188.out | refine qpS ?_ GE189.out | refine qpS ?_ GE190.out | refine qpS ?_ GE191.out | refine qpS ?_ GE195.out | refine qpS ?_ GE199.out) | exact HB.out)) hb)
      clear BK188
      clear BK189
      clear BK190
      clear BK191
      clear BK195
      clear BK199
      clear HB
      have BK188 := n0_
      have BK189 := n1_
      have BK190 := n2_
      have BK191 := n3_
      have BK195 := n4_
      have BK199 := n5_
      have HB := n6_
      clear n0_ n1_ n2_ n3_ n4_ n5_ n6_
      (try clear hb)
      (try clear hb2)
      (try clear hk)
      (try clear hi)
      (try simp only [errW_none, errW_some])
      refine hK.out _ _ ⟨(qC BK190.out 0).trans rfl, (qC BK190.out 1).trans rfl, (qC BK188.out 0).trans rfl, (qC BK188.out 1).trans rfl⟩ (fun hHeld => ?_)
      clear hK K
      refine norm_ (a' := ?_) ?_ ?_
      rotate_left
      ·show Act.put _ (some 55) _ = _
       simp only [Act.put, List.setIfInBounds_toArray, List.set_cons_zero, List.set_cons_succ, i64_w, i32_w]
       rfl
      refine pure_ (i := 17) (N := some 56) (v := ?_) (a' := ?_) #[true, true, true, true, true, true, true, true, true, true, true, true, true, true, true, true, true, true, true, true, true, true, true, false, false] rfl rfl (any_of HT_.out (by kernel_rfl)) (fun _ _ _ h => h) (Or.inl ⟨by rfl, ?_⟩) ?_ ?_
      rotate_left
      ·intro w'
       go_simp
       with_reducible rfl
      rotate_left
      ·simp only [Act.put, List.setIfInBounds_toArray, List.set_cons_zero, List.set_cons_succ, i64_w, i32_w]
       rfl
      refine pure_ (i := 23) (N := some 62) (v := ?_) (a' := ?_) #[true, true, true, true, true, true, true, true, true, true, true, true, true, true, true, true, true, true, true, true, true, true, true, true, false] rfl rfl (any_of HT_.out (by kernel_rfl)) (fun _ _ _ h => h) (Or.inl ⟨by rfl, ?_⟩) ?_ ?_
      rotate_left
      ·intro w'
       go_simp
       with_reducible rfl
      rotate_left
      ·simp only [Act.put, List.setIfInBounds_toArray, List.set_cons_zero, List.set_cons_succ, i64_w, i32_w]
       rfl
      refine pure_ (i := 24) (N := some 63) (v := ?_) (a' := ?_) #[true, true, true, true, true, true, true, true, true, true, true, true, true, true, true, true, true, true, true, true, true, true, true, true, true] rfl rfl (any_of HT_.out (by kernel_rfl)) (fun _ _ _ h => h) (Or.inl ⟨by rfl, ?_⟩) ?_ ?_
      rotate_left
      ·intro w'
       go_simp
       with_reducible rfl
      rotate_left
      ·simp only [Act.put, List.setIfInBounds_toArray, List.set_cons_zero, List.set_cons_succ, i64_w, i32_w]
       rfl
      refine done_ (done_of HT_.out (by kernel_rfl)) ?_
      try go_wp2
      go_meet
      case rel => exact ⟨_, (!(decide (a0_0 ≤ a0_1))), (by first | rfl | (simp; done) | (simp [*]; done)), H', ⟨by first | omega | exact Nat.le_refl _⟩, ⟨by (with_reducible repeat (first | refine qN ?_ _ | refine qD ?_ | refine qA ?_ _)); exact BK188.out⟩, ⟨by (with_reducible repeat (first | refine qN ?_ _ | refine qD ?_ | refine qA ?_ _)); exact BK189.out⟩, ⟨by (with_reducible repeat (first | refine qN ?_ _ | refine qD ?_ | refine qA ?_ _)); exact BK190.out⟩, ⟨by (with_reducible repeat (first | refine qN ?_ _ | refine qD ?_ | refine qA ?_ _)); exact BK191.out⟩, ⟨by (with_reducible repeat (first | refine qN ?_ _ | refine qD ?_ | refine qA ?_ _)); exact BK195.out⟩, ⟨by (with_reducible repeat (first | refine qN ?_ _ | refine qD ?_ | refine qA ?_ _)); exact BK199.out⟩, ⟨by repeat (first | (with_reducible first | exact HB.out | apply qpA | apply qpN | apply qp1 | refine qpS ?_ GE188.out | refine qpS ?_ GE189.out | refine qpS ?_ GE190.out | refine qpS ?_ GE191.out | refine qpS ?_ GE195.out | refine qpS ?_ GE199.out) | exact HB.out)⟩⟩
    ·have H1 : (fuseelaw13_SpanSteps.j0 k a2 t194 t198 t200 t201 t202 (decide (a0_0 ≤ a0_1)) a0_0 a0_1 a1_0 a1_1 t192 t193 t196 t197) = some r := by rw [if_neg (show ¬ (some q207).isNone = true by simp)] at H; exact H
     clear H
     have H := H1
     clear H1
     try simp only [errW_none, errW_some]
     as_aux_lemma =>
      have H' := qS H
      clear H
      try go_wp2
      have n0_ := qS (qD BK188.out)
      have n1_ := qS (qD BK189.out)
      have n2_ := qS (qD BK190.out)
      have n3_ := qS (qD BK191.out)
      have n4_ := qS (qD BK195.out)
      have n5_ := qS (qD BK199.out)
      have n6_ := qS (qp1 HB.out)
      clear BK188
      clear BK189
      clear BK190
      clear BK191
      clear BK195
      clear BK199
      clear HB
      have BK188 := n0_
      have BK189 := n1_
      have BK190 := n2_
      have BK191 := n3_
      have BK195 := n4_
      have BK199 := n5_
      have HB := n6_
      clear n0_ n1_ n2_ n3_ n4_ n5_ n6_
      refine start_ (n := 25) (S := fun w' => w'.cell? ⟨gb190, 0, none⟩ = some (.int .i64 a0_0) ∧ w'.cell? ⟨gb190, 1, none⟩ = some (.int .i64 a0_1) ∧ w'.cell? ⟨gb188, 0, none⟩ = some (.int .i64 a0_0) ∧ w'.cell? ⟨gb188, 1, none⟩ = some (.int .i64 a0_1)) (ds := []) #[false, false, false, false, false, false, false, false, false, false, false, false, false, false, false, false, false, false, false, false, false, false, false, false, false] (by kernel_rfl) rfl rfl ⟨(qC BK190.out 0).trans rfl, (qC BK190.out 1).trans rfl, (qC BK188.out 0).trans rfl, (qC BK188.out 1).trans rfl⟩ (fun hHeld => ?_); refine with_tabW fuseelaw13_SpanSteps.tab5 fuseelaw13_SpanSteps.bits5 (fun HT_ HW_ => ?_)
      generalize w42.drew = w62 at BK188 BK189 BK190 BK191 BK195 BK199 HB hHeld ⊢
      refine pure_ (i := 1) (N := some 40) (v := ?_) (a' := ?_) #[false, true, false, false, false, false, false, false, false, false, false, false, false, false, false, false, false, false, false, false, false, false, false, false, false] rfl rfl (any_of HT_.out (by kernel_rfl)) (fun _ _ _ h => h) (Or.inl ⟨by rfl, ?_⟩) ?_ ?_
      rotate_left
      ·intro w'
       go_simp
       with_reducible rfl
      rotate_left
      ·simp only [Act.put, List.setIfInBounds_toArray, List.set_cons_zero, List.set_cons_succ, i64_w, i32_w]
       rfl
      refine pure_ (i := 3) (N := some 42) (v := ?_) (a' := ?_) #[false, true, false, true, false, false, false, false, false, false, false, false, false, false, false, false, false, false, false, false, false, false, false, false, false] rfl rfl (any_of HT_.out (by kernel_rfl)) (fun _ _ _ h => h) (Or.inl ⟨by rfl, ?_⟩) ?_ ?_
      rotate_left
      ·intro w'
       go_simp
       with_reducible rfl
      rotate_left
      ·simp only [Act.put, List.setIfInBounds_toArray, List.set_cons_zero, List.set_cons_succ, i64_w, i32_w]
       rfl
      refine pure_ (i := 5) (N := some 44) (v := ?_) (a' := ?_) #[false, true, false, true, false, true, false, false, false, false, false, false, false, false, false, false, false, false, false, false, false, false, false, false, false] rfl rfl (any_of HT_.out (by kernel_rfl)) (fun _ _ _ h => h) (Or.inl ⟨by rfl, ?_⟩) ?_ ?_
      rotate_left
      ·intro w'
       go_simp
       with_reducible rfl
      rotate_left
      ·simp only [Act.put, List.setIfInBounds_toArray, List.set_cons_zero, List.set_cons_succ, i64_w, i32_w]
       rfl
      refine take_ (i := 0) (N := some 39) (v := ?_) (a' := ?_) #[true, true, false, true, false, true, false, false, false, false, false, false, false, false, false, false, false, false, false, false, false, false, false, false, false] rfl rfl (take_ofW HT_.out HW_.out (by kernel_rfl)) (fun _ _ _ h => h) (Or.inl ⟨by rfl, ?_⟩) hHeld ?_ ?_
      rotate_left
      ·rintro w' ⟨s0, s1, s2, s3⟩
       go_simp
       with_reducible rfl
      rotate_left
      ·simp only [Act.put, List.setIfInBounds_toArray, List.set_cons_zero, List.set_cons_succ, i64_w, i32_w]
       rfl
      refine take_ (i := 4) (N := some 43) (v := ?_) (a' := ?_) #[true, true, false, true, true, true, false, false, false, false, false, false, false, false, false, false, false, false, false, false, false, false, false, false, false] rfl rfl (take_ofW HT_.out HW_.out (by kernel_rfl)) (fun _ _ _ h => h) (Or.inl ⟨by rfl, ?_⟩) hHeld ?_ ?_
      rotate_left
      ·rintro w' ⟨s0, s1, s2, s3⟩
       go_simp
       with_reducible rfl
      rotate_left
      ·simp only [Act.put, List.setIfInBounds_toArray, List.set_cons_zero, List.set_cons_succ, i64_w, i32_w]
       rfl
      refine pure_ (i := 6) (N := some 45) (v := ?_) (a' := ?_) #[true, true, false, true, true, true, true, false, false, false, false, false, false, false, false, false, false, false, false, false, false, false, false, false, false] rfl rfl (any_of HT_.out (by kernel_rfl)) (fun _ _ _ h => h) (Or.inl ⟨by rfl, ?_⟩) ?_ ?_
      rotate_left
      ·intro w'
       go_simp
       with_reducible rfl
      rotate_left
      ·simp only [Act.put, List.setIfInBounds_toArray, List.set_cons_zero, List.set_cons_succ, i64_w, i32_w]
       rfl
      refine one_ (i := 2) (N := some 41) #[true, true, true, true, true, true, true, false, false, false, false, false, false, false, false, false, false, false, false, false, false, false, false, false, false] rfl rfl (one_of HT_.out (by kernel_rfl)) (by decide) (fun K hK => ?_)
      refine goes_ Tryd.func39 (by kernel_rfl) rfl #[.agg #[.int .i64 a0_0, .int .i64 a0_1], .int .i64 a2] (by rfl) rfl rfl (by (try simp only [List.map_toArray, List.map_cons, List.map_nil]); first | done | rfl | (simp only [*]; done) | (simp only [List.length_drop, List.length_take]; rfl)) ?_
      with_reducible refine (span_Has.calls a0_0 a0_1 a2 false _ A43.out).mono ?_
      rintro e w63 ⟨rfl, hb⟩
      refine ⟨_, rfl, ?_⟩
      have n0_ := qS (qB (g := gb188) (o := .cells #[.int .i64 a0_0, .int .i64 a0_1] 73 (0, 0)) (by (with_reducible repeat (first | refine qN ?_ _ | refine qD ?_ | refine qA ?_ _)); exact BK188.out) hb)
      have n1_ := qS (qB (g := gb189) (o := .cells #[.int .i64 a1_0, .int .i64 a1_1] 73 (0, 0)) (by (with_reducible repeat (first | refine qN ?_ _ | refine qD ?_ | refine qA ?_ _)); exact BK189.out) hb)
      have n2_ := qS (qB (g := gb190) (o := .cells #[.int .i64 a0_0, .int .i64 a0_1] 68 (0, 0)) (by (with_reducible repeat (first | refine qN ?_ _ | refine qD ?_ | refine qA ?_ _)); exact BK190.out) hb)
      have n3_ := qS (qB (g := gb191) (o := .cells #[.int .i64 a1_0, .int .i64 a1_1] 68 (0, 0)) (by (with_reducible repeat (first | refine qN ?_ _ | refine qD ?_ | refine qA ?_ _)); exact BK191.out) hb)
      have n4_ := qS (qB (g := gb195) (o := .cells #[.int .i64 t192, .int .i64 t193] 68 (0, 0)) (by (with_reducible repeat (first | refine qN ?_ _ | refine qD ?_ | refine qA ?_ _)); exact BK195.out) hb)
      have n5_ := qS (qB (g := gb199) (o := .cells #[.int .i64 t196, .int .i64 t197] 68 (0, 0)) (by (with_reducible repeat (first | refine qN ?_ _ | refine qD ?_ | refine qA ?_ _)); exact BK199.out) hb)
      have n6_ := qS (below_step (by repeat (first | (with_reducible first | exact HB.out | apply qpA | apply qpN | apply qp1 | refine qpS ?_ GE188.out | refine qpS ?_ GE189.out | refine qpS ?_ GE190.out | refine qpS ?_ GE191.out | refine qpS ?_ GE195.out | refine qpS ?_ GE199.out) | exact HB.out)) hb)
      clear BK188
      clear BK189
      clear BK190
      clear BK191
      clear BK195
      clear BK199
      clear HB
      have BK188 := n0_
      have BK189 := n1_
      have BK190 := n2_
      have BK191 := n3_
      have BK195 := n4_
      have BK199 := n5_
      have HB := n6_
      clear n0_ n1_ n2_ n3_ n4_ n5_ n6_
      (try clear hb)
      (try clear hb2)
      (try clear hk)
      (try clear hi)
      refine hK.out _ _ ⟨(qC BK190.out 0).trans rfl, (qC BK190.out 1).trans rfl, (qC BK188.out 0).trans rfl, (qC BK188.out 1).trans rfl⟩ (fun hHeld => ?_)
      clear hK K
      refine norm_ (a' := ?_) ?_ ?_
      rotate_left
      ·show Act.put _ (some 41) _ = _
       simp only [Act.put, List.setIfInBounds_toArray, List.set_cons_zero, List.set_cons_succ, i64_w, i32_w]
       rfl
      refine pure_ (i := 7) (N := some 46) (v := ?_) (a' := ?_) #[true, true, true, true, true, true, true, true, false, false, false, false, false, false, false, false, false, false, false, false, false, false, false, false, false] rfl rfl (any_of HT_.out (by kernel_rfl)) (fun _ _ _ h => h) (Or.inl ⟨by rfl, ?_⟩) ?_ ?_
      rotate_left
      ·intro w'
       go_simp
       with_reducible rfl
      rotate_left
      ·simp only [Act.put, List.setIfInBounds_toArray, List.set_cons_zero, List.set_cons_succ, i64_w, i32_w]
       rfl
      refine pure_ (i := 8) (N := some 47) (v := undef) (a' := ?_) #[true, true, true, true, true, true, true, true, true, false, false, false, false, false, false, false, false, false, false, false, false, false, false, false, false] rfl rfl (any_of HT_.out (by kernel_rfl)) (fun _ _ _ h => h) (Or.inr ⟨by rfl, rfl⟩) ?_ ?_
      rotate_left
      ·simp only [Act.put, List.setIfInBounds_toArray, List.set_cons_zero, List.set_cons_succ, i64_w, i32_w]
       rfl
      refine pure_ (i := 9) (N := some 48) (v := undef) (a' := ?_) #[true, true, true, true, true, true, true, true, true, true, false, false, false, false, false, false, false, false, false, false, false, false, false, false, false] rfl rfl (any_of HT_.out (by kernel_rfl)) (fun _ _ _ h => h) (Or.inr ⟨by rfl, rfl⟩) ?_ ?_
      rotate_left
      ·simp only [Act.put, List.setIfInBounds_toArray, List.set_cons_zero, List.set_cons_succ, i64_w, i32_w]
       rfl
      refine pure_ (i := 10) (N := some 49) (v := undef) (a' := ?_) #[true, true, true, true, true, true, true, true, true, true, true, false, false, false, false, false, false, false, false, false, false, false, false, false, false] rfl rfl (any_of HT_.out (by kernel_rfl)) (fun _ _ _ h => h) (Or.inr ⟨by rfl, rfl⟩) ?_ ?_
      rotate_left
      ·simp only [Act.put, List.setIfInBounds_toArray, List.set_cons_zero, List.set_cons_succ, i64_w, i32_w]
       rfl
      refine pure_ (i := 11) (N := some 50) (v := undef) (a' := ?_) #[true, true, true, true, true, true, true, true, true, true, true, true, false, false, false, false, false, false, false, false, false, false, false, false, false] rfl rfl (any_of HT_.out (by kernel_rfl)) (fun _ _ _ h => h) (Or.inr ⟨by rfl, rfl⟩) ?_ ?_
      rotate_left
      ·simp only [Act.put, List.setIfInBounds_toArray, List.set_cons_zero, List.set_cons_succ, i64_w, i32_w]
       rfl
      refine pure_ (i := 12) (N := some 51) (v := ?_) (a' := ?_) #[true, true, true, true, true, true, true, true, true, true, true, true, true, false, false, false, false, false, false, false, false, false, false, false, false] rfl rfl (any_of HT_.out (by kernel_rfl)) (fun _ _ _ h => h) (Or.inl ⟨by rfl, ?_⟩) ?_ ?_
      rotate_left
      ·intro w'
       go_simp
       with_reducible rfl
      rotate_left
      ·simp only [Act.put, List.setIfInBounds_toArray, List.set_cons_zero, List.set_cons_succ, i64_w, i32_w]
       rfl
      refine pure_ (i := 13) (N := some 52) (v := ?_) (a' := ?_) #[true, true, true, true, true, true, true, true, true, true, true, true, true, true, false, false, false, false, false, false, false, false, false, false, false] rfl rfl (any_of HT_.out (by kernel_rfl)) (fun _ _ _ h => h) (Or.inl ⟨by rfl, ?_⟩) ?_ ?_
      rotate_left
      ·intro w'
       go_simp
       with_reducible rfl
      rotate_left
      ·simp only [Act.put, List.setIfInBounds_toArray, List.set_cons_zero, List.set_cons_succ, i64_w, i32_w]
       rfl
      refine pure_ (i := 14) (N := some 53) (v := ?_) (a' := ?_) #[true, true, true, true, true, true, true, true, true, true, true, true, true, true, true, false, false, false, false, false, false, false, false, false, false] rfl rfl (any_of HT_.out (by kernel_rfl)) (fun _ _ _ h => h) (Or.inl ⟨by rfl, ?_⟩) ?_ ?_
      rotate_left
      ·intro w'
       go_simp
       with_reducible rfl
      rotate_left
      ·simp only [Act.put, List.setIfInBounds_toArray, List.set_cons_zero, List.set_cons_succ, i64_w, i32_w]
       rfl
      refine pure_ (i := 18) (N := some 57) (v := ?_) (a' := ?_) #[true, true, true, true, true, true, true, true, true, true, true, true, true, true, true, false, false, false, true, false, false, false, false, false, false] rfl rfl (any_of HT_.out (by kernel_rfl)) (fun _ _ _ h => h) (Or.inl ⟨by rfl, ?_⟩) ?_ ?_
      rotate_left
      ·intro w'
       go_simp
       with_reducible rfl
      rotate_left
      ·simp only [Act.put, List.setIfInBounds_toArray, List.set_cons_zero, List.set_cons_succ, i64_w, i32_w]
       rfl
      refine pure_ (i := 20) (N := some 59) (v := ?_) (a' := ?_) #[true, true, true, true, true, true, true, true, true, true, true, true, true, true, true, false, false, false, true, false, true, false, false, false, false] rfl rfl (any_of HT_.out (by kernel_rfl)) (fun _ _ _ h => h) (Or.inl ⟨by rfl, ?_⟩) ?_ ?_
      rotate_left
      ·intro w'
       go_simp
       with_reducible rfl
      rotate_left
      ·simp only [Act.put, List.setIfInBounds_toArray, List.set_cons_zero, List.set_cons_succ, i64_w, i32_w]
       rfl
      refine take_ (i := 15) (N := some 54) (v := ?_) (a' := ?_) #[true, true, true, true, true, true, true, true, true, true, true, true, true, true, true, true, false, false, true, false, true, false, false, false, false] rfl rfl (take_ofW HT_.out HW_.out (by kernel_rfl)) (fun _ _ _ h => h) (Or.inl ⟨by rfl, ?_⟩) hHeld ?_ ?_
      rotate_left
      ·rintro w' ⟨s0, s1, s2, s3⟩
       go_simp
       with_reducible rfl
      rotate_left
      ·simp only [Act.put, List.setIfInBounds_toArray, List.set_cons_zero, List.set_cons_succ, i64_w, i32_w]
       rfl
      refine take_ (i := 19) (N := some 58) (v := ?_) (a' := ?_) #[true, true, true, true, true, true, true, true, true, true, true, true, true, true, true, true, false, false, true, true, true, false, false, false, false] rfl rfl (take_ofW HT_.out HW_.out (by kernel_rfl)) (fun _ _ _ h => h) (Or.inl ⟨by rfl, ?_⟩) hHeld ?_ ?_
      rotate_left
      ·rintro w' ⟨s0, s1, s2, s3⟩
       go_simp
       with_reducible rfl
      rotate_left
      ·simp only [Act.put, List.setIfInBounds_toArray, List.set_cons_zero, List.set_cons_succ, i64_w, i32_w]
       rfl
      refine take_ (i := 21) (N := some 60) (v := ?_) (a' := ?_) #[true, true, true, true, true, true, true, true, true, true, true, true, true, true, true, true, false, false, true, true, true, true, false, false, false] rfl rfl (take_ofW HT_.out HW_.out (by kernel_rfl)) (fun _ _ _ h => h) (Or.inl ⟨by rfl, ?_⟩) hHeld ?_ ?_
      rotate_left
      ·rintro w' ⟨s0, s1, s2, s3⟩
       go_simp
       with_reducible rfl
      rotate_left
      ·simp only [Act.put, List.setIfInBounds_toArray, List.set_cons_zero, List.set_cons_succ, i64_w, i32_w]
       rfl
      refine pure_ (i := 22) (N := some 61) (v := ?_) (a' := ?_) #[true, true, true, true, true, true, true, true, true, true, true, true, true, true, true, true, false, false, true, true, true, true, true, false, false] rfl rfl (any_of HT_.out (by kernel_rfl)) (fun _ _ _ h => h) (Or.inl ⟨by rfl, ?_⟩) ?_ ?_
      rotate_left
      ·intro w'
       go_simp
       with_reducible rfl
      rotate_left
      ·simp only [Act.put, List.setIfInBounds_toArray, List.set_cons_zero, List.set_cons_succ, i64_w, i32_w]
       rfl
      refine one_ (i := 16) (N := some 55) #[true, true, true, true, true, true, true, true, true, true, true, true, true, true, true, true, true, false, true, true, true, true, true, false, false] rfl rfl (one_of HT_.out (by kernel_rfl)) (by decide) (fun K hK => ?_)
      refine goes_ Tryd.func53 (by kernel_rfl) rfl #[.agg #[.int .i64 a0_0, .int .i64 a0_1]] (by rfl) rfl rfl (by (try simp only [List.map_toArray, List.map_cons, List.map_nil]); first | done | rfl | (simp only [*]; done) | (simp only [List.length_drop, List.length_take]; rfl)) ?_
      with_reducible refine (span_Check.calls a0_0 a0_1 (some q207) _ A58.out).mono ?_
      rintro e w64 ⟨rfl, hb⟩
      refine ⟨_, rfl, ?_⟩
      have n0_ := qS (qB (g := gb188) (o := .cells #[.int .i64 a0_0, .int .i64 a0_1] 73 (0, 0)) (by (with_reducible repeat (first | refine qN ?_ _ | refine qD ?_ | refine qA ?_ _)); exact BK188.out) hb)
      have n1_ := qS (qB (g := gb189) (o := .cells #[.int .i64 a1_0, .int .i64 a1_1] 73 (0, 0)) (by (with_reducible repeat (first | refine qN ?_ _ | refine qD ?_ | refine qA ?_ _)); exact BK189.out) hb)
      have n2_ := qS (qB (g := gb190) (o := .cells #[.int .i64 a0_0, .int .i64 a0_1] 68 (0, 0)) (by (with_reducible repeat (first | refine qN ?_ _ | refine qD ?_ | refine qA ?_ _)); exact BK190.out) hb)
      have n3_ := qS (qB (g := gb191) (o := .cells #[.int .i64 a1_0, .int .i64 a1_1] 68 (0, 0)) (by (with_reducible repeat (first | refine qN ?_ _ | refine qD ?_ | refine qA ?_ _)); exact BK191.out) hb)
      have n4_ := qS (qB (g := gb195) (o := .cells #[.int .i64 t192, .int .i64 t193] 68 (0, 0)) (by (with_reducible repeat (first | refine qN ?_ _ | refine qD ?_ | refine qA ?_ _)); exact BK195.out) hb)
      have n5_ := qS (qB (g := gb199) (o := .cells #[.int .i64 t196, .int .i64 t197] 68 (0, 0)) (by (with_reducible repeat (first | refine qN ?_ _ | refine qD ?_ | refine qA ?_ _)); exact BK199.out) hb)
      have n6_ := qS (below_step (by repeat (first | (with_reducible first | exact HB.out | apply qpA | apply qpN | apply qp1 | refine qpS ?_ GE188.out | refine qpS ?_ GE189.out | refine qpS ?_ GE190.out | refine qpS ?_ GE191.out | refine qpS ?_ GE195.out | refine qpS ?_ GE199.out) | exact HB.out)) hb)
      clear BK188
      clear BK189
      clear BK190
      clear BK191
      clear BK195
      clear BK199
      clear HB
      have BK188 := n0_
      have BK189 := n1_
      have BK190 := n2_
      have BK191 := n3_
      have BK195 := n4_
      have BK199 := n5_
      have HB := n6_
      clear n0_ n1_ n2_ n3_ n4_ n5_ n6_
      (try clear hb)
      (try clear hb2)
      (try clear hk)
      (try clear hi)
      (try simp only [errW_none, errW_some])
      refine hK.out _ _ ⟨(qC BK190.out 0).trans rfl, (qC BK190.out 1).trans rfl, (qC BK188.out 0).trans rfl, (qC BK188.out 1).trans rfl⟩ (fun hHeld => ?_)
      clear hK K
      refine norm_ (a' := ?_) ?_ ?_
      rotate_left
      ·show Act.put _ (some 55) _ = _
       simp only [Act.put, List.setIfInBounds_toArray, List.set_cons_zero, List.set_cons_succ, i64_w, i32_w]
       rfl
      refine pure_ (i := 17) (N := some 56) (v := ?_) (a' := ?_) #[true, true, true, true, true, true, true, true, true, true, true, true, true, true, true, true, true, true, true, true, true, true, true, false, false] rfl rfl (any_of HT_.out (by kernel_rfl)) (fun _ _ _ h => h) (Or.inl ⟨by rfl, ?_⟩) ?_ ?_
      rotate_left
      ·intro w'
       go_simp
       with_reducible rfl
      rotate_left
      ·simp only [Act.put, List.setIfInBounds_toArray, List.set_cons_zero, List.set_cons_succ, i64_w, i32_w]
       rfl
      refine pure_ (i := 23) (N := some 62) (v := ?_) (a' := ?_) #[true, true, true, true, true, true, true, true, true, true, true, true, true, true, true, true, true, true, true, true, true, true, true, true, false] rfl rfl (any_of HT_.out (by kernel_rfl)) (fun _ _ _ h => h) (Or.inl ⟨by rfl, ?_⟩) ?_ ?_
      rotate_left
      ·intro w'
       go_simp
       with_reducible rfl
      rotate_left
      ·simp only [Act.put, List.setIfInBounds_toArray, List.set_cons_zero, List.set_cons_succ, i64_w, i32_w]
       rfl
      refine pure_ (i := 24) (N := some 63) (v := ?_) (a' := ?_) #[true, true, true, true, true, true, true, true, true, true, true, true, true, true, true, true, true, true, true, true, true, true, true, true, true] rfl rfl (any_of HT_.out (by kernel_rfl)) (fun _ _ _ h => h) (Or.inl ⟨by rfl, ?_⟩) ?_ ?_
      rotate_left
      ·intro w'
       go_simp
       with_reducible rfl
      rotate_left
      ·simp only [Act.put, List.setIfInBounds_toArray, List.set_cons_zero, List.set_cons_succ, i64_w, i32_w]
       rfl
      refine done_ (done_of HT_.out (by kernel_rfl)) ?_
      try go_wp2
      go_meet
      case rel => exact ⟨_, (decide (a0_0 ≤ a0_1)), (by first | rfl | (simp; done) | (simp [*]; done)), H', ⟨by first | omega | exact Nat.le_refl _⟩, ⟨by (with_reducible repeat (first | refine qN ?_ _ | refine qD ?_ | refine qA ?_ _)); exact BK188.out⟩, ⟨by (with_reducible repeat (first | refine qN ?_ _ | refine qD ?_ | refine qA ?_ _)); exact BK189.out⟩, ⟨by (with_reducible repeat (first | refine qN ?_ _ | refine qD ?_ | refine qA ?_ _)); exact BK190.out⟩, ⟨by (with_reducible repeat (first | refine qN ?_ _ | refine qD ?_ | refine qA ?_ _)); exact BK191.out⟩, ⟨by (with_reducible repeat (first | refine qN ?_ _ | refine qD ?_ | refine qA ?_ _)); exact BK195.out⟩, ⟨by (with_reducible repeat (first | refine qN ?_ _ | refine qD ?_ | refine qA ?_ _)); exact BK199.out⟩, ⟨by repeat (first | (with_reducible first | exact HB.out | apply qpA | apply qpN | apply qp1 | refine qpS ?_ GE188.out | refine qpS ?_ GE189.out | refine qpS ?_ GE190.out | refine qpS ?_ GE191.out | refine qpS ?_ GE195.out | refine qpS ?_ GE199.out) | exact HB.out)⟩⟩
 case rest =>
  clear HC7
  try clear p2
  try clear q2
  try clear c3
  try clear c5
  try clear q20
  try clear c39
  try clear c53
  try clear c55
  try clear q207
  obtain ⟨kq, x63_6, rfl, HA, HJ6, BK188, BK189, BK190, BK191, BK195, BK199, HB⟩ := hcut
  cases kq with
  | zero => exact absurd HA.out (by simp [fuseelaw13_SpanSteps.j0])
  | succ kj6 =>
   have H := HA.out
   clear HA
   simp only [fuseelaw13_SpanSteps.j0] at H
   by_cases c65 : x63_6 = true
   ·subst c65
    have H1 : (none) = some r := by rw [if_pos rfl] at H; exact H
    clear H
    have H := H1
    clear H1
    exact absurd H (by simp)
   ·replace c65 := Bool.eq_false_iff.mpr c65
    subst c65
    have H1 : (if a0_0 ≤ a0_1 then (if a1_0 ≤ a1_1 then (if a0_0 ≤ a1_1 then (fuseelaw13_SpanSteps.j1 kj6 a2 t194 t198 t200 t201 t202 (decide (a1_0 ≤ a0_1)) a0_0 a0_1 a1_0 a1_1 t192 t193 t196 t197) else (fuseelaw13_SpanSteps.j1 kj6 a2 t194 t198 t200 t201 t202 false a0_0 a0_1 a1_0 a1_1 t192 t193 t196 t197)) else (fuseelaw13_SpanSteps.j1 kj6 a2 t194 t198 t200 t201 t202 false a0_0 a0_1 a1_0 a1_1 t192 t193 t196 t197)) else (fuseelaw13_SpanSteps.j1 kj6 a2 t194 t198 t200 t201 t202 false a0_0 a0_1 a1_0 a1_1 t192 t193 t196 t197)) = some r := by rw [if_neg (show ¬ (false = true) by decide)] at H; exact H
    clear H
    have H := H1
    clear H1
    have HC66 := qS H
    clear H
    go_upto_region 7 with (fail)
    go_cut [16] (fun v16 wc => ∃ (kq : Nat) (x16_65 : Bool), v16 = .bool x16_65 ∧ Aside0 (fuseelaw13_SpanSteps.j1 kq a2 t194 t198 t200 t201 t202 x16_65 a0_0 a0_1 a1_0 a1_1 t192 t193 t196 t197 = some r) ∧ Aside0 (kq ≤ kj6) ∧ Aside0 (wc.heap[gb188]? = some (.cells #[.int .i64 a0_0, .int .i64 a0_1] 73 (0, 0))) ∧ Aside0 (wc.heap[gb189]? = some (.cells #[.int .i64 a1_0, .int .i64 a1_1] 73 (0, 0))) ∧ Aside0 (wc.heap[gb190]? = some (.cells #[.int .i64 a0_0, .int .i64 a0_1] 68 (0, 0))) ∧ Aside0 (wc.heap[gb191]? = some (.cells #[.int .i64 a1_0, .int .i64 a1_1] 68 (0, 0))) ∧ Aside0 (wc.heap[gb195]? = some (.cells #[.int .i64 t192, .int .i64 t193] 68 (0, 0))) ∧ Aside0 (wc.heap[gb199]? = some (.cells #[.int .i64 t196, .int .i64 t197] 68 (0, 0))) ∧ Aside0 (Below w.heap.size w wc))
    case first =>
     have H := HC66.out
     clear HC66
     by_cases c67 : a0_0 ≤ a0_1
     ·rw [if_pos c67] at H
      have c67b0 : decide (a0_0 ≤ a0_1) = true := decide_eq_true c67
      clear c67
      (first | rw [c67b0] | (simp only [i64_w, i32_w]; rw [c67b0]) | skip)
      by_cases c68 : a1_0 ≤ a1_1
      ·rw [if_pos c68] at H
       have c68b0 : decide (a1_0 ≤ a1_1) = true := decide_eq_true c68
       clear c68
       by_cases c69 : a0_0 ≤ a1_1
       ·rw [if_pos c69] at H
        have c69b0 : decide (a0_0 ≤ a1_1) = true := decide_eq_true c69
        clear c69
        as_aux_lemma =>
         have H' := qS H
         clear H
         have hnb70 := NB188_189.out
         have hnc70 := NB189_188.out
         have hnb71 := NB188_190.out
         have hnc71 := NB190_188.out
         have hnb72 := NB188_191.out
         have hnc72 := NB191_188.out
         have hnb73 := NB188_195.out
         have hnc73 := NB195_188.out
         have hnb74 := NB188_199.out
         have hnc74 := NB199_188.out
         have hcz75_0 : wc.cell? ⟨gb188, 0, none⟩ = some (.int .i64 a0_0) := (qC BK188.out 0).trans rfl
         have hcz75_1 : wc.cell? ⟨gb188, 1, none⟩ = some (.int .i64 a0_1) := (qC BK188.out 1).trans rfl
         have hfz75_0 := qF BK188.out 0
         have hfz75_1 := qF BK188.out 1
         have hnb76 := NB189_190.out
         have hnc76 := NB190_189.out
         have hnb77 := NB189_191.out
         have hnc77 := NB191_189.out
         have hnb78 := NB189_195.out
         have hnc78 := NB195_189.out
         have hnb79 := NB189_199.out
         have hnc79 := NB199_189.out
         have hcz80_0 : wc.cell? ⟨gb189, 0, none⟩ = some (.int .i64 a1_0) := (qC BK189.out 0).trans rfl
         have hcz80_1 : wc.cell? ⟨gb189, 1, none⟩ = some (.int .i64 a1_1) := (qC BK189.out 1).trans rfl
         have hfz80_0 := qF BK189.out 0
         have hfz80_1 := qF BK189.out 1
         go_wp2
         go_meet
         case rel => exact ⟨_, (decide (a1_0 ≤ a0_1)), (by first | rfl | (simp; done) | (simp [*]; done)), H', ⟨by have := HJ6.out; first | omega | exact Nat.le_refl _⟩, ⟨by (with_reducible repeat (first | refine qN ?_ _ | refine qD ?_ | refine qA ?_ _)); exact BK188.out⟩, ⟨by (with_reducible repeat (first | refine qN ?_ _ | refine qD ?_ | refine qA ?_ _)); exact BK189.out⟩, ⟨by (with_reducible repeat (first | refine qN ?_ _ | refine qD ?_ | refine qA ?_ _)); exact BK190.out⟩, ⟨by (with_reducible repeat (first | refine qN ?_ _ | refine qD ?_ | refine qA ?_ _)); exact BK191.out⟩, ⟨by (with_reducible repeat (first | refine qN ?_ _ | refine qD ?_ | refine qA ?_ _)); exact BK195.out⟩, ⟨by (with_reducible repeat (first | refine qN ?_ _ | refine qD ?_ | refine qA ?_ _)); exact BK199.out⟩, ⟨by repeat (first | (with_reducible first | exact HB.out | apply qpA | apply qpN | apply qp1 | refine qpS ?_ GE188.out | refine qpS ?_ GE189.out | refine qpS ?_ GE190.out | refine qpS ?_ GE191.out | refine qpS ?_ GE195.out | refine qpS ?_ GE199.out) | exact HB.out)⟩⟩
       ·rw [if_neg c69] at H
        have c69b0 : decide (a0_0 ≤ a1_1) = false := decide_eq_false c69
        clear c69
        as_aux_lemma =>
         have H' := qS H
         clear H
         have hnb81 := NB188_189.out
         have hnc81 := NB189_188.out
         have hnb82 := NB188_190.out
         have hnc82 := NB190_188.out
         have hnb83 := NB188_191.out
         have hnc83 := NB191_188.out
         have hnb84 := NB188_195.out
         have hnc84 := NB195_188.out
         have hnb85 := NB188_199.out
         have hnc85 := NB199_188.out
         have hcz86_0 : wc.cell? ⟨gb188, 0, none⟩ = some (.int .i64 a0_0) := (qC BK188.out 0).trans rfl
         have hcz86_1 : wc.cell? ⟨gb188, 1, none⟩ = some (.int .i64 a0_1) := (qC BK188.out 1).trans rfl
         have hfz86_0 := qF BK188.out 0
         have hfz86_1 := qF BK188.out 1
         have hnb87 := NB189_190.out
         have hnc87 := NB190_189.out
         have hnb88 := NB189_191.out
         have hnc88 := NB191_189.out
         have hnb89 := NB189_195.out
         have hnc89 := NB195_189.out
         have hnb90 := NB189_199.out
         have hnc90 := NB199_189.out
         have hcz91_0 : wc.cell? ⟨gb189, 0, none⟩ = some (.int .i64 a1_0) := (qC BK189.out 0).trans rfl
         have hcz91_1 : wc.cell? ⟨gb189, 1, none⟩ = some (.int .i64 a1_1) := (qC BK189.out 1).trans rfl
         have hfz91_0 := qF BK189.out 0
         have hfz91_1 := qF BK189.out 1
         go_wp2
         go_meet
         case rel => exact ⟨_, (false), (by first | rfl | (simp; done) | (simp [*]; done)), H', ⟨by have := HJ6.out; first | omega | exact Nat.le_refl _⟩, ⟨by (with_reducible repeat (first | refine qN ?_ _ | refine qD ?_ | refine qA ?_ _)); exact BK188.out⟩, ⟨by (with_reducible repeat (first | refine qN ?_ _ | refine qD ?_ | refine qA ?_ _)); exact BK189.out⟩, ⟨by (with_reducible repeat (first | refine qN ?_ _ | refine qD ?_ | refine qA ?_ _)); exact BK190.out⟩, ⟨by (with_reducible repeat (first | refine qN ?_ _ | refine qD ?_ | refine qA ?_ _)); exact BK191.out⟩, ⟨by (with_reducible repeat (first | refine qN ?_ _ | refine qD ?_ | refine qA ?_ _)); exact BK195.out⟩, ⟨by (with_reducible repeat (first | refine qN ?_ _ | refine qD ?_ | refine qA ?_ _)); exact BK199.out⟩, ⟨by repeat (first | (with_reducible first | exact HB.out | apply qpA | apply qpN | apply qp1 | refine qpS ?_ GE188.out | refine qpS ?_ GE189.out | refine qpS ?_ GE190.out | refine qpS ?_ GE191.out | refine qpS ?_ GE195.out | refine qpS ?_ GE199.out) | exact HB.out)⟩⟩
      ·rw [if_neg c68] at H
       have c68b0 : decide (a1_0 ≤ a1_1) = false := decide_eq_false c68
       clear c68
       as_aux_lemma =>
        have H' := qS H
        clear H
        have hnb92 := NB188_189.out
        have hnc92 := NB189_188.out
        have hnb93 := NB188_190.out
        have hnc93 := NB190_188.out
        have hnb94 := NB188_191.out
        have hnc94 := NB191_188.out
        have hnb95 := NB188_195.out
        have hnc95 := NB195_188.out
        have hnb96 := NB188_199.out
        have hnc96 := NB199_188.out
        have hcz97_0 : wc.cell? ⟨gb188, 0, none⟩ = some (.int .i64 a0_0) := (qC BK188.out 0).trans rfl
        have hcz97_1 : wc.cell? ⟨gb188, 1, none⟩ = some (.int .i64 a0_1) := (qC BK188.out 1).trans rfl
        have hfz97_0 := qF BK188.out 0
        have hfz97_1 := qF BK188.out 1
        have hnb98 := NB189_190.out
        have hnc98 := NB190_189.out
        have hnb99 := NB189_191.out
        have hnc99 := NB191_189.out
        have hnb100 := NB189_195.out
        have hnc100 := NB195_189.out
        have hnb101 := NB189_199.out
        have hnc101 := NB199_189.out
        have hcz102_0 : wc.cell? ⟨gb189, 0, none⟩ = some (.int .i64 a1_0) := (qC BK189.out 0).trans rfl
        have hcz102_1 : wc.cell? ⟨gb189, 1, none⟩ = some (.int .i64 a1_1) := (qC BK189.out 1).trans rfl
        have hfz102_0 := qF BK189.out 0
        have hfz102_1 := qF BK189.out 1
        go_wp2
        go_meet
        case rel => exact ⟨_, (false), (by first | rfl | (simp; done) | (simp [*]; done)), H', ⟨by have := HJ6.out; first | omega | exact Nat.le_refl _⟩, ⟨by (with_reducible repeat (first | refine qN ?_ _ | refine qD ?_ | refine qA ?_ _)); exact BK188.out⟩, ⟨by (with_reducible repeat (first | refine qN ?_ _ | refine qD ?_ | refine qA ?_ _)); exact BK189.out⟩, ⟨by (with_reducible repeat (first | refine qN ?_ _ | refine qD ?_ | refine qA ?_ _)); exact BK190.out⟩, ⟨by (with_reducible repeat (first | refine qN ?_ _ | refine qD ?_ | refine qA ?_ _)); exact BK191.out⟩, ⟨by (with_reducible repeat (first | refine qN ?_ _ | refine qD ?_ | refine qA ?_ _)); exact BK195.out⟩, ⟨by (with_reducible repeat (first | refine qN ?_ _ | refine qD ?_ | refine qA ?_ _)); exact BK199.out⟩, ⟨by repeat (first | (with_reducible first | exact HB.out | apply qpA | apply qpN | apply qp1 | refine qpS ?_ GE188.out | refine qpS ?_ GE189.out | refine qpS ?_ GE190.out | refine qpS ?_ GE191.out | refine qpS ?_ GE195.out | refine qpS ?_ GE199.out) | exact HB.out)⟩⟩
     ·rw [if_neg c67] at H
      have c67b0 : decide (a0_0 ≤ a0_1) = false := decide_eq_false c67
      clear c67
      (first | rw [c67b0] | (simp only [i64_w, i32_w]; rw [c67b0]) | skip)
      as_aux_lemma =>
       have H' := qS H
       clear H
       have hnb103 := NB188_189.out
       have hnc103 := NB189_188.out
       have hnb104 := NB188_190.out
       have hnc104 := NB190_188.out
       have hnb105 := NB188_191.out
       have hnc105 := NB191_188.out
       have hnb106 := NB188_195.out
       have hnc106 := NB195_188.out
       have hnb107 := NB188_199.out
       have hnc107 := NB199_188.out
       have hcz108_0 : wc.cell? ⟨gb188, 0, none⟩ = some (.int .i64 a0_0) := (qC BK188.out 0).trans rfl
       have hcz108_1 : wc.cell? ⟨gb188, 1, none⟩ = some (.int .i64 a0_1) := (qC BK188.out 1).trans rfl
       have hfz108_0 := qF BK188.out 0
       have hfz108_1 := qF BK188.out 1
       go_wp2
       go_meet
       case rel => exact ⟨_, (false), (by first | rfl | (simp; done) | (simp [*]; done)), H', ⟨by have := HJ6.out; first | omega | exact Nat.le_refl _⟩, ⟨by (with_reducible repeat (first | refine qN ?_ _ | refine qD ?_ | refine qA ?_ _)); exact BK188.out⟩, ⟨by (with_reducible repeat (first | refine qN ?_ _ | refine qD ?_ | refine qA ?_ _)); exact BK189.out⟩, ⟨by (with_reducible repeat (first | refine qN ?_ _ | refine qD ?_ | refine qA ?_ _)); exact BK190.out⟩, ⟨by (with_reducible repeat (first | refine qN ?_ _ | refine qD ?_ | refine qA ?_ _)); exact BK191.out⟩, ⟨by (with_reducible repeat (first | refine qN ?_ _ | refine qD ?_ | refine qA ?_ _)); exact BK195.out⟩, ⟨by (with_reducible repeat (first | refine qN ?_ _ | refine qD ?_ | refine qA ?_ _)); exact BK199.out⟩, ⟨by repeat (first | (with_reducible first | exact HB.out | apply qpA | apply qpN | apply qp1 | refine qpS ?_ GE188.out | refine qpS ?_ GE189.out | refine qpS ?_ GE190.out | refine qpS ?_ GE191.out | refine qpS ?_ GE195.out | refine qpS ?_ GE199.out) | exact HB.out)⟩⟩
    case rest =>
     clear HC66
     try clear c1
     try clear p2
     try clear q2
     try clear c3
     try clear c5
     try clear c6
     try clear c7
     try clear c8
     try clear c9
     try clear c10
     try clear q20
     try clear c39
     try clear c53
     try clear c55
     try clear c65
     try clear c67
     try clear c67b0
     try clear c68
     try clear c68b0
     try clear c69
     try clear c69b0
     try clear c70
     try clear c71
     try clear c72
     try clear c73
     try clear c74
     try clear c76
     try clear c77
     try clear c78
     try clear c79
     try clear c81
     try clear c82
     try clear c83
     try clear c84
     try clear c85
     try clear c87
     try clear c88
     try clear c89
     try clear c90
     try clear c92
     try clear c93
     try clear c94
     try clear c95
     try clear c96
     try clear c98
     try clear c99
     try clear c100
     try clear c101
     try clear c103
     try clear c104
     try clear c105
     try clear c106
     try clear c107
     try clear hcz102_0
     try clear hcz102_1
     try clear hcz108_0
     try clear hcz108_1
     try clear hcz75_0
     try clear hcz75_1
     try clear hcz80_0
     try clear hcz80_1
     try clear hcz86_0
     try clear hcz86_1
     try clear hcz91_0
     try clear hcz91_1
     try clear hcz97_0
     try clear hcz97_1
     try clear hfz102_0
     try clear hfz102_1
     try clear hfz108_0
     try clear hfz108_1
     try clear hfz75_0
     try clear hfz75_1
     try clear hfz80_0
     try clear hfz80_1
     try clear hfz86_0
     try clear hfz86_1
     try clear hfz91_0
     try clear hfz91_1
     try clear hfz97_0
     try clear hfz97_1
     try clear p2
     try clear q2
     try clear q20
     try clear q207
     obtain ⟨kq, x16_65, rfl, HA, HJ65, BK188, BK189, BK190, BK191, BK195, BK199, HB⟩ := hcut
     cases kq with
     | zero => exact absurd HA.out (by simp [fuseelaw13_SpanSteps.j1])
     | succ kj65 =>
      have H := HA.out
      clear HA
      simp only [fuseelaw13_SpanSteps.j1] at H
      have HC109 := qS H
      clear H
      go_upto_region 8 with (fail)
      go_cut [119] (fun v119 wc => ∃ (kq : Nat) (x119_108 : Bool), v119 = .bool x119_108 ∧ Aside0 (fuseelaw13_SpanSteps.j2 kq a2 t198 t200 t201 t202 x119_108 a0_0 a0_1 t196 t197 = some r) ∧ Aside0 (kq ≤ kj65) ∧ Aside0 (wc.heap[gb188]? = some (.cells #[.int .i64 a0_0, .int .i64 a0_1] 73 (0, 0))) ∧ Aside0 (wc.heap[gb189]? = some (.cells #[.int .i64 a1_0, .int .i64 a1_1] 73 (0, 0))) ∧ Aside0 (wc.heap[gb190]? = some (.cells #[.int .i64 a0_0, .int .i64 a0_1] 68 (0, 0))) ∧ Aside0 (wc.heap[gb191]? = some (.cells #[.int .i64 a1_0, .int .i64 a1_1] 68 (0, 0))) ∧ Aside0 (wc.heap[gb195]? = some (.cells #[.int .i64 t192, .int .i64 t193] 68 (0, 0))) ∧ Aside0 (wc.heap[gb199]? = some (.cells #[.int .i64 t196, .int .i64 t197] 68 (0, 0))) ∧ Aside0 (Below w.heap.size w wc))
      case first =>
       have H := HC109.out
       clear HC109
       by_cases c110 : (t194 != x16_65) = true
       ·rw [if_pos c110] at H
        have c110b0 : (t194 != x16_65) = true := c110
        (try (have c110b1 : decide (t194 = x16_65) = false := by simpa using c110))
        (try (have c110b2 : (t194 == x16_65) = false := by simpa using c110))
        (try (have c110b3 : ¬ (t194 = x16_65) := by simpa using c110))
        clear c110
        (first | rw [c110b0] | (simp only [i64_w, i32_w]; rw [c110b0]) | skip)
        as_aux_lemma =>
         have H' := qS H
         clear H
         go_wp2
         go_meet
         case rel => exact ⟨_, (true), (by first | rfl | (simp; done) | (simp [*]; done)), H', ⟨by have := HJ6.out; have := HJ65.out; first | omega | exact Nat.le_refl _⟩, ⟨by (with_reducible repeat (first | refine qN ?_ _ | refine qD ?_ | refine qA ?_ _)); exact BK188.out⟩, ⟨by (with_reducible repeat (first | refine qN ?_ _ | refine qD ?_ | refine qA ?_ _)); exact BK189.out⟩, ⟨by (with_reducible repeat (first | refine qN ?_ _ | refine qD ?_ | refine qA ?_ _)); exact BK190.out⟩, ⟨by (with_reducible repeat (first | refine qN ?_ _ | refine qD ?_ | refine qA ?_ _)); exact BK191.out⟩, ⟨by (with_reducible repeat (first | refine qN ?_ _ | refine qD ?_ | refine qA ?_ _)); exact BK195.out⟩, ⟨by (with_reducible repeat (first | refine qN ?_ _ | refine qD ?_ | refine qA ?_ _)); exact BK199.out⟩, ⟨by repeat (first | (with_reducible first | exact HB.out | apply qpA | apply qpN | apply qp1 | refine qpS ?_ GE188.out | refine qpS ?_ GE189.out | refine qpS ?_ GE190.out | refine qpS ?_ GE191.out | refine qpS ?_ GE195.out | refine qpS ?_ GE199.out) | exact HB.out)⟩⟩
       ·rw [if_neg c110] at H
        have c110b0 : (t194 != x16_65) = false := by simpa using c110
        (try (have c110b1 : decide (t194 = x16_65) = true := by simpa using c110))
        (try (have c110b2 : (t194 == x16_65) = true := by simpa using c110))
        clear c110
        (first | rw [c110b0] | (simp only [i64_w, i32_w]; rw [c110b0]) | skip)
        by_cases c111 : t194 = true
        ·subst c111
         have H1 : (if (!(t192 == (mx a0_0 a1_0)) || (!(t193 == (mn a0_1 a1_1)))) = true then (fuseelaw13_SpanSteps.j2 kj65 a2 t198 t200 t201 t202 true a0_0 a0_1 t196 t197) else (fuseelaw13_SpanSteps.j2 kj65 a2 t198 t200 t201 t202 false a0_0 a0_1 t196 t197)) = some r := by rw [if_pos rfl] at H; exact H
         clear H
         have H := H1
         clear H1
         obtain ⟨ji112, hji112⟩ : ∃ j_ : Int, (mx a0_0 a1_0) = j_ := ⟨_, rfl⟩
         replace H : (if (!(t192 == (ji112)) || (!(t193 == (mn a0_1 a1_1)))) = true then (fuseelaw13_SpanSteps.j2 kj65 a2 t198 t200 t201 t202 true a0_0 a0_1 t196 t197) else (fuseelaw13_SpanSteps.j2 kj65 a2 t198 t200 t201 t202 false a0_0 a0_1 t196 t197)) = some r := by first | (rw [hji112] at H; exact H) | (simp only [hji112] at H ⊢; exact H)
         have hji112_ : (if a0_0 < a1_0 then a1_0 else a0_0) = ji112 := hji112
         obtain ⟨ji113, hji113⟩ : ∃ j_ : Int, (mn a0_1 a1_1) = j_ := ⟨_, rfl⟩
         replace H : (if (!(t192 == (ji112)) || (!(t193 == (ji113)))) = true then (fuseelaw13_SpanSteps.j2 kj65 a2 t198 t200 t201 t202 true a0_0 a0_1 t196 t197) else (fuseelaw13_SpanSteps.j2 kj65 a2 t198 t200 t201 t202 false a0_0 a0_1 t196 t197)) = some r := by first | (rw [hji113] at H; exact H) | (simp only [hji113] at H ⊢; exact H)
         have hji113_ : (if a1_1 < a0_1 then a1_1 else a0_1) = ji113 := hji113
         by_cases c114 : (!(t192 == (ji112)) || (!(t193 == (ji113)))) = true
         ·rw [if_pos c114] at H
          have c114b0 : (!(t192 == (ji112)) || (!(t193 == (ji113)))) = true := c114
          clear c114
          as_aux_lemma =>
           have H' := qS H
           clear H
           have hnb115 := NB195_188.out
           have hnc115 := NB188_195.out
           have hnb116 := NB195_189.out
           have hnc116 := NB189_195.out
           have hnb117 := NB195_190.out
           have hnc117 := NB190_195.out
           have hnb118 := NB195_191.out
           have hnc118 := NB191_195.out
           have hnb119 := NB195_199.out
           have hnc119 := NB199_195.out
           have hcz120_0 : wc.cell? ⟨gb195, 0, none⟩ = some (.int .i64 t192) := (qC BK195.out 0).trans rfl
           have hcz120_1 : wc.cell? ⟨gb195, 1, none⟩ = some (.int .i64 t193) := (qC BK195.out 1).trans rfl
           have hfz120_0 := qF BK195.out 0
           have hfz120_1 := qF BK195.out 1
           have hnb121 := NB188_189.out
           have hnc121 := NB189_188.out
           have hnb122 := NB188_190.out
           have hnc122 := NB190_188.out
           have hnb123 := NB188_191.out
           have hnc123 := NB191_188.out
           have hnb124 := NB188_199.out
           have hnc124 := NB199_188.out
           have hcz125_0 : wc.cell? ⟨gb188, 0, none⟩ = some (.int .i64 a0_0) := (qC BK188.out 0).trans rfl
           have hcz125_1 : wc.cell? ⟨gb188, 1, none⟩ = some (.int .i64 a0_1) := (qC BK188.out 1).trans rfl
           have hfz125_0 := qF BK188.out 0
           have hfz125_1 := qF BK188.out 1
           have hnb126 := NB189_190.out
           have hnc126 := NB190_189.out
           have hnb127 := NB189_191.out
           have hnc127 := NB191_189.out
           have hnb128 := NB189_199.out
           have hnc128 := NB199_189.out
           have hcz129_0 : wc.cell? ⟨gb189, 0, none⟩ = some (.int .i64 a1_0) := (qC BK189.out 0).trans rfl
           have hcz129_1 : wc.cell? ⟨gb189, 1, none⟩ = some (.int .i64 a1_1) := (qC BK189.out 1).trans rfl
           have hfz129_0 := qF BK189.out 0
           have hfz129_1 := qF BK189.out 1
           go_wp2
           go_meet
           case rel => exact ⟨_, (true), (by first | rfl | (simp; done) | (simp [*]; done)), H', ⟨by have := HJ6.out; have := HJ65.out; first | omega | exact Nat.le_refl _⟩, ⟨by (with_reducible repeat (first | refine qN ?_ _ | refine qD ?_ | refine qA ?_ _)); exact BK188.out⟩, ⟨by (with_reducible repeat (first | refine qN ?_ _ | refine qD ?_ | refine qA ?_ _)); exact BK189.out⟩, ⟨by (with_reducible repeat (first | refine qN ?_ _ | refine qD ?_ | refine qA ?_ _)); exact BK190.out⟩, ⟨by (with_reducible repeat (first | refine qN ?_ _ | refine qD ?_ | refine qA ?_ _)); exact BK191.out⟩, ⟨by (with_reducible repeat (first | refine qN ?_ _ | refine qD ?_ | refine qA ?_ _)); exact BK195.out⟩, ⟨by (with_reducible repeat (first | refine qN ?_ _ | refine qD ?_ | refine qA ?_ _)); exact BK199.out⟩, ⟨by repeat (first | (with_reducible first | exact HB.out | apply qpA | apply qpN | apply qp1 | refine qpS ?_ GE188.out | refine qpS ?_ GE189.out | refine qpS ?_ GE190.out | refine qpS ?_ GE191.out | refine qpS ?_ GE195.out | refine qpS ?_ GE199.out) | exact HB.out)⟩⟩
         ·rw [if_neg c114] at H
          have c114b0 : (!(t192 == (ji112)) || (!(t193 == (ji113)))) = false := by simpa using c114
          clear c114
          as_aux_lemma =>
           have H' := qS H
           clear H
           have hnb130 := NB195_188.out
           have hnc130 := NB188_195.out
           have hnb131 := NB195_189.out
           have hnc131 := NB189_195.out
           have hnb132 := NB195_190.out
           have hnc132 := NB190_195.out
           have hnb133 := NB195_191.out
           have hnc133 := NB191_195.out
           have hnb134 := NB195_199.out
           have hnc134 := NB199_195.out
           have hcz135_0 : wc.cell? ⟨gb195, 0, none⟩ = some (.int .i64 t192) := (qC BK195.out 0).trans rfl
           have hcz135_1 : wc.cell? ⟨gb195, 1, none⟩ = some (.int .i64 t193) := (qC BK195.out 1).trans rfl
           have hfz135_0 := qF BK195.out 0
           have hfz135_1 := qF BK195.out 1
           have hnb136 := NB188_189.out
           have hnc136 := NB189_188.out
           have hnb137 := NB188_190.out
           have hnc137 := NB190_188.out
           have hnb138 := NB188_191.out
           have hnc138 := NB191_188.out
           have hnb139 := NB188_199.out
           have hnc139 := NB199_188.out
           have hcz140_0 : wc.cell? ⟨gb188, 0, none⟩ = some (.int .i64 a0_0) := (qC BK188.out 0).trans rfl
           have hcz140_1 : wc.cell? ⟨gb188, 1, none⟩ = some (.int .i64 a0_1) := (qC BK188.out 1).trans rfl
           have hfz140_0 := qF BK188.out 0
           have hfz140_1 := qF BK188.out 1
           have hnb141 := NB189_190.out
           have hnc141 := NB190_189.out
           have hnb142 := NB189_191.out
           have hnc142 := NB191_189.out
           have hnb143 := NB189_199.out
           have hnc143 := NB199_189.out
           have hcz144_0 : wc.cell? ⟨gb189, 0, none⟩ = some (.int .i64 a1_0) := (qC BK189.out 0).trans rfl
           have hcz144_1 : wc.cell? ⟨gb189, 1, none⟩ = some (.int .i64 a1_1) := (qC BK189.out 1).trans rfl
           have hfz144_0 := qF BK189.out 0
           have hfz144_1 := qF BK189.out 1
           go_wp2
           go_meet
           case rel => exact ⟨_, (false), (by first | rfl | (simp; done) | (simp [*]; done)), H', ⟨by have := HJ6.out; have := HJ65.out; first | omega | exact Nat.le_refl _⟩, ⟨by (with_reducible repeat (first | refine qN ?_ _ | refine qD ?_ | refine qA ?_ _)); exact BK188.out⟩, ⟨by (with_reducible repeat (first | refine qN ?_ _ | refine qD ?_ | refine qA ?_ _)); exact BK189.out⟩, ⟨by (with_reducible repeat (first | refine qN ?_ _ | refine qD ?_ | refine qA ?_ _)); exact BK190.out⟩, ⟨by (with_reducible repeat (first | refine qN ?_ _ | refine qD ?_ | refine qA ?_ _)); exact BK191.out⟩, ⟨by (with_reducible repeat (first | refine qN ?_ _ | refine qD ?_ | refine qA ?_ _)); exact BK195.out⟩, ⟨by (with_reducible repeat (first | refine qN ?_ _ | refine qD ?_ | refine qA ?_ _)); exact BK199.out⟩, ⟨by repeat (first | (with_reducible first | exact HB.out | apply qpA | apply qpN | apply qp1 | refine qpS ?_ GE188.out | refine qpS ?_ GE189.out | refine qpS ?_ GE190.out | refine qpS ?_ GE191.out | refine qpS ?_ GE195.out | refine qpS ?_ GE199.out) | exact HB.out)⟩⟩
        ·replace c111 := Bool.eq_false_iff.mpr c111
         subst c111
         have H1 : (fuseelaw13_SpanSteps.j2 kj65 a2 t198 t200 t201 t202 (!(t192 == 0) || (!(t193 == 0))) a0_0 a0_1 t196 t197) = some r := by rw [if_neg (show ¬ (false = true) by decide)] at H; exact H
         clear H
         have H := H1
         clear H1
         as_aux_lemma =>
          have H' := qS H
          clear H
          have hnb145 := NB195_188.out
          have hnc145 := NB188_195.out
          have hnb146 := NB195_189.out
          have hnc146 := NB189_195.out
          have hnb147 := NB195_190.out
          have hnc147 := NB190_195.out
          have hnb148 := NB195_191.out
          have hnc148 := NB191_195.out
          have hnb149 := NB195_199.out
          have hnc149 := NB199_195.out
          have hcz150_0 : wc.cell? ⟨gb195, 0, none⟩ = some (.int .i64 t192) := (qC BK195.out 0).trans rfl
          have hcz150_1 : wc.cell? ⟨gb195, 1, none⟩ = some (.int .i64 t193) := (qC BK195.out 1).trans rfl
          have hfz150_0 := qF BK195.out 0
          have hfz150_1 := qF BK195.out 1
          go_wp2
          go_meet
          case rel => exact ⟨_, ((!(t192 == 0) || (!(t193 == 0)))), (by first | rfl | (simp; done) | (simp [*]; done)), H', ⟨by have := HJ6.out; have := HJ65.out; first | omega | exact Nat.le_refl _⟩, ⟨by (with_reducible repeat (first | refine qN ?_ _ | refine qD ?_ | refine qA ?_ _)); exact BK188.out⟩, ⟨by (with_reducible repeat (first | refine qN ?_ _ | refine qD ?_ | refine qA ?_ _)); exact BK189.out⟩, ⟨by (with_reducible repeat (first | refine qN ?_ _ | refine qD ?_ | refine qA ?_ _)); exact BK190.out⟩, ⟨by (with_reducible repeat (first | refine qN ?_ _ | refine qD ?_ | refine qA ?_ _)); exact BK191.out⟩, ⟨by (with_reducible repeat (first | refine qN ?_ _ | refine qD ?_ | refine qA ?_ _)); exact BK195.out⟩, ⟨by (with_reducible repeat (first | refine qN ?_ _ | refine qD ?_ | refine qA ?_ _)); exact BK199.out⟩, ⟨by repeat (first | (with_reducible first | exact HB.out | apply qpA | apply qpN | apply qp1 | refine qpS ?_ GE188.out | refine qpS ?_ GE189.out | refine qpS ?_ GE190.out | refine qpS ?_ GE191.out | refine qpS ?_ GE195.out | refine qpS ?_ GE199.out) | exact HB.out)⟩⟩
      case rest =>
       clear HC109
       try clear c1
       try clear p2
       try clear q2
       try clear c3
       try clear c5
       try clear c6
       try clear c7
       try clear c8
       try clear c9
       try clear c10
       try clear c11
       try clear c12
       try clear c13
       try clear c14
       try clear q20
       try clear c39
       try clear c53
       try clear c55
       try clear c65
       try clear c67
       try clear c67b0
       try clear c68
       try clear c68b0
       try clear c69
       try clear c69b0
       try clear c70
       try clear c71
       try clear c72
       try clear c73
       try clear c74
       try clear c76
       try clear c77
       try clear c78
       try clear c79
       try clear c81
       try clear c82
       try clear c83
       try clear c84
       try clear c85
       try clear c87
       try clear c88
       try clear c89
       try clear c90
       try clear c92
       try clear c93
       try clear c94
       try clear c95
       try clear c96
       try clear c98
       try clear c99
       try clear c100
       try clear c101
       try clear c103
       try clear c104
       try clear c105
       try clear c106
       try clear c107
       try clear c110
       try clear c110b0
       try clear c110b1
       try clear c110b2
       try clear c111
       try clear c114
       try clear c114b0
       try clear c115
       try clear c116
       try clear c117
       try clear c118
       try clear c119
       try clear c121
       try clear c122
       try clear c123
       try clear c124
       try clear c126
       try clear c127
       try clear c128
       try clear c130
       try clear c131
       try clear c132
       try clear c133
       try clear c134
       try clear c136
       try clear c137
       try clear c138
       try clear c139
       try clear c141
       try clear c142
       try clear c143
       try clear c145
       try clear c146
       try clear c147
       try clear c148
       try clear c149
       try clear hcz102_0
       try clear hcz102_1
       try clear hcz108_0
       try clear hcz108_1
       try clear hcz120_0
       try clear hcz120_1
       try clear hcz125_0
       try clear hcz125_1
       try clear hcz129_0
       try clear hcz129_1
       try clear hcz135_0
       try clear hcz135_1
       try clear hcz140_0
       try clear hcz140_1
       try clear hcz144_0
       try clear hcz144_1
       try clear hcz150_0
       try clear hcz150_1
       try clear hcz75_0
       try clear hcz75_1
       try clear hcz80_0
       try clear hcz80_1
       try clear hcz86_0
       try clear hcz86_1
       try clear hcz91_0
       try clear hcz91_1
       try clear hcz97_0
       try clear hcz97_1
       try clear hfz102_0
       try clear hfz102_1
       try clear hfz108_0
       try clear hfz108_1
       try clear hfz120_0
       try clear hfz120_1
       try clear hfz125_0
       try clear hfz125_1
       try clear hfz129_0
       try clear hfz129_1
       try clear hfz135_0
       try clear hfz135_1
       try clear hfz140_0
       try clear hfz140_1
       try clear hfz144_0
       try clear hfz144_1
       try clear hfz150_0
       try clear hfz150_1
       try clear hfz75_0
       try clear hfz75_1
       try clear hfz80_0
       try clear hfz80_1
       try clear hfz86_0
       try clear hfz86_1
       try clear hfz91_0
       try clear hfz91_1
       try clear hfz97_0
       try clear hfz97_1
       try clear p2
       try clear q2
       try clear q20
       try clear q207
       obtain ⟨kq, x119_108, rfl, HA, HJ108, BK188, BK189, BK190, BK191, BK195, BK199, HB⟩ := hcut
       cases kq with
       | zero => exact absurd HA.out (by simp [fuseelaw13_SpanSteps.j2])
       | succ kj108 =>
        have H := HA.out
        clear HA
        simp only [fuseelaw13_SpanSteps.j2] at H
        by_cases c151 : x119_108 = true
        ·subst c151
         have H1 : (none) = some r := by rw [if_pos rfl] at H; exact H
         clear H
         have H := H1
         clear H1
         exact absurd H (by simp)
        ·replace c151 := Bool.eq_false_iff.mpr c151
         subst c151
         have H1 : (if a0_0 > a0_1 then ((fuseelaw13_num.f t198).bind fun t208 => (if t208 = 1 then ((fuseelaw13_num.f t202).bind fun t209 => (if t209 = 1 then (if (t196 == 0 && (t197 == 0)) = true then (if t200 = 0 then (if t201 = 0 then ((fuseelaw13_sure.f kj108).bind fun t210 => (some t210)) else (none)) else (none)) else (none)) else (none))) else (none))) else ((fuseeref13_Mid.f kj108 a0_0 a0_1).bind fun bt211 => (if t202.isNone = true then (if t200 = bt211.1 then (fuseelaw13_SpanSteps.j3 kj108 a2 t198 (t201 != bt211.2) a0_0 a0_1 t196 t197) else (fuseelaw13_SpanSteps.j3 kj108 a2 t198 true a0_0 a0_1 t196 t197)) else (fuseelaw13_SpanSteps.j3 kj108 a2 t198 true a0_0 a0_1 t196 t197)))) = some r := by rw [if_neg (show ¬ (false = true) by decide)] at H; exact H
         clear H
         have H := H1
         clear H1
         by_cases c152 : a0_0 > a0_1
         ·rw [if_pos c152] at H
          have c152b0 : decide (a0_1 < a0_0) = true := decide_eq_true c152
          clear c152
          replace H := Option.bind_eq_some_iff.mp H
          obtain ⟨t208, A1530, H⟩ := H
          replace H : (if t208 = 1 then ((fuseelaw13_num.f t202).bind fun t209 => (if t209 = 1 then (if (t196 == 0 && (t197 == 0)) = true then (if t200 = 0 then (if t201 = 0 then ((fuseelaw13_sure.f kj108).bind fun t210 => (some t210)) else (none)) else (none)) else (none)) else (none))) else (none)) = some r := H
          have A153 := qS A1530
          clear A1530
          by_cases c154 : t208 = 1
          ·rw [if_pos c154] at H
           have c154b0 : (t208 == 1) = true := beq_iff_eq.mpr c154
           have c154b1 : (t208 != 1) = false := bne_eq_false_iff_eq.mpr c154
           clear c154
           replace H := Option.bind_eq_some_iff.mp H
           obtain ⟨t209, A1550, H⟩ := H
           replace H : (if t209 = 1 then (if (t196 == 0 && (t197 == 0)) = true then (if t200 = 0 then (if t201 = 0 then ((fuseelaw13_sure.f kj108).bind fun t210 => (some t210)) else (none)) else (none)) else (none)) else (none)) = some r := H
           have A155 := qS A1550
           clear A1550
           by_cases c156 : t209 = 1
           ·rw [if_pos c156] at H
            have c156b0 : (t209 == 1) = true := beq_iff_eq.mpr c156
            have c156b1 : (t209 != 1) = false := bne_eq_false_iff_eq.mpr c156
            clear c156
            by_cases c157 : (t196 == 0 && (t197 == 0)) = true
            ·rw [if_pos c157] at H
             have c157b0 : (t196 == 0 && (t197 == 0)) = true := c157
             (try (have c157b1 : decide (t196 = 0 && (t197 == 0)) = true := by simpa using c157))
             (try (have c157b2 : (t196 == 0 && (t197 == 0)) = true := by simpa using c157))
             clear c157
             by_cases c158 : t200 = 0
             ·rw [if_pos c158] at H
              have c158b0 : (t200 == 0) = true := beq_iff_eq.mpr c158
              have c158b1 : (t200 != 0) = false := bne_eq_false_iff_eq.mpr c158
              clear c158
              by_cases c159 : t201 = 0
              ·rw [if_pos c159] at H
               have c159b0 : (t201 == 0) = true := beq_iff_eq.mpr c159
               have c159b1 : (t201 != 0) = false := bne_eq_false_iff_eq.mpr c159
               clear c159
               replace H := Option.bind_eq_some_iff.mp H
               obtain ⟨t210, A1600, H⟩ := H
               replace H : (some t210) = some r := H
               have A160 := qS A1600
               clear A1600
               as_aux_lemma =>
                obtain rfl := Option.some.inj H
                have hnb161 := NB188_189.out
                have hnc161 := NB189_188.out
                have hnb162 := NB188_190.out
                have hnc162 := NB190_188.out
                have hnb163 := NB188_191.out
                have hnc163 := NB191_188.out
                have hnb164 := NB188_195.out
                have hnc164 := NB195_188.out
                have hnb165 := NB188_199.out
                have hnc165 := NB199_188.out
                have hcz166_0 : wc.cell? ⟨gb188, 0, none⟩ = some (.int .i64 a0_0) := (qC BK188.out 0).trans rfl
                have hcz166_1 : wc.cell? ⟨gb188, 1, none⟩ = some (.int .i64 a0_1) := (qC BK188.out 1).trans rfl
                have hfz166_0 := qF BK188.out 0
                have hfz166_1 := qF BK188.out 1
                have CA153 := fun W (hgW : HG W) => fuseelaw13_num.calls t198 t208 W hgW A153.out
                try simp only [errW_none, errW_some] at CA153
                go_wp2_with (first | (go_at_call 38; (with_reducible refine (CA153 _ (HG.below hgL (Nat.le_refl _) (by repeat (first | (with_reducible first | exact HB.out | apply qpA | apply qpN | apply qp1 | refine qpS ?_ GE188.out | refine qpS ?_ GE189.out | refine qpS ?_ GE190.out | refine qpS ?_ GE191.out | refine qpS ?_ GE195.out | refine qpS ?_ GE199.out) | exact HB.out)))).mono ?_); rintro e w167 ⟨rfl, hb⟩; have n0_ := qS (qB (g := gb188) (o := .cells #[.int .i64 a0_0, .int .i64 a0_1] 73 (0, 0)) (by (with_reducible repeat (first | refine qN ?_ _ | refine qD ?_ | refine qA ?_ _)); exact BK188.out) hb); have n1_ := qS (qB (g := gb189) (o := .cells #[.int .i64 a1_0, .int .i64 a1_1] 73 (0, 0)) (by (with_reducible repeat (first | refine qN ?_ _ | refine qD ?_ | refine qA ?_ _)); exact BK189.out) hb); have n2_ := qS (qB (g := gb190) (o := .cells #[.int .i64 a0_0, .int .i64 a0_1] 68 (0, 0)) (by (with_reducible repeat (first | refine qN ?_ _ | refine qD ?_ | refine qA ?_ _)); exact BK190.out) hb); have n3_ := qS (qB (g := gb191) (o := .cells #[.int .i64 a1_0, .int .i64 a1_1] 68 (0, 0)) (by (with_reducible repeat (first | refine qN ?_ _ | refine qD ?_ | refine qA ?_ _)); exact BK191.out) hb); have n4_ := qS (qB (g := gb195) (o := .cells #[.int .i64 t192, .int .i64 t193] 68 (0, 0)) (by (with_reducible repeat (first | refine qN ?_ _ | refine qD ?_ | refine qA ?_ _)); exact BK195.out) hb); have n5_ := qS (qB (g := gb199) (o := .cells #[.int .i64 t196, .int .i64 t197] 68 (0, 0)) (by (with_reducible repeat (first | refine qN ?_ _ | refine qD ?_ | refine qA ?_ _)); exact BK199.out) hb); have n6_ := qS (below_step (by repeat (first | (with_reducible first | exact HB.out | apply qpA | apply qpN | apply qp1 | refine qpS ?_ GE188.out | refine qpS ?_ GE189.out | refine qpS ?_ GE190.out | refine qpS ?_ GE191.out | refine qpS ?_ GE195.out | refine qpS ?_ GE199.out) | exact HB.out)) hb); clear BK188; clear BK189; clear BK190; clear BK191; clear BK195; clear BK199; clear HB; have BK188 := n0_; have BK189 := n1_; have BK190 := n2_; have BK191 := n3_; have BK195 := n4_; have BK199 := n5_; have HB := n6_; clear n0_ n1_ n2_ n3_ n4_ n5_ n6_; (try clear hb); (try clear hb2); (try clear hk); (try clear hi); have CA155 := fun W (hgW : HG W) => fuseelaw13_num.calls t202 t209 W hgW A155.out; try simp only [errW_none, errW_some] at CA155) | (go_at_call 38; (with_reducible refine (CA155 _ (HG.below hgL (Nat.le_refl _) (by repeat (first | (with_reducible first | exact HB.out | apply qpA | apply qpN | apply qp1 | refine qpS ?_ GE188.out | refine qpS ?_ GE189.out | refine qpS ?_ GE190.out | refine qpS ?_ GE191.out | refine qpS ?_ GE195.out | refine qpS ?_ GE199.out) | exact HB.out)))).mono ?_); rintro e w168 ⟨rfl, hb⟩; have n0_ := qS (qB (g := gb188) (o := .cells #[.int .i64 a0_0, .int .i64 a0_1] 73 (0, 0)) (by (with_reducible repeat (first | refine qN ?_ _ | refine qD ?_ | refine qA ?_ _)); exact BK188.out) hb); have n1_ := qS (qB (g := gb189) (o := .cells #[.int .i64 a1_0, .int .i64 a1_1] 73 (0, 0)) (by (with_reducible repeat (first | refine qN ?_ _ | refine qD ?_ | refine qA ?_ _)); exact BK189.out) hb); have n2_ := qS (qB (g := gb190) (o := .cells #[.int .i64 a0_0, .int .i64 a0_1] 68 (0, 0)) (by (with_reducible repeat (first | refine qN ?_ _ | refine qD ?_ | refine qA ?_ _)); exact BK190.out) hb); have n3_ := qS (qB (g := gb191) (o := .cells #[.int .i64 a1_0, .int .i64 a1_1] 68 (0, 0)) (by (with_reducible repeat (first | refine qN ?_ _ | refine qD ?_ | refine qA ?_ _)); exact BK191.out) hb); have n4_ := qS (qB (g := gb195) (o := .cells #[.int .i64 t192, .int .i64 t193] 68 (0, 0)) (by (with_reducible repeat (first | refine qN ?_ _ | refine qD ?_ | refine qA ?_ _)); exact BK195.out) hb); have n5_ := qS (qB (g := gb199) (o := .cells #[.int .i64 t196, .int .i64 t197] 68 (0, 0)) (by (with_reducible repeat (first | refine qN ?_ _ | refine qD ?_ | refine qA ?_ _)); exact BK199.out) hb); have n6_ := qS (below_step (by repeat (first | (with_reducible first | exact HB.out | apply qpA | apply qpN | apply qp1 | refine qpS ?_ GE188.out | refine qpS ?_ GE189.out | refine qpS ?_ GE190.out | refine qpS ?_ GE191.out | refine qpS ?_ GE195.out | refine qpS ?_ GE199.out) | exact HB.out)) hb); clear BK188; clear BK189; clear BK190; clear BK191; clear BK195; clear BK199; clear HB; have BK188 := n0_; have BK189 := n1_; have BK190 := n2_; have BK191 := n3_; have BK195 := n4_; have BK199 := n5_; have HB := n6_; clear n0_ n1_ n2_ n3_ n4_ n5_ n6_; (try clear hb); (try clear hb2); (try clear hk); (try clear hi); have hnb169 := NB199_189.out; have hnc169 := NB189_199.out; have hnb170 := NB199_190.out; have hnc170 := NB190_199.out; have hnb171 := NB199_191.out; have hnc171 := NB191_199.out; have hnb172 := NB199_195.out; have hnc172 := NB195_199.out; have hcz173_0 : w168.cell? ⟨gb199, 0, none⟩ = some (.int .i64 t196) := (qC BK199.out 0).trans rfl; have hcz173_1 : w168.cell? ⟨gb199, 1, none⟩ = some (.int .i64 t197) := (qC BK199.out 1).trans rfl; have hfz173_0 := qF BK199.out 0; have hfz173_1 := qF BK199.out 1) | (go_at_call 34; (with_reducible refine (fuseelaw13_sure.calls kj108  t210 _ ?side1 A160.out).mono ?_); (case side1 => exact HG.below hgL (Nat.le_refl _) (by repeat (first | (with_reducible first | exact HB.out | apply qpA | apply qpN | apply qp1 | refine qpS ?_ GE188.out | refine qpS ?_ GE189.out | refine qpS ?_ GE190.out | refine qpS ?_ GE191.out | refine qpS ?_ GE195.out | refine qpS ?_ GE199.out) | exact HB.out))); rintro e w174 ⟨rfl, hb⟩; have n0_ := qS (qB (g := gb188) (o := .cells #[.int .i64 a0_0, .int .i64 a0_1] 73 (0, 0)) (by (with_reducible repeat (first | refine qN ?_ _ | refine qD ?_ | refine qA ?_ _)); exact BK188.out) hb); have n1_ := qS (qB (g := gb189) (o := .cells #[.int .i64 a1_0, .int .i64 a1_1] 73 (0, 0)) (by (with_reducible repeat (first | refine qN ?_ _ | refine qD ?_ | refine qA ?_ _)); exact BK189.out) hb); have n2_ := qS (qB (g := gb190) (o := .cells #[.int .i64 a0_0, .int .i64 a0_1] 68 (0, 0)) (by (with_reducible repeat (first | refine qN ?_ _ | refine qD ?_ | refine qA ?_ _)); exact BK190.out) hb); have n3_ := qS (qB (g := gb191) (o := .cells #[.int .i64 a1_0, .int .i64 a1_1] 68 (0, 0)) (by (with_reducible repeat (first | refine qN ?_ _ | refine qD ?_ | refine qA ?_ _)); exact BK191.out) hb); have n4_ := qS (qB (g := gb195) (o := .cells #[.int .i64 t192, .int .i64 t193] 68 (0, 0)) (by (with_reducible repeat (first | refine qN ?_ _ | refine qD ?_ | refine qA ?_ _)); exact BK195.out) hb); have n5_ := qS (qB (g := gb199) (o := .cells #[.int .i64 t196, .int .i64 t197] 68 (0, 0)) (by (with_reducible repeat (first | refine qN ?_ _ | refine qD ?_ | refine qA ?_ _)); exact BK199.out) hb); have n6_ := qS (below_step (by repeat (first | (with_reducible first | exact HB.out | apply qpA | apply qpN | apply qp1 | refine qpS ?_ GE188.out | refine qpS ?_ GE189.out | refine qpS ?_ GE190.out | refine qpS ?_ GE191.out | refine qpS ?_ GE195.out | refine qpS ?_ GE199.out) | exact HB.out)) hb); clear BK188; clear BK189; clear BK190; clear BK191; clear BK195; clear BK199; clear HB; have BK188 := n0_; have BK189 := n1_; have BK190 := n2_; have BK191 := n3_; have BK195 := n4_; have BK199 := n5_; have HB := n6_; clear n0_ n1_ n2_ n3_ n4_ n5_ n6_; (try clear hb); (try clear hb2); (try clear hk); (try clear hi)))
                go_ret
                exact ⟨by first | rfl | (simp [errW_none, errW_some] <;> rfl) | (simp [*, errW_none, errW_some] <;> rfl), by repeat (first | (with_reducible first | exact HB.out | apply qpA | apply qpN | apply qp1 | refine qpS ?_ GE188.out | refine qpS ?_ GE189.out | refine qpS ?_ GE190.out | refine qpS ?_ GE191.out | refine qpS ?_ GE195.out | refine qpS ?_ GE199.out) | exact HB.out)⟩
              ·rw [if_neg c159] at H
               exact absurd H (by simp)
             ·rw [if_neg c158] at H
              exact absurd H (by simp)
            ·rw [if_neg c157] at H
             exact absurd H (by simp)
           ·rw [if_neg c156] at H
            exact absurd H (by simp)
          ·rw [if_neg c154] at H
           exact absurd H (by simp)
         ·rw [if_neg c152] at H
          have c152b0 : decide (a0_1 < a0_0) = false := decide_eq_false c152
          clear c152
          replace H := Option.bind_eq_some_iff.mp H
          obtain ⟨⟨t211, t212⟩, A1750, H⟩ := H
          replace H : (if t202.isNone = true then (if t200 = t211 then (fuseelaw13_SpanSteps.j3 kj108 a2 t198 (t201 != t212) a0_0 a0_1 t196 t197) else (fuseelaw13_SpanSteps.j3 kj108 a2 t198 true a0_0 a0_1 t196 t197)) else (fuseelaw13_SpanSteps.j3 kj108 a2 t198 true a0_0 a0_1 t196 t197)) = some r := H
          have A175 := qS A1750
          clear A1750
          have HC176 := qS H
          clear H
          have hnb177 := NB188_189.out
          have hnc177 := NB189_188.out
          have hnb178 := NB188_190.out
          have hnc178 := NB190_188.out
          have hnb179 := NB188_191.out
          have hnc179 := NB191_188.out
          have hnb180 := NB188_195.out
          have hnc180 := NB195_188.out
          have hnb181 := NB188_199.out
          have hnc181 := NB199_188.out
          have hcz182_0 : wc.cell? ⟨gb188, 0, none⟩ = some (.int .i64 a0_0) := (qC BK188.out 0).trans rfl
          have hcz182_1 : wc.cell? ⟨gb188, 1, none⟩ = some (.int .i64 a0_1) := (qC BK188.out 1).trans rfl
          have hfz182_0 := qF BK188.out 0
          have hfz182_1 := qF BK188.out 1
          go_upto_region 13 with (first | ((with_reducible refine gate_callee (f := 54) rfl ?_); refine goesL_ (some 151) rfl rfl Tryd.func54 (by kernel_rfl) rfl #[.agg #[.int .i64 a0_0, .int .i64 a0_1]] rfl (by (try simp only [List.map_toArray, List.map_cons, List.map_nil]); first | done | rfl | (simp only [*]; done) | (simp only [List.length_drop, List.length_take]; rfl)) ?_; (with_reducible refine (fuseeref13_Mid.calls kj108 a0_0 a0_1 t211 t212 _ A175.out).mono ?_); rintro e w183 ⟨rfl, hb⟩; refine ⟨_, rfl, ?_⟩; have n0_ := qS (qB (g := gb188) (o := .cells #[.int .i64 a0_0, .int .i64 a0_1] 73 (0, 0)) (by (with_reducible repeat (first | refine qN ?_ _ | refine qD ?_ | refine qA ?_ _)); exact BK188.out) hb); have n1_ := qS (qB (g := gb189) (o := .cells #[.int .i64 a1_0, .int .i64 a1_1] 73 (0, 0)) (by (with_reducible repeat (first | refine qN ?_ _ | refine qD ?_ | refine qA ?_ _)); exact BK189.out) hb); have n2_ := qS (qB (g := gb190) (o := .cells #[.int .i64 a0_0, .int .i64 a0_1] 68 (0, 0)) (by (with_reducible repeat (first | refine qN ?_ _ | refine qD ?_ | refine qA ?_ _)); exact BK190.out) hb); have n3_ := qS (qB (g := gb191) (o := .cells #[.int .i64 a1_0, .int .i64 a1_1] 68 (0, 0)) (by (with_reducible repeat (first | refine qN ?_ _ | refine qD ?_ | refine qA ?_ _)); exact BK191.out) hb); have n4_ := qS (qB (g := gb195) (o := .cells #[.int .i64 t192, .int .i64 t193] 68 (0, 0)) (by (with_reducible repeat (first | refine qN ?_ _ | refine qD ?_ | refine qA ?_ _)); exact BK195.out) hb); have n5_ := qS (qB (g := gb199) (o := .cells #[.int .i64 t196, .int .i64 t197] 68 (0, 0)) (by (with_reducible repeat (first | refine qN ?_ _ | refine qD ?_ | refine qA ?_ _)); exact BK199.out) hb); have n6_ := qS (below_step (by repeat (first | (with_reducible first | exact HB.out | apply qpA | apply qpN | apply qp1 | refine qpS ?_ GE188.out | refine qpS ?_ GE189.out | refine qpS ?_ GE190.out | refine qpS ?_ GE191.out | refine qpS ?_ GE195.out | refine qpS ?_ GE199.out) | exact HB.out)) hb); clear BK188; clear BK189; clear BK190; clear BK191; clear BK195; clear BK199; clear HB; have BK188 := n0_; have BK189 := n1_; have BK190 := n2_; have BK191 := n3_; have BK195 := n4_; have BK199 := n5_; have HB := n6_; clear n0_ n1_ n2_ n3_ n4_ n5_ n6_; (try clear hb); (try clear hb2); (try clear hk); (try clear hi)))
          (try simp only [Act.put, List.setIfInBounds_toArray, List.set_cons_zero, List.set_cons_succ])
          go_cut [165] (fun v165 wc => ∃ (kq : Nat) (x165_175 : Bool), v165 = .bool x165_175 ∧ Aside0 (fuseelaw13_SpanSteps.j3 kq a2 t198 x165_175 a0_0 a0_1 t196 t197 = some r) ∧ Aside0 (kq ≤ kj108) ∧ Aside0 (wc.heap[gb188]? = some (.cells #[.int .i64 a0_0, .int .i64 a0_1] 73 (0, 0))) ∧ Aside0 (wc.heap[gb189]? = some (.cells #[.int .i64 a1_0, .int .i64 a1_1] 73 (0, 0))) ∧ Aside0 (wc.heap[gb190]? = some (.cells #[.int .i64 a0_0, .int .i64 a0_1] 68 (0, 0))) ∧ Aside0 (wc.heap[gb191]? = some (.cells #[.int .i64 a1_0, .int .i64 a1_1] 68 (0, 0))) ∧ Aside0 (wc.heap[gb195]? = some (.cells #[.int .i64 t192, .int .i64 t193] 68 (0, 0))) ∧ Aside0 (wc.heap[gb199]? = some (.cells #[.int .i64 t196, .int .i64 t197] 68 (0, 0))) ∧ Aside0 (Below w.heap.size w wc))
          case first =>
           have H := HC176.out
           clear HC176
           rcases t202 with _ | q213
           ·have H1 : (if t200 = t211 then (fuseelaw13_SpanSteps.j3 kj108 a2 t198 (t201 != t212) a0_0 a0_1 t196 t197) else (fuseelaw13_SpanSteps.j3 kj108 a2 t198 true a0_0 a0_1 t196 t197)) = some r := by rw [if_pos (show (none : Option Int).isNone = true by rfl)] at H; exact H
            clear H
            have H := H1
            clear H1
            try simp only [errW_none, errW_some]
            by_cases c184 : t200 = t211
            ·rw [if_pos c184] at H
             have c184b0 : (t200 == t211) = true := beq_iff_eq.mpr c184
             have c184b1 : (t200 != t211) = false := bne_eq_false_iff_eq.mpr c184
             clear c184
             (first | rw [c184b0] | (simp only [i64_w, i32_w]; rw [c184b0]) | skip)
             as_aux_lemma =>
              have H' := qS H
              clear H
              go_wp2
              go_meet
              case rel => exact ⟨_, ((t201 != t212)), (by first | rfl | (simp; done) | (simp [*]; done)), H', ⟨by have := HJ6.out; have := HJ65.out; have := HJ108.out; first | omega | exact Nat.le_refl _⟩, ⟨by (with_reducible repeat (first | refine qN ?_ _ | refine qD ?_ | refine qA ?_ _)); exact BK188.out⟩, ⟨by (with_reducible repeat (first | refine qN ?_ _ | refine qD ?_ | refine qA ?_ _)); exact BK189.out⟩, ⟨by (with_reducible repeat (first | refine qN ?_ _ | refine qD ?_ | refine qA ?_ _)); exact BK190.out⟩, ⟨by (with_reducible repeat (first | refine qN ?_ _ | refine qD ?_ | refine qA ?_ _)); exact BK191.out⟩, ⟨by (with_reducible repeat (first | refine qN ?_ _ | refine qD ?_ | refine qA ?_ _)); exact BK195.out⟩, ⟨by (with_reducible repeat (first | refine qN ?_ _ | refine qD ?_ | refine qA ?_ _)); exact BK199.out⟩, ⟨by repeat (first | (with_reducible first | exact HB.out | apply qpA | apply qpN | apply qp1 | refine qpS ?_ GE188.out | refine qpS ?_ GE189.out | refine qpS ?_ GE190.out | refine qpS ?_ GE191.out | refine qpS ?_ GE195.out | refine qpS ?_ GE199.out) | exact HB.out)⟩⟩
            ·rw [if_neg c184] at H
             have c184b0 : (t200 == t211) = false := beq_eq_false_iff_ne.mpr c184
             have c184b1 : (t200 != t211) = true := bne_iff_ne.mpr c184
             (first | rw [c184b0] | (simp only [i64_w, i32_w]; rw [c184b0]) | skip)
             as_aux_lemma =>
              have H' := qS H
              clear H
              go_wp2
              go_meet
              case rel => exact ⟨_, (true), (by first | rfl | (simp; done) | (simp [*]; done)), H', ⟨by have := HJ6.out; have := HJ65.out; have := HJ108.out; first | omega | exact Nat.le_refl _⟩, ⟨by (with_reducible repeat (first | refine qN ?_ _ | refine qD ?_ | refine qA ?_ _)); exact BK188.out⟩, ⟨by (with_reducible repeat (first | refine qN ?_ _ | refine qD ?_ | refine qA ?_ _)); exact BK189.out⟩, ⟨by (with_reducible repeat (first | refine qN ?_ _ | refine qD ?_ | refine qA ?_ _)); exact BK190.out⟩, ⟨by (with_reducible repeat (first | refine qN ?_ _ | refine qD ?_ | refine qA ?_ _)); exact BK191.out⟩, ⟨by (with_reducible repeat (first | refine qN ?_ _ | refine qD ?_ | refine qA ?_ _)); exact BK195.out⟩, ⟨by (with_reducible repeat (first | refine qN ?_ _ | refine qD ?_ | refine qA ?_ _)); exact BK199.out⟩, ⟨by repeat (first | (with_reducible first | exact HB.out | apply qpA | apply qpN | apply qp1 | refine qpS ?_ GE188.out | refine qpS ?_ GE189.out | refine qpS ?_ GE190.out | refine qpS ?_ GE191.out | refine qpS ?_ GE195.out | refine qpS ?_ GE199.out) | exact HB.out)⟩⟩
           ·have H1 : (fuseelaw13_SpanSteps.j3 kj108 a2 t198 true a0_0 a0_1 t196 t197) = some r := by rw [if_neg (show ¬ (some q213).isNone = true by simp)] at H; exact H
            clear H
            have H := H1
            clear H1
            try simp only [errW_none, errW_some]
            as_aux_lemma =>
             have H' := qS H
             clear H
             go_wp2
             go_meet
             case rel => exact ⟨_, (true), (by first | rfl | (simp; done) | (simp [*]; done)), H', ⟨by have := HJ6.out; have := HJ65.out; have := HJ108.out; first | omega | exact Nat.le_refl _⟩, ⟨by (with_reducible repeat (first | refine qN ?_ _ | refine qD ?_ | refine qA ?_ _)); exact BK188.out⟩, ⟨by (with_reducible repeat (first | refine qN ?_ _ | refine qD ?_ | refine qA ?_ _)); exact BK189.out⟩, ⟨by (with_reducible repeat (first | refine qN ?_ _ | refine qD ?_ | refine qA ?_ _)); exact BK190.out⟩, ⟨by (with_reducible repeat (first | refine qN ?_ _ | refine qD ?_ | refine qA ?_ _)); exact BK191.out⟩, ⟨by (with_reducible repeat (first | refine qN ?_ _ | refine qD ?_ | refine qA ?_ _)); exact BK195.out⟩, ⟨by (with_reducible repeat (first | refine qN ?_ _ | refine qD ?_ | refine qA ?_ _)); exact BK199.out⟩, ⟨by repeat (first | (with_reducible first | exact HB.out | apply qpA | apply qpN | apply qp1 | refine qpS ?_ GE188.out | refine qpS ?_ GE189.out | refine qpS ?_ GE190.out | refine qpS ?_ GE191.out | refine qpS ?_ GE195.out | refine qpS ?_ GE199.out) | exact HB.out)⟩⟩
          case rest =>
           clear HC176
           try clear c1
           try clear p2
           try clear q2
           try clear c3
           try clear c5
           try clear c6
           try clear c7
           try clear c8
           try clear c9
           try clear c10
           try clear c11
           try clear c12
           try clear c13
           try clear c14
           try clear c15
           try clear c16
           try clear c17
           try clear c18
           try clear q20
           try clear q21
           try clear c39
           try clear c53
           try clear c54
           try clear c55
           try clear c65
           try clear c67
           try clear c67b0
           try clear c68
           try clear c68b0
           try clear c69
           try clear c69b0
           try clear c70
           try clear c71
           try clear c72
           try clear c73
           try clear c74
           try clear c76
           try clear c77
           try clear c78
           try clear c79
           try clear c81
           try clear c82
           try clear c83
           try clear c84
           try clear c85
           try clear c87
           try clear c88
           try clear c89
           try clear c90
           try clear c92
           try clear c93
           try clear c94
           try clear c95
           try clear c96
           try clear c98
           try clear c99
           try clear c100
           try clear c101
           try clear c103
           try clear c104
           try clear c105
           try clear c106
           try clear c107
           try clear c110
           try clear c110b0
           try clear c110b1
           try clear c110b2
           try clear c111
           try clear c114
           try clear c114b0
           try clear c115
           try clear c116
           try clear c117
           try clear c118
           try clear c119
           try clear c121
           try clear c122
           try clear c123
           try clear c124
           try clear c126
           try clear c127
           try clear c128
           try clear c130
           try clear c131
           try clear c132
           try clear c133
           try clear c134
           try clear c136
           try clear c137
           try clear c138
           try clear c139
           try clear c141
           try clear c142
           try clear c143
           try clear c145
           try clear c146
           try clear c147
           try clear c148
           try clear c149
           try clear c151
           try clear c152
           try clear c152b0
           try clear c154
           try clear c154b0
           try clear c154b1
           try clear c156
           try clear c156b0
           try clear c156b1
           try clear c157
           try clear c157b0
           try clear c157b1
           try clear c157b2
           try clear c158
           try clear c158b0
           try clear c158b1
           try clear c159
           try clear c159b0
           try clear c159b1
           try clear c161
           try clear c162
           try clear c163
           try clear c164
           try clear c165
           try clear c169
           try clear c170
           try clear c171
           try clear c172
           try clear c177
           try clear c178
           try clear c179
           try clear c180
           try clear c181
           try clear c184
           try clear c184b0
           try clear c184b1
           try clear hcz102_0
           try clear hcz102_1
           try clear hcz108_0
           try clear hcz108_1
           try clear hcz120_0
           try clear hcz120_1
           try clear hcz125_0
           try clear hcz125_1
           try clear hcz129_0
           try clear hcz129_1
           try clear hcz135_0
           try clear hcz135_1
           try clear hcz140_0
           try clear hcz140_1
           try clear hcz144_0
           try clear hcz144_1
           try clear hcz150_0
           try clear hcz150_1
           try clear hcz166_0
           try clear hcz166_1
           try clear hcz173_0
           try clear hcz173_1
           try clear hcz182_0
           try clear hcz182_1
           try clear hcz75_0
           try clear hcz75_1
           try clear hcz80_0
           try clear hcz80_1
           try clear hcz86_0
           try clear hcz86_1
           try clear hcz91_0
           try clear hcz91_1
           try clear hcz97_0
           try clear hcz97_1
           try clear hfz102_0
           try clear hfz102_1
           try clear hfz108_0
           try clear hfz108_1
           try clear hfz120_0
           try clear hfz120_1
           try clear hfz125_0
           try clear hfz125_1
           try clear hfz129_0
           try clear hfz129_1
           try clear hfz135_0
           try clear hfz135_1
           try clear hfz140_0
           try clear hfz140_1
           try clear hfz144_0
           try clear hfz144_1
           try clear hfz150_0
           try clear hfz150_1
           try clear hfz166_0
           try clear hfz166_1
           try clear hfz173_0
           try clear hfz173_1
           try clear hfz182_0
           try clear hfz182_1
           try clear hfz75_0
           try clear hfz75_1
           try clear hfz80_0
           try clear hfz80_1
           try clear hfz86_0
           try clear hfz86_1
           try clear hfz91_0
           try clear hfz91_1
           try clear hfz97_0
           try clear hfz97_1
           try clear p2
           try clear q2
           try clear q20
           try clear q207
           try clear q213
           obtain ⟨kq, x165_175, rfl, HA, HJ175, BK188, BK189, BK190, BK191, BK195, BK199, HB⟩ := hcut
           cases kq with
           | zero => exact absurd HA.out (by simp [fuseelaw13_SpanSteps.j3])
           | succ kj175 =>
            have H := HA.out
            clear HA
            simp only [fuseelaw13_SpanSteps.j3] at H
            by_cases c185 : x165_175 = true
            ·subst c185
             have H1 : (none) = some r := by rw [if_pos rfl] at H; exact H
             clear H
             have H := H1
             clear H1
             exact absurd H (by simp)
            ·replace c185 := Bool.eq_false_iff.mpr c185
             subst c185
             have H1 : (if a2 < 0 then ((fuseelaw13_num.f t198).bind fun t214 => (if t214 = 1 then (if (t196 == 0 && (t197 == 0)) = true then ((fuseelaw13_sure.f kj175).bind fun t215 => (some t215)) else (none)) else (none))) else (if t198.isNone = true then ((fuseeref13_Grow.f kj175 a0_0 a0_1 a2).bind fun bt217 => (if (t196 == bt217.1 && (t197 == bt217.2)) = true then ((fuseelaw13_sure.f kj175).bind fun t219 => (some t219)) else (none))) else (none))) = some r := by rw [if_neg (show ¬ (false = true) by decide)] at H; exact H
             clear H
             have H := H1
             clear H1
             by_cases c186 : a2 < 0
             ·rw [if_pos c186] at H
              have c186b0 : decide (a2 < 0) = true := decide_eq_true c186
              clear c186
              replace H := Option.bind_eq_some_iff.mp H
              obtain ⟨t214, A1870, H⟩ := H
              replace H : (if t214 = 1 then (if (t196 == 0 && (t197 == 0)) = true then ((fuseelaw13_sure.f kj175).bind fun t215 => (some t215)) else (none)) else (none)) = some r := H
              have A187 := qS A1870
              clear A1870
              by_cases c188 : t214 = 1
              ·rw [if_pos c188] at H
               have c188b0 : (t214 == 1) = true := beq_iff_eq.mpr c188
               have c188b1 : (t214 != 1) = false := bne_eq_false_iff_eq.mpr c188
               clear c188
               by_cases c189 : (t196 == 0 && (t197 == 0)) = true
               ·rw [if_pos c189] at H
                have c189b0 : (t196 == 0 && (t197 == 0)) = true := c189
                (try (have c189b1 : decide (t196 = 0 && (t197 == 0)) = true := by simpa using c189))
                (try (have c189b2 : (t196 == 0 && (t197 == 0)) = true := by simpa using c189))
                clear c189
                replace H := Option.bind_eq_some_iff.mp H
                obtain ⟨t215, A1900, H⟩ := H
                replace H : (some t215) = some r := H
                have A190 := qS A1900
                clear A1900
                as_aux_lemma =>
                 obtain rfl := Option.some.inj H
                 have CA187 := fun W (hgW : HG W) => fuseelaw13_num.calls t198 t214 W hgW A187.out
                 try simp only [errW_none, errW_some] at CA187
                 go_wp2_with (first | (go_at_call 38; (with_reducible refine (CA187 _ (HG.below hgL (Nat.le_refl _) (by repeat (first | (with_reducible first | exact HB.out | apply qpA | apply qpN | apply qp1 | refine qpS ?_ GE188.out | refine qpS ?_ GE189.out | refine qpS ?_ GE190.out | refine qpS ?_ GE191.out | refine qpS ?_ GE195.out | refine qpS ?_ GE199.out) | exact HB.out)))).mono ?_); rintro e w191 ⟨rfl, hb⟩; have n0_ := qS (qB (g := gb188) (o := .cells #[.int .i64 a0_0, .int .i64 a0_1] 73 (0, 0)) (by (with_reducible repeat (first | refine qN ?_ _ | refine qD ?_ | refine qA ?_ _)); exact BK188.out) hb); have n1_ := qS (qB (g := gb189) (o := .cells #[.int .i64 a1_0, .int .i64 a1_1] 73 (0, 0)) (by (with_reducible repeat (first | refine qN ?_ _ | refine qD ?_ | refine qA ?_ _)); exact BK189.out) hb); have n2_ := qS (qB (g := gb190) (o := .cells #[.int .i64 a0_0, .int .i64 a0_1] 68 (0, 0)) (by (with_reducible repeat (first | refine qN ?_ _ | refine qD ?_ | refine qA ?_ _)); exact BK190.out) hb); have n3_ := qS (qB (g := gb191) (o := .cells #[.int .i64 a1_0, .int .i64 a1_1] 68 (0, 0)) (by (with_reducible repeat (first | refine qN ?_ _ | refine qD ?_ | refine qA ?_ _)); exact BK191.out) hb); have n4_ := qS (qB (g := gb195) (o := .cells #[.int .i64 t192, .int .i64 t193] 68 (0, 0)) (by (with_reducible repeat (first | refine qN ?_ _ | refine qD ?_ | refine qA ?_ _)); exact BK195.out) hb); have n5_ := qS (qB (g := gb199) (o := .cells #[.int .i64 t196, .int .i64 t197] 68 (0, 0)) (by (with_reducible repeat (first | refine qN ?_ _ | refine qD ?_ | refine qA ?_ _)); exact BK199.out) hb); have n6_ := qS (below_step (by repeat (first | (with_reducible first | exact HB.out | apply qpA | apply qpN | apply qp1 | refine qpS ?_ GE188.out | refine qpS ?_ GE189.out | refine qpS ?_ GE190.out | refine qpS ?_ GE191.out | refine qpS ?_ GE195.out | refine qpS ?_ GE199.out) | exact HB.out)) hb); clear BK188; clear BK189; clear BK190; clear BK191; clear BK195; clear BK199; clear HB; have BK188 := n0_; have BK189 := n1_; have BK190 := n2_; have BK191 := n3_; have BK195 := n4_; have BK199 := n5_; have HB := n6_; clear n0_ n1_ n2_ n3_ n4_ n5_ n6_; (try clear hb); (try clear hb2); (try clear hk); (try clear hi); have hnb192 := NB199_188.out; have hnc192 := NB188_199.out; have hnb193 := NB199_189.out; have hnc193 := NB189_199.out; have hnb194 := NB199_190.out; have hnc194 := NB190_199.out; have hnb195 := NB199_191.out; have hnc195 := NB191_199.out; have hnb196 := NB199_195.out; have hnc196 := NB195_199.out; have hcz197_0 : w191.cell? ⟨gb199, 0, none⟩ = some (.int .i64 t196) := (qC BK199.out 0).trans rfl; have hcz197_1 : w191.cell? ⟨gb199, 1, none⟩ = some (.int .i64 t197) := (qC BK199.out 1).trans rfl; have hfz197_0 := qF BK199.out 0; have hfz197_1 := qF BK199.out 1) | (go_at_call 34; (with_reducible refine (fuseelaw13_sure.calls kj175  t215 _ ?side1 A190.out).mono ?_); (case side1 => exact HG.below hgL (Nat.le_refl _) (by repeat (first | (with_reducible first | exact HB.out | apply qpA | apply qpN | apply qp1 | refine qpS ?_ GE188.out | refine qpS ?_ GE189.out | refine qpS ?_ GE190.out | refine qpS ?_ GE191.out | refine qpS ?_ GE195.out | refine qpS ?_ GE199.out) | exact HB.out))); rintro e w198 ⟨rfl, hb⟩; have n0_ := qS (qB (g := gb188) (o := .cells #[.int .i64 a0_0, .int .i64 a0_1] 73 (0, 0)) (by (with_reducible repeat (first | refine qN ?_ _ | refine qD ?_ | refine qA ?_ _)); exact BK188.out) hb); have n1_ := qS (qB (g := gb189) (o := .cells #[.int .i64 a1_0, .int .i64 a1_1] 73 (0, 0)) (by (with_reducible repeat (first | refine qN ?_ _ | refine qD ?_ | refine qA ?_ _)); exact BK189.out) hb); have n2_ := qS (qB (g := gb190) (o := .cells #[.int .i64 a0_0, .int .i64 a0_1] 68 (0, 0)) (by (with_reducible repeat (first | refine qN ?_ _ | refine qD ?_ | refine qA ?_ _)); exact BK190.out) hb); have n3_ := qS (qB (g := gb191) (o := .cells #[.int .i64 a1_0, .int .i64 a1_1] 68 (0, 0)) (by (with_reducible repeat (first | refine qN ?_ _ | refine qD ?_ | refine qA ?_ _)); exact BK191.out) hb); have n4_ := qS (qB (g := gb195) (o := .cells #[.int .i64 t192, .int .i64 t193] 68 (0, 0)) (by (with_reducible repeat (first | refine qN ?_ _ | refine qD ?_ | refine qA ?_ _)); exact BK195.out) hb); have n5_ := qS (qB (g := gb199) (o := .cells #[.int .i64 t196, .int .i64 t197] 68 (0, 0)) (by (with_reducible repeat (first | refine qN ?_ _ | refine qD ?_ | refine qA ?_ _)); exact BK199.out) hb); have n6_ := qS (below_step (by repeat (first | (with_reducible first | exact HB.out | apply qpA | apply qpN | apply qp1 | refine qpS ?_ GE188.out | refine qpS ?_ GE189.out | refine qpS ?_ GE190.out | refine qpS ?_ GE191.out | refine qpS ?_ GE195.out | refine qpS ?_ GE199.out) | exact HB.out)) hb); clear BK188; clear BK189; clear BK190; clear BK191; clear BK195; clear BK199; clear HB; have BK188 := n0_; have BK189 := n1_; have BK190 := n2_; have BK191 := n3_; have BK195 := n4_; have BK199 := n5_; have HB := n6_; clear n0_ n1_ n2_ n3_ n4_ n5_ n6_; (try clear hb); (try clear hb2); (try clear hk); (try clear hi)))
                 go_ret
                 exact ⟨by first | rfl | (simp [errW_none, errW_some] <;> rfl) | (simp [*, errW_none, errW_some] <;> rfl), by repeat (first | (with_reducible first | exact HB.out | apply qpA | apply qpN | apply qp1 | refine qpS ?_ GE188.out | refine qpS ?_ GE189.out | refine qpS ?_ GE190.out | refine qpS ?_ GE191.out | refine qpS ?_ GE195.out | refine qpS ?_ GE199.out) | exact HB.out)⟩
               ·rw [if_neg c189] at H
                exact absurd H (by simp)
              ·rw [if_neg c188] at H
               exact absurd H (by simp)
             ·rw [if_neg c186] at H
              have c186b0 : decide (a2 < 0) = false := decide_eq_false c186
              clear c186
              rcases t198 with _ | q216
              ·have H1 : ((fuseeref13_Grow.f kj175 a0_0 a0_1 a2).bind fun bt217 => (if (t196 == bt217.1 && (t197 == bt217.2)) = true then ((fuseelaw13_sure.f kj175).bind fun t219 => (some t219)) else (none))) = some r := by rw [if_pos (show (none : Option Int).isNone = true by rfl)] at H; exact H
               clear H
               have H := H1
               clear H1
               try simp only [errW_none, errW_some]
               replace H := Option.bind_eq_some_iff.mp H
               obtain ⟨⟨t217, t218⟩, A1990, H⟩ := H
               replace H : (if (t196 == t217 && (t197 == t218)) = true then ((fuseelaw13_sure.f kj175).bind fun t219 => (some t219)) else (none)) = some r := H
               have A199 := qS A1990
               clear A1990
               by_cases c200 : (t196 == t217 && (t197 == t218)) = true
               ·rw [if_pos c200] at H
                have c200b0 : (t196 == t217 && (t197 == t218)) = true := c200
                (try (have c200b1 : decide (t196 = t217 && (t197 == t218)) = true := by simpa using c200))
                (try (have c200b2 : (t196 == t217 && (t197 == t218)) = true := by simpa using c200))
                clear c200
                replace H := Option.bind_eq_some_iff.mp H
                obtain ⟨t219, A2010, H⟩ := H
                replace H : (some t219) = some r := H
                have A201 := qS A2010
                clear A2010
                as_aux_lemma =>
                 obtain rfl := Option.some.inj H
                 try go_wp2
                 have n0_ := qS (qD BK188.out)
                 have n1_ := qS (qD BK189.out)
                 have n2_ := qS (qD BK190.out)
                 have n3_ := qS (qD BK191.out)
                 have n4_ := qS (qD BK195.out)
                 have n5_ := qS (qD BK199.out)
                 have n6_ := qS (qp1 HB.out)
                 clear BK188
                 clear BK189
                 clear BK190
                 clear BK191
                 clear BK195
                 clear BK199
                 clear HB
                 have BK188 := n0_
                 have BK189 := n1_
                 have BK190 := n2_
                 have BK191 := n3_
                 have BK195 := n4_
                 have BK199 := n5_
                 have HB := n6_
                 clear n0_ n1_ n2_ n3_ n4_ n5_ n6_
                 refine start_ (n := 13) (S := fun w' => w'.cell? ⟨gb199, 0, none⟩ = some (.int .i64 t196) ∧ w'.cell? ⟨gb199, 1, none⟩ = some (.int .i64 t197) ∧ w'.cell? ⟨gb188, 0, none⟩ = some (.int .i64 a0_0) ∧ w'.cell? ⟨gb188, 1, none⟩ = some (.int .i64 a0_1)) (ds := []) #[false, false, false, false, false, false, false, false, false, false, false, false, false] (by kernel_rfl) rfl rfl ⟨(qC BK199.out 0).trans rfl, (qC BK199.out 1).trans rfl, (qC BK188.out 0).trans rfl, (qC BK188.out 1).trans rfl⟩ (fun hHeld => ?_); refine with_tabW fuseelaw13_SpanSteps.tab17 fuseelaw13_SpanSteps.bits17 (fun HT_ HW_ => ?_)
                 generalize wc.drew = w202 at BK188 BK189 BK190 BK191 BK195 BK199 HB hHeld ⊢
                 refine pure_ (i := 0) (N := some 179) (v := ?_) (a' := ?_) #[true, false, false, false, false, false, false, false, false, false, false, false, false] rfl rfl (any_of HT_.out (by kernel_rfl)) (fun _ _ _ h => h) (Or.inl ⟨by rfl, ?_⟩) ?_ ?_
                 rotate_left
                 ·intro w'
                  go_simp
                  with_reducible rfl
                 rotate_left
                 ·simp only [Act.put, List.setIfInBounds_toArray, List.set_cons_zero, List.set_cons_succ, i64_w, i32_w]
                  rfl
                 refine pure_ (i := 1) (N := some 180) (v := ?_) (a' := ?_) #[true, true, false, false, false, false, false, false, false, false, false, false, false] rfl rfl (any_of HT_.out (by kernel_rfl)) (fun _ _ _ h => h) (Or.inl ⟨by rfl, ?_⟩) ?_ ?_
                 rotate_left
                 ·intro w'
                  go_simp
                  with_reducible rfl
                 rotate_left
                 ·simp only [Act.put, List.setIfInBounds_toArray, List.set_cons_zero, List.set_cons_succ, i64_w, i32_w]
                  rfl
                 refine pure_ (i := 2) (N := some 181) (v := ?_) (a' := ?_) #[true, true, true, false, false, false, false, false, false, false, false, false, false] rfl rfl (any_of HT_.out (by kernel_rfl)) (fun _ _ _ h => h) (Or.inl ⟨by rfl, ?_⟩) ?_ ?_
                 rotate_left
                 ·intro w'
                  go_simp
                  with_reducible rfl
                 rotate_left
                 ·simp only [Act.put, List.setIfInBounds_toArray, List.set_cons_zero, List.set_cons_succ, i64_w, i32_w]
                  rfl
                 refine pure_ (i := 5) (N := some 184) (v := ?_) (a' := ?_) #[true, true, true, false, false, true, false, false, false, false, false, false, false] rfl rfl (any_of HT_.out (by kernel_rfl)) (fun _ _ _ h => h) (Or.inl ⟨by rfl, ?_⟩) ?_ ?_
                 rotate_left
                 ·intro w'
                  go_simp
                  with_reducible rfl
                 rotate_left
                 ·simp only [Act.put, List.setIfInBounds_toArray, List.set_cons_zero, List.set_cons_succ, i64_w, i32_w]
                  rfl
                 refine take_ (i := 3) (N := some 182) (v := ?_) (a' := ?_) #[true, true, true, true, false, true, false, false, false, false, false, false, false] rfl rfl (take_ofW HT_.out HW_.out (by kernel_rfl)) (fun _ _ _ h => h) (Or.inl ⟨by rfl, ?_⟩) hHeld ?_ ?_
                 rotate_left
                 ·rintro w' ⟨s0, s1, s2, s3⟩
                  go_simp
                  with_reducible rfl
                 rotate_left
                 ·simp only [Act.put, List.setIfInBounds_toArray, List.set_cons_zero, List.set_cons_succ, i64_w, i32_w]
                  rfl
                 refine take_ (i := 4) (N := some 183) (v := ?_) (a' := ?_) #[true, true, true, true, true, true, false, false, false, false, false, false, false] rfl rfl (take_ofW HT_.out HW_.out (by kernel_rfl)) (fun _ _ _ h => h) (Or.inl ⟨by rfl, ?_⟩) hHeld ?_ ?_
                 rotate_left
                 ·rintro w' ⟨s0, s1, s2, s3⟩
                  go_simp
                  with_reducible rfl
                 rotate_left
                 ·simp only [Act.put, List.setIfInBounds_toArray, List.set_cons_zero, List.set_cons_succ, i64_w, i32_w]
                  rfl
                 refine one_ (i := 6) (N := some 185) #[true, true, true, true, true, true, true, false, false, false, false, false, false] rfl rfl (one_of HT_.out (by kernel_rfl)) (by decide) (fun K hK => ?_)
                 refine goes_ Tryd.func55 (by kernel_rfl) rfl #[.agg #[.int .i64 a0_0, .int .i64 a0_1], .int .i64 a2] (by rfl) rfl rfl (by (try simp only [List.map_toArray, List.map_cons, List.map_nil]); first | done | rfl | (simp only [*]; done) | (simp only [List.length_drop, List.length_take]; rfl)) ?_
                 with_reducible refine (fuseeref13_Grow.calls kj175 a0_0 a0_1 a2 t217 t218 _ A199.out).mono ?_
                 rintro e w203 ⟨rfl, hb⟩
                 refine ⟨_, rfl, ?_⟩
                 have n0_ := qS (qB (g := gb188) (o := .cells #[.int .i64 a0_0, .int .i64 a0_1] 73 (0, 0)) (by (with_reducible repeat (first | refine qN ?_ _ | refine qD ?_ | refine qA ?_ _)); exact BK188.out) hb)
                 have n1_ := qS (qB (g := gb189) (o := .cells #[.int .i64 a1_0, .int .i64 a1_1] 73 (0, 0)) (by (with_reducible repeat (first | refine qN ?_ _ | refine qD ?_ | refine qA ?_ _)); exact BK189.out) hb)
                 have n2_ := qS (qB (g := gb190) (o := .cells #[.int .i64 a0_0, .int .i64 a0_1] 68 (0, 0)) (by (with_reducible repeat (first | refine qN ?_ _ | refine qD ?_ | refine qA ?_ _)); exact BK190.out) hb)
                 have n3_ := qS (qB (g := gb191) (o := .cells #[.int .i64 a1_0, .int .i64 a1_1] 68 (0, 0)) (by (with_reducible repeat (first | refine qN ?_ _ | refine qD ?_ | refine qA ?_ _)); exact BK191.out) hb)
                 have n4_ := qS (qB (g := gb195) (o := .cells #[.int .i64 t192, .int .i64 t193] 68 (0, 0)) (by (with_reducible repeat (first | refine qN ?_ _ | refine qD ?_ | refine qA ?_ _)); exact BK195.out) hb)
                 have n5_ := qS (qB (g := gb199) (o := .cells #[.int .i64 t196, .int .i64 t197] 68 (0, 0)) (by (with_reducible repeat (first | refine qN ?_ _ | refine qD ?_ | refine qA ?_ _)); exact BK199.out) hb)
                 have n6_ := qS (below_step (by repeat (first | (with_reducible first | exact HB.out | apply qpA | apply qpN | apply qp1 | refine qpS ?_ GE188.out | refine qpS ?_ GE189.out | refine qpS ?_ GE190.out | refine qpS ?_ GE191.out | refine qpS ?_ GE195.out | refine qpS ?_ GE199.out) | exact HB.out)) hb)
                 clear BK188
                 clear BK189
                 clear BK190
                 clear BK191
                 clear BK195
                 clear BK199
                 clear HB
                 have BK188 := n0_
                 have BK189 := n1_
                 have BK190 := n2_
                 have BK191 := n3_
                 have BK195 := n4_
                 have BK199 := n5_
                 have HB := n6_
                 clear n0_ n1_ n2_ n3_ n4_ n5_ n6_
                 (try clear hb)
                 (try clear hb2)
                 (try clear hk)
                 (try clear hi)
                 refine hK.out _ _ ⟨(qC BK199.out 0).trans rfl, (qC BK199.out 1).trans rfl, (qC BK188.out 0).trans rfl, (qC BK188.out 1).trans rfl⟩ (fun hHeld => ?_)
                 clear hK K
                 refine norm_ (a' := ?_) ?_ ?_
                 rotate_left
                 ·show Act.put _ (some 185) _ = _
                  simp only [Act.put, List.setIfInBounds_toArray, List.set_cons_zero, List.set_cons_succ, i64_w, i32_w]
                  rfl
                 refine pure_ (i := 7) (N := some 186) (v := ?_) (a' := ?_) #[true, true, true, true, true, true, true, true, false, false, false, false, false] rfl rfl (any_of HT_.out (by kernel_rfl)) (fun _ _ _ h => h) (Or.inl ⟨by rfl, ?_⟩) ?_ ?_
                 rotate_left
                 ·intro w'
                  go_simp
                  with_reducible rfl
                 rotate_left
                 ·simp only [Act.put, List.setIfInBounds_toArray, List.set_cons_zero, List.set_cons_succ, i64_w, i32_w]
                  rfl
                 refine pure_ (i := 8) (N := some 187) (v := ?_) (a' := ?_) #[true, true, true, true, true, true, true, true, true, false, false, false, false] rfl rfl (any_of HT_.out (by kernel_rfl)) (fun _ _ _ h => h) (Or.inl ⟨by rfl, ?_⟩) ?_ ?_
                 rotate_left
                 ·intro w'
                  go_simp
                  with_reducible rfl
                 rotate_left
                 ·simp only [Act.put, List.setIfInBounds_toArray, List.set_cons_zero, List.set_cons_succ, i64_w, i32_w]
                  rfl
                 refine pure_ (i := 9) (N := some 188) (v := ?_) (a' := ?_) #[true, true, true, true, true, true, true, true, true, true, false, false, false] rfl rfl (any_of HT_.out (by kernel_rfl)) (fun _ _ _ h => h) (Or.inl ⟨by rfl, ?_⟩) ?_ ?_
                 rotate_left
                 ·intro w'
                  go_simp
                  with_reducible rfl
                 rotate_left
                 ·simp only [Act.put, List.setIfInBounds_toArray, List.set_cons_zero, List.set_cons_succ, i64_w, i32_w]
                  rfl
                 refine one_ (i := 10) (N := some 189) #[true, true, true, true, true, true, true, true, true, true, true, false, false] rfl rfl (one_of HT_.out (by kernel_rfl)) (by decide) (fun K hK => ?_)
                 refine goes_ Tryd.func34 (by kernel_rfl) rfl #[] (by rfl) rfl rfl (by (try simp only [List.map_toArray, List.map_cons, List.map_nil]); first | done | rfl | (simp only [*]; done) | (simp only [List.length_drop, List.length_take]; rfl)) ?_
                 with_reducible refine (fuseelaw13_sure.calls kj175  t219 _ ?side1 A201.out).mono ?_
                 (case side1 => exact HG.below hgL (Nat.le_refl _) (by repeat (first | (with_reducible first | exact HB.out | apply qpA | apply qpN | apply qp1 | refine qpS ?_ GE188.out | refine qpS ?_ GE189.out | refine qpS ?_ GE190.out | refine qpS ?_ GE191.out | refine qpS ?_ GE195.out | refine qpS ?_ GE199.out) | exact HB.out)))
                 rintro e w204 ⟨rfl, hb⟩
                 refine ⟨_, rfl, ?_⟩
                 have n0_ := qS (qB (g := gb188) (o := .cells #[.int .i64 a0_0, .int .i64 a0_1] 73 (0, 0)) (by (with_reducible repeat (first | refine qN ?_ _ | refine qD ?_ | refine qA ?_ _)); exact BK188.out) hb)
                 have n1_ := qS (qB (g := gb189) (o := .cells #[.int .i64 a1_0, .int .i64 a1_1] 73 (0, 0)) (by (with_reducible repeat (first | refine qN ?_ _ | refine qD ?_ | refine qA ?_ _)); exact BK189.out) hb)
                 have n2_ := qS (qB (g := gb190) (o := .cells #[.int .i64 a0_0, .int .i64 a0_1] 68 (0, 0)) (by (with_reducible repeat (first | refine qN ?_ _ | refine qD ?_ | refine qA ?_ _)); exact BK190.out) hb)
                 have n3_ := qS (qB (g := gb191) (o := .cells #[.int .i64 a1_0, .int .i64 a1_1] 68 (0, 0)) (by (with_reducible repeat (first | refine qN ?_ _ | refine qD ?_ | refine qA ?_ _)); exact BK191.out) hb)
                 have n4_ := qS (qB (g := gb195) (o := .cells #[.int .i64 t192, .int .i64 t193] 68 (0, 0)) (by (with_reducible repeat (first | refine qN ?_ _ | refine qD ?_ | refine qA ?_ _)); exact BK195.out) hb)
                 have n5_ := qS (qB (g := gb199) (o := .cells #[.int .i64 t196, .int .i64 t197] 68 (0, 0)) (by (with_reducible repeat (first | refine qN ?_ _ | refine qD ?_ | refine qA ?_ _)); exact BK199.out) hb)
                 have n6_ := qS (below_step (by repeat (first | (with_reducible first | exact HB.out | apply qpA | apply qpN | apply qp1 | refine qpS ?_ GE188.out | refine qpS ?_ GE189.out | refine qpS ?_ GE190.out | refine qpS ?_ GE191.out | refine qpS ?_ GE195.out | refine qpS ?_ GE199.out) | exact HB.out)) hb)
                 clear BK188
                 clear BK189
                 clear BK190
                 clear BK191
                 clear BK195
                 clear BK199
                 clear HB
                 have BK188 := n0_
                 have BK189 := n1_
                 have BK190 := n2_
                 have BK191 := n3_
                 have BK195 := n4_
                 have BK199 := n5_
                 have HB := n6_
                 clear n0_ n1_ n2_ n3_ n4_ n5_ n6_
                 (try clear hb)
                 (try clear hb2)
                 (try clear hk)
                 (try clear hi)
                 refine hK.out _ _ ⟨(qC BK199.out 0).trans rfl, (qC BK199.out 1).trans rfl, (qC BK188.out 0).trans rfl, (qC BK188.out 1).trans rfl⟩ (fun hHeld => ?_)
                 clear hK K
                 refine norm_ (a' := ?_) ?_ ?_
                 rotate_left
                 ·show Act.put _ (some 189) _ = _
                  simp only [Act.put, List.setIfInBounds_toArray, List.set_cons_zero, List.set_cons_succ, i64_w, i32_w]
                  rfl
                 refine pure_ (i := 11) (N := some 190) (v := ?_) (a' := ?_) #[true, true, true, true, true, true, true, true, true, true, true, true, false] rfl rfl (any_of HT_.out (by kernel_rfl)) (fun _ _ _ h => h) (Or.inl ⟨by rfl, ?_⟩) ?_ ?_
                 rotate_left
                 ·intro w'
                  go_simp
                  with_reducible rfl
                 rotate_left
                 ·simp only [Act.put, List.setIfInBounds_toArray, List.set_cons_zero, List.set_cons_succ, i64_w, i32_w]
                  rfl
                 refine pure_ (i := 12) (N := some 6) (v := ?_) (a' := ?_) #[true, true, true, true, true, true, true, true, true, true, true, true, true] rfl rfl (any_of HT_.out (by kernel_rfl)) (fun _ _ _ h => h) (Or.inl ⟨by rfl, ?_⟩) ?_ ?_
                 rotate_left
                 ·intro w'
                  go_simp
                  with_reducible rfl
                 rotate_left
                 ·simp only [Act.put, List.setIfInBounds_toArray, List.set_cons_zero, List.set_cons_succ, i64_w, i32_w]
                  rfl
                 refine done_ (done_of HT_.out (by kernel_rfl)) ?_
                 try go_wp2
                 go_ret
                 exact ⟨by first | rfl | (simp [errW_none, errW_some] <;> rfl) | (simp [*, errW_none, errW_some] <;> rfl), by repeat (first | (with_reducible first | exact HB.out | apply qpA | apply qpN | apply qp1 | refine qpS ?_ GE188.out | refine qpS ?_ GE189.out | refine qpS ?_ GE190.out | refine qpS ?_ GE191.out | refine qpS ?_ GE195.out | refine qpS ?_ GE199.out) | exact HB.out)⟩
               ·rw [if_neg c200] at H
                exact absurd H (by simp)
              ·have H1 : (none) = some r := by rw [if_neg (show ¬ (some q216).isNone = true by simp)] at H; exact H
               clear H
               have H := H1
               clear H1
               try simp only [errW_none, errW_some]
               exact absurd H (by simp)

end Go.Proofs.YtfipgpfmlkfkfaaDoor.MSpanSteps
