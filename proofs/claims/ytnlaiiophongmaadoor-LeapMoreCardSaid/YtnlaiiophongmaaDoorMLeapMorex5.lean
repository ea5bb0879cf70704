/- Printed by wip/gen/mp.py: Go functions as plain Lean functions, and that the calls do what these say. -/
import Derived.Test.YtnlaiiophongmaaDoorMLeapMorex0
import Derived.Test.YtnlaiiophongmaaDoorMLeapMorex1
import Derived.Test.YtnlaiiophongmaaDoorMLeapMorex2
import Derived.Test.YtnlaiiophongmaaDoorMLeapMorex3
import Derived.Test.YtnlaiiophongmaaDoorMLeapMorex4
namespace Go.Proofs.YtnlaiiophongmaaDoor.MLeapMore
open Go.RowKit Go.Proofs.YtnlaiiophongmaaDoorW.PrintWords Go.Proofs.YtnlaiiophongmaaDoorW.PrintLast Go.Proofs.YtnlaiiophongmaaDoorW.PrintMore
attribute [local go_sem] max2_int min2_int max_two min_two max_three min_three max_four min_four   -- for this text's walks alone
set_option linter.unusedVariables false
set_option linter.unusedSimpArgs false

attribute [local go_sem high] eqA105
/-! ### fuseelaw09_LeapMore: function 10 -/
mutual
def fuseelaw09_LeapMore.j0 : Nat → Int → Int → Bool → Int → Int → List Int → Int → Int → List Int → Option (Bool)
 | 0, _, _, _, _, _, _, _, _, _ => none
 | k + 1, x1, x2, x58, x169000, x169001, x169002, x170000, x170001, x170002 => if x58 = true then ((fuseelaw09_sure.f k).bind fun t173 => (some t173)) else ((some (([] : List Int) : List Int)).bind fun y174 => (if y174.length + x169002.length < 17592186044416 then ((some (y174 ++ x169002 : List Int)).bind fun y177 => ((some (([wrap64 (x169001 - 1)] : List Int) : List Int)).bind fun y180 => (if y177.length + y180.length < 17592186044416 then ((some (y177 ++ y180 : List Int)).bind fun y183 => ((leap_UTC.f k x170000 x170001 x170002 x2).bind fun bt188 => ((leap_UTC.f k x169000 (wrap64 (x169001 + 500)) y183 x2).bind fun bt193 => (if bt188.2.2.2.isNone = true then (if bt193.2.2.2.isNone = true then (fuseelaw09_LeapMore.j1 k x1 (!(bt188.1 == bt193.1) || (!(bt188.2.1 == bt193.2.1) || (!(bt188.2.2.1 == bt193.2.2.1)))) x169000 x169001 x169002 x169000 (wrap64 (x169001 + 500)) y183 x169000 (wrap64 (x169001 + 500)) x169002) else (fuseelaw09_LeapMore.j1 k x1 true x169000 x169001 x169002 x169000 (wrap64 (x169001 + 500)) y183 x169000 (wrap64 (x169001 + 500)) x169002)) else (fuseelaw09_LeapMore.j1 k x1 false x169000 x169001 x169002 x169000 (wrap64 (x169001 + 500)) y183 x169000 (wrap64 (x169001 + 500)) x169002))))) else (none)))) else (none)))
def fuseelaw09_LeapMore.j1 : Nat → Int → Bool → Int → Int → List Int → Int → Int → List Int → Int → Int → List Int → Option (Bool)
 | 0, _, _, _, _, _, _, _, _, _, _, _ => none
 | k + 1, x1, x105, x169000, x169001, x169002, x187000, x187001, x187002, x188000, x188001, x188002 => if x105 = true then (none) else ((leap_Begin.f k x187000 x187001 x187002 x1).bind fun bt200 => ((leap_Begin.f k x188000 x188001 x188002 x1).bind fun bt202 => (if bt200.2.isNone = true then (if bt202.2.isNone = true then (if x1 ≥ x169001 then (if bt200.1 = (wrap64 (bt202.1 + 1000000000)) then ((fuseelaw09_sure.f k).bind fun t206 => (some t206)) else (none)) else (if bt200.1 = (wrap64 (bt202.1 + 0)) then ((fuseelaw09_sure.f k).bind fun t207 => (some t207)) else (none))) else (none)) else (if bt202.2.isNone = true then (none) else (if bt200.1 = (wrap64 (bt202.1 + 0)) then ((fuseelaw09_sure.f k).bind fun t209 => (some t209)) else (none))))))
end
def fuseelaw09_LeapMore.f (k : Nat) (a0_0 : Int) (a0_1 : Int) (l0_2 : List Int) (a1 : Int) (a2 : Int) : Option (Bool) := if (l0_2.length : Int) > 31 then (fuseelaw09_LeapMore.j0 k a1 a2 true a0_0 a0_1 l0_2 a0_0 a0_1 l0_2) else ((leap_Check.f k a0_0 a0_1 l0_2).bind fun t170 => (if t170.isNone = true then (if a0_1 ≤ (-50000) then (fuseelaw09_LeapMore.j0 k a1 a2 true a0_0 a0_1 l0_2 a0_0 a0_1 l0_2) else (if (l0_2.length : Int) > 0 then (if 0 ≤ (wrap64 ((l0_2.length : Int) - 1)) then (if (wrap64 ((l0_2.length : Int) - 1)) < (l0_2.length : Int) then (if (rd l0_2 (wrap64 ((l0_2.length : Int) - 1))) = (wrap64 (a0_1 - 1)) then (fuseelaw09_LeapMore.j0 k a1 a2 true a0_0 a0_1 l0_2 a0_0 a0_1 l0_2) else (fuseelaw09_LeapMore.j0 k a1 a2 (decide (a0_1 > 49000)) a0_0 a0_1 l0_2 a0_0 a0_1 l0_2)) else (none)) else (none)) else (fuseelaw09_LeapMore.j0 k a1 a2 (decide (a0_1 > 49000)) a0_0 a0_1 l0_2 a0_0 a0_1 l0_2))) else (fuseelaw09_LeapMore.j0 k a1 a2 true a0_0 a0_1 l0_2 a0_0 a0_1 l0_2)))
theorem fuseelaw09_LeapMore.mono_l : ∀ k, (∀ y0 y1 y2 y3 y4 y5 y6 y7 y8, LeO (fuseelaw09_LeapMore.j0 k y0 y1 y2 y3 y4 y5 y6 y7 y8) (fuseelaw09_LeapMore.j0 (k + 1) y0 y1 y2 y3 y4 y5 y6 y7 y8)) ∧ (∀ y0 y1 y2 y3 y4 y5 y6 y7 y8 y9 y10, LeO (fuseelaw09_LeapMore.j1 k y0 y1 y2 y3 y4 y5 y6 y7 y8 y9 y10) (fuseelaw09_LeapMore.j1 (k + 1) y0 y1 y2 y3 y4 y5 y6 y7 y8 y9 y10))
 | 0 => ⟨fun _ _ _ _ _ _ _ _ _ r h => by simp [fuseelaw09_LeapMore.j0] at h, fun _ _ _ _ _ _ _ _ _ _ _ r h => by simp [fuseelaw09_LeapMore.j1] at h⟩
 | k + 1 => by
  obtain ⟨ih0, ih1⟩ := fuseelaw09_LeapMore.mono_l k
  refine ⟨?_, ?_⟩
  ·intro y0 y1 y2 y3 y4 y5 y6 y7 y8
   unfold fuseelaw09_LeapMore.j0
   repeat' first
   | (with_reducible exact ih0 _ _ _ _ _ _ _ _ _)
   | (with_reducible exact ih1 _ _ _ _ _ _ _ _ _ _ _)
   | (with_reducible exact fuseelaw09_sure.mono _)
   | (with_reducible exact leap_Begin.mono _ _ _ _ _)
   | (with_reducible exact leap_Check.mono _ _ _ _)
   | (with_reducible exact leap_UTC.mono _ _ _ _ _)
   | (with_reducible exact LeO.refl _)
   | (with_reducible exact LeO.none _)
   | (with_reducible refine LeO.ite ?_ ?_)
   | (with_reducible refine LeO.bind ?_ (fun _ => ?_))
   | exact ih0 _ _ _ _ _ _ _ _ _
   | exact ih1 _ _ _ _ _ _ _ _ _ _ _
   | exact fuseelaw09_sure.mono _
   | exact leap_Begin.mono _ _ _ _ _
   | exact leap_Check.mono _ _ _ _
   | exact leap_UTC.mono _ _ _ _ _
   | exact LeO.none _
   | refine LeO.ite ?_ ?_
   | refine LeO.bind ?_ (fun _ => ?_)
  ·intro y0 y1 y2 y3 y4 y5 y6 y7 y8 y9 y10
   unfold fuseelaw09_LeapMore.j1
   repeat' first
   | (with_reducible exact ih0 _ _ _ _ _ _ _ _ _)
   | (with_reducible exact ih1 _ _ _ _ _ _ _ _ _ _ _)
   | (with_reducible exact fuseelaw09_sure.mono _)
   | (with_reducible exact leap_Begin.mono _ _ _ _ _)
   | (with_reducible exact leap_Check.mono _ _ _ _)
   | (with_reducible exact leap_UTC.mono _ _ _ _ _)
   | (with_reducible exact LeO.refl _)
   | (with_reducible exact LeO.none _)
   | (with_reducible refine LeO.ite ?_ ?_)
   | (with_reducible refine LeO.bind ?_ (fun _ => ?_))
   | exact ih0 _ _ _ _ _ _ _ _ _
   | exact ih1 _ _ _ _ _ _ _ _ _ _ _
   | exact fuseelaw09_sure.mono _
   | exact leap_Begin.mono _ _ _ _ _
   | exact leap_Check.mono _ _ _ _
   | exact leap_UTC.mono _ _ _ _ _
   | exact LeO.none _
   | refine LeO.ite ?_ ?_
   | refine LeO.bind ?_ (fun _ => ?_)
theorem fuseelaw09_LeapMore.mono : ∀ a0 a1 a2 a3 a4 k, LeO (fuseelaw09_LeapMore.f k a0 a1 a2 a3 a4) (fuseelaw09_LeapMore.f (k + 1) a0 a1 a2 a3 a4) := by
 intro a0 a1 a2 a3 a4 k
 obtain ⟨ih0, ih1⟩ := fuseelaw09_LeapMore.mono_l k
 unfold fuseelaw09_LeapMore.f
 repeat' first
   | (with_reducible exact ih0 _ _ _ _ _ _ _ _ _)
   | (with_reducible exact ih1 _ _ _ _ _ _ _ _ _ _ _)
   | (with_reducible exact fuseelaw09_sure.mono _)
   | (with_reducible exact leap_Begin.mono _ _ _ _ _)
   | (with_reducible exact leap_Check.mono _ _ _ _)
   | (with_reducible exact leap_UTC.mono _ _ _ _ _)
   | (with_reducible exact LeO.refl _)
   | (with_reducible exact LeO.none _)
   | (with_reducible refine LeO.ite ?_ ?_)
   | (with_reducible refine LeO.bind ?_ (fun _ => ?_))
   | exact ih0 _ _ _ _ _ _ _ _ _
   | exact ih1 _ _ _ _ _ _ _ _ _ _ _
   | exact fuseelaw09_sure.mono _
   | exact leap_Begin.mono _ _ _ _ _
   | exact leap_Check.mono _ _ _ _
   | exact leap_UTC.mono _ _ _ _ _
   | exact LeO.none _
   | refine LeO.ite ?_ ?_
   | refine LeO.bind ?_ (fun _ => ?_)
def fuseelaw09_LeapMore.T2 : Bool × List (List Nat × List Nat) := (true, [([], []), ([0], [0]), ([1], [1]), ([2], [2]), ([3], [3]), ([4], [4]), ([5, 4, 4], [4, 5]), ([6, 4], [4, 6]), ([4, 7], [4, 7]), ([8, 6], [8]), ([9], [9]), ([10, 9], [9, 10]), ([11, 9], [9, 11]), ([9, 12], [9, 12]), ([13, 9], [13]), ([14], [14]), ([15, 14], [14, 15]), ([16, 14], [14, 16]), ([17, 14], [14, 17]), ([18, 14, 14], [14, 18]), ([19], [19]), ([20, 19], [19, 20]), ([19], [19]), ([22, 19], [19, 22]), ([23, 19], [19, 23]), ([24, 19], [19, 24]), ([21, 25, 19], [19, 21, 25]), ([26, 19], [19, 26]), ([19], [19]), ([28, 19], [19, 28]), ([29, 19], [19, 29]), ([27, 30, 19], [19, 27, 30]), ([19, 31, 14], [14, 19, 31]), ([14, 32], [14, 32]), ([33, 19], [33]), ([34], [34]), ([35, 34], [34, 35]), ([36, 34], [34, 36]), ([34, 37], [34, 37])])
def fuseelaw09_LeapMore.B2 : List Nat := [0, 1, 3, 7, 15, 31, 63, 127, 255, 511, 1023, 2047, 4095, 8191, 16383, 32767, 65535, 131071, 262143, 524287, 1048575, 2097151, 1048575, 5242879, 13631487, 30408703, 67108863, 134217727, 1048575, 269484031, 806354943, 2147483647, 4294967295, 8589934591, 17179869183, 34359738367, 68719476735, 137438953471, 274877906943]
theorem fuseelaw09_LeapMore.tab2 : rtab .any (opsOf Tryd.f10 2) = fuseelaw09_LeapMore.T2 := by kernel_rfl
theorem fuseelaw09_LeapMore.bits2 : waitsOk fuseelaw09_LeapMore.T2.2 fuseelaw09_LeapMore.B2 = true := by kernel_rfl
def fuseelaw09_LeapMore.T4 : Bool × List (List Nat × List Nat) := (true, [([], []), ([0], [0]), ([], []), ([2], [2]), ([3], [3]), ([], []), ([], []), ([6], [6]), ([5, 7], [5, 7]), ([], []), ([9], [9]), ([10], [10]), ([11], [11]), ([8, 12, 8], [8, 12]), ([1, 4, 13], [1, 4, 13]), ([], []), ([15, 14, 13, 0, 1, 2, 3, 4, 5, 6, 7, 8, 9, 10, 11, 12, 13, 14, 15], [14, 15])])
def fuseelaw09_LeapMore.B4 : List Nat := [0, 1, 0, 4, 12, 0, 0, 64, 224, 0, 512, 1536, 3584, 8160, 16383, 0, 65535]
theorem fuseelaw09_LeapMore.tab4 : rtab .any (opsOf Tryd.f10 4) = fuseelaw09_LeapMore.T4 := by kernel_rfl
theorem fuseelaw09_LeapMore.bits4 : waitsOk fuseelaw09_LeapMore.T4.2 fuseelaw09_LeapMore.B4 = true := by kernel_rfl
end Go.Proofs.YtnlaiiophongmaaDoor.MLeapMore
