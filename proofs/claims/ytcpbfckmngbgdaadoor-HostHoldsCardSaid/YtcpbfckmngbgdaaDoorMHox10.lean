/- Printed by wip/gen/mp.py: Go functions as plain Lean functions, and that the calls do what these say. -/
import Derived.Test.YtcpbfckmngbgdaaDoorMHox0
import Derived.Test.YtcpbfckmngbgdaaDoorMHox2
import Derived.Test.YtcpbfckmngbgdaaDoorMHox3
import Derived.Test.YtcpbfckmngbgdaaDoorMHox6
import Derived.Test.YtcpbfckmngbgdaaDoorMHox8
import Derived.Test.YtcpbfckmngbgdaaDoorMHox9
namespace Go.Proofs.YtcpbfckmngbgdaaDoor.MHo
open Go.RowKit Go.Proofs.YtcpbfckmngbgdaaDoorW.PrintWords Go.Proofs.YtcpbfckmngbgdaaDoorW.PrintLast Go.Proofs.YtcpbfckmngbgdaaDoorW.PrintMore
attribute [local go_sem] conv_fl eq_fl eq_fl2 max2_int min2_int max_two min_two max_three min_three max_four min_four   -- for this text's walks alone
set_option linter.unusedVariables false
set_option linter.unusedSimpArgs false
abbrev ce10_0 (x0 : Int) (x1 : Int) (x2 : Int) (x3 : Int) (x4 : Int) (x5 : Int) (x6 : Int) (x7 : Bool) (x8 : Int) (x9 : Int) (x10 : Int) (x11 : Int) (x12 : Int) : Array Value := #[.int .u32 x0, .int .i64 x1, .int .i64 x2, .int .i64 x3, .int .i64 x4, .int .i64 x5, .int .i64 x6, .bool x7, .int .i64 x8, .int .i64 x9, .int .i64 x10, .int .i64 x11, .int .i64 x12]

/-! ### host_Sync: function 60 -/
mutual
def host_Sync.j0 : Nat → Int → Bool → Int → Int → Int → Int → Int → Int → Int → Bool → Int → Int → Int → Int → Int → Int → Int → Option (Int × Int × Int × Int × Int × Int × Int × Bool × Int × Int × Int × Int × Int × Option Int)
 | 0, _, _, _, _, _, _, _, _, _, _, _, _, _, _, _, _, _ => none
 | k + 1, x1, x39, x278000, x278001, x278002, x278003, x278004, x278005, x278006, x278007, x278008, x278009, x278010, x278011, x278012, x279000, x279001 => if x39 = true then (some (0, 0, 0, 0, 0, 0, 0, false, 0, 0, 0, 0, 0, some 1)) else (if x278007 = true then ((host_Host_reckoned.f k x278000 x278001 x278002 x278003 x278004 x278005 x278006 x278007 x278008 x278009 x278010 x278011 x278012 x1).bind fun bt298 => ((errors_Is.f bt298.2.2 (some 2)).bind fun t301 => (if t301 = true then ((host_Host_set.f x278000 x278001 x278002 x278003 x278004 x278005 x278006 x278007 x278008 x278009 x278010 x278011 x278012 x1 x279000 x279001).bind fun bt302 => (some (bt302.1, bt302.2.1, bt302.2.2.1, bt302.2.2.2.1, bt302.2.2.2.2.1, bt302.2.2.2.2.2.1, bt302.2.2.2.2.2.2.1, bt302.2.2.2.2.2.2.2.1, bt302.2.2.2.2.2.2.2.2.1, bt302.2.2.2.2.2.2.2.2.2.1, bt302.2.2.2.2.2.2.2.2.2.2.1, bt302.2.2.2.2.2.2.2.2.2.2.2.1, bt302.2.2.2.2.2.2.2.2.2.2.2.2.1, bt302.2.2.2.2.2.2.2.2.2.2.2.2.2))) else (if bt298.2.2.isNone = true then ((num_SubSat.f bt298.1 bt298.2.1).bind fun t317 => ((num_AddSat.f bt298.1 bt298.2.1).bind fun t318 => ((span_Meet.f x279000 x279001 t317 t318).bind fun bt319 => (if bt319.2.2 = true then (host_Sync.j1 k x1 bt298.1 x278000 x278001 x278002 x278003 x278004 x278005 x278006 x278007 x278008 x278009 x278010 x278011 x278012 bt319.1 bt319.2.1) else (host_Sync.j1 k x1 bt298.1 x278000 x278001 x278002 x278003 x278004 x278005 x278006 x278007 x278008 x278009 x278010 x278011 x278012 x279000 x279001))))) else (some (0, 0, 0, 0, 0, 0, 0, false, 0, 0, 0, 0, 0, some (bt298.2.2.getD 0))))))) else ((host_Host_set.f x278000 x278001 x278002 x278003 x278004 x278005 x278006 x278007 x278008 x278009 x278010 x278011 x278012 x1 x279000 x279001).bind fun bt284 => (some (bt284.1, bt284.2.1, bt284.2.2.1, bt284.2.2.2.1, bt284.2.2.2.2.1, bt284.2.2.2.2.2.1, bt284.2.2.2.2.2.2.1, bt284.2.2.2.2.2.2.2.1, bt284.2.2.2.2.2.2.2.2.1, bt284.2.2.2.2.2.2.2.2.2.1, bt284.2.2.2.2.2.2.2.2.2.2.1, bt284.2.2.2.2.2.2.2.2.2.2.2.1, bt284.2.2.2.2.2.2.2.2.2.2.2.2.1, bt284.2.2.2.2.2.2.2.2.2.2.2.2.2))))
def host_Sync.j1 : Nat → Int → Int → Int → Int → Int → Int → Int → Int → Int → Bool → Int → Int → Int → Int → Int → Int → Int → Option (Int × Int × Int × Int × Int × Int × Int × Bool × Int × Int × Int × Int × Int × Option Int)
 | 0, _, _, _, _, _, _, _, _, _, _, _, _, _, _, _, _, _ => none
 | k + 1, x1, x8, x278000, x278001, x278002, x278003, x278004, x278005, x278006, x278007, x278008, x278009, x278010, x278011, x278012, x279000, x279001 => (host_Host_set.f x278000 x278001 x278002 x278003 x278004 x278005 x278006 x278007 x278008 x278009 x278010 x278011 x278012 x1 x279000 x279001).bind fun bt323 => (if bt323.2.2.2.2.2.2.2.2.2.2.2.2.2.isNone = true then ((num_SubSat.f bt323.2.2.2.2.2.2.2.2.2.1 x8).bind fun t339 => ((servo_Step.f x278011 x278012 x278003 x278004 x278005 t339).bind fun bt340 => (some (bt323.1, bt323.2.1, bt323.2.2.1, bt323.2.2.2.1, bt323.2.2.2.2.1, bt323.2.2.2.2.2.1, bt323.2.2.2.2.2.2.1, bt323.2.2.2.2.2.2.2.1, bt323.2.2.2.2.2.2.2.2.1, bt323.2.2.2.2.2.2.2.2.2.1, bt323.2.2.2.2.2.2.2.2.2.2.1, bt340.1, bt340.2.1, bt340.2.2)))) else (some (0, 0, 0, 0, 0, 0, 0, false, 0, 0, 0, 0, 0, some (bt323.2.2.2.2.2.2.2.2.2.2.2.2.2.getD 0))))
end
def host_Sync.f (k : Nat) (a0_0 : Int) (a0_1 : Int) (a0_2 : Int) (a0_3 : Int) (a0_4 : Int) (a0_5 : Int) (a0_6 : Int) (a0_7 : Bool) (a0_8 : Int) (a0_9 : Int) (a0_10 : Int) (a0_11 : Int) (a0_12 : Int) (a1 : Int) (a2_0 : Int) (a2_1 : Int) : Option (Int × Int × Int × Int × Int × Int × Int × Bool × Int × Int × Int × Int × Int × Option Int) := (host_Check.f k a0_0 a0_1 a0_2 a0_3 a0_4 a0_5 a0_6 a0_7 a0_8 a0_9 a0_10 a0_11 a0_12).bind fun t280 => (if t280.isNone = true then (if a1 < 0 then (host_Sync.j0 k a1 true a0_0 a0_1 a0_2 a0_3 a0_4 a0_5 a0_6 a0_7 a0_8 a0_9 a0_10 a0_11 a0_12 a2_0 a2_1) else (if a1 > 1152921504606846976 then (host_Sync.j0 k a1 true a0_0 a0_1 a0_2 a0_3 a0_4 a0_5 a0_6 a0_7 a0_8 a0_9 a0_10 a0_11 a0_12 a2_0 a2_1) else ((span_Check.f a2_0 a2_1).bind fun t282 => (if t282.isNone = true then (if a2_0 ≤ (-2305843009213693952) then (host_Sync.j0 k a1 true a0_0 a0_1 a0_2 a0_3 a0_4 a0_5 a0_6 a0_7 a0_8 a0_9 a0_10 a0_11 a0_12 a2_0 a2_1) else (host_Sync.j0 k a1 (decide (a2_1 ≥ 2305843009213693952)) a0_0 a0_1 a0_2 a0_3 a0_4 a0_5 a0_6 a0_7 a0_8 a0_9 a0_10 a0_11 a0_12 a2_0 a2_1)) else (host_Sync.j0 k a1 true a0_0 a0_1 a0_2 a0_3 a0_4 a0_5 a0_6 a0_7 a0_8 a0_9 a0_10 a0_11 a0_12 a2_0 a2_1))))) else (host_Sync.j0 k a1 true a0_0 a0_1 a0_2 a0_3 a0_4 a0_5 a0_6 a0_7 a0_8 a0_9 a0_10 a0_11 a0_12 a2_0 a2_1))
theorem host_Sync.mono_l : ∀ k, (∀ y0 y1 y2 y3 y4 y5 y6 y7 y8 y9 y10 y11 y12 y13 y14 y15 y16, LeO (host_Sync.j0 k y0 y1 y2 y3 y4 y5 y6 y7 y8 y9 y10 y11 y12 y13 y14 y15 y16) (host_Sync.j0 (k + 1) y0 y1 y2 y3 y4 y5 y6 y7 y8 y9 y10 y11 y12 y13 y14 y15 y16)) ∧ (∀ y0 y1 y2 y3 y4 y5 y6 y7 y8 y9 y10 y11 y12 y13 y14 y15 y16, LeO (host_Sync.j1 k y0 y1 y2 y3 y4 y5 y6 y7 y8 y9 y10 y11 y12 y13 y14 y15 y16) (host_Sync.j1 (k + 1) y0 y1 y2 y3 y4 y5 y6 y7 y8 y9 y10 y11 y12 y13 y14 y15 y16))
 | 0 => ⟨fun _ _ _ _ _ _ _ _ _ _ _ _ _ _ _ _ _ r h => by simp [host_Sync.j0] at h, fun _ _ _ _ _ _ _ _ _ _ _ _ _ _ _ _ _ r h => by simp [host_Sync.j1] at h⟩
 | k + 1 => by
  obtain ⟨ih0, ih1⟩ := host_Sync.mono_l k
  refine ⟨?_, ?_⟩
  ·intro y0 y1 y2 y3 y4 y5 y6 y7 y8 y9 y10 y11 y12 y13 y14 y15 y16
   unfold host_Sync.j0
   repeat' first
   | (with_reducible exact ih0 _ _ _ _ _ _ _ _ _ _ _ _ _ _ _ _ _)
   | (with_reducible exact ih1 _ _ _ _ _ _ _ _ _ _ _ _ _ _ _ _ _)
   | (with_reducible exact host_Check.mono _ _ _ _ _ _ _ _ _ _ _ _ _ _)
   | (with_reducible exact host_Host_reckoned.mono _ _ _ _ _ _ _ _ _ _ _ _ _ _ _)
   | (with_reducible exact LeO.refl _)
   | (with_reducible exact LeO.none _)
   | (with_reducible refine LeO.ite ?_ ?_)
   | (with_reducible refine LeO.bind ?_ (fun _ => ?_))
   | exact ih0 _ _ _ _ _ _ _ _ _ _ _ _ _ _ _ _ _
   | exact ih1 _ _ _ _ _ _ _ _ _ _ _ _ _ _ _ _ _
   | exact host_Check.mono _ _ _ _ _ _ _ _ _ _ _ _ _ _
   | exact host_Host_reckoned.mono _ _ _ _ _ _ _ _ _ _ _ _ _ _ _
   | exact LeO.none _
   | refine LeO.ite ?_ ?_
   | refine LeO.bind ?_ (fun _ => ?_)
  ·intro y0 y1 y2 y3 y4 y5 y6 y7 y8 y9 y10 y11 y12 y13 y14 y15 y16
   unfold host_Sync.j1
   repeat' first
   | (with_reducible exact ih0 _ _ _ _ _ _ _ _ _ _ _ _ _ _ _ _ _)
   | (with_reducible exact ih1 _ _ _ _ _ _ _ _ _ _ _ _ _ _ _ _ _)
   | (with_reducible exact host_Check.mono _ _ _ _ _ _ _ _ _ _ _ _ _ _)
   | (with_reducible exact host_Host_reckoned.mono _ _ _ _ _ _ _ _ _ _ _ _ _ _ _)
   | (with_reducible exact LeO.refl _)
   | (with_reducible exact LeO.none _)
   | (with_reducible refine LeO.ite ?_ ?_)
   | (with_reducible refine LeO.bind ?_ (fun _ => ?_))
   | exact ih0 _ _ _ _ _ _ _ _ _ _ _ _ _ _ _ _ _
   | exact ih1 _ _ _ _ _ _ _ _ _ _ _ _ _ _ _ _ _
   | exact host_Check.mono _ _ _ _ _ _ _ _ _ _ _ _ _ _
   | exact host_Host_reckoned.mono _ _ _ _ _ _ _ _ _ _ _ _ _ _ _
   | exact LeO.none _
   | refine LeO.ite ?_ ?_
   | refine LeO.bind ?_ (fun _ => ?_)
theorem host_Sync.mono : ∀ a0 a1 a2 a3 a4 a5 a6 a7 a8 a9 a10 a11 a12 a13 a14 a15 k, LeO (host_Sync.f k a0 a1 a2 a3 a4 a5 a6 a7 a8 a9 a10 a11 a12 a13 a14 a15) (host_Sync.f (k + 1) a0 a1 a2 a3 a4 a5 a6 a7 a8 a9 a10 a11 a12 a13 a14 a15) := by
 intro a0 a1 a2 a3 a4 a5 a6 a7 a8 a9 a10 a11 a12 a13 a14 a15 k
 obtain ⟨ih0, ih1⟩ := host_Sync.mono_l k
 unfold host_Sync.f
 repeat' first
   | (with_reducible exact ih0 _ _ _ _ _ _ _ _ _ _ _ _ _ _ _ _ _)
   | (with_reducible exact ih1 _ _ _ _ _ _ _ _ _ _ _ _ _ _ _ _ _)
   | (with_reducible exact host_Check.mono _ _ _ _ _ _ _ _ _ _ _ _ _ _)
   | (with_reducible exact host_Host_reckoned.mono _ _ _ _ _ _ _ _ _ _ _ _ _ _ _)
   | (with_reducible exact LeO.refl _)
   | (with_reducible exact LeO.none _)
   | (with_reducible refine LeO.ite ?_ ?_)
   | (with_reducible refine LeO.bind ?_ (fun _ => ?_))
   | exact ih0 _ _ _ _ _ _ _ _ _ _ _ _ _ _ _ _ _
   | exact ih1 _ _ _ _ _ _ _ _ _ _ _ _ _ _ _ _ _
   | exact host_Check.mono _ _ _ _ _ _ _ _ _ _ _ _ _ _
   | exact host_Host_reckoned.mono _ _ _ _ _ _ _ _ _ _ _ _ _ _ _
   | exact LeO.none _
   | refine LeO.ite ?_ ?_
   | refine LeO.bind ?_ (fun _ => ?_)
def host_Sync.T10 : Bool × List (List Nat × List Nat) := (true, [([], []), ([], []), ([], []), ([1, 2], [1, 2]), ([], []), ([], []), ([4, 5, 3], [4, 5]), ([3, 6], [3, 6]), ([0, 7, 6], [0, 7]), ([8], [8]), ([9], [9]), ([9], [9]), ([], []), ([12, 10, 8, 0, 1, 2, 3, 4, 5, 6, 7, 8, 9, 10, 12], [10, 12]), ([11, 13, 0, 1, 2, 3, 4, 5, 6, 7, 8, 9, 10, 11, 12, 13], [11])])
def host_Sync.B10 : List Nat := [0, 0, 0, 6, 0, 0, 62, 126, 255, 511, 1023, 1023, 0, 6143, 16383]
theorem host_Sync.tab10 : rtab .any (opsOf Tryd.f60 10) = host_Sync.T10 := by kernel_rfl
theorem host_Sync.bits10 : waitsOk host_Sync.T10.2 host_Sync.B10 = true := by kernel_rfl
def host_Sync.T16 : Bool × List (List Nat × List Nat) := (true, [([], []), ([0], [0]), ([], []), ([2], [2]), ([3], [3]), ([], []), ([5], [5]), ([6], [6]), ([], []), ([8], [8]), ([], []), ([9, 10], [9, 10]), ([1, 4, 7, 11, 11], [1, 4, 7, 11]), ([12], [12]), ([13], [13]), ([13], [13]), ([0, 1, 2, 3, 4, 5, 6, 7, 8, 9, 10, 11, 12, 13, 14], []), ([16, 14, 12, 0, 1, 2, 3, 4, 5, 6, 7, 8, 9, 10, 11, 12, 13, 14], [14, 16]), ([15, 17, 0, 1, 2, 3, 4, 5, 6, 7, 8, 9, 10, 11, 12, 13, 14, 15, 16, 17], [15])])
def host_Sync.B16 : List Nat := [0, 1, 0, 4, 12, 0, 32, 96, 0, 256, 0, 1792, 4095, 8191, 16383, 16383, 32767, 98303, 262143]
theorem host_Sync.tab16 : rtab .any (opsOf Tryd.f60 16) = host_Sync.T16 := by kernel_rfl
theorem host_Sync.bits16 : waitsOk host_Sync.T16.2 host_Sync.B16 = true := by kernel_rfl
set_option maxHeartbeats 8000000 in
set_option maxRecDepth 100000 in
theorem host_Sync.calls (k : Nat) (a0_0 : Int) (a0_1 : Int) (a0_2 : Int) (a0_3 : Int) (a0_4 : Int) (a0_5 : Int) (a0_6 : Int) (a0_7 : Bool) (a0_8 : Int) (a0_9 : Int) (a0_10 : Int) (a0_11 : Int) (a0_12 : Int) (a1 : Int) (a2_0 : Int) (a2_1 : Int) (r1 : Int) (r2 : Int) (r3 : Int) (r4 : Int) (r5 : Int) (r6 : Int) (r7 : Int) (r8 : Bool) (r9 : Int) (r10 : Int) (r11 : Int) (r12 : Int) (r13 : Int) (r14 : Option Int) (w : World) (h : host_Sync.f k a0_0 a0_1 a0_2 a0_3 a0_4 a0_5 a0_6 a0_7 a0_8 a0_9 a0_10 a0_11 a0_12 a1 a2_0 a2_1 = some (r1, r2, r3, r4, r5, r6, r7, r8, r9, r10, r11, r12, r13, r14)) :
  Calls Tryd.prog 60 #[.agg #[.int .u32 a0_0, .int .i64 a0_1, .int .i64 a0_2, .int .i64 a0_3, .int .i64 a0_4, .int .i64 a0_5, .int .i64 a0_6, .bool a0_7, .int .i64 a0_8, .int .i64 a0_9, .int .i64 a0_10, .int .i64 a0_11, .int .i64 a0_12], .int .i64 a1, .agg #[.int .i64 a2_0, .int .i64 a2_1]] w fun e w' => e = .returned (.tuple #[.agg #[.int .u32 r1, .int .i64 r2, .int .i64 r3, .int .i64 r4, .int .i64 r5, .int .i64 r6, .int .i64 r7, .bool r8, .int .i64 r9, .int .i64 r10, .int .i64 r11, .int .i64 r12, .int .i64 r13], errW r14]) ∧ Below w.heap.size w w' := by
 have hu137 := Tryd.underlying137
 have hu86 := Tryd.underlying86
 have hu135 := Tryd.underlying135
 have hu132 := Tryd.underlying132
 have hu31 := Tryd.underlying31
 have hu162 := Tryd.underlying162
 have HB := qS (Below.refl w.heap.size w)
 have H : ((host_Check.f k a0_0 a0_1 a0_2 a0_3 a0_4 a0_5 a0_6 a0_7 a0_8 a0_9 a0_10 a0_11 a0_12).bind fun t280 => (if t280.isNone = true then (if a1 < 0 then (host_Sync.j0 k a1 true a0_0 a0_1 a0_2 a0_3 a0_4 a0_5 a0_6 a0_7 a0_8 a0_9 a0_10 a0_11 a0_12 a2_0 a2_1) else (if a1 > 1152921504606846976 then (host_Sync.j0 k a1 true a0_0 a0_1 a0_2 a0_3 a0_4 a0_5 a0_6 a0_7 a0_8 a0_9 a0_10 a0_11 a0_12 a2_0 a2_1) else ((span_Check.f a2_0 a2_1).bind fun t282 => (if t282.isNone = true then (if a2_0 ≤ (-2305843009213693952) then (host_Sync.j0 k a1 true a0_0 a0_1 a0_2 a0_3 a0_4 a0_5 a0_6 a0_7 a0_8 a0_9 a0_10 a0_11 a0_12 a2_0 a2_1) else (host_Sync.j0 k a1 (decide (a2_1 ≥ 2305843009213693952)) a0_0 a0_1 a0_2 a0_3 a0_4 a0_5 a0_6 a0_7 a0_8 a0_9 a0_10 a0_11 a0_12 a2_0 a2_1)) else (host_Sync.j0 k a1 true a0_0 a0_1 a0_2 a0_3 a0_4 a0_5 a0_6 a0_7 a0_8 a0_9 a0_10 a0_11 a0_12 a2_0 a2_1))))) else (host_Sync.j0 k a1 true a0_0 a0_1 a0_2 a0_3 a0_4 a0_5 a0_6 a0_7 a0_8 a0_9 a0_10 a0_11 a0_12 a2_0 a2_1))) = some (r1, r2, r3, r4, r5, r6, r7, r8, r9, r10, r11, r12, r13, r14) := h
 clear h
 have HC4 := qS H
 clear H
 go_enter Tryd.func60, Tryd.ntmps60
 go_upto_region 1 with (first | ((with_reducible refine gate_dst (N := 3) rfl ?_); refine box_event ?hg (N := 3) ?hd (cs := #[.int .u32 a0_0, .int .i64 a0_1, .int .i64 a0_2, .int .i64 a0_3, .int .i64 a0_4, .int .i64 a0_5, .int .i64 a0_6, .bool a0_7, .int .i64 a0_8, .int .i64 a0_9, .int .i64 a0_10, .int .i64 a0_11, .int .i64 a0_12]) (t := 137) ?hr ?_; (case hd => rfl); (case hg => rfl); (case hr => first | (go_simp; done) | (go_simp; rfl)); intro gb277 hg w5 hbox hb; have n0_ := qS (below_step (bW0 HB.out) hb); have n1_ := qS (hbox); have n2_ := qS ((by rw [hg]; exact (below_size (bW0 HB.out)) : w.heap.size ≤ gb277)); have n3_ := qS ((by rw [hg]; exact (below_size (bW0 HB.out)) : w.heap.size ≤ gb277)); clear HB; have HB := n0_; have BK277 := n1_; have GW277 := n2_; have GE277 := n3_; clear n0_ n1_ n2_ n3_; clear hb hbox hg) | ((with_reducible refine gate_dst (N := 5) rfl ?_); refine box_event ?hg (N := 5) ?hd (cs := #[.int .i64 a2_0, .int .i64 a2_1]) (t := 86) ?hr ?_; (case hd => rfl); (case hg => rfl); (case hr => first | (go_simp; done) | (go_simp; rfl)); intro gb278 hg w6 hbox hb; have n0_ := qS (qB (g := gb277) (o := .cells (ce10_0 a0_0 a0_1 a0_2 a0_3 a0_4 a0_5 a0_6 a0_7 a0_8 a0_9 a0_10 a0_11 a0_12) 137 (0, 0)) (qW BK277.out) hb); have n1_ := qS (below_step (bW1 HB.out GE277.out) hb); have n2_ := qS (hbox); have n3_ := qS ((by rw [hg]; exact (below_size (bW1 HB.out GE277.out)) : w.heap.size ≤ gb278)); have n4_ := qS ((by rw [hg]; exact (below_size (bW1 HB.out GE277.out)) : w.heap.size ≤ gb278)); have n5_ := qS ((by rw [hg]; exact Nat.ne_of_lt (blk_lt (g := gb277) (o := .cells (ce10_0 a0_0 a0_1 a0_2 a0_3 a0_4 a0_5 a0_6 a0_7 a0_8 a0_9 a0_10 a0_11 a0_12) 137 (0, 0)) (qW BK277.out)) : gb277 ≠ gb278)); have n6_ := qS ((by rw [hg]; exact Nat.ne_of_gt (blk_lt (g := gb277) (o := .cells (ce10_0 a0_0 a0_1 a0_2 a0_3 a0_4 a0_5 a0_6 a0_7 a0_8 a0_9 a0_10 a0_11 a0_12) 137 (0, 0)) (qW BK277.out)) : gb278 ≠ gb277)); clear BK277; clear HB; have BK277 := n0_; have HB := n1_; have BK278 := n2_; have GW278 := n3_; have GE278 := n4_; have NB277_278 := n5_; have NB278_277 := n6_; clear n0_ n1_ n2_ n3_ n4_ n5_ n6_; clear hb hbox hg) | ((with_reducible refine gate_dst (N := 6) rfl ?_); refine box_event ?hg (N := 6) ?hd (cs := #[.int .u32 0, .int .i64 0, .int .i64 0, .int .i64 0, .int .i64 0, .int .i64 0, .int .i64 0, .bool false, .int .i64 0, .int .i64 0, .int .i64 0, .int .i64 0, .int .i64 0]) (t := 137) ?hr ?_; (case hd => rfl); (case hg => rfl); (case hr => first | (go_simp; done) | (go_simp; rfl)); intro gb279 hg w7 hbox hb; have n0_ := qS (qB (g := gb277) (o := .cells (ce10_0 a0_0 a0_1 a0_2 a0_3 a0_4 a0_5 a0_6 a0_7 a0_8 a0_9 a0_10 a0_11 a0_12) 137 (0, 0)) (qW BK277.out) hb); have n1_ := qS (qB (g := gb278) (o := .cells #[.int .i64 a2_0, .int .i64 a2_1] 86 (0, 0)) (qW BK278.out) hb); have n2_ := qS (below_step (bW2 HB.out GE277.out GE278.out) hb); have n3_ := qS (hbox); have n4_ := qS ((by rw [hg]; exact (below_size (bW2 HB.out GE277.out GE278.out)) : w.heap.size ≤ gb279)); have n5_ := qS ((by rw [hg]; exact (below_size (bW2 HB.out GE277.out GE278.out)) : w.heap.size ≤ gb279)); have n6_ := qS ((by rw [hg]; exact Nat.ne_of_lt (blk_lt (g := gb277) (o := .cells (ce10_0 a0_0 a0_1 a0_2 a0_3 a0_4 a0_5 a0_6 a0_7 a0_8 a0_9 a0_10 a0_11 a0_12) 137 (0, 0)) (qW BK277.out)) : gb277 ≠ gb279)); have n7_ := qS ((by rw [hg]; exact Nat.ne_of_gt (blk_lt (g := gb277) (o := .cells (ce10_0 a0_0 a0_1 a0_2 a0_3 a0_4 a0_5 a0_6 a0_7 a0_8 a0_9 a0_10 a0_11 a0_12) 137 (0, 0)) (qW BK277.out)) : gb279 ≠ gb277)); have n8_ := qS ((by rw [hg]; exact Nat.ne_of_lt (blk_lt (g := gb278) (o := .cells #[.int .i64 a2_0, .int .i64 a2_1] 86 (0, 0)) (qW BK278.out)) : gb278 ≠ gb279)); have n9_ := qS ((by rw [hg]; exact Nat.ne_of_gt (blk_lt (g := gb278) (o := .cells #[.int .i64 a2_0, .int .i64 a2_1] 86 (0, 0)) (qW BK278.out)) : gb279 ≠ gb278)); clear BK277; clear BK278; clear HB; have BK277 := n0_; have BK278 := n1_; have HB := n2_; have BK279 := n3_; have GW279 := n4_; have GE279 := n5_; have NB277_279 := n6_; have NB279_277 := n7_; have NB278_279 := n8_; have NB279_278 := n9_; clear n0_ n1_ n2_ n3_ n4_ n5_ n6_ n7_ n8_ n9_; clear hb hbox hg))
 (try simp only [Act.put, List.setIfInBounds_toArray, List.set_cons_zero, List.set_cons_succ])
 go_cut [39] (fun v39 wc => ∃ (kq : Nat) (x39_3 : Bool), v39 = .bool x39_3 ∧ Aside0 (host_Sync.j0 kq a1 x39_3 a0_0 a0_1 a0_2 a0_3 a0_4 a0_5 a0_6 a0_7 a0_8 a0_9 a0_10 a0_11 a0_12 a2_0 a2_1 = some (r1, r2, r3, r4, r5, r6, r7, r8, r9, r10, r11, r12, r13, r14)) ∧ Aside0 (kq ≤ k) ∧ Aside0 (wc.heap[gb277]? = some (.cells (ce10_0 a0_0 a0_1 a0_2 a0_3 a0_4 a0_5 a0_6 a0_7 a0_8 a0_9 a0_10 a0_11 a0_12) 137 (0, 0))) ∧ Aside0 (wc.heap[gb278]? = some (.cells #[.int .i64 a2_0, .int .i64 a2_1] 86 (0, 0))) ∧ Aside0 (wc.heap[gb279]? = some (.cells (ce10_0 0 0 0 0 0 0 0 false 0 0 0 0 0) 137 (0, 0))) ∧ Aside0 (Below w.heap.size w wc))
 case first =>
  have H := HC4.out
  clear HC4
  replace H := Option.bind_eq_some_iff.mp H
  obtain ⟨t280, A80, H⟩ := H
  replace H : (if t280.isNone = true then (if a1 < 0 then (host_Sync.j0 k a1 true a0_0 a0_1 a0_2 a0_3 a0_4 a0_5 a0_6 a0_7 a0_8 a0_9 a0_10 a0_11 a0_12 a2_0 a2_1) else (if a1 > 1152921504606846976 then (host_Sync.j0 k a1 true a0_0 a0_1 a0_2 a0_3 a0_4 a0_5 a0_6 a0_7 a0_8 a0_9 a0_10 a0_11 a0_12 a2_0 a2_1) else ((span_Check.f a2_0 a2_1).bind fun t282 => (if t282.isNone = true then (if a2_0 ≤ (-2305843009213693952) then (host_Sync.j0 k a1 true a0_0 a0_1 a0_2 a0_3 a0_4 a0_5 a0_6 a0_7 a0_8 a0_9 a0_10 a0_11 a0_12 a2_0 a2_1) else (host_Sync.j0 k a1 (decide (a2_1 ≥ 2305843009213693952)) a0_0 a0_1 a0_2 a0_3 a0_4 a0_5 a0_6 a0_7 a0_8 a0_9 a0_10 a0_11 a0_12 a2_0 a2_1)) else (host_Sync.j0 k a1 true a0_0 a0_1 a0_2 a0_3 a0_4 a0_5 a0_6 a0_7 a0_8 a0_9 a0_10 a0_11 a0_12 a2_0 a2_1))))) else (host_Sync.j0 k a1 true a0_0 a0_1 a0_2 a0_3 a0_4 a0_5 a0_6 a0_7 a0_8 a0_9 a0_10 a0_11 a0_12 a2_0 a2_1)) = some (r1, r2, r3, r4, r5, r6, r7, r8, r9, r10, r11, r12, r13, r14) := H
  have A8 := qS A80
  clear A80
  rcases t280 with _ | q281
  ·have H1 : (if a1 < 0 then (host_Sync.j0 k a1 true a0_0 a0_1 a0_2 a0_3 a0_4 a0_5 a0_6 a0_7 a0_8 a0_9 a0_10 a0_11 a0_12 a2_0 a2_1) else (if a1 > 1152921504606846976 then (host_Sync.j0 k a1 true a0_0 a0_1 a0_2 a0_3 a0_4 a0_5 a0_6 a0_7 a0_8 a0_9 a0_10 a0_11 a0_12 a2_0 a2_1) else ((span_Check.f a2_0 a2_1).bind fun t282 => (if t282.isNone = true then (if a2_0 ≤ (-2305843009213693952) then (host_Sync.j0 k a1 true a0_0 a0_1 a0_2 a0_3 a0_4 a0_5 a0_6 a0_7 a0_8 a0_9 a0_10 a0_11 a0_12 a2_0 a2_1) else (host_Sync.j0 k a1 (decide (a2_1 ≥ 2305843009213693952)) a0_0 a0_1 a0_2 a0_3 a0_4 a0_5 a0_6 a0_7 a0_8 a0_9 a0_10 a0_11 a0_12 a2_0 a2_1)) else (host_Sync.j0 k a1 true a0_0 a0_1 a0_2 a0_3 a0_4 a0_5 a0_6 a0_7 a0_8 a0_9 a0_10 a0_11 a0_12 a2_0 a2_1))))) = some (r1, r2, r3, r4, r5, r6, r7, r8, r9, r10, r11, r12, r13, r14) := by rw [if_pos (show (none : Option Int).isNone = true by rfl)] at H; exact H
   clear H
   have H := H1
   clear H1
   try simp only [errW_none, errW_some]
   by_cases c9 : a1 < 0
   ·rw [if_pos c9] at H
    have c9b0 : decide (a1 < 0) = true := decide_eq_true c9
    clear c9
    (first | rw [c9b0] | (simp only [i64_w, i32_w]; rw [c9b0]) | skip)
    as_aux_lemma =>
     have H' := qS H
     clear H
     have hnb10 := NB277_278.out
     have hnc10 := NB278_277.out
     have hnb11 := NB277_279.out
     have hnc11 := NB279_277.out
     obtain ⟨hcz12_0, hcz12_1, hcz12_2, hcz12_3, hcz12_4, hcz12_5, hcz12_6, hcz12_7, hcz12_8, hcz12_9, hcz12_10, hcz12_11, hcz12_12, hfz12_0, hfz12_1, hfz12_2, hfz12_3, hfz12_4, hfz12_5, hfz12_6, hfz12_7, hfz12_8, hfz12_9, hfz12_10, hfz12_11, hfz12_12⟩ := cz13 BK277.out
     go_wp2_with (first | ((with_reducible refine gate_dst (N := 14) rfl ?_); refine rowget_event rfl rfl gb277 0 137 #[.int .u32 a0_0, .int .i64 a0_1, .int .i64 a0_2, .int .i64 a0_3, .int .i64 a0_4, .int .i64 a0_5, .int .i64 a0_6, .bool a0_7, .int .i64 a0_8, .int .i64 a0_9, .int .i64 a0_10, .int .i64 a0_11, .int .i64 a0_12] #[.int .u32 a0_0, .int .i64 a0_1, .int .i64 a0_2, .int .i64 a0_3, .int .i64 a0_4, .int .i64 a0_5, .int .i64 a0_6, .bool a0_7, .int .i64 a0_8, .int .i64 a0_9, .int .i64 a0_10, .int .i64 a0_11, .int .i64 a0_12] _ rfl (qW BK277.out) rfl Tryd.underlying137 rfl (by kernel_rfl) ?_) | (go_at_call 63; refine calls_of_args (args' := #[.agg #[.int .u32 a0_0, .int .i64 a0_1, .int .i64 a0_2, .int .i64 a0_3, .int .i64 a0_4, .int .i64 a0_5, .int .i64 a0_6, .bool a0_7, .int .i64 a0_8, .int .i64 a0_9, .int .i64 a0_10, .int .i64 a0_11, .int .i64 a0_12]]) ?_ ?_; (focus (first | (rw [show (a0_7) = true by with_reducible assumption]) | (rw [show (a0_7) = false by with_reducible assumption]) | rfl | (simp only [*]; done) | (simp [*]; done))); (with_reducible refine (host_Check.calls k a0_0 a0_1 a0_2 a0_3 a0_4 a0_5 a0_6 a0_7 a0_8 a0_9 a0_10 a0_11 a0_12 none _ A8.out).mono ?_); rintro e w13 ⟨rfl, hb⟩; have n0_ := qS (qB (g := gb277) (o := .cells (ce10_0 a0_0 a0_1 a0_2 a0_3 a0_4 a0_5 a0_6 a0_7 a0_8 a0_9 a0_10 a0_11 a0_12) 137 (0, 0)) (qW BK277.out) hb); have n1_ := qS (qB (g := gb278) (o := .cells #[.int .i64 a2_0, .int .i64 a2_1] 86 (0, 0)) (qW BK278.out) hb); have n2_ := qS (qB (g := gb279) (o := .cells (ce10_0 0 0 0 0 0 0 0 false 0 0 0 0 0) 137 (0, 0)) (qW BK279.out) hb); have n3_ := qS (below_step (bW3 HB.out GE277.out GE278.out GE279.out) hb); clear BK277; clear BK278; clear BK279; clear HB; have BK277 := n0_; have BK278 := n1_; have BK279 := n2_; have HB := n3_; clear n0_ n1_ n2_ n3_; (try clear hb); (try clear hb2); (try clear hk); (try clear hi); (try simp only [errW_none, errW_some])))
     go_meet
     case rel => exact ⟨_, (true), (by first | rfl | (simp; done) | (simp [*]; done)), H', ⟨by first | omega | exact Nat.le_refl _⟩, ⟨by (with_reducible repeat (first | refine qN ?_ _ | refine qD ?_ | refine qA ?_ _)); exact BK277.out⟩, ⟨by (with_reducible repeat (first | refine qN ?_ _ | refine qD ?_ | refine qA ?_ _)); exact BK278.out⟩, ⟨by (with_reducible repeat (first | refine qN ?_ _ | refine qD ?_ | refine qA ?_ _)); exact BK279.out⟩, ⟨by repeat (first | (with_reducible first | exact HB.out | apply qpA | apply qpN | apply qp1 | refine qpS ?_ GE277.out | refine qpS ?_ GE278.out | refine qpS ?_ GE279.out) | exact HB.out)⟩⟩
   ·rw [if_neg c9] at H
    have c9b0 : decide (a1 < 0) = false := decide_eq_false c9
    clear c9
    (first | rw [c9b0] | (simp only [i64_w, i32_w]; rw [c9b0]) | skip)
    by_cases c14 : a1 > 1152921504606846976
    ·rw [if_pos c14] at H
     have c14b0 : decide (1152921504606846976 < a1) = true := decide_eq_true c14
     clear c14
     as_aux_lemma =>
      have H' := qS H
      clear H
      have hnb15 := NB277_278.out
      have hnc15 := NB278_277.out
      have hnb16 := NB277_279.out
      have hnc16 := NB279_277.out
      obtain ⟨hcz17_0, hcz17_1, hcz17_2, hcz17_3, hcz17_4, hcz17_5, hcz17_6, hcz17_7, hcz17_8, hcz17_9, hcz17_10, hcz17_11, hcz17_12, hfz17_0, hfz17_1, hfz17_2, hfz17_3, hfz17_4, hfz17_5, hfz17_6, hfz17_7, hfz17_8, hfz17_9, hfz17_10, hfz17_11, hfz17_12⟩ := cz13 BK277.out
      go_wp2_with (first | ((with_reducible refine gate_dst (N := 14) rfl ?_); refine rowget_event rfl rfl gb277 0 137 #[.int .u32 a0_0, .int .i64 a0_1, .int .i64 a0_2, .int .i64 a0_3, .int .i64 a0_4, .int .i64 a0_5, .int .i64 a0_6, .bool a0_7, .int .i64 a0_8, .int .i64 a0_9, .int .i64 a0_10, .int .i64 a0_11, .int .i64 a0_12] #[.int .u32 a0_0, .int .i64 a0_1, .int .i64 a0_2, .int .i64 a0_3, .int .i64 a0_4, .int .i64 a0_5, .int .i64 a0_6, .bool a0_7, .int .i64 a0_8, .int .i64 a0_9, .int .i64 a0_10, .int .i64 a0_11, .int .i64 a0_12] _ rfl (qW BK277.out) rfl Tryd.underlying137 rfl (by kernel_rfl) ?_) | (go_at_call 63; refine calls_of_args (args' := #[.agg #[.int .u32 a0_0, .int .i64 a0_1, .int .i64 a0_2, .int .i64 a0_3, .int .i64 a0_4, .int .i64 a0_5, .int .i64 a0_6, .bool a0_7, .int .i64 a0_8, .int .i64 a0_9, .int .i64 a0_10, .int .i64 a0_11, .int .i64 a0_12]]) ?_ ?_; (focus (first | (rw [show (a0_7) = true by with_reducible assumption]) | (rw [show (a0_7) = false by with_reducible assumption]) | rfl | (simp only [*]; done) | (simp [*]; done))); (with_reducible refine (host_Check.calls k a0_0 a0_1 a0_2 a0_3 a0_4 a0_5 a0_6 a0_7 a0_8 a0_9 a0_10 a0_11 a0_12 none _ A8.out).mono ?_); rintro e w18 ⟨rfl, hb⟩; have n0_ := qS (qB (g := gb277) (o := .cells (ce10_0 a0_0 a0_1 a0_2 a0_3 a0_4 a0_5 a0_6 a0_7 a0_8 a0_9 a0_10 a0_11 a0_12) 137 (0, 0)) (qW BK277.out) hb); have n1_ := qS (qB (g := gb278) (o := .cells #[.int .i64 a2_0, .int .i64 a2_1] 86 (0, 0)) (qW BK278.out) hb); have n2_ := qS (qB (g := gb279) (o := .cells (ce10_0 0 0 0 0 0 0 0 false 0 0 0 0 0) 137 (0, 0)) (qW BK279.out) hb); have n3_ := qS (below_step (bW3 HB.out GE277.out GE278.out GE279.out) hb); clear BK277; clear BK278; clear BK279; clear HB; have BK277 := n0_; have BK278 := n1_; have BK279 := n2_; have HB := n3_; clear n0_ n1_ n2_ n3_; (try clear hb); (try clear hb2); (try clear hk); (try clear hi); (try simp only [errW_none, errW_some])))
      go_meet
      case rel => exact ⟨_, (true), (by first | rfl | (simp; done) | (simp [*]; done)), H', ⟨by first | omega | exact Nat.le_refl _⟩, ⟨by (with_reducible repeat (first | refine qN ?_ _ | refine qD ?_ | refine qA ?_ _)); exact BK277.out⟩, ⟨by (with_reducible repeat (first | refine qN ?_ _ | refine qD ?_ | refine qA ?_ _)); exact BK278.out⟩, ⟨by (with_reducible repeat (first | refine qN ?_ _ | refine qD ?_ | refine qA ?_ _)); exact BK279.out⟩, ⟨by repeat (first | (with_reducible first | exact HB.out | apply qpA | apply qpN | apply qp1 | refine qpS ?_ GE277.out | refine qpS ?_ GE278.out | refine qpS ?_ GE279.out) | exact HB.out)⟩⟩
    ·rw [if_neg c14] at H
     have c14b0 : decide (1152921504606846976 < a1) = false := decide_eq_false c14
     clear c14
     replace H := Option.bind_eq_some_iff.mp H
     obtain ⟨t282, A190, H⟩ := H
     replace H : (if t282.isNone = true then (if a2_0 ≤ (-2305843009213693952) then (host_Sync.j0 k a1 true a0_0 a0_1 a0_2 a0_3 a0_4 a0_5 a0_6 a0_7 a0_8 a0_9 a0_10 a0_11 a0_12 a2_0 a2_1) else (host_Sync.j0 k a1 (decide (a2_1 ≥ 2305843009213693952)) a0_0 a0_1 a0_2 a0_3 a0_4 a0_5 a0_6 a0_7 a0_8 a0_9 a0_10 a0_11 a0_12 a2_0 a2_1)) else (host_Sync.j0 k a1 true a0_0 a0_1 a0_2 a0_3 a0_4 a0_5 a0_6 a0_7 a0_8 a0_9 a0_10 a0_11 a0_12 a2_0 a2_1)) = some (r1, r2, r3, r4, r5, r6, r7, r8, r9, r10, r11, r12, r13, r14) := H
     have A19 := qS A190
     clear A190
     rcases t282 with _ | q283
     ·have H1 : (if a2_0 ≤ (-2305843009213693952) then (host_Sync.j0 k a1 true a0_0 a0_1 a0_2 a0_3 a0_4 a0_5 a0_6 a0_7 a0_8 a0_9 a0_10 a0_11 a0_12 a2_0 a2_1) else (host_Sync.j0 k a1 (decide (a2_1 ≥ 2305843009213693952)) a0_0 a0_1 a0_2 a0_3 a0_4 a0_5 a0_6 a0_7 a0_8 a0_9 a0_10 a0_11 a0_12 a2_0 a2_1)) = some (r1, r2, r3, r4, r5, r6, r7, r8, r9, r10, r11, r12, r13, r14) := by rw [if_pos (show (none : Option Int).isNone = true by rfl)] at H; exact H
      clear H
      have H := H1
      clear H1
      try simp only [errW_none, errW_some]
      by_cases c20 : a2_0 ≤ (-2305843009213693952)
      ·rw [if_pos c20] at H
       have c20b0 : decide (a2_0 ≤ (-2305843009213693952)) = true := decide_eq_true c20
       clear c20
       as_aux_lemma =>
        have H' := qS H
        clear H
        have hnb21 := NB277_278.out
        have hnc21 := NB278_277.out
        have hnb22 := NB277_279.out
        have hnc22 := NB279_277.out
        obtain ⟨hcz23_0, hcz23_1, hcz23_2, hcz23_3, hcz23_4, hcz23_5, hcz23_6, hcz23_7, hcz23_8, hcz23_9, hcz23_10, hcz23_11, hcz23_12, hfz23_0, hfz23_1, hfz23_2, hfz23_3, hfz23_4, hfz23_5, hfz23_6, hfz23_7, hfz23_8, hfz23_9, hfz23_10, hfz23_11, hfz23_12⟩ := cz13 BK277.out
        go_wp2_with (first | ((with_reducible refine gate_dst (N := 14) rfl ?_); refine rowget_event rfl rfl gb277 0 137 #[.int .u32 a0_0, .int .i64 a0_1, .int .i64 a0_2, .int .i64 a0_3, .int .i64 a0_4, .int .i64 a0_5, .int .i64 a0_6, .bool a0_7, .int .i64 a0_8, .int .i64 a0_9, .int .i64 a0_10, .int .i64 a0_11, .int .i64 a0_12] #[.int .u32 a0_0, .int .i64 a0_1, .int .i64 a0_2, .int .i64 a0_3, .int .i64 a0_4, .int .i64 a0_5, .int .i64 a0_6, .bool a0_7, .int .i64 a0_8, .int .i64 a0_9, .int .i64 a0_10, .int .i64 a0_11, .int .i64 a0_12] _ rfl (qW BK277.out) rfl Tryd.underlying137 rfl (by kernel_rfl) ?_) | (go_at_call 63; refine calls_of_args (args' := #[.agg #[.int .u32 a0_0, .int .i64 a0_1, .int .i64 a0_2, .int .i64 a0_3, .int .i64 a0_4, .int .i64 a0_5, .int .i64 a0_6, .bool a0_7, .int .i64 a0_8, .int .i64 a0_9, .int .i64 a0_10, .int .i64 a0_11, .int .i64 a0_12]]) ?_ ?_; (focus (first | (rw [show (a0_7) = true by with_reducible assumption]) | (rw [show (a0_7) = false by with_reducible assumption]) | rfl | (simp only [*]; done) | (simp [*]; done))); (with_reducible refine (host_Check.calls k a0_0 a0_1 a0_2 a0_3 a0_4 a0_5 a0_6 a0_7 a0_8 a0_9 a0_10 a0_11 a0_12 none _ A8.out).mono ?_); rintro e w24 ⟨rfl, hb⟩; have n0_ := qS (qB (g := gb277) (o := .cells (ce10_0 a0_0 a0_1 a0_2 a0_3 a0_4 a0_5 a0_6 a0_7 a0_8 a0_9 a0_10 a0_11 a0_12) 137 (0, 0)) (qW BK277.out) hb); have n1_ := qS (qB (g := gb278) (o := .cells #[.int .i64 a2_0, .int .i64 a2_1] 86 (0, 0)) (qW BK278.out) hb); have n2_ := qS (qB (g := gb279) (o := .cells (ce10_0 0 0 0 0 0 0 0 false 0 0 0 0 0) 137 (0, 0)) (qW BK279.out) hb); have n3_ := qS (below_step (bW3 HB.out GE277.out GE278.out GE279.out) hb); clear BK277; clear BK278; clear BK279; clear HB; have BK277 := n0_; have BK278 := n1_; have BK279 := n2_; have HB := n3_; clear n0_ n1_ n2_ n3_; (try clear hb); (try clear hb2); (try clear hk); (try clear hi); (try simp only [errW_none, errW_some]); have hnb25 := NB278_279.out; have hnc25 := NB279_278.out; have hcz26_0 : w24.cell? ⟨gb278, 0, none⟩ = some (.int .i64 a2_0) := (qC BK278.out 0).trans rfl; have hcz26_1 : w24.cell? ⟨gb278, 1, none⟩ = some (.int .i64 a2_1) := (qC BK278.out 1).trans rfl; have hfz26_0 := qF BK278.out 0; have hfz26_1 := qF BK278.out 1) | (go_at_call 116; (with_reducible refine (span_Check.calls a2_0 a2_1 none _ A19.out).mono ?_); rintro e w27 ⟨rfl, hb⟩; have n0_ := qS (qB (g := gb277) (o := .cells (ce10_0 a0_0 a0_1 a0_2 a0_3 a0_4 a0_5 a0_6 a0_7 a0_8 a0_9 a0_10 a0_11 a0_12) 137 (0, 0)) (qW BK277.out) hb); have n1_ := qS (qB (g := gb278) (o := .cells #[.int .i64 a2_0, .int .i64 a2_1] 86 (0, 0)) (qW BK278.out) hb); have n2_ := qS (qB (g := gb279) (o := .cells (ce10_0 0 0 0 0 0 0 0 false 0 0 0 0 0) 137 (0, 0)) (qW BK279.out) hb); have n3_ := qS (below_step (bW3 HB.out GE277.out GE278.out GE279.out) hb); clear BK277; clear BK278; clear BK279; clear HB; have BK277 := n0_; have BK278 := n1_; have BK279 := n2_; have HB := n3_; clear n0_ n1_ n2_ n3_; (try clear hb); (try clear hb2); (try clear hk); (try clear hi); (try simp only [errW_none, errW_some]); have hcz28_0 : w27.cell? ⟨gb278, 0, none⟩ = some (.int .i64 a2_0) := (qC BK278.out 0).trans rfl; have hcz28_1 : w27.cell? ⟨gb278, 1, none⟩ = some (.int .i64 a2_1) := (qC BK278.out 1).trans rfl; have hfz28_0 := qF BK278.out 0; have hfz28_1 := qF BK278.out 1))
        go_meet
        case rel => exact ⟨_, (true), (by first | rfl | (simp; done) | (simp [*]; done)), H', ⟨by first | omega | exact Nat.le_refl _⟩, ⟨by (with_reducible repeat (first | refine qN ?_ _ | refine qD ?_ | refine qA ?_ _)); exact BK277.out⟩, ⟨by (with_reducible repeat (first | refine qN ?_ _ | refine qD ?_ | refine qA ?_ _)); exact BK278.out⟩, ⟨by (with_reducible repeat (first | refine qN ?_ _ | refine qD ?_ | refine qA ?_ _)); exact BK279.out⟩, ⟨by repeat (first | (with_reducible first | exact HB.out | apply qpA | apply qpN | apply qp1 | refine qpS ?_ GE277.out | refine qpS ?_ GE278.out | refine qpS ?_ GE279.out) | exact HB.out)⟩⟩
      ·rw [if_neg c20] at H
       have c20b0 : decide (a2_0 ≤ (-2305843009213693952)) = false := decide_eq_false c20
       clear c20
       as_aux_lemma =>
        have H' := qS H
        clear H
        have hnb29 := NB277_278.out
        have hnc29 := NB278_277.out
        have hnb30 := NB277_279.out
        have hnc30 := NB279_277.out
        obtain ⟨hcz31_0, hcz31_1, hcz31_2, hcz31_3, hcz31_4, hcz31_5, hcz31_6, hcz31_7, hcz31_8, hcz31_9, hcz31_10, hcz31_11, hcz31_12, hfz31_0, hfz31_1, hfz31_2, hfz31_3, hfz31_4, hfz31_5, hfz31_6, hfz31_7, hfz31_8, hfz31_9, hfz31_10, hfz31_11, hfz31_12⟩ := cz13 BK277.out
        go_wp2_with (first | ((with_reducible refine gate_dst (N := 14) rfl ?_); refine rowget_event rfl rfl gb277 0 137 #[.int .u32 a0_0, .int .i64 a0_1, .int .i64 a0_2, .int .i64 a0_3, .int .i64 a0_4, .int .i64 a0_5, .int .i64 a0_6, .bool a0_7, .int .i64 a0_8, .int .i64 a0_9, .int .i64 a0_10, .int .i64 a0_11, .int .i64 a0_12] #[.int .u32 a0_0, .int .i64 a0_1, .int .i64 a0_2, .int .i64 a0_3, .int .i64 a0_4, .int .i64 a0_5, .int .i64 a0_6, .bool a0_7, .int .i64 a0_8, .int .i64 a0_9, .int .i64 a0_10, .int .i64 a0_11, .int .i64 a0_12] _ rfl (qW BK277.out) rfl Tryd.underlying137 rfl (by kernel_rfl) ?_) | (go_at_call 63; refine calls_of_args (args' := #[.agg #[.int .u32 a0_0, .int .i64 a0_1, .int .i64 a0_2, .int .i64 a0_3, .int .i64 a0_4, .int .i64 a0_5, .int .i64 a0_6, .bool a0_7, .int .i64 a0_8, .int .i64 a0_9, .int .i64 a0_10, .int .i64 a0_11, .int .i64 a0_12]]) ?_ ?_; (focus (first | (rw [show (a0_7) = true by with_reducible assumption]) | (rw [show (a0_7) = false by with_reducible assumption]) | rfl | (simp only [*]; done) | (simp [*]; done))); (with_reducible refine (host_Check.calls k a0_0 a0_1 a0_2 a0_3 a0_4 a0_5 a0_6 a0_7 a0_8 a0_9 a0_10 a0_11 a0_12 none _ A8.out).mono ?_); rintro e w32 ⟨rfl, hb⟩; have n0_ := qS (qB (g := gb277) (o := .cells (ce10_0 a0_0 a0_1 a0_2 a0_3 a0_4 a0_5 a0_6 a0_7 a0_8 a0_9 a0_10 a0_11 a0_12) 137 (0, 0)) (qW BK277.out) hb); have n1_ := qS (qB (g := gb278) (o := .cells #[.int .i64 a2_0, .int .i64 a2_1] 86 (0, 0)) (qW BK278.out) hb); have n2_ := qS (qB (g := gb279) (o := .cells (ce10_0 0 0 0 0 0 0 0 false 0 0 0 0 0) 137 (0, 0)) (qW BK279.out) hb); have n3_ := qS (below_step (bW3 HB.out GE277.out GE278.out GE279.out) hb); clear BK277; clear BK278; clear BK279; clear HB; have BK277 := n0_; have BK278 := n1_; have BK279 := n2_; have HB := n3_; clear n0_ n1_ n2_ n3_; (try clear hb); (try clear hb2); (try clear hk); (try clear hi); (try simp only [errW_none, errW_some]); have hnb33 := NB278_279.out; have hnc33 := NB279_278.out; have hcz34_0 : w32.cell? ⟨gb278, 0, none⟩ = some (.int .i64 a2_0) := (qC BK278.out 0).trans rfl; have hcz34_1 : w32.cell? ⟨gb278, 1, none⟩ = some (.int .i64 a2_1) := (qC BK278.out 1).trans rfl; have hfz34_0 := qF BK278.out 0; have hfz34_1 := qF BK278.out 1) | (go_at_call 116; (with_reducible refine (span_Check.calls a2_0 a2_1 none _ A19.out).mono ?_); rintro e w35 ⟨rfl, hb⟩; have n0_ := qS (qB (g := gb277) (o := .cells (ce10_0 a0_0 a0_1 a0_2 a0_3 a0_4 a0_5 a0_6 a0_7 a0_8 a0_9 a0_10 a0_11 a0_12) 137 (0, 0)) (qW BK277.out) hb); have n1_ := qS (qB (g := gb278) (o := .cells #[.int .i64 a2_0, .int .i64 a2_1] 86 (0, 0)) (qW BK278.out) hb); have n2_ := qS (qB (g := gb279) (o := .cells (ce10_0 0 0 0 0 0 0 0 false 0 0 0 0 0) 137 (0, 0)) (qW BK279.out) hb); have n3_ := qS (below_step (bW3 HB.out GE277.out GE278.out GE279.out) hb); clear BK277; clear BK278; clear BK279; clear HB; have BK277 := n0_; have BK278 := n1_; have BK279 := n2_; have HB := n3_; clear n0_ n1_ n2_ n3_; (try clear hb); (try clear hb2); (try clear hk); (try clear hi); (try simp only [errW_none, errW_some]); have hcz36_0 : w35.cell? ⟨gb278, 0, none⟩ = some (.int .i64 a2_0) := (qC BK278.out 0).trans rfl; have hcz36_1 : w35.cell? ⟨gb278, 1, none⟩ = some (.int .i64 a2_1) := (qC BK278.out 1).trans rfl; have hfz36_0 := qF BK278.out 0; have hfz36_1 := qF BK278.out 1))
        go_meet
        case rel => exact ⟨_, (decide (a2_1 ≥ 2305843009213693952)), (by first | rfl | (simp; done) | (simp [*]; done)), H', ⟨by first | omega | exact Nat.le_refl _⟩, ⟨by (with_reducible repeat (first | refine qN ?_ _ | refine qD ?_ | refine qA ?_ _)); exact BK277.out⟩, ⟨by (with_reducible repeat (first | refine qN ?_ _ | refine qD ?_ | refine qA ?_ _)); exact BK278.out⟩, ⟨by (with_reducible repeat (first | refine qN ?_ _ | refine qD ?_ | refine qA ?_ _)); exact BK279.out⟩, ⟨by repeat (first | (with_reducible first | exact HB.out | apply qpA | apply qpN | apply qp1 | refine qpS ?_ GE277.out | refine qpS ?_ GE278.out | refine qpS ?_ GE279.out) | exact HB.out)⟩⟩
     ·have H1 : (host_Sync.j0 k a1 true a0_0 a0_1 a0_2 a0_3 a0_4 a0_5 a0_6 a0_7 a0_8 a0_9 a0_10 a0_11 a0_12 a2_0 a2_1) = some (r1, r2, r3, r4, r5, r6, r7, r8, r9, r10, r11, r12, r13, r14) := by rw [if_neg (show ¬ (some q283).isNone = true by simp)] at H; exact H
      clear H
      have H := H1
      clear H1
      try simp only [errW_none, errW_some]
      as_aux_lemma =>
       have H' := qS H
       clear H
       have hnb37 := NB277_278.out
       have hnc37 := NB278_277.out
       have hnb38 := NB277_279.out
       have hnc38 := NB279_277.out
       obtain ⟨hcz39_0, hcz39_1, hcz39_2, hcz39_3, hcz39_4, hcz39_5, hcz39_6, hcz39_7, hcz39_8, hcz39_9, hcz39_10, hcz39_11, hcz39_12, hfz39_0, hfz39_1, hfz39_2, hfz39_3, hfz39_4, hfz39_5, hfz39_6, hfz39_7, hfz39_8, hfz39_9, hfz39_10, hfz39_11, hfz39_12⟩ := cz13 BK277.out
       go_wp2_with (first | ((with_reducible refine gate_dst (N := 14) rfl ?_); refine rowget_event rfl rfl gb277 0 137 #[.int .u32 a0_0, .int .i64 a0_1, .int .i64 a0_2, .int .i64 a0_3, .int .i64 a0_4, .int .i64 a0_5, .int .i64 a0_6, .bool a0_7, .int .i64 a0_8, .int .i64 a0_9, .int .i64 a0_10, .int .i64 a0_11, .int .i64 a0_12] #[.int .u32 a0_0, .int .i64 a0_1, .int .i64 a0_2, .int .i64 a0_3, .int .i64 a0_4, .int .i64 a0_5, .int .i64 a0_6, .bool a0_7, .int .i64 a0_8, .int .i64 a0_9, .int .i64 a0_10, .int .i64 a0_11, .int .i64 a0_12] _ rfl (qW BK277.out) rfl Tryd.underlying137 rfl (by kernel_rfl) ?_) | (go_at_call 63; refine calls_of_args (args' := #[.agg #[.int .u32 a0_0, .int .i64 a0_1, .int .i64 a0_2, .int .i64 a0_3, .int .i64 a0_4, .int .i64 a0_5, .int .i64 a0_6, .bool a0_7, .int .i64 a0_8, .int .i64 a0_9, .int .i64 a0_10, .int .i64 a0_11, .int .i64 a0_12]]) ?_ ?_; (focus (first | (rw [show (a0_7) = true by with_reducible assumption]) | (rw [show (a0_7) = false by with_reducible assumption]) | rfl | (simp only [*]; done) | (simp [*]; done))); (with_reducible refine (host_Check.calls k a0_0 a0_1 a0_2 a0_3 a0_4 a0_5 a0_6 a0_7 a0_8 a0_9 a0_10 a0_11 a0_12 none _ A8.out).mono ?_); rintro e w40 ⟨rfl, hb⟩; have n0_ := qS (qB (g := gb277) (o := .cells (ce10_0 a0_0 a0_1 a0_2 a0_3 a0_4 a0_5 a0_6 a0_7 a0_8 a0_9 a0_10 a0_11 a0_12) 137 (0, 0)) (qW BK277.out) hb); have n1_ := qS (qB (g := gb278) (o := .cells #[.int .i64 a2_0, .int .i64 a2_1] 86 (0, 0)) (qW BK278.out) hb); have n2_ := qS (qB (g := gb279) (o := .cells (ce10_0 0 0 0 0 0 0 0 false 0 0 0 0 0) 137 (0, 0)) (qW BK279.out) hb); have n3_ := qS (below_step (bW3 HB.out GE277.out GE278.out GE279.out) hb); clear BK277; clear BK278; clear BK279; clear HB; have BK277 := n0_; have BK278 := n1_; have BK279 := n2_; have HB := n3_; clear n0_ n1_ n2_ n3_; (try clear hb); (try clear hb2); (try clear hk); (try clear hi); (try simp only [errW_none, errW_some]); have hnb41 := NB278_279.out; have hnc41 := NB279_278.out; have hcz42_0 : w40.cell? ⟨gb278, 0, none⟩ = some (.int .i64 a2_0) := (qC BK278.out 0).trans rfl; have hcz42_1 : w40.cell? ⟨gb278, 1, none⟩ = some (.int .i64 a2_1) := (qC BK278.out 1).trans rfl; have hfz42_0 := qF BK278.out 0; have hfz42_1 := qF BK278.out 1) | (go_at_call 116; (with_reducible refine (span_Check.calls a2_0 a2_1 (some q283) _ A19.out).mono ?_); rintro e w43 ⟨rfl, hb⟩; have n0_ := qS (qB (g := gb277) (o := .cells (ce10_0 a0_0 a0_1 a0_2 a0_3 a0_4 a0_5 a0_6 a0_7 a0_8 a0_9 a0_10 a0_11 a0_12) 137 (0, 0)) (qW BK277.out) hb); have n1_ := qS (qB (g := gb278) (o := .cells #[.int .i64 a2_0, .int .i64 a2_1] 86 (0, 0)) (qW BK278.out) hb); have n2_ := qS (qB (g := gb279) (o := .cells (ce10_0 0 0 0 0 0 0 0 false 0 0 0 0 0) 137 (0, 0)) (qW BK279.out) hb); have n3_ := qS (below_step (bW3 HB.out GE277.out GE278.out GE279.out) hb); clear BK277; clear BK278; clear BK279; clear HB; have BK277 := n0_; have BK278 := n1_; have BK279 := n2_; have HB := n3_; clear n0_ n1_ n2_ n3_; (try clear hb); (try clear hb2); (try clear hk); (try clear hi); (try simp only [errW_none, errW_some])))
       go_meet
       case rel => exact ⟨_, (true), (by first | rfl | (simp; done) | (simp [*]; done)), H', ⟨by first | omega | exact Nat.le_refl _⟩, ⟨by (with_reducible repeat (first | refine qN ?_ _ | refine qD ?_ | refine qA ?_ _)); exact BK277.out⟩, ⟨by (with_reducible repeat (first | refine qN ?_ _ | refine qD ?_ | refine qA ?_ _)); exact BK278.out⟩, ⟨by (with_reducible repeat (first | refine qN ?_ _ | refine qD ?_ | refine qA ?_ _)); exact BK279.out⟩, ⟨by repeat (first | (with_reducible first | exact HB.out | apply qpA | apply qpN | apply qp1 | refine qpS ?_ GE277.out | refine qpS ?_ GE278.out | refine qpS ?_ GE279.out) | exact HB.out)⟩⟩
  ·have H1 : (host_Sync.j0 k a1 true a0_0 a0_1 a0_2 a0_3 a0_4 a0_5 a0_6 a0_7 a0_8 a0_9 a0_10 a0_11 a0_12 a2_0 a2_1) = some (r1, r2, r3, r4, r5, r6, r7, r8, r9, r10, r11, r12, r13, r14) := by rw [if_neg (show ¬ (some q281).isNone = true by simp)] at H; exact H
   clear H
   have H := H1
   clear H1
   try simp only [errW_none, errW_some]
   as_aux_lemma =>
    have H' := qS H
    clear H
    have hnb44 := NB277_278.out
    have hnc44 := NB278_277.out
    have hnb45 := NB277_279.out
    have hnc45 := NB279_277.out
    obtain ⟨hcz46_0, hcz46_1, hcz46_2, hcz46_3, hcz46_4, hcz46_5, hcz46_6, hcz46_7, hcz46_8, hcz46_9, hcz46_10, hcz46_11, hcz46_12, hfz46_0, hfz46_1, hfz46_2, hfz46_3, hfz46_4, hfz46_5, hfz46_6, hfz46_7, hfz46_8, hfz46_9, hfz46_10, hfz46_11, hfz46_12⟩ := cz13 BK277.out
    go_wp2_with (first | ((with_reducible refine gate_dst (N := 14) rfl ?_); refine rowget_event rfl rfl gb277 0 137 #[.int .u32 a0_0, .int .i64 a0_1, .int .i64 a0_2, .int .i64 a0_3, .int .i64 a0_4, .int .i64 a0_5, .int .i64 a0_6, .bool a0_7, .int .i64 a0_8, .int .i64 a0_9, .int .i64 a0_10, .int .i64 a0_11, .int .i64 a0_12] #[.int .u32 a0_0, .int .i64 a0_1, .int .i64 a0_2, .int .i64 a0_3, .int .i64 a0_4, .int .i64 a0_5, .int .i64 a0_6, .bool a0_7, .int .i64 a0_8, .int .i64 a0_9, .int .i64 a0_10, .int .i64 a0_11, .int .i64 a0_12] _ rfl (qW BK277.out) rfl Tryd.underlying137 rfl (by kernel_rfl) ?_) | (go_at_call 63; refine calls_of_args (args' := #[.agg #[.int .u32 a0_0, .int .i64 a0_1, .int .i64 a0_2, .int .i64 a0_3, .int .i64 a0_4, .int .i64 a0_5, .int .i64 a0_6, .bool a0_7, .int .i64 a0_8, .int .i64 a0_9, .int .i64 a0_10, .int .i64 a0_11, .int .i64 a0_12]]) ?_ ?_; (focus (first | (rw [show (a0_7) = true by with_reducible assumption]) | (rw [show (a0_7) = false by with_reducible assumption]) | rfl | (simp only [*]; done) | (simp [*]; done))); (with_reducible refine (host_Check.calls k a0_0 a0_1 a0_2 a0_3 a0_4 a0_5 a0_6 a0_7 a0_8 a0_9 a0_10 a0_11 a0_12 (some q281) _ A8.out).mono ?_); rintro e w47 ⟨rfl, hb⟩; have n0_ := qS (qB (g := gb277) (o := .cells (ce10_0 a0_0 a0_1 a0_2 a0_3 a0_4 a0_5 a0_6 a0_7 a0_8 a0_9 a0_10 a0_11 a0_12) 137 (0, 0)) (qW BK277.out) hb); have n1_ := qS (qB (g := gb278) (o := .cells #[.int .i64 a2_0, .int .i64 a2_1] 86 (0, 0)) (qW BK278.out) hb); have n2_ := qS (qB (g := gb279) (o := .cells (ce10_0 0 0 0 0 0 0 0 false 0 0 0 0 0) 137 (0, 0)) (qW BK279.out) hb); have n3_ := qS (below_step (bW3 HB.out GE277.out GE278.out GE279.out) hb); clear BK277; clear BK278; clear BK279; clear HB; have BK277 := n0_; have BK278 := n1_; have BK279 := n2_; have HB := n3_; clear n0_ n1_ n2_ n3_; (try clear hb); (try clear hb2); (try clear hk); (try clear hi); (try simp only [errW_none, errW_some])))
    go_meet
    case rel => exact ⟨_, (true), (by first | rfl | (simp; done) | (simp [*]; done)), H', ⟨by first | omega | exact Nat.le_refl _⟩, ⟨by (with_reducible repeat (first | refine qN ?_ _ | refine qD ?_ | refine qA ?_ _)); exact BK277.out⟩, ⟨by (with_reducible repeat (first | refine qN ?_ _ | refine qD ?_ | refine qA ?_ _)); exact BK278.out⟩, ⟨by (with_reducible repeat (first | refine qN ?_ _ | refine qD ?_ | refine qA ?_ _)); exact BK279.out⟩, ⟨by repeat (first | (with_reducible first | exact HB.out | apply qpA | apply qpN | apply qp1 | refine qpS ?_ GE277.out | refine qpS ?_ GE278.out | refine qpS ?_ GE279.out) | exact HB.out)⟩⟩
 case rest =>
  clear HC4
  try clear c1
  try clear c2
  try clear p2
  try clear q2
  try clear c3
  try clear c4
  try clear c6
  try clear c9
  try clear c9b0
  try clear c10
  try clear c11
  try clear c14
  try clear c14b0
  try clear c15
  try clear c16
  try clear c20
  try clear c20b0
  try clear c21
  try clear c22
  try clear c25
  try clear q28
  try clear c29
  try clear c30
  try clear c33
  try clear c37
  try clear c38
  try clear c41
  try clear c44
  try clear c45
  try clear hcz12_0
  try clear hcz12_1
  try clear hcz12_10
  try clear hcz12_11
  try clear hcz12_12
  try clear hcz12_2
  try clear hcz12_3
  try clear hcz12_4
  try clear hcz12_5
  try clear hcz12_6
  try clear hcz12_7
  try clear hcz12_8
  try clear hcz12_9
  try clear hcz17_0
  try clear hcz17_1
  try clear hcz17_10
  try clear hcz17_11
  try clear hcz17_12
  try clear hcz17_2
  try clear hcz17_3
  try clear hcz17_4
  try clear hcz17_5
  try clear hcz17_6
  try clear hcz17_7
  try clear hcz17_8
  try clear hcz17_9
  try clear hcz23_0
  try clear hcz23_1
  try clear hcz23_10
  try clear hcz23_11
  try clear hcz23_12
  try clear hcz23_2
  try clear hcz23_3
  try clear hcz23_4
  try clear hcz23_5
  try clear hcz23_6
  try clear hcz23_7
  try clear hcz23_8
  try clear hcz23_9
  try clear hcz26_0
  try clear hcz26_1
  try clear hcz28_0
  try clear hcz28_1
  try clear hcz31_0
  try clear hcz31_1
  try clear hcz31_10
  try clear hcz31_11
  try clear hcz31_12
  try clear hcz31_2
  try clear hcz31_3
  try clear hcz31_4
  try clear hcz31_5
  try clear hcz31_6
  try clear hcz31_7
  try clear hcz31_8
  try clear hcz31_9
  try clear hcz34_0
  try clear hcz34_1
  try clear hcz36_0
  try clear hcz36_1
  try clear hcz39_0
  try clear hcz39_1
  try clear hcz39_10
  try clear hcz39_11
  try clear hcz39_12
  try clear hcz39_2
  try clear hcz39_3
  try clear hcz39_4
  try clear hcz39_5
  try clear hcz39_6
  try clear hcz39_7
  try clear hcz39_8
  try clear hcz39_9
  try clear hcz42_0
  try clear hcz42_1
  try clear hcz46_0
  try clear hcz46_1
  try clear hcz46_10
  try clear hcz46_11
  try clear hcz46_12
  try clear hcz46_2
  try clear hcz46_3
  try clear hcz46_4
  try clear hcz46_5
  try clear hcz46_6
  try clear hcz46_7
  try clear hcz46_8
  try clear hcz46_9
  try clear hfz12_0
  try clear hfz12_1
  try clear hfz12_10
  try clear hfz12_11
  try clear hfz12_12
  try clear hfz12_2
  try clear hfz12_3
  try clear hfz12_4
  try clear hfz12_5
  try clear hfz12_6
  try clear hfz12_7
  try clear hfz12_8
  try clear hfz12_9
  try clear hfz17_0
  try clear hfz17_1
  try clear hfz17_10
  try clear hfz17_11
  try clear hfz17_12
  try clear hfz17_2
  try clear hfz17_3
  try clear hfz17_4
  try clear hfz17_5
  try clear hfz17_6
  try clear hfz17_7
  try clear hfz17_8
  try clear hfz17_9
  try clear hfz23_0
  try clear hfz23_1
  try clear hfz23_10
  try clear hfz23_11
  try clear hfz23_12
  try clear hfz23_2
  try clear hfz23_3
  try clear hfz23_4
  try clear hfz23_5
  try clear hfz23_6
  try clear hfz23_7
  try clear hfz23_8
  try clear hfz23_9
  try clear hfz26_0
  try clear hfz26_1
  try clear hfz28_0
  try clear hfz28_1
  try clear hfz31_0
  try clear hfz31_1
  try clear hfz31_10
  try clear hfz31_11
  try clear hfz31_12
  try clear hfz31_2
  try clear hfz31_3
  try clear hfz31_4
  try clear hfz31_5
  try clear hfz31_6
  try clear hfz31_7
  try clear hfz31_8
  try clear hfz31_9
  try clear hfz34_0
  try clear hfz34_1
  try clear hfz36_0
  try clear hfz36_1
  try clear hfz39_0
  try clear hfz39_1
  try clear hfz39_10
  try clear hfz39_11
  try clear hfz39_12
  try clear hfz39_2
  try clear hfz39_3
  try clear hfz39_4
  try clear hfz39_5
  try clear hfz39_6
  try clear hfz39_7
  try clear hfz39_8
  try clear hfz39_9
  try clear hfz42_0
  try clear hfz42_1
  try clear hfz46_0
  try clear hfz46_1
  try clear hfz46_10
  try clear hfz46_11
  try clear hfz46_12
  try clear hfz46_2
  try clear hfz46_3
  try clear hfz46_4
  try clear hfz46_5
  try clear hfz46_6
  try clear hfz46_7
  try clear hfz46_8
  try clear hfz46_9
  try clear q281
  try clear q283
  obtain ⟨kq, x39_3, rfl, HA, HJ3, BK277, BK278, BK279, HB⟩ := hcut
  cases kq with
  | zero => exact absurd HA.out (by simp [host_Sync.j0])
  | succ kj3 =>
   have H := HA.out
   clear HA
   simp only [host_Sync.j0] at H
   by_cases c48 : x39_3 = true
   ·subst c48
    have H1 : (some (0, 0, 0, 0, 0, 0, 0, false, 0, 0, 0, 0, 0, some 1)) = some (r1, r2, r3, r4, r5, r6, r7, r8, r9, r10, r11, r12, r13, r14) := by rw [if_pos rfl] at H; exact H
    clear H
    have H := H1
    clear H1
    as_aux_lemma =>
     simp only [Option.some.injEq, Prod.mk.injEq] at H
     obtain ⟨rfl, rfl, rfl, rfl, rfl, rfl, rfl, rfl, rfl, rfl, rfl, rfl, rfl, rfl⟩ := H
     go_wp2_with (first | ((with_reducible refine gate_store (t := 137) (p := 6) rfl ?_); refine rowput_event rfl rfl rfl gb279 0 137 #[.int .u32 0, .int .i64 0, .int .i64 0, .int .i64 0, .int .i64 0, .int .i64 0, .int .i64 0, .bool false, .int .i64 0, .int .i64 0, .int .i64 0, .int .i64 0, .int .i64 0] #[.int .u32 0, .int .i64 0, .int .i64 0, .int .i64 0, .int .i64 0, .int .i64 0, .int .i64 0, .bool false, .int .i64 0, .int .i64 0, .int .i64 0, .int .i64 0, .int .i64 0] _ [.int .u32 0, .int .i64 0, .int .i64 0, .int .i64 0, .int .i64 0, .int .i64 0, .int .i64 0, .bool false, .int .i64 0, .int .i64 0, .int .i64 0, .int .i64 0, .int .i64 0] rfl rfl rfl (qW BK279.out) (by kernel_rfl) (by simp) (by simp [Value.oneCell']) rfl (bW3 HB.out GE277.out GE278.out GE279.out) GE279.out ?_; intro w49 hnw_ hfar_ hb_; have n0_ : Aside0 (w49.heap[gb277]? = some (.cells (ce10_0 a0_0 a0_1 a0_2 a0_3 a0_4 a0_5 a0_6 a0_7 a0_8 a0_9 a0_10 a0_11 a0_12) 137 (0, 0))) := ⟨(hfar_ _ NB277_279.out).trans (qW BK277.out)⟩; have n1_ : Aside0 (w49.heap[gb278]? = some (.cells #[.int .i64 a2_0, .int .i64 a2_1] 86 (0, 0))) := ⟨(hfar_ _ NB278_279.out).trans (qW BK278.out)⟩; have n2_ : Aside0 (w49.heap[gb279]? = some (.cells (ce10_0 0 0 0 0 0 0 0 false 0 0 0 0 0) 137 (0, 0))) := ⟨hnw_⟩; have nb_ := qS hb_; clear hnw_ hfar_ hb_ HB BK277 BK278 BK279; have BK277 := n0_; have BK278 := n1_; have BK279 := n2_; have HB := nb_; clear nb_ n0_ n1_ n2_))
     refine bodyPost_ret (results_ct rfl _ _ gb279 137 #[.int .u32 0, .int .i64 0, .int .i64 0, .int .i64 0, .int .i64 0, .int .i64 0, .int .i64 0, .bool false, .int .i64 0, .int .i64 0, .int .i64 0, .int .i64 0, .int .i64 0] (0, 0) _ rfl (qW BK279.out) Tryd.underlying137 rfl (by kernel_rfl)) rfl ?_
     exact ⟨by first | rfl | (simp [errW_none, errW_some] <;> rfl) | (simp [*, errW_none, errW_some] <;> rfl), by repeat (first | (with_reducible first | exact HB.out | apply qpA | apply qpN | apply qp1 | refine qpS ?_ GE277.out | refine qpS ?_ GE278.out | refine qpS ?_ GE279.out) | exact HB.out)⟩
   ·replace c48 := Bool.eq_false_iff.mpr c48
    subst c48
    have H1 : (if a0_7 = true then ((host_Host_reckoned.f kj3 a0_0 a0_1 a0_2 a0_3 a0_4 a0_5 a0_6 a0_7 a0_8 a0_9 a0_10 a0_11 a0_12 a1).bind fun bt298 => ((errors_Is.f bt298.2.2 (some 2)).bind fun t301 => (if t301 = true then ((host_Host_set.f a0_0 a0_1 a0_2 a0_3 a0_4 a0_5 a0_6 a0_7 a0_8 a0_9 a0_10 a0_11 a0_12 a1 a2_0 a2_1).bind fun bt302 => (some (bt302.1, bt302.2.1, bt302.2.2.1, bt302.2.2.2.1, bt302.2.2.2.2.1, bt302.2.2.2.2.2.1, bt302.2.2.2.2.2.2.1, bt302.2.2.2.2.2.2.2.1, bt302.2.2.2.2.2.2.2.2.1, bt302.2.2.2.2.2.2.2.2.2.1, bt302.2.2.2.2.2.2.2.2.2.2.1, bt302.2.2.2.2.2.2.2.2.2.2.2.1, bt302.2.2.2.2.2.2.2.2.2.2.2.2.1, bt302.2.2.2.2.2.2.2.2.2.2.2.2.2))) else (if bt298.2.2.isNone = true then ((num_SubSat.f bt298.1 bt298.2.1).bind fun t317 => ((num_AddSat.f bt298.1 bt298.2.1).bind fun t318 => ((span_Meet.f a2_0 a2_1 t317 t318).bind fun bt319 => (if bt319.2.2 = true then (host_Sync.j1 kj3 a1 bt298.1 a0_0 a0_1 a0_2 a0_3 a0_4 a0_5 a0_6 a0_7 a0_8 a0_9 a0_10 a0_11 a0_12 bt319.1 bt319.2.1) else (host_Sync.j1 kj3 a1 bt298.1 a0_0 a0_1 a0_2 a0_3 a0_4 a0_5 a0_6 a0_7 a0_8 a0_9 a0_10 a0_11 a0_12 a2_0 a2_1))))) else (some (0, 0, 0, 0, 0, 0, 0, false, 0, 0, 0, 0, 0, some (bt298.2.2.getD 0))))))) else ((host_Host_set.f a0_0 a0_1 a0_2 a0_3 a0_4 a0_5 a0_6 a0_7 a0_8 a0_9 a0_10 a0_11 a0_12 a1 a2_0 a2_1).bind fun bt284 => (some (bt284.1, bt284.2.1, bt284.2.2.1, bt284.2.2.2.1, bt284.2.2.2.2.1, bt284.2.2.2.2.2.1, bt284.2.2.2.2.2.2.1, bt284.2.2.2.2.2.2.2.1, bt284.2.2.2.2.2.2.2.2.1, bt284.2.2.2.2.2.2.2.2.2.1, bt284.2.2.2.2.2.2.2.2.2.2.1, bt284.2.2.2.2.2.2.2.2.2.2.2.1, bt284.2.2.2.2.2.2.2.2.2.2.2.2.1, bt284.2.2.2.2.2.2.2.2.2.2.2.2.2)))) = some (r1, r2, r3, r4, r5, r6, r7, r8, r9, r10, r11, r12, r13, r14) := by rw [if_neg (show ¬ (false = true) by decide)] at H; exact H
    clear H
    have H := H1
    clear H1
    by_cases c50 : a0_7 = true
    ·subst c50
     have H1 : ((host_Host_reckoned.f kj3 a0_0 a0_1 a0_2 a0_3 a0_4 a0_5 a0_6 true a0_8 a0_9 a0_10 a0_11 a0_12 a1).bind fun bt298 => ((errors_Is.f bt298.2.2 (some 2)).bind fun t301 => (if t301 = true then ((host_Host_set.f a0_0 a0_1 a0_2 a0_3 a0_4 a0_5 a0_6 true a0_8 a0_9 a0_10 a0_11 a0_12 a1 a2_0 a2_1).bind fun bt302 => (some (bt302.1, bt302.2.1, bt302.2.2.1, bt302.2.2.2.1, bt302.2.2.2.2.1, bt302.2.2.2.2.2.1, bt302.2.2.2.2.2.2.1, bt302.2.2.2.2.2.2.2.1, bt302.2.2.2.2.2.2.2.2.1, bt302.2.2.2.2.2.2.2.2.2.1, bt302.2.2.2.2.2.2.2.2.2.2.1, bt302.2.2.2.2.2.2.2.2.2.2.2.1, bt302.2.2.2.2.2.2.2.2.2.2.2.2.1, bt302.2.2.2.2.2.2.2.2.2.2.2.2.2))) else (if bt298.2.2.isNone = true then ((num_SubSat.f bt298.1 bt298.2.1).bind fun t317 => ((num_AddSat.f bt298.1 bt298.2.1).bind fun t318 => ((span_Meet.f a2_0 a2_1 t317 t318).bind fun bt319 => (if bt319.2.2 = true then (host_Sync.j1 kj3 a1 bt298.1 a0_0 a0_1 a0_2 a0_3 a0_4 a0_5 a0_6 true a0_8 a0_9 a0_10 a0_11 a0_12 bt319.1 bt319.2.1) else (host_Sync.j1 kj3 a1 bt298.1 a0_0 a0_1 a0_2 a0_3 a0_4 a0_5 a0_6 true a0_8 a0_9 a0_10 a0_11 a0_12 a2_0 a2_1))))) else (some (0, 0, 0, 0, 0, 0, 0, false, 0, 0, 0, 0, 0, some (bt298.2.2.getD 0))))))) = some (r1, r2, r3, r4, r5, r6, r7, r8, r9, r10, r11, r12, r13, r14) := by rw [if_pos rfl] at H; exact H
     clear H
     have H := H1
     clear H1
     replace H := Option.bind_eq_some_iff.mp H
     obtain ⟨⟨t298, t299, t300⟩, A510, H⟩ := H
     replace H : ((errors_Is.f t300 (some 2)).bind fun t301 => (if t301 = true then ((host_Host_set.f a0_0 a0_1 a0_2 a0_3 a0_4 a0_5 a0_6 true a0_8 a0_9 a0_10 a0_11 a0_12 a1 a2_0 a2_1).bind fun bt302 => (some (bt302.1, bt302.2.1, bt302.2.2.1, bt302.2.2.2.1, bt302.2.2.2.2.1, bt302.2.2.2.2.2.1, bt302.2.2.2.2.2.2.1, bt302.2.2.2.2.2.2.2.1, bt302.2.2.2.2.2.2.2.2.1, bt302.2.2.2.2.2.2.2.2.2.1, bt302.2.2.2.2.2.2.2.2.2.2.1, bt302.2.2.2.2.2.2.2.2.2.2.2.1, bt302.2.2.2.2.2.2.2.2.2.2.2.2.1, bt302.2.2.2.2.2.2.2.2.2.2.2.2.2))) else (if t300.isNone = true then ((num_SubSat.f t298 t299).bind fun t317 => ((num_AddSat.f t298 t299).bind fun t318 => ((span_Meet.f a2_0 a2_1 t317 t318).bind fun bt319 => (if bt319.2.2 = true then (host_Sync.j1 kj3 a1 t298 a0_0 a0_1 a0_2 a0_3 a0_4 a0_5 a0_6 true a0_8 a0_9 a0_10 a0_11 a0_12 bt319.1 bt319.2.1) else (host_Sync.j1 kj3 a1 t298 a0_0 a0_1 a0_2 a0_3 a0_4 a0_5 a0_6 true a0_8 a0_9 a0_10 a0_11 a0_12 a2_0 a2_1))))) else (some (0, 0, 0, 0, 0, 0, 0, false, 0, 0, 0, 0, 0, some (t300.getD 0)))))) = some (r1, r2, r3, r4, r5, r6, r7, r8, r9, r10, r11, r12, r13, r14) := H
     have A51 := qS A510
     clear A510
     replace H := Option.bind_eq_some_iff.mp H
     obtain ⟨t301, A520, H⟩ := H
     replace H : (if t301 = true then ((host_Host_set.f a0_0 a0_1 a0_2 a0_3 a0_4 a0_5 a0_6 true a0_8 a0_9 a0_10 a0_11 a0_12 a1 a2_0 a2_1).bind fun bt302 => (some (bt302.1, bt302.2.1, bt302.2.2.1, bt302.2.2.2.1, bt302.2.2.2.2.1, bt302.2.2.2.2.2.1, bt302.2.2.2.2.2.2.1, bt302.2.2.2.2.2.2.2.1, bt302.2.2.2.2.2.2.2.2.1, bt302.2.2.2.2.2.2.2.2.2.1, bt302.2.2.2.2.2.2.2.2.2.2.1, bt302.2.2.2.2.2.2.2.2.2.2.2.1, bt302.2.2.2.2.2.2.2.2.2.2.2.2.1, bt302.2.2.2.2.2.2.2.2.2.2.2.2.2))) else (if t300.isNone = true then ((num_SubSat.f t298 t299).bind fun t317 => ((num_AddSat.f t298 t299).bind fun t318 => ((span_Meet.f a2_0 a2_1 t317 t318).bind fun bt319 => (if bt319.2.2 = true then (host_Sync.j1 kj3 a1 t298 a0_0 a0_1 a0_2 a0_3 a0_4 a0_5 a0_6 true a0_8 a0_9 a0_10 a0_11 a0_12 bt319.1 bt319.2.1) else (host_Sync.j1 kj3 a1 t298 a0_0 a0_1 a0_2 a0_3 a0_4 a0_5 a0_6 true a0_8 a0_9 a0_10 a0_11 a0_12 a2_0 a2_1))))) else (some (0, 0, 0, 0, 0, 0, 0, false, 0, 0, 0, 0, 0, some (t300.getD 0))))) = some (r1, r2, r3, r4, r5, r6, r7, r8, r9, r10, r11, r12, r13, r14) := H
     have A52 := qS A520
     clear A520
     by_cases c53 : t301 = true
     ·subst c53
      have H1 : ((host_Host_set.f a0_0 a0_1 a0_2 a0_3 a0_4 a0_5 a0_6 true a0_8 a0_9 a0_10 a0_11 a0_12 a1 a2_0 a2_1).bind fun bt302 => (some (bt302.1, bt302.2.1, bt302.2.2.1, bt302.2.2.2.1, bt302.2.2.2.2.1, bt302.2.2.2.2.2.1, bt302.2.2.2.2.2.2.1, bt302.2.2.2.2.2.2.2.1, bt302.2.2.2.2.2.2.2.2.1, bt302.2.2.2.2.2.2.2.2.2.1, bt302.2.2.2.2.2.2.2.2.2.2.1, bt302.2.2.2.2.2.2.2.2.2.2.2.1, bt302.2.2.2.2.2.2.2.2.2.2.2.2.1, bt302.2.2.2.2.2.2.2.2.2.2.2.2.2))) = some (r1, r2, r3, r4, r5, r6, r7, r8, r9, r10, r11, r12, r13, r14) := by rw [if_pos rfl] at H; exact H
      clear H
      have H := H1
      clear H1
      replace H := Option.bind_eq_some_iff.mp H
      obtain ⟨⟨t302, t303, t304, t305, t306, t307, t308, t309, t310, t311, t312, t313, t314, t315⟩, A540, H⟩ := H
      replace H : (some (t302, t303, t304, t305, t306, t307, t308, t309, t310, t311, t312, t313, t314, t315)) = some (r1, r2, r3, r4, r5, r6, r7, r8, r9, r10, r11, r12, r13, r14) := H
      have A54 := qS A540
      clear A540
      as_aux_lemma =>
       simp only [Option.some.injEq, Prod.mk.injEq] at H
       obtain ⟨rfl, rfl, rfl, rfl, rfl, rfl, rfl, rfl, rfl, rfl, rfl, rfl, rfl, rfl⟩ := H
       have hnb55 := NB277_278.out
       have hnc55 := NB278_277.out
       have hnb56 := NB277_279.out
       have hnc56 := NB279_277.out
       obtain ⟨hcz57_0, hcz57_1, hcz57_2, hcz57_3, hcz57_4, hcz57_5, hcz57_6, hcz57_7, hcz57_8, hcz57_9, hcz57_10, hcz57_11, hcz57_12, hfz57_0, hfz57_1, hfz57_2, hfz57_3, hfz57_4, hfz57_5, hfz57_6, hfz57_7, hfz57_8, hfz57_9, hfz57_10, hfz57_11, hfz57_12⟩ := cz13 BK277.out
       go_wp2_with (first | ((with_reducible refine gate_dst (N := 52) rfl ?_); refine rowget_event rfl rfl gb277 0 137 #[.int .u32 a0_0, .int .i64 a0_1, .int .i64 a0_2, .int .i64 a0_3, .int .i64 a0_4, .int .i64 a0_5, .int .i64 a0_6, .bool true, .int .i64 a0_8, .int .i64 a0_9, .int .i64 a0_10, .int .i64 a0_11, .int .i64 a0_12] #[.int .u32 a0_0, .int .i64 a0_1, .int .i64 a0_2, .int .i64 a0_3, .int .i64 a0_4, .int .i64 a0_5, .int .i64 a0_6, .bool true, .int .i64 a0_8, .int .i64 a0_9, .int .i64 a0_10, .int .i64 a0_11, .int .i64 a0_12] _ rfl (qW BK277.out) rfl Tryd.underlying137 rfl (by kernel_rfl) ?_) | ((with_reducible refine gate_callee (f := 119) rfl ?_); refine goesL_ (some 54) rfl rfl Tryd.func119 (by kernel_rfl) rfl #[.agg #[.int .u32 a0_0, .int .i64 a0_1, .int .i64 a0_2, .int .i64 a0_3, .int .i64 a0_4, .int .i64 a0_5, .int .i64 a0_6, .bool true, .int .i64 a0_8, .int .i64 a0_9, .int .i64 a0_10, .int .i64 a0_11, .int .i64 a0_12], .int .i64 a1] rfl (by (try simp only [List.map_toArray, List.map_cons, List.map_nil]); first | done | rfl | (simp only [*]; done) | (simp only [List.length_drop, List.length_take]; rfl) | (simp only [Act.eval, Array.getD_eq_getD_getElem?, Option.getD_some, *])) ?_; (with_reducible refine (host_Host_reckoned.calls kj3 a0_0 a0_1 a0_2 a0_3 a0_4 a0_5 a0_6 true a0_8 a0_9 a0_10 a0_11 a0_12 a1 t298 t299 t300 _ A51.out).mono ?_); rintro e w58 ⟨rfl, hb⟩; refine ⟨_, rfl, ?_⟩; have n0_ := qS (qB (g := gb277) (o := .cells (ce10_0 a0_0 a0_1 a0_2 a0_3 a0_4 a0_5 a0_6 true a0_8 a0_9 a0_10 a0_11 a0_12) 137 (0, 0)) (qW BK277.out) hb); have n1_ := qS (qB (g := gb278) (o := .cells #[.int .i64 a2_0, .int .i64 a2_1] 86 (0, 0)) (qW BK278.out) hb); have n2_ := qS (qB (g := gb279) (o := .cells (ce10_0 0 0 0 0 0 0 0 false 0 0 0 0 0) 137 (0, 0)) (qW BK279.out) hb); have n3_ := qS (below_step (bW3 HB.out GE277.out GE278.out GE279.out) hb); clear BK277; clear BK278; clear BK279; clear HB; have BK277 := n0_; have BK278 := n1_; have BK279 := n2_; have HB := n3_; clear n0_ n1_ n2_ n3_; (try clear hb); (try clear hb2); (try clear hk); (try clear hi); (try simp only [errW_none, errW_some]); have CA52 := fun W => errors_Is.calls t300 (some 2) true W A52.out; try simp only [errW_none, errW_some] at CA52) | (go_at_call 121; (with_reducible refine (CA52 _).mono ?_); rintro e w59 ⟨rfl, hb⟩; have n0_ := qS (qB (g := gb277) (o := .cells (ce10_0 a0_0 a0_1 a0_2 a0_3 a0_4 a0_5 a0_6 true a0_8 a0_9 a0_10 a0_11 a0_12) 137 (0, 0)) (qW BK277.out) hb); have n1_ := qS (qB (g := gb278) (o := .cells #[.int .i64 a2_0, .int .i64 a2_1] 86 (0, 0)) (qW BK278.out) hb); have n2_ := qS (qB (g := gb279) (o := .cells (ce10_0 0 0 0 0 0 0 0 false 0 0 0 0 0) 137 (0, 0)) (qW BK279.out) hb); have n3_ := qS (below_step (bW3 HB.out GE277.out GE278.out GE279.out) hb); clear BK277; clear BK278; clear BK279; clear HB; have BK277 := n0_; have BK278 := n1_; have BK279 := n2_; have HB := n3_; clear n0_ n1_ n2_ n3_; (try clear hb); (try clear hb2); (try clear hk); (try clear hi); obtain ⟨hcz60_0, hcz60_1, hcz60_2, hcz60_3, hcz60_4, hcz60_5, hcz60_6, hcz60_7, hcz60_8, hcz60_9, hcz60_10, hcz60_11, hcz60_12, hfz60_0, hfz60_1, hfz60_2, hfz60_3, hfz60_4, hfz60_5, hfz60_6, hfz60_7, hfz60_8, hfz60_9, hfz60_10, hfz60_11, hfz60_12⟩ := cz13 BK277.out) | ((with_reducible refine gate_dst (N := 62) rfl ?_); refine rowget_event rfl rfl gb277 0 137 #[.int .u32 a0_0, .int .i64 a0_1, .int .i64 a0_2, .int .i64 a0_3, .int .i64 a0_4, .int .i64 a0_5, .int .i64 a0_6, .bool true, .int .i64 a0_8, .int .i64 a0_9, .int .i64 a0_10, .int .i64 a0_11, .int .i64 a0_12] #[.int .u32 a0_0, .int .i64 a0_1, .int .i64 a0_2, .int .i64 a0_3, .int .i64 a0_4, .int .i64 a0_5, .int .i64 a0_6, .bool true, .int .i64 a0_8, .int .i64 a0_9, .int .i64 a0_10, .int .i64 a0_11, .int .i64 a0_12] _ rfl (qW BK277.out) rfl Tryd.underlying137 rfl (by kernel_rfl) ?_; have hnb61 := NB278_279.out; have hnc61 := NB279_278.out; have hcz62_0 : w59.cell? ⟨gb278, 0, none⟩ = some (.int .i64 a2_0) := (qC BK278.out 0).trans rfl; have hcz62_1 : w59.cell? ⟨gb278, 1, none⟩ = some (.int .i64 a2_1) := (qC BK278.out 1).trans rfl; have hfz62_0 := qF BK278.out 0; have hfz62_1 := qF BK278.out 1) | ((with_reducible refine gate_callee (f := 120) rfl ?_); refine goesL_ (some 65) rfl rfl Tryd.func120 (by kernel_rfl) rfl #[.agg #[.int .u32 a0_0, .int .i64 a0_1, .int .i64 a0_2, .int .i64 a0_3, .int .i64 a0_4, .int .i64 a0_5, .int .i64 a0_6, .bool true, .int .i64 a0_8, .int .i64 a0_9, .int .i64 a0_10, .int .i64 a0_11, .int .i64 a0_12], .int .i64 a1, .agg #[.int .i64 a2_0, .int .i64 a2_1]] rfl (by (try simp only [List.map_toArray, List.map_cons, List.map_nil]); first | done | rfl | (simp only [*]; done) | (simp only [List.length_drop, List.length_take]; rfl) | (simp only [Act.eval, Array.getD_eq_getD_getElem?, Option.getD_some, *])) ?_; (with_reducible refine (host_Host_set.calls a0_0 a0_1 a0_2 a0_3 a0_4 a0_5 a0_6 true a0_8 a0_9 a0_10 a0_11 a0_12 a1 a2_0 a2_1 t302 t303 t304 t305 t306 t307 t308 t309 t310 t311 t312 t313 t314 t315 _ A54.out).mono ?_); rintro e w63 ⟨rfl, hb⟩; refine ⟨_, rfl, ?_⟩; have n0_ := qS (qB (g := gb277) (o := .cells (ce10_0 a0_0 a0_1 a0_2 a0_3 a0_4 a0_5 a0_6 true a0_8 a0_9 a0_10 a0_11 a0_12) 137 (0, 0)) (qW BK277.out) hb); have n1_ := qS (qB (g := gb278) (o := .cells #[.int .i64 a2_0, .int .i64 a2_1] 86 (0, 0)) (qW BK278.out) hb); have n2_ := qS (qB (g := gb279) (o := .cells (ce10_0 0 0 0 0 0 0 0 false 0 0 0 0 0) 137 (0, 0)) (qW BK279.out) hb); have n3_ := qS (below_step (bW3 HB.out GE277.out GE278.out GE279.out) hb); clear BK277; clear BK278; clear BK279; clear HB; have BK277 := n0_; have BK278 := n1_; have BK279 := n2_; have HB := n3_; clear n0_ n1_ n2_ n3_; (try clear hb); (try clear hb2); (try clear hk); (try clear hi); (try simp only [errW_none, errW_some])) | ((with_reducible refine gate_store (t := 137) (p := 6) rfl ?_); refine rowput_event rfl rfl rfl gb279 0 137 #[.int .u32 0, .int .i64 0, .int .i64 0, .int .i64 0, .int .i64 0, .int .i64 0, .int .i64 0, .bool false, .int .i64 0, .int .i64 0, .int .i64 0, .int .i64 0, .int .i64 0] #[.int .u32 t302, .int .i64 t303, .int .i64 t304, .int .i64 t305, .int .i64 t306, .int .i64 t307, .int .i64 t308, .bool t309, .int .i64 t310, .int .i64 t311, .int .i64 t312, .int .i64 t313, .int .i64 t314] _ [.int .u32 t302, .int .i64 t303, .int .i64 t304, .int .i64 t305, .int .i64 t306, .int .i64 t307, .int .i64 t308, .bool t309, .int .i64 t310, .int .i64 t311, .int .i64 t312, .int .i64 t313, .int .i64 t314] rfl rfl rfl (qW BK279.out) (by kernel_rfl) (by simp) (by simp [Value.oneCell']) rfl (bW3 HB.out GE277.out GE278.out GE279.out) GE279.out ?_; intro w64 hnw_ hfar_ hb_; have n0_ : Aside0 (w64.heap[gb277]? = some (.cells (ce10_0 a0_0 a0_1 a0_2 a0_3 a0_4 a0_5 a0_6 true a0_8 a0_9 a0_10 a0_11 a0_12) 137 (0, 0))) := ⟨(hfar_ _ NB277_279.out).trans (qW BK277.out)⟩; have n1_ : Aside0 (w64.heap[gb278]? = some (.cells #[.int .i64 a2_0, .int .i64 a2_1] 86 (0, 0))) := ⟨(hfar_ _ NB278_279.out).trans (qW BK278.out)⟩; have n2_ : Aside0 (w64.heap[gb279]? = some (.cells (ce10_0 t302 t303 t304 t305 t306 t307 t308 t309 t310 t311 t312 t313 t314) 137 (0, 0))) := ⟨hnw_⟩; have nb_ := qS hb_; clear hnw_ hfar_ hb_ HB BK277 BK278 BK279; have BK277 := n0_; have BK278 := n1_; have BK279 := n2_; have HB := nb_; clear nb_ n0_ n1_ n2_))
       refine bodyPost_ret (results_ct rfl _ _ gb279 137 #[.int .u32 t302, .int .i64 t303, .int .i64 t304, .int .i64 t305, .int .i64 t306, .int .i64 t307, .int .i64 t308, .bool t309, .int .i64 t310, .int .i64 t311, .int .i64 t312, .int .i64 t313, .int .i64 t314] (0, 0) _ rfl (qW BK279.out) Tryd.underlying137 rfl (by kernel_rfl)) rfl ?_
       exact ⟨by first | rfl | (simp [errW_none, errW_some] <;> rfl) | (simp [*, errW_none, errW_some] <;> rfl), by repeat (first | (with_reducible first | exact HB.out | apply qpA | apply qpN | apply qp1 | refine qpS ?_ GE277.out | refine qpS ?_ GE278.out | refine qpS ?_ GE279.out) | exact HB.out)⟩
     ·replace c53 := Bool.eq_false_iff.mpr c53
      subst c53
      have H1 : (if t300.isNone = true then ((num_SubSat.f t298 t299).bind fun t317 => ((num_AddSat.f t298 t299).bind fun t318 => ((span_Meet.f a2_0 a2_1 t317 t318).bind fun bt319 => (if bt319.2.2 = true then (host_Sync.j1 kj3 a1 t298 a0_0 a0_1 a0_2 a0_3 a0_4 a0_5 a0_6 true a0_8 a0_9 a0_10 a0_11 a0_12 bt319.1 bt319.2.1) else (host_Sync.j1 kj3 a1 t298 a0_0 a0_1 a0_2 a0_3 a0_4 a0_5 a0_6 true a0_8 a0_9 a0_10 a0_11 a0_12 a2_0 a2_1))))) else (some (0, 0, 0, 0, 0, 0, 0, false, 0, 0, 0, 0, 0, some (t300.getD 0)))) = some (r1, r2, r3, r4, r5, r6, r7, r8, r9, r10, r11, r12, r13, r14) := by rw [if_neg (show ¬ (false = true) by decide)] at H; exact H
      clear H
      have H := H1
      clear H1
      rcases t300 with _ | q316
      ·have H1 : ((num_SubSat.f t298 t299).bind fun t317 => ((num_AddSat.f t298 t299).bind fun t318 => ((span_Meet.f a2_0 a2_1 t317 t318).bind fun bt319 => (if bt319.2.2 = true then (host_Sync.j1 kj3 a1 t298 a0_0 a0_1 a0_2 a0_3 a0_4 a0_5 a0_6 true a0_8 a0_9 a0_10 a0_11 a0_12 bt319.1 bt319.2.1) else (host_Sync.j1 kj3 a1 t298 a0_0 a0_1 a0_2 a0_3 a0_4 a0_5 a0_6 true a0_8 a0_9 a0_10 a0_11 a0_12 a2_0 a2_1))))) = some (r1, r2, r3, r4, r5, r6, r7, r8, r9, r10, r11, r12, r13, r14) := by rw [if_pos (show (none : Option Int).isNone = true by rfl)] at H; exact H
       clear H
       have H := H1
       clear H1
       try simp only [errW_none, errW_some]
       replace H := Option.bind_eq_some_iff.mp H
       obtain ⟨t317, A650, H⟩ := H
       replace H : ((num_AddSat.f t298 t299).bind fun t318 => ((span_Meet.f a2_0 a2_1 t317 t318).bind fun bt319 => (if bt319.2.2 = true then (host_Sync.j1 kj3 a1 t298 a0_0 a0_1 a0_2 a0_3 a0_4 a0_5 a0_6 true a0_8 a0_9 a0_10 a0_11 a0_12 bt319.1 bt319.2.1) else (host_Sync.j1 kj3 a1 t298 a0_0 a0_1 a0_2 a0_3 a0_4 a0_5 a0_6 true a0_8 a0_9 a0_10 a0_11 a0_12 a2_0 a2_1)))) = some (r1, r2, r3, r4, r5, r6, r7, r8, r9, r10, r11, r12, r13, r14) := H
       have A65 := qS A650
       clear A650
       replace H := Option.bind_eq_some_iff.mp H
       obtain ⟨t318, A660, H⟩ := H
       replace H : ((span_Meet.f a2_0 a2_1 t317 t318).bind fun bt319 => (if bt319.2.2 = true then (host_Sync.j1 kj3 a1 t298 a0_0 a0_1 a0_2 a0_3 a0_4 a0_5 a0_6 true a0_8 a0_9 a0_10 a0_11 a0_12 bt319.1 bt319.2.1) else (host_Sync.j1 kj3 a1 t298 a0_0 a0_1 a0_2 a0_3 a0_4 a0_5 a0_6 true a0_8 a0_9 a0_10 a0_11 a0_12 a2_0 a2_1))) = some (r1, r2, r3, r4, r5, r6, r7, r8, r9, r10, r11, r12, r13, r14) := H
       have A66 := qS A660
       clear A660
       replace H := Option.bind_eq_some_iff.mp H
       obtain ⟨⟨t319, t320, t321⟩, A670, H⟩ := H
       replace H : (if t321 = true then (host_Sync.j1 kj3 a1 t298 a0_0 a0_1 a0_2 a0_3 a0_4 a0_5 a0_6 true a0_8 a0_9 a0_10 a0_11 a0_12 t319 t320) else (host_Sync.j1 kj3 a1 t298 a0_0 a0_1 a0_2 a0_3 a0_4 a0_5 a0_6 true a0_8 a0_9 a0_10 a0_11 a0_12 a2_0 a2_1)) = some (r1, r2, r3, r4, r5, r6, r7, r8, r9, r10, r11, r12, r13, r14) := H
       have A67 := qS A670
       clear A670
       have HC68 := qS H
       clear H
       have hnb69 := NB277_278.out
       have hnc69 := NB278_277.out
       have hnb70 := NB277_279.out
       have hnc70 := NB279_277.out
       obtain ⟨hcz71_0, hcz71_1, hcz71_2, hcz71_3, hcz71_4, hcz71_5, hcz71_6, hcz71_7, hcz71_8, hcz71_9, hcz71_10, hcz71_11, hcz71_12, hfz71_0, hfz71_1, hfz71_2, hfz71_3, hfz71_4, hfz71_5, hfz71_6, hfz71_7, hfz71_8, hfz71_9, hfz71_10, hfz71_11, hfz71_12⟩ := cz13 BK277.out
       try go_wp2_with (first | ((with_reducible refine gate_dst (N := 52) rfl ?_); refine rowget_event rfl rfl gb277 0 137 #[.int .u32 a0_0, .int .i64 a0_1, .int .i64 a0_2, .int .i64 a0_3, .int .i64 a0_4, .int .i64 a0_5, .int .i64 a0_6, .bool true, .int .i64 a0_8, .int .i64 a0_9, .int .i64 a0_10, .int .i64 a0_11, .int .i64 a0_12] #[.int .u32 a0_0, .int .i64 a0_1, .int .i64 a0_2, .int .i64 a0_3, .int .i64 a0_4, .int .i64 a0_5, .int .i64 a0_6, .bool true, .int .i64 a0_8, .int .i64 a0_9, .int .i64 a0_10, .int .i64 a0_11, .int .i64 a0_12] _ rfl (qW BK277.out) rfl Tryd.underlying137 rfl (by kernel_rfl) ?_) | ((with_reducible refine gate_callee (f := 119) rfl ?_); refine goesL_ (some 54) rfl rfl Tryd.func119 (by kernel_rfl) rfl #[.agg #[.int .u32 a0_0, .int .i64 a0_1, .int .i64 a0_2, .int .i64 a0_3, .int .i64 a0_4, .int .i64 a0_5, .int .i64 a0_6, .bool true, .int .i64 a0_8, .int .i64 a0_9, .int .i64 a0_10, .int .i64 a0_11, .int .i64 a0_12], .int .i64 a1] rfl (by (try simp only [List.map_toArray, List.map_cons, List.map_nil]); first | done | rfl | (simp only [*]; done) | (simp only [List.length_drop, List.length_take]; rfl) | (simp only [Act.eval, Array.getD_eq_getD_getElem?, Option.getD_some, *])) ?_; (with_reducible refine (host_Host_reckoned.calls kj3 a0_0 a0_1 a0_2 a0_3 a0_4 a0_5 a0_6 true a0_8 a0_9 a0_10 a0_11 a0_12 a1 t298 t299 none _ A51.out).mono ?_); rintro e w72 ⟨rfl, hb⟩; refine ⟨_, rfl, ?_⟩; have n0_ := qS (qB (g := gb277) (o := .cells (ce10_0 a0_0 a0_1 a0_2 a0_3 a0_4 a0_5 a0_6 true a0_8 a0_9 a0_10 a0_11 a0_12) 137 (0, 0)) (qW BK277.out) hb); have n1_ := qS (qB (g := gb278) (o := .cells #[.int .i64 a2_0, .int .i64 a2_1] 86 (0, 0)) (qW BK278.out) hb); have n2_ := qS (qB (g := gb279) (o := .cells (ce10_0 0 0 0 0 0 0 0 false 0 0 0 0 0) 137 (0, 0)) (qW BK279.out) hb); have n3_ := qS (below_step (bW3 HB.out GE277.out GE278.out GE279.out) hb); clear BK277; clear BK278; clear BK279; clear HB; have BK277 := n0_; have BK278 := n1_; have BK279 := n2_; have HB := n3_; clear n0_ n1_ n2_ n3_; (try clear hb); (try clear hb2); (try clear hk); (try clear hi); (try simp only [errW_none, errW_some]); have CA52 := fun W => errors_Is.calls none (some 2) false W A52.out; try simp only [errW_none, errW_some] at CA52) | (go_at_call 121; (with_reducible refine (CA52 _).mono ?_); rintro e w73 ⟨rfl, hb⟩; have n0_ := qS (qB (g := gb277) (o := .cells (ce10_0 a0_0 a0_1 a0_2 a0_3 a0_4 a0_5 a0_6 true a0_8 a0_9 a0_10 a0_11 a0_12) 137 (0, 0)) (qW BK277.out) hb); have n1_ := qS (qB (g := gb278) (o := .cells #[.int .i64 a2_0, .int .i64 a2_1] 86 (0, 0)) (qW BK278.out) hb); have n2_ := qS (qB (g := gb279) (o := .cells (ce10_0 0 0 0 0 0 0 0 false 0 0 0 0 0) 137 (0, 0)) (qW BK279.out) hb); have n3_ := qS (below_step (bW3 HB.out GE277.out GE278.out GE279.out) hb); clear BK277; clear BK278; clear BK279; clear HB; have BK277 := n0_; have BK278 := n1_; have BK279 := n2_; have HB := n3_; clear n0_ n1_ n2_ n3_; (try clear hb); (try clear hb2); (try clear hk); (try clear hi)))
       have n0_ := qS (qD BK277.out)
       have n1_ := qS (qD BK278.out)
       have n2_ := qS (qD BK279.out)
       have n3_ := qS (qp1 HB.out)
       clear BK277
       clear BK278
       clear BK279
       clear HB
       have BK277 := n0_
       have BK278 := n1_
       have BK279 := n2_
       have HB := n3_
       clear n0_ n1_ n2_ n3_
       refine start_ (n := 15) (S := fun w' => w'.cell? ⟨gb278, 0, none⟩ = some (.int .i64 a2_0) ∧ w'.cell? ⟨gb278, 1, none⟩ = some (.int .i64 a2_1)) (ds := []) #[false, false, false, false, false, false, false, false, false, false, false, false, false, false, false] (by kernel_rfl) rfl rfl ⟨(qC BK278.out 0).trans rfl, (qC BK278.out 1).trans rfl⟩ (fun hHeld => ?_); refine with_tabW host_Sync.tab10 host_Sync.bits10 (fun HT_ HW_ => ?_)
       generalize w73.drew = w74 at BK277 BK278 BK279 HB hHeld ⊢
       refine pure_ (i := 1) (N := some 75) (v := ?_) (a' := ?_) #[false, true, false, false, false, false, false, false, false, false, false, false, false, false, false] rfl rfl (any_of HT_.out (by kernel_rfl)) (fun _ _ _ h => h) (Or.inl ⟨by rfl, ?_⟩) ?_ ?_
       rotate_left
       ·intro w'
        go_simp
        with_reducible rfl
       rotate_left
       ·simp only [Act.put, List.setIfInBounds_toArray, List.set_cons_zero, List.set_cons_succ, i64_w, i32_w]
        rfl
       refine pure_ (i := 2) (N := some 76) (v := ?_) (a' := ?_) #[false, true, true, false, false, false, false, false, false, false, false, false, false, false, false] rfl rfl (any_of HT_.out (by kernel_rfl)) (fun _ _ _ h => h) (Or.inl ⟨by rfl, ?_⟩) ?_ ?_
       rotate_left
       ·intro w'
        go_simp
        with_reducible rfl
       rotate_left
       ·simp only [Act.put, List.setIfInBounds_toArray, List.set_cons_zero, List.set_cons_succ, i64_w, i32_w]
        rfl
       refine pure_ (i := 4) (N := some 78) (v := ?_) (a' := ?_) #[false, true, true, false, true, false, false, false, false, false, false, false, false, false, false] rfl rfl (any_of HT_.out (by kernel_rfl)) (fun _ _ _ h => h) (Or.inl ⟨by rfl, ?_⟩) ?_ ?_
       rotate_left
       ·intro w'
        go_simp
        with_reducible rfl
       rotate_left
       ·simp only [Act.put, List.setIfInBounds_toArray, List.set_cons_zero, List.set_cons_succ, i64_w, i32_w]
        rfl
       refine pure_ (i := 5) (N := some 79) (v := ?_) (a' := ?_) #[false, true, true, false, true, true, false, false, false, false, false, false, false, false, false] rfl rfl (any_of HT_.out (by kernel_rfl)) (fun _ _ _ h => h) (Or.inl ⟨by rfl, ?_⟩) ?_ ?_
       rotate_left
       ·intro w'
        go_simp
        with_reducible rfl
       rotate_left
       ·simp only [Act.put, List.setIfInBounds_toArray, List.set_cons_zero, List.set_cons_succ, i64_w, i32_w]
        rfl
       refine take_ (i := 0) (N := some 74) (v := ?_) (a' := ?_) #[true, true, true, false, true, true, false, false, false, false, false, false, false, false, false] rfl rfl (take_ofW HT_.out HW_.out (by kernel_rfl)) (fun _ _ _ h => h) (Or.inl ⟨by rfl, ?_⟩) hHeld ?_ ?_
       rotate_left
       ·rintro w' ⟨s0, s1⟩
        go_simp
        with_reducible rfl
       rotate_left
       ·simp only [Act.put, List.setIfInBounds_toArray, List.set_cons_zero, List.set_cons_succ, i64_w, i32_w]
        rfl
       refine join_ (σ := Nat) 2 #[true, true, true, true, true, true, true, true, true, true, true, true, true, false, false] (fun s_ => [(77, .int .i64 t317), (80, .int .i64 t318), (82, .tuple #[.agg #[.int .i64 t319, .int .i64 t320], .bool t321]), (11, .pointer (some ⟨s_, 0, none⟩)), (81, .agg #[.int .i64 t317, .int .i64 t318]), (73, .tuple #[.agg #[.int .i64 t319, .int .i64 t320], .bool t321]), (83, .agg #[.int .i64 t319, .int .i64 t320]), (84, .bool t321)]) (fun s_ w' => (w'.cell? ⟨gb278, 0, none⟩ = some (.int .i64 a2_0) ∧ w'.cell? ⟨gb278, 1, none⟩ = some (.int .i64 a2_1)) ∧ (w'.heap[gb277]? = some (.cells (ce10_0 a0_0 a0_1 a0_2 a0_3 a0_4 a0_5 a0_6 true a0_8 a0_9 a0_10 a0_11 a0_12) 137 (0, 0))) ∧ (w'.heap[gb278]? = some (.cells #[.int .i64 a2_0, .int .i64 a2_1] 86 (0, 0))) ∧ (w'.heap[gb279]? = some (.cells (ce10_0 0 0 0 0 0 0 0 false 0 0 0 0 0) 137 (0, 0))) ∧ (w'.heap[s_]? = some (.cells #[.int .i64 0, .int .i64 0] 86 (0, 0))) ∧ (w.heap.size ≤ s_) ∧ (w.heap.size ≤ s_) ∧ (gb277 ≠ s_) ∧ (s_ ≠ gb277) ∧ (gb278 ≠ s_) ∧ (s_ ≠ gb278) ∧ (gb279 ≠ s_) ∧ (s_ ≠ gb279) ∧ (Below w.heap.size w w')) ?_ ?_
       rotate_left
       ·intro hCont
        refine two_ (i := 3) (j := 12) (Ni := some 77) (Nj := some 11) #[true, true, true, true, true, true, false, false, false, false, false, false, false, false, false] #[true, true, true, false, true, true, false, false, false, false, false, false, true, false, false] rfl rfl rfl rfl (two_of HT_.out (by kernel_rfl)) (by decide) (by decide) (fun K hK => ?_) (fun K hK => ?_)
        ·skip
         refine goes_ Tryd.func77 (by kernel_rfl) rfl #[.int .i64 t298, .int .i64 t299] (by rfl) rfl rfl (by (try simp only [List.map_toArray, List.map_cons, List.map_nil]); first | done | rfl | (simp only [*]; done) | (simp only [List.length_drop, List.length_take]; rfl) | (simp only [Act.eval, Array.getD_eq_getD_getElem?, Option.getD_some, *])) ?_
         with_reducible refine (num_SubSat.calls t298 t299 t317 _ A65.out).mono ?_
         rintro e w' ⟨rfl, ⟨nd, rfl⟩⟩
         refine ⟨_, rfl, ?_⟩
         refine hK.out _ _ ⟨(qC BK278.out 0).trans rfl, (qC BK278.out 1).trans rfl⟩ (fun hHeld => ?_)
         clear hK K
         refine norm_ (a' := ?_) ?_ ?_
         rotate_left
         ·show Act.put _ (some 77) _ = _
          simp only [Act.put, List.setIfInBounds_toArray, List.set_cons_zero, List.set_cons_succ, i64_w, i32_w]
          rfl
         refine two_ (i := 6) (j := 12) (Ni := some 80) (Nj := some 11) #[true, true, true, true, true, true, true, false, false, false, false, false, false, false, false] #[true, true, true, true, true, true, false, false, false, false, false, false, true, false, false] rfl rfl rfl rfl (two_of HT_.out (by kernel_rfl)) (by decide) (by decide) (fun K hK => ?_) (fun K hK => ?_)
         ·skip
          refine goes_ Tryd.func123 (by kernel_rfl) rfl #[.int .i64 t298, .int .i64 t299] (by rfl) rfl rfl (by (try simp only [List.map_toArray, List.map_cons, List.map_nil]); first | done | rfl | (simp only [*]; done) | (simp only [List.length_drop, List.length_take]; rfl) | (simp only [Act.eval, Array.getD_eq_getD_getElem?, Option.getD_some, *])) ?_
          with_reducible refine (num_AddSat.calls t298 t299 t318 _ A66.out).mono ?_
          rintro e w' ⟨rfl, ⟨nd, rfl⟩⟩
          refine ⟨_, rfl, ?_⟩
          refine hK.out _ _ ⟨(qC BK278.out 0).trans rfl, (qC BK278.out 1).trans rfl⟩ (fun hHeld => ?_)
          clear hK K
          refine norm_ (a' := ?_) ?_ ?_
          rotate_left
          ·show Act.put _ (some 80) _ = _
           simp only [Act.put, List.setIfInBounds_toArray, List.set_cons_zero, List.set_cons_succ, i64_w, i32_w]
           rfl
          refine pure_ (i := 7) (N := some 81) (v := ?_) (a' := ?_) #[true, true, true, true, true, true, true, true, false, false, false, false, false, false, false] rfl rfl (any_of HT_.out (by kernel_rfl)) (fun _ _ _ h => h) (Or.inl ⟨by rfl, ?_⟩) ?_ ?_
          rotate_left
          ·intro w'
           go_simp
           with_reducible rfl
          rotate_left
          ·simp only [Act.put, List.setIfInBounds_toArray, List.set_cons_zero, List.set_cons_succ, i64_w, i32_w]
           rfl
          refine two_ (i := 8) (j := 12) (Ni := some 82) (Nj := some 11) #[true, true, true, true, true, true, true, true, true, false, false, false, false, false, false] #[true, true, true, true, true, true, true, true, false, false, false, false, true, false, false] rfl rfl rfl rfl (two_of HT_.out (by kernel_rfl)) (by decide) (by decide) (fun K hK => ?_) (fun K hK => ?_)
          ·skip
           refine goes_ Tryd.func122 (by kernel_rfl) rfl #[.agg #[.int .i64 a2_0, .int .i64 a2_1], .agg #[.int .i64 t317, .int .i64 t318]] (by rfl) rfl rfl (by (try simp only [List.map_toArray, List.map_cons, List.map_nil]); first | done | rfl | (simp only [*]; done) | (simp only [List.length_drop, List.length_take]; rfl) | (simp only [Act.eval, Array.getD_eq_getD_getElem?, Option.getD_some, *])) ?_
           with_reducible refine (span_Meet.calls a2_0 a2_1 t317 t318 t319 t320 t321 _ A67.out).mono ?_
           rintro e w75 ⟨rfl, hb⟩
           refine ⟨_, rfl, ?_⟩
           have n0_ := qS (qB (g := gb277) (o := .cells (ce10_0 a0_0 a0_1 a0_2 a0_3 a0_4 a0_5 a0_6 true a0_8 a0_9 a0_10 a0_11 a0_12) 137 (0, 0)) (qW BK277.out) hb)
           have n1_ := qS (qB (g := gb278) (o := .cells #[.int .i64 a2_0, .int .i64 a2_1] 86 (0, 0)) (qW BK278.out) hb)
           have n2_ := qS (qB (g := gb279) (o := .cells (ce10_0 0 0 0 0 0 0 0 false 0 0 0 0 0) 137 (0, 0)) (qW BK279.out) hb)
           have n3_ := qS (below_step (bW3 HB.out GE277.out GE278.out GE279.out) hb)
           clear BK277
           clear BK278
           clear BK279
           clear HB
           have BK277 := n0_
           have BK278 := n1_
           have BK279 := n2_
           have HB := n3_
           clear n0_ n1_ n2_ n3_
           (try clear hb)
           (try clear hb2)
           (try clear hk)
           (try clear hi)
           refine hK.out _ _ ⟨(qC BK278.out 0).trans rfl, (qC BK278.out 1).trans rfl⟩ (fun hHeld => ?_)
           clear hK K
           refine norm_ (a' := ?_) ?_ ?_
           rotate_left
           ·show Act.put _ (some 82) _ = _
            simp only [Act.put, List.setIfInBounds_toArray, List.set_cons_zero, List.set_cons_succ, i64_w, i32_w]
            rfl
           refine pure_ (i := 9) (N := some 73) (v := ?_) (a' := ?_) #[true, true, true, true, true, true, true, true, true, true, false, false, false, false, false] rfl rfl (any_of HT_.out (by kernel_rfl)) (fun _ _ _ h => h) (Or.inl ⟨by rfl, ?_⟩) ?_ ?_
           rotate_left
           ·intro w'
            go_simp
            with_reducible rfl
           rotate_left
           ·simp only [Act.put, List.setIfInBounds_toArray, List.set_cons_zero, List.set_cons_succ, i64_w, i32_w]
            rfl
           refine pure_ (i := 10) (N := some 83) (v := ?_) (a' := ?_) #[true, true, true, true, true, true, true, true, true, true, true, false, false, false, false] rfl rfl (any_of HT_.out (by kernel_rfl)) (fun _ _ _ h => h) (Or.inl ⟨by rfl, ?_⟩) ?_ ?_
           rotate_left
           ·intro w'
            go_simp
            with_reducible rfl
           rotate_left
           ·simp only [Act.put, List.setIfInBounds_toArray, List.set_cons_zero, List.set_cons_succ, i64_w, i32_w]
            rfl
           refine pure_ (i := 11) (N := some 84) (v := ?_) (a' := ?_) #[true, true, true, true, true, true, true, true, true, true, true, true, false, false, false] rfl rfl (any_of HT_.out (by kernel_rfl)) (fun _ _ _ h => h) (Or.inl ⟨by rfl, ?_⟩) ?_ ?_
           rotate_left
           ·intro w'
            go_simp
            with_reducible rfl
           rotate_left
           ·simp only [Act.put, List.setIfInBounds_toArray, List.set_cons_zero, List.set_cons_succ, i64_w, i32_w]
            rfl
           refine one_ (i := 12) (N := some 11) #[true, true, true, true, true, true, true, true, true, true, true, true, true, false, false] rfl rfl (one_of HT_.out (by kernel_rfl)) (by decide) (fun K hK => ?_)
           refine box_step ?hg (N := 11) ?hd (cs := #[.int .i64 0, .int .i64 0]) (t := 86) ?hr ?_; (case hd => rfl); (case hg => rfl); (case hr => first | (go_simp; done) | (go_simp; rfl))
           intro gb322 hg w76 hbox hb
           have n0_ := qS (qB (g := gb277) (o := .cells (ce10_0 a0_0 a0_1 a0_2 a0_3 a0_4 a0_5 a0_6 true a0_8 a0_9 a0_10 a0_11 a0_12) 137 (0, 0)) (qW BK277.out) hb)
           have n1_ := qS (qB (g := gb278) (o := .cells #[.int .i64 a2_0, .int .i64 a2_1] 86 (0, 0)) (qW BK278.out) hb)
           have n2_ := qS (qB (g := gb279) (o := .cells (ce10_0 0 0 0 0 0 0 0 false 0 0 0 0 0) 137 (0, 0)) (qW BK279.out) hb)
           have n3_ := qS (below_step (bW3 HB.out GE277.out GE278.out GE279.out) hb)
           have n4_ := qS (hbox)
           have n5_ := qS ((by rw [hg]; exact (below_size (bW3 HB.out GE277.out GE278.out GE279.out)) : w.heap.size ≤ gb322))
           have n6_ := qS ((by rw [hg]; exact (below_size (bW3 HB.out GE277.out GE278.out GE279.out)) : w.heap.size ≤ gb322))
           have n7_ := qS ((by rw [hg]; exact Nat.ne_of_lt (blk_lt (g := gb277) (o := .cells (ce10_0 a0_0 a0_1 a0_2 a0_3 a0_4 a0_5 a0_6 true a0_8 a0_9 a0_10 a0_11 a0_12) 137 (0, 0)) (qW BK277.out)) : gb277 ≠ gb322))
           have n8_ := qS ((by rw [hg]; exact Nat.ne_of_gt (blk_lt (g := gb277) (o := .cells (ce10_0 a0_0 a0_1 a0_2 a0_3 a0_4 a0_5 a0_6 true a0_8 a0_9 a0_10 a0_11 a0_12) 137 (0, 0)) (qW BK277.out)) : gb322 ≠ gb277))
           have n9_ := qS ((by rw [hg]; exact Nat.ne_of_lt (blk_lt (g := gb278) (o := .cells #[.int .i64 a2_0, .int .i64 a2_1] 86 (0, 0)) (qW BK278.out)) : gb278 ≠ gb322))
           have n10_ := qS ((by rw [hg]; exact Nat.ne_of_gt (blk_lt (g := gb278) (o := .cells #[.int .i64 a2_0, .int .i64 a2_1] 86 (0, 0)) (qW BK278.out)) : gb322 ≠ gb278))
           have n11_ := qS ((by rw [hg]; exact Nat.ne_of_lt (blk_lt (g := gb279) (o := .cells (ce10_0 0 0 0 0 0 0 0 false 0 0 0 0 0) 137 (0, 0)) (qW BK279.out)) : gb279 ≠ gb322))
           have n12_ := qS ((by rw [hg]; exact Nat.ne_of_gt (blk_lt (g := gb279) (o := .cells (ce10_0 0 0 0 0 0 0 0 false 0 0 0 0 0) 137 (0, 0)) (qW BK279.out)) : gb322 ≠ gb279))
           clear BK277
           clear BK278
           clear BK279
           clear HB
           have BK277 := n0_
           have BK278 := n1_
           have BK279 := n2_
           have HB := n3_
           have BK322 := n4_
           have GW322 := n5_
           have GE322 := n6_
           have NB277_322 := n7_
           have NB322_277 := n8_
           have NB278_322 := n9_
           have NB322_278 := n10_
           have NB279_322 := n11_
           have NB322_279 := n12_
           clear n0_ n1_ n2_ n3_ n4_ n5_ n6_ n7_ n8_ n9_ n10_ n11_ n12_
           clear hb hbox hg
           refine hK.out _ _ ⟨(qC BK278.out 0).trans rfl, (qC BK278.out 1).trans rfl⟩ (fun hHeld => ?_)
           clear hK K
           refine norm_ (a' := ?_) ?_ ?_
           rotate_left
           ·show Act.put _ (some 11) _ = _
            simp only [Act.put, List.setIfInBounds_toArray, List.set_cons_zero, List.set_cons_succ, i64_w, i32_w]
            rfl
           exact norm_ (by simp only [putAll, Act.put, List.setIfInBounds_toArray, List.set_cons_zero, List.set_cons_succ]) (hCont (gb322) _ ⟨hHeld, (qW BK277.out), (qW BK278.out), (qW BK279.out), (qW BK322.out), GW322.out, GE322.out, NB277_322.out, NB322_277.out, NB278_322.out, NB322_278.out, NB279_322.out, NB322_279.out, (bW4 HB.out GE277.out GE278.out GE279.out GE322.out)⟩)
          ·skip
           refine box_step ?hg (N := 11) ?hd (cs := #[.int .i64 0, .int .i64 0]) (t := 86) ?hr ?_; (case hd => rfl); (case hg => rfl); (case hr => first | (go_simp; done) | (go_simp; rfl))
           intro gb322 hg w75 hbox hb
           have n0_ := qS (qB (g := gb277) (o := .cells (ce10_0 a0_0 a0_1 a0_2 a0_3 a0_4 a0_5 a0_6 true a0_8 a0_9 a0_10 a0_11 a0_12) 137 (0, 0)) (qW BK277.out) hb)
           have n1_ := qS (qB (g := gb278) (o := .cells #[.int .i64 a2_0, .int .i64 a2_1] 86 (0, 0)) (qW BK278.out) hb)
           have n2_ := qS (qB (g := gb279) (o := .cells (ce10_0 0 0 0 0 0 0 0 false 0 0 0 0 0) 137 (0, 0)) (qW BK279.out) hb)
           have n3_ := qS (below_step (bW3 HB.out GE277.out GE278.out GE279.out) hb)
           have n4_ := qS (hbox)
           have n5_ := qS ((by rw [hg]; exact (below_size (bW3 HB.out GE277.out GE278.out GE279.out)) : w.heap.size ≤ gb322))
           have n6_ := qS ((by rw [hg]; exact (below_size (bW3 HB.out GE277.out GE278.out GE279.out)) : w.heap.size ≤ gb322))
           have n7_ := qS ((by rw [hg]; exact Nat.ne_of_lt (blk_lt (g := gb277) (o := .cells (ce10_0 a0_0 a0_1 a0_2 a0_3 a0_4 a0_5 a0_6 true a0_8 a0_9 a0_10 a0_11 a0_12) 137 (0, 0)) (qW BK277.out)) : gb277 ≠ gb322))
           have n8_ := qS ((by rw [hg]; exact Nat.ne_of_gt (blk_lt (g := gb277) (o := .cells (ce10_0 a0_0 a0_1 a0_2 a0_3 a0_4 a0_5 a0_6 true a0_8 a0_9 a0_10 a0_11 a0_12) 137 (0, 0)) (qW BK277.out)) : gb322 ≠ gb277))
           have n9_ := qS ((by rw [hg]; exact Nat.ne_of_lt (blk_lt (g := gb278) (o := .cells #[.int .i64 a2_0, .int .i64 a2_1] 86 (0, 0)) (qW BK278.out)) : gb278 ≠ gb322))
           have n10_ := qS ((by rw [hg]; exact Nat.ne_of_gt (blk_lt (g := gb278) (o := .cells #[.int .i64 a2_0, .int .i64 a2_1] 86 (0, 0)) (qW BK278.out)) : gb322 ≠ gb278))
           have n11_ := qS ((by rw [hg]; exact Nat.ne_of_lt (blk_lt (g := gb279) (o := .cells (ce10_0 0 0 0 0 0 0 0 false 0 0 0 0 0) 137 (0, 0)) (qW BK279.out)) : gb279 ≠ gb322))
           have n12_ := qS ((by rw [hg]; exact Nat.ne_of_gt (blk_lt (g := gb279) (o := .cells (ce10_0 0 0 0 0 0 0 0 false 0 0 0 0 0) 137 (0, 0)) (qW BK279.out)) : gb322 ≠ gb279))
           clear BK277
           clear BK278
           clear BK279
           clear HB
           have BK277 := n0_
           have BK278 := n1_
           have BK279 := n2_
           have HB := n3_
           have BK322 := n4_
           have GW322 := n5_
           have GE322 := n6_
           have NB277_322 := n7_
           have NB322_277 := n8_
           have NB278_322 := n9_
           have NB322_278 := n10_
           have NB279_322 := n11_
           have NB322_279 := n12_
           clear n0_ n1_ n2_ n3_ n4_ n5_ n6_ n7_ n8_ n9_ n10_ n11_ n12_
           clear hb hbox hg
           refine hK.out _ _ ⟨(qC BK278.out 0).trans rfl, (qC BK278.out 1).trans rfl⟩ (fun hHeld => ?_)
           clear hK K
           refine norm_ (a' := ?_) ?_ ?_
           rotate_left
           ·show Act.put _ (some 11) _ = _
            simp only [Act.put, List.setIfInBounds_toArray, List.set_cons_zero, List.set_cons_succ, i64_w, i32_w]
            rfl
           refine one_ (i := 8) (N := some 82) #[true, true, true, true, true, true, true, true, true, false, false, false, true, false, false] rfl rfl (one_of HT_.out (by kernel_rfl)) (by decide) (fun K hK => ?_)
           refine goes_ Tryd.func122 (by kernel_rfl) rfl #[.agg #[.int .i64 a2_0, .int .i64 a2_1], .agg #[.int .i64 t317, .int .i64 t318]] (by rfl) rfl rfl (by (try simp only [List.map_toArray, List.map_cons, List.map_nil]); first | done | rfl | (simp only [*]; done) | (simp only [List.length_drop, List.length_take]; rfl) | (simp only [Act.eval, Array.getD_eq_getD_getElem?, Option.getD_some, *])) ?_
           with_reducible refine (span_Meet.calls a2_0 a2_1 t317 t318 t319 t320 t321 _ A67.out).mono ?_
           rintro e w76 ⟨rfl, hb⟩
           refine ⟨_, rfl, ?_⟩
           have n0_ := qS (qB (g := gb277) (o := .cells (ce10_0 a0_0 a0_1 a0_2 a0_3 a0_4 a0_5 a0_6 true a0_8 a0_9 a0_10 a0_11 a0_12) 137 (0, 0)) (qW BK277.out) hb)
           have n1_ := qS (qB (g := gb278) (o := .cells #[.int .i64 a2_0, .int .i64 a2_1] 86 (0, 0)) (qW BK278.out) hb)
           have n2_ := qS (qB (g := gb279) (o := .cells (ce10_0 0 0 0 0 0 0 0 false 0 0 0 0 0) 137 (0, 0)) (qW BK279.out) hb)
           have n3_ := qS (qB (g := gb322) (o := .cells #[.int .i64 0, .int .i64 0] 86 (0, 0)) (qW BK322.out) hb)
           have n4_ := qS (below_step (bW4 HB.out GE277.out GE278.out GE279.out GE322.out) hb)
           clear BK277
           clear BK278
           clear BK279
           clear BK322
           clear HB
           have BK277 := n0_
           have BK278 := n1_
           have BK279 := n2_
           have BK322 := n3_
           have HB := n4_
           clear n0_ n1_ n2_ n3_ n4_
           (try clear hb)
           (try clear hb2)
           (try clear hk)
           (try clear hi)
           refine hK.out _ _ ⟨(qC BK278.out 0).trans rfl, (qC BK278.out 1).trans rfl⟩ (fun hHeld => ?_)
           clear hK K
           refine norm_ (a' := ?_) ?_ ?_
           rotate_left
           ·show Act.put _ (some 82) _ = _
            simp only [Act.put, List.setIfInBounds_toArray, List.set_cons_zero, List.set_cons_succ, i64_w, i32_w]
            rfl
           refine pure_ (i := 9) (N := some 73) (v := ?_) (a' := ?_) #[true, true, true, true, true, true, true, true, true, true, false, false, true, false, false] rfl rfl (any_of HT_.out (by kernel_rfl)) (fun _ _ _ h => h) (Or.inl ⟨by rfl, ?_⟩) ?_ ?_
           rotate_left
           ·intro w'
            go_simp
            with_reducible rfl
           rotate_left
           ·simp only [Act.put, List.setIfInBounds_toArray, List.set_cons_zero, List.set_cons_succ, i64_w, i32_w]
            rfl
           refine pure_ (i := 10) (N := some 83) (v := ?_) (a' := ?_) #[true, true, true, true, true, true, true, true, true, true, true, false, true, false, false] rfl rfl (any_of HT_.out (by kernel_rfl)) (fun _ _ _ h => h) (Or.inl ⟨by rfl, ?_⟩) ?_ ?_
           rotate_left
           ·intro w'
            go_simp
            with_reducible rfl
           rotate_left
           ·simp only [Act.put, List.setIfInBounds_toArray, List.set_cons_zero, List.set_cons_succ, i64_w, i32_w]
            rfl
           refine pure_ (i := 11) (N := some 84) (v := ?_) (a' := ?_) #[true, true, true, true, true, true, true, true, true, true, true, true, true, false, false] rfl rfl (any_of HT_.out (by kernel_rfl)) (fun _ _ _ h => h) (Or.inl ⟨by rfl, ?_⟩) ?_ ?_
           rotate_left
           ·intro w'
            go_simp
            with_reducible rfl
           rotate_left
           ·simp only [Act.put, List.setIfInBounds_toArray, List.set_cons_zero, List.set_cons_succ, i64_w, i32_w]
            rfl
           exact norm_ (by simp only [putAll, Act.put, List.setIfInBounds_toArray, List.set_cons_zero, List.set_cons_succ]) (hCont (gb322) _ ⟨hHeld, (qW BK277.out), (qW BK278.out), (qW BK279.out), (qW BK322.out), GW322.out, GE322.out, NB277_322.out, NB322_277.out, NB278_322.out, NB322_278.out, NB279_322.out, NB322_279.out, (bW4 HB.out GE277.out GE278.out GE279.out GE322.out)⟩)
         ·skip
          refine box_step ?hg (N := 11) ?hd (cs := #[.int .i64 0, .int .i64 0]) (t := 86) ?hr ?_; (case hd => rfl); (case hg => rfl); (case hr => first | (go_simp; done) | (go_simp; rfl))
          intro gb322 hg w75 hbox hb
          have n0_ := qS (qB (g := gb277) (o := .cells (ce10_0 a0_0 a0_1 a0_2 a0_3 a0_4 a0_5 a0_6 true a0_8 a0_9 a0_10 a0_11 a0_12) 137 (0, 0)) (qW BK277.out) hb)
          have n1_ := qS (qB (g := gb278) (o := .cells #[.int .i64 a2_0, .int .i64 a2_1] 86 (0, 0)) (qW BK278.out) hb)
          have n2_ := qS (qB (g := gb279) (o := .cells (ce10_0 0 0 0 0 0 0 0 false 0 0 0 0 0) 137 (0, 0)) (qW BK279.out) hb)
          have n3_ := qS (below_step (bW3 HB.out GE277.out GE278.out GE279.out) hb)
          have n4_ := qS (hbox)
          have n5_ := qS ((by rw [hg]; exact (below_size (bW3 HB.out GE277.out GE278.out GE279.out)) : w.heap.size ≤ gb322))
          have n6_ := qS ((by rw [hg]; exact (below_size (bW3 HB.out GE277.out GE278.out GE279.out)) : w.heap.size ≤ gb322))
          have n7_ := qS ((by rw [hg]; exact Nat.ne_of_lt (blk_lt (g := gb277) (o := .cells (ce10_0 a0_0 a0_1 a0_2 a0_3 a0_4 a0_5 a0_6 true a0_8 a0_9 a0_10 a0_11 a0_12) 137 (0, 0)) (qW BK277.out)) : gb277 ≠ gb322))
          have n8_ := qS ((by rw [hg]; exact Nat.ne_of_gt (blk_lt (g := gb277) (o := .cells (ce10_0 a0_0 a0_1 a0_2 a0_3 a0_4 a0_5 a0_6 true a0_8 a0_9 a0_10 a0_11 a0_12) 137 (0, 0)) (qW BK277.out)) : gb322 ≠ gb277))
          have n9_ := qS ((by rw [hg]; exact Nat.ne_of_lt (blk_lt (g := gb278) (o := .cells #[.int .i64 a2_0, .int .i64 a2_1] 86 (0, 0)) (qW BK278.out)) : gb278 ≠ gb322))
          have n10_ := qS ((by rw [hg]; exact Nat.ne_of_gt (blk_lt (g := gb278) (o := .cells #[.int .i64 a2_0, .int .i64 a2_1] 86 (0, 0)) (qW BK278.out)) : gb322 ≠ gb278))
          have n11_ := qS ((by rw [hg]; exact Nat.ne_of_lt (blk_lt (g := gb279) (o := .cells (ce10_0 0 0 0 0 0 0 0 false 0 0 0 0 0) 137 (0, 0)) (qW BK279.out)) : gb279 ≠ gb322))
          have n12_ := qS ((by rw [hg]; exact Nat.ne_of_gt (blk_lt (g := gb279) (o := .cells (ce10_0 0 0 0 0 0 0 0 false 0 0 0 0 0) 137 (0, 0)) (qW BK279.out)) : gb322 ≠ gb279))
          clear BK277
          clear BK278
          clear BK279
          clear HB
          have BK277 := n0_
          have BK278 := n1_
          have BK279 := n2_
          have HB := n3_
          have BK322 := n4_
          have GW322 := n5_
          have GE322 := n6_
          have NB277_322 := n7_
          have NB322_277 := n8_
          have NB278_322 := n9_
          have NB322_278 := n10_
          have NB279_322 := n11_
          have NB322_279 := n12_
          clear n0_ n1_ n2_ n3_ n4_ n5_ n6_ n7_ n8_ n9_ n10_ n11_ n12_
          clear hb hbox hg
          refine hK.out _ _ ⟨(qC BK278.out 0).trans rfl, (qC BK278.out 1).trans rfl⟩ (fun hHeld => ?_)
          clear hK K
          refine norm_ (a' := ?_) ?_ ?_
          rotate_left
          ·show Act.put _ (some 11) _ = _
           simp only [Act.put, List.setIfInBounds_toArray, List.set_cons_zero, List.set_cons_succ, i64_w, i32_w]
           rfl
          refine one_ (i := 6) (N := some 80) #[true, true, true, true, true, true, true, false, false, false, false, false, true, false, false] rfl rfl (one_of HT_.out (by kernel_rfl)) (by decide) (fun K hK => ?_)
          refine goes_ Tryd.func123 (by kernel_rfl) rfl #[.int .i64 t298, .int .i64 t299] (by rfl) rfl rfl (by (try simp only [List.map_toArray, List.map_cons, List.map_nil]); first | done | rfl | (simp only [*]; done) | (simp only [List.length_drop, List.length_take]; rfl) | (simp only [Act.eval, Array.getD_eq_getD_getElem?, Option.getD_some, *])) ?_
          with_reducible refine (num_AddSat.calls t298 t299 t318 _ A66.out).mono ?_
          rintro e w' ⟨rfl, ⟨nd, rfl⟩⟩
          refine ⟨_, rfl, ?_⟩
          refine hK.out _ _ ⟨(qC BK278.out 0).trans rfl, (qC BK278.out 1).trans rfl⟩ (fun hHeld => ?_)
          clear hK K
          refine norm_ (a' := ?_) ?_ ?_
          rotate_left
          ·show Act.put _ (some 80) _ = _
           simp only [Act.put, List.setIfInBounds_toArray, List.set_cons_zero, List.set_cons_succ, i64_w, i32_w]
           rfl
          refine pure_ (i := 7) (N := some 81) (v := ?_) (a' := ?_) #[true, true, true, true, true, true, true, true, false, false, false, false, true, false, false] rfl rfl (any_of HT_.out (by kernel_rfl)) (fun _ _ _ h => h) (Or.inl ⟨by rfl, ?_⟩) ?_ ?_
          rotate_left
          ·intro w'
           go_simp
           with_reducible rfl
          rotate_left
          ·simp only [Act.put, List.setIfInBounds_toArray, List.set_cons_zero, List.set_cons_succ, i64_w, i32_w]
           rfl
          refine one_ (i := 8) (N := some 82) #[true, true, true, true, true, true, true, true, true, false, false, false, true, false, false] rfl rfl (one_of HT_.out (by kernel_rfl)) (by decide) (fun K hK => ?_)
          refine goes_ Tryd.func122 (by kernel_rfl) rfl #[.agg #[.int .i64 a2_0, .int .i64 a2_1], .agg #[.int .i64 t317, .int .i64 t318]] (by rfl) rfl rfl (by (try simp only [List.map_toArray, List.map_cons, List.map_nil]); first | done | rfl | (simp only [*]; done) | (simp only [List.length_drop, List.length_take]; rfl) | (simp only [Act.eval, Array.getD_eq_getD_getElem?, Option.getD_some, *])) ?_
          with_reducible refine (span_Meet.calls a2_0 a2_1 t317 t318 t319 t320 t321 _ A67.out).mono ?_
          rintro e w76 ⟨rfl, hb⟩
          refine ⟨_, rfl, ?_⟩
          have n0_ := qS (qB (g := gb277) (o := .cells (ce10_0 a0_0 a0_1 a0_2 a0_3 a0_4 a0_5 a0_6 true a0_8 a0_9 a0_10 a0_11 a0_12) 137 (0, 0)) (qW BK277.out) hb)
          have n1_ := qS (qB (g := gb278) (o := .cells #[.int .i64 a2_0, .int .i64 a2_1] 86 (0, 0)) (qW BK278.out) hb)
          have n2_ := qS (qB (g := gb279) (o := .cells (ce10_0 0 0 0 0 0 0 0 false 0 0 0 0 0) 137 (0, 0)) (qW BK279.out) hb)
          have n3_ := qS (qB (g := gb322) (o := .cells #[.int .i64 0, .int .i64 0] 86 (0, 0)) (qW BK322.out) hb)
          have n4_ := qS (below_step (bW4 HB.out GE277.out GE278.out GE279.out GE322.out) hb)
          clear BK277
          clear BK278
          clear BK279
          clear BK322
          clear HB
          have BK277 := n0_
          have BK278 := n1_
          have BK279 := n2_
          have BK322 := n3_
          have HB := n4_
          clear n0_ n1_ n2_ n3_ n4_
          (try clear hb)
          (try clear hb2)
          (try clear hk)
          (try clear hi)
          refine hK.out _ _ ⟨(qC BK278.out 0).trans rfl, (qC BK278.out 1).trans rfl⟩ (fun hHeld => ?_)
          clear hK K
          refine norm_ (a' := ?_) ?_ ?_
          rotate_left
          ·show Act.put _ (some 82) _ = _
           simp only [Act.put, List.setIfInBounds_toArray, List.set_cons_zero, List.set_cons_succ, i64_w, i32_w]
           rfl
          refine pure_ (i := 9) (N := some 73) (v := ?_) (a' := ?_) #[true, true, true, true, true, true, true, true, true, true, false, false, true, false, false] rfl rfl (any_of HT_.out (by kernel_rfl)) (fun _ _ _ h => h) (Or.inl ⟨by rfl, ?_⟩) ?_ ?_
          rotate_left
          ·intro w'
           go_simp
           with_reducible rfl
          rotate_left
          ·simp only [Act.put, List.setIfInBounds_toArray, List.set_cons_zero, List.set_cons_succ, i64_w, i32_w]
           rfl
          refine pure_ (i := 10) (N := some 83) (v := ?_) (a' := ?_) #[true, true, true, true, true, true, true, true, true, true, true, false, true, false, false] rfl rfl (any_of HT_.out (by kernel_rfl)) (fun _ _ _ h => h) (Or.inl ⟨by rfl, ?_⟩) ?_ ?_
          rotate_left
          ·intro w'
           go_simp
           with_reducible rfl
          rotate_left
          ·simp only [Act.put, List.setIfInBounds_toArray, List.set_cons_zero, List.set_cons_succ, i64_w, i32_w]
           rfl
          refine pure_ (i := 11) (N := some 84) (v := ?_) (a' := ?_) #[true, true, true, true, true, true, true, true, true, true, true, true, true, false, false] rfl rfl (any_of HT_.out (by kernel_rfl)) (fun _ _ _ h => h) (Or.inl ⟨by rfl, ?_⟩) ?_ ?_
          rotate_left
          ·intro w'
           go_simp
           with_reducible rfl
          rotate_left
          ·simp only [Act.put, List.setIfInBounds_toArray, List.set_cons_zero, List.set_cons_succ, i64_w, i32_w]
           rfl
          exact norm_ (by simp only [putAll, Act.put, List.setIfInBounds_toArray, List.set_cons_zero, List.set_cons_succ]) (hCont (gb322) _ ⟨hHeld, (qW BK277.out), (qW BK278.out), (qW BK279.out), (qW BK322.out), GW322.out, GE322.out, NB277_322.out, NB322_277.out, NB278_322.out, NB322_278.out, NB279_322.out, NB322_279.out, (bW4 HB.out GE277.out GE278.out GE279.out GE322.out)⟩)
        ·skip
         refine box_step ?hg (N := 11) ?hd (cs := #[.int .i64 0, .int .i64 0]) (t := 86) ?hr ?_; (case hd => rfl); (case hg => rfl); (case hr => first | (go_simp; done) | (go_simp; rfl))
         intro gb322 hg w75 hbox hb
         have n0_ := qS (qB (g := gb277) (o := .cells (ce10_0 a0_0 a0_1 a0_2 a0_3 a0_4 a0_5 a0_6 true a0_8 a0_9 a0_10 a0_11 a0_12) 137 (0, 0)) (qW BK277.out) hb)
         have n1_ := qS (qB (g := gb278) (o := .cells #[.int .i64 a2_0, .int .i64 a2_1] 86 (0, 0)) (qW BK278.out) hb)
         have n2_ := qS (qB (g := gb279) (o := .cells (ce10_0 0 0 0 0 0 0 0 false 0 0 0 0 0) 137 (0, 0)) (qW BK279.out) hb)
         have n3_ := qS (below_step (bW3 HB.out GE277.out GE278.out GE279.out) hb)
         have n4_ := qS (hbox)
         have n5_ := qS ((by rw [hg]; exact (below_size (bW3 HB.out GE277.out GE278.out GE279.out)) : w.heap.size ≤ gb322))
         have n6_ := qS ((by rw [hg]; exact (below_size (bW3 HB.out GE277.out GE278.out GE279.out)) : w.heap.size ≤ gb322))
         have n7_ := qS ((by rw [hg]; exact Nat.ne_of_lt (blk_lt (g := gb277) (o := .cells (ce10_0 a0_0 a0_1 a0_2 a0_3 a0_4 a0_5 a0_6 true a0_8 a0_9 a0_10 a0_11 a0_12) 137 (0, 0)) (qW BK277.out)) : gb277 ≠ gb322))
         have n8_ := qS ((by rw [hg]; exact Nat.ne_of_gt (blk_lt (g := gb277) (o := .cells (ce10_0 a0_0 a0_1 a0_2 a0_3 a0_4 a0_5 a0_6 true a0_8 a0_9 a0_10 a0_11 a0_12) 137 (0, 0)) (qW BK277.out)) : gb322 ≠ gb277))
         have n9_ := qS ((by rw [hg]; exact Nat.ne_of_lt (blk_lt (g := gb278) (o := .cells #[.int .i64 a2_0, .int .i64 a2_1] 86 (0, 0)) (qW BK278.out)) : gb278 ≠ gb322))
         have n10_ := qS ((by rw [hg]; exact Nat.ne_of_gt (blk_lt (g := gb278) (o := .cells #[.int .i64 a2_0, .int .i64 a2_1] 86 (0, 0)) (qW BK278.out)) : gb322 ≠ gb278))
         have n11_ := qS ((by rw [hg]; exact Nat.ne_of_lt (blk_lt (g := gb279) (o := .cells (ce10_0 0 0 0 0 0 0 0 false 0 0 0 0 0) 137 (0, 0)) (qW BK279.out)) : gb279 ≠ gb322))
         have n12_ := qS ((by rw [hg]; exact Nat.ne_of_gt (blk_lt (g := gb279) (o := .cells (ce10_0 0 0 0 0 0 0 0 false 0 0 0 0 0) 137 (0, 0)) (qW BK279.out)) : gb322 ≠ gb279))
         clear BK277
         clear BK278
         clear BK279
         clear HB
         have BK277 := n0_
         have BK278 := n1_
         have BK279 := n2_
         have HB := n3_
         have BK322 := n4_
         have GW322 := n5_
         have GE322 := n6_
         have NB277_322 := n7_
         have NB322_277 := n8_
         have NB278_322 := n9_
         have NB322_278 := n10_
         have NB279_322 := n11_
         have NB322_279 := n12_
         clear n0_ n1_ n2_ n3_ n4_ n5_ n6_ n7_ n8_ n9_ n10_ n11_ n12_
         clear hb hbox hg
         refine hK.out _ _ ⟨(qC BK278.out 0).trans rfl, (qC BK278.out 1).trans rfl⟩ (fun hHeld => ?_)
         clear hK K
         refine norm_ (a' := ?_) ?_ ?_
         rotate_left
         ·show Act.put _ (some 11) _ = _
          simp only [Act.put, List.setIfInBounds_toArray, List.set_cons_zero, List.set_cons_succ, i64_w, i32_w]
          rfl
         refine one_ (i := 3) (N := some 77) #[true, true, true, true, true, true, false, false, false, false, false, false, true, false, false] rfl rfl (one_of HT_.out (by kernel_rfl)) (by decide) (fun K hK => ?_)
         refine goes_ Tryd.func77 (by kernel_rfl) rfl #[.int .i64 t298, .int .i64 t299] (by rfl) rfl rfl (by (try simp only [List.map_toArray, List.map_cons, List.map_nil]); first | done | rfl | (simp only [*]; done) | (simp only [List.length_drop, List.length_take]; rfl) | (simp only [Act.eval, Array.getD_eq_getD_getElem?, Option.getD_some, *])) ?_
         with_reducible refine (num_SubSat.calls t298 t299 t317 _ A65.out).mono ?_
         rintro e w' ⟨rfl, ⟨nd, rfl⟩⟩
         refine ⟨_, rfl, ?_⟩
         refine hK.out _ _ ⟨(qC BK278.out 0).trans rfl, (qC BK278.out 1).trans rfl⟩ (fun hHeld => ?_)
         clear hK K
         refine norm_ (a' := ?_) ?_ ?_
         rotate_left
         ·show Act.put _ (some 77) _ = _
          simp only [Act.put, List.setIfInBounds_toArray, List.set_cons_zero, List.set_cons_succ, i64_w, i32_w]
          rfl
         refine one_ (i := 6) (N := some 80) #[true, true, true, true, true, true, true, false, false, false, false, false, true, false, false] rfl rfl (one_of HT_.out (by kernel_rfl)) (by decide) (fun K hK => ?_)
         refine goes_ Tryd.func123 (by kernel_rfl) rfl #[.int .i64 t298, .int .i64 t299] (by rfl) rfl rfl (by (try simp only [List.map_toArray, List.map_cons, List.map_nil]); first | done | rfl | (simp only [*]; done) | (simp only [List.length_drop, List.length_take]; rfl) | (simp only [Act.eval, Array.getD_eq_getD_getElem?, Option.getD_some, *])) ?_
         with_reducible refine (num_AddSat.calls t298 t299 t318 _ A66.out).mono ?_
         rintro e w' ⟨rfl, ⟨nd, rfl⟩⟩
         refine ⟨_, rfl, ?_⟩
         refine hK.out _ _ ⟨(qC BK278.out 0).trans rfl, (qC BK278.out 1).trans rfl⟩ (fun hHeld => ?_)
         clear hK K
         refine norm_ (a' := ?_) ?_ ?_
         rotate_left
         ·show Act.put _ (some 80) _ = _
          simp only [Act.put, List.setIfInBounds_toArray, List.set_cons_zero, List.set_cons_succ, i64_w, i32_w]
          rfl
         refine pure_ (i := 7) (N := some 81) (v := ?_) (a' := ?_) #[true, true, true, true, true, true, true, true, false, false, false, false, true, false, false] rfl rfl (any_of HT_.out (by kernel_rfl)) (fun _ _ _ h => h) (Or.inl ⟨by rfl, ?_⟩) ?_ ?_
         rotate_left
         ·intro w'
          go_simp
          with_reducible rfl
         rotate_left
         ·simp only [Act.put, List.setIfInBounds_toArray, List.set_cons_zero, List.set_cons_succ, i64_w, i32_w]
          rfl
         refine one_ (i := 8) (N := some 82) #[true, true, true, true, true, true, true, true, true, false, false, false, true, false, false] rfl rfl (one_of HT_.out (by kernel_rfl)) (by decide) (fun K hK => ?_)
         refine goes_ Tryd.func122 (by kernel_rfl) rfl #[.agg #[.int .i64 a2_0, .int .i64 a2_1], .agg #[.int .i64 t317, .int .i64 t318]] (by rfl) rfl rfl (by (try simp only [List.map_toArray, List.map_cons, List.map_nil]); first | done | rfl | (simp only [*]; done) | (simp only [List.length_drop, List.length_take]; rfl) | (simp only [Act.eval, Array.getD_eq_getD_getElem?, Option.getD_some, *])) ?_
         with_reducible refine (span_Meet.calls a2_0 a2_1 t317 t318 t319 t320 t321 _ A67.out).mono ?_
         rintro e w76 ⟨rfl, hb⟩
         refine ⟨_, rfl, ?_⟩
         have n0_ := qS (qB (g := gb277) (o := .cells (ce10_0 a0_0 a0_1 a0_2 a0_3 a0_4 a0_5 a0_6 true a0_8 a0_9 a0_10 a0_11 a0_12) 137 (0, 0)) (qW BK277.out) hb)
         have n1_ := qS (qB (g := gb278) (o := .cells #[.int .i64 a2_0, .int .i64 a2_1] 86 (0, 0)) (qW BK278.out) hb)
         have n2_ := qS (qB (g := gb279) (o := .cells (ce10_0 0 0 0 0 0 0 0 false 0 0 0 0 0) 137 (0, 0)) (qW BK279.out) hb)
         have n3_ := qS (qB (g := gb322) (o := .cells #[.int .i64 0, .int .i64 0] 86 (0, 0)) (qW BK322.out) hb)
         have n4_ := qS (below_step (bW4 HB.out GE277.out GE278.out GE279.out GE322.out) hb)
         clear BK277
         clear BK278
         clear BK279
         clear BK322
         clear HB
         have BK277 := n0_
         have BK278 := n1_
         have BK279 := n2_
         have BK322 := n3_
         have HB := n4_
         clear n0_ n1_ n2_ n3_ n4_
         (try clear hb)
         (try clear hb2)
         (try clear hk)
         (try clear hi)
         refine hK.out _ _ ⟨(qC BK278.out 0).trans rfl, (qC BK278.out 1).trans rfl⟩ (fun hHeld => ?_)
         clear hK K
         refine norm_ (a' := ?_) ?_ ?_
         rotate_left
         ·show Act.put _ (some 82) _ = _
          simp only [Act.put, List.setIfInBounds_toArray, List.set_cons_zero, List.set_cons_succ, i64_w, i32_w]
          rfl
         refine pure_ (i := 9) (N := some 73) (v := ?_) (a' := ?_) #[true, true, true, true, true, true, true, true, true, true, false, false, true, false, false] rfl rfl (any_of HT_.out (by kernel_rfl)) (fun _ _ _ h => h) (Or.inl ⟨by rfl, ?_⟩) ?_ ?_
         rotate_left
         ·intro w'
          go_simp
          with_reducible rfl
         rotate_left
         ·simp only [Act.put, List.setIfInBounds_toArray, List.set_cons_zero, List.set_cons_succ, i64_w, i32_w]
          rfl
         refine pure_ (i := 10) (N := some 83) (v := ?_) (a' := ?_) #[true, true, true, true, true, true, true, true, true, true, true, false, true, false, false] rfl rfl (any_of HT_.out (by kernel_rfl)) (fun _ _ _ h => h) (Or.inl ⟨by rfl, ?_⟩) ?_ ?_
         rotate_left
         ·intro w'
          go_simp
          with_reducible rfl
         rotate_left
         ·simp only [Act.put, List.setIfInBounds_toArray, List.set_cons_zero, List.set_cons_succ, i64_w, i32_w]
          rfl
         refine pure_ (i := 11) (N := some 84) (v := ?_) (a' := ?_) #[true, true, true, true, true, true, true, true, true, true, true, true, true, false, false] rfl rfl (any_of HT_.out (by kernel_rfl)) (fun _ _ _ h => h) (Or.inl ⟨by rfl, ?_⟩) ?_ ?_
         rotate_left
         ·intro w'
          go_simp
          with_reducible rfl
         rotate_left
         ·simp only [Act.put, List.setIfInBounds_toArray, List.set_cons_zero, List.set_cons_succ, i64_w, i32_w]
          rfl
         exact norm_ (by simp only [putAll, Act.put, List.setIfInBounds_toArray, List.set_cons_zero, List.set_cons_succ]) (hCont (gb322) _ ⟨hHeld, (qW BK277.out), (qW BK278.out), (qW BK279.out), (qW BK322.out), GW322.out, GE322.out, NB277_322.out, NB322_277.out, NB278_322.out, NB322_278.out, NB279_322.out, NB322_279.out, (bW4 HB.out GE277.out GE278.out GE279.out GE322.out)⟩)
       rintro gb322 w77 ⟨hS_, h0_, h1_, h2_, h3_, h4_, h5_, h6_, h7_, h8_, h9_, h10_, h11_, h12_⟩
       have n0_ : Aside0 (w77.heap[gb277]? = some (.cells (ce10_0 a0_0 a0_1 a0_2 a0_3 a0_4 a0_5 a0_6 true a0_8 a0_9 a0_10 a0_11 a0_12) 137 (0, 0))) := ⟨h0_⟩
       have n1_ : Aside0 (w77.heap[gb278]? = some (.cells #[.int .i64 a2_0, .int .i64 a2_1] 86 (0, 0))) := ⟨h1_⟩
       have n2_ : Aside0 (w77.heap[gb279]? = some (.cells (ce10_0 0 0 0 0 0 0 0 false 0 0 0 0 0) 137 (0, 0))) := ⟨h2_⟩
       have n3_ : Aside0 (w77.heap[gb322]? = some (.cells #[.int .i64 0, .int .i64 0] 86 (0, 0))) := ⟨h3_⟩
       have n4_ : Aside0 (w.heap.size ≤ gb322) := ⟨h4_⟩
       have n5_ : Aside0 (w.heap.size ≤ gb322) := ⟨h5_⟩
       have n6_ : Aside0 (gb277 ≠ gb322) := ⟨h6_⟩
       have n7_ : Aside0 (gb322 ≠ gb277) := ⟨h7_⟩
       have n8_ : Aside0 (gb278 ≠ gb322) := ⟨h8_⟩
       have n9_ : Aside0 (gb322 ≠ gb278) := ⟨h9_⟩
       have n10_ : Aside0 (gb279 ≠ gb322) := ⟨h10_⟩
       have n11_ : Aside0 (gb322 ≠ gb279) := ⟨h11_⟩
       have n12_ : Aside0 (Below w.heap.size w w77) := ⟨h12_⟩
       clear BK277
       clear BK278
       clear BK279
       clear HB
       clear h0_ h1_ h2_ h3_ h4_ h5_ h6_ h7_ h8_ h9_ h10_ h11_ h12_
       have BK277 := n0_
       have BK278 := n1_
       have BK279 := n2_
       have BK322 := n3_
       have GW322 := n4_
       have GE322 := n5_
       have NB277_322 := n6_
       have NB322_277 := n7_
       have NB278_322 := n8_
       have NB322_278 := n9_
       have NB279_322 := n10_
       have NB322_279 := n11_
       have HB := n12_
       clear n0_ n1_ n2_ n3_ n4_ n5_ n6_ n7_ n8_ n9_ n10_ n11_ n12_
       have hHeld : w77.cell? ⟨gb278, 0, none⟩ = some (.int .i64 a2_0) ∧ w77.cell? ⟨gb278, 1, none⟩ = some (.int .i64 a2_1) := hS_
       refine norm_ (a' := ?_) ?_ ?_
       rotate_left
       ·simp only [putAll, Act.put, List.setIfInBounds_toArray, List.set_cons_zero, List.set_cons_succ]
        rfl
       refine one_ (i := 13) (N := none) #[true, true, true, true, true, true, true, true, true, true, true, true, true, true, false] rfl rfl (one_of HT_.out (by kernel_rfl)) (by decide) (fun K hK => ?_)
       have hs78 : w77.cell? ⟨gb322, 0, none⟩ = some (.int .i64 0) := (qC BK322.out 0).trans rfl
       have hfs78 := qF BK322.out 0
       have hns78_0 := NB277_322.out
       have hns78_1 := NB278_322.out
       have hns78_2 := NB279_322.out
       have hms78_0 := NB322_277.out
       have hms78_1 := NB322_278.out
       have hms78_2 := NB322_279.out
       have hs79 : w77.cell? ⟨gb322, 1, none⟩ = some (.int .i64 0) := (qC BK322.out 1).trans rfl
       have hfs79 := qF BK322.out 1
       have hns79_0 := NB277_322.out
       have hns79_1 := NB278_322.out
       have hns79_2 := NB279_322.out
       have hms79_0 := NB322_277.out
       have hms79_1 := NB322_278.out
       have hms79_2 := NB322_279.out
       refine skip_ (w1 := ?_) (by rfl) rfl ?_ ?_
       rotate_left
       ·go_simp
        rfl
       refine hK.out _ _ ⟨((cell_far (p := ⟨gb322, _, none⟩) NB278_322.out _).trans (((cell_far (p := ⟨gb322, _, none⟩) NB278_322.out _).trans (hHeld.1)))), ((cell_far (p := ⟨gb322, _, none⟩) NB278_322.out _).trans (((cell_far (p := ⟨gb322, _, none⟩) NB278_322.out _).trans (hHeld.2))))⟩ (fun hHeld => ?_)
       clear hK K
       refine pure_ (i := 14) (N := some 12) (v := ?_) (a' := ?_) #[true, true, true, true, true, true, true, true, true, true, true, true, true, true, true] rfl rfl (any_of HT_.out (by kernel_rfl)) (fun _ _ _ h => h) (Or.inl ⟨by rfl, ?_⟩) ?_ ?_
       rotate_left
       ·intro w'
        go_simp
        with_reducible rfl
       rotate_left
       ·simp only [Act.put, List.setIfInBounds_toArray, List.set_cons_zero, List.set_cons_succ, i64_w, i32_w]
        rfl
       refine done_ (done_of HT_.out (by kernel_rfl)) ?_
       go_upto_if 85 with (fail)
       go_cut [] (fun wc => ∃ (kq : Nat) (x279000_67 : Int) (x279001_67 : Int), Aside0 (host_Sync.j1 kq a1 t298 a0_0 a0_1 a0_2 a0_3 a0_4 a0_5 a0_6 true a0_8 a0_9 a0_10 a0_11 a0_12 x279000_67 x279001_67 = some (r1, r2, r3, r4, r5, r6, r7, r8, r9, r10, r11, r12, r13, r14)) ∧ Aside0 (kq ≤ kj3) ∧ Aside0 (wc.heap[gb277]? = some (.cells (ce10_0 a0_0 a0_1 a0_2 a0_3 a0_4 a0_5 a0_6 true a0_8 a0_9 a0_10 a0_11 a0_12) 137 (0, 0))) ∧ Aside0 (wc.heap[gb278]? = some (.cells #[.int .i64 x279000_67, .int .i64 x279001_67] 86 (0, 0))) ∧ Aside0 (wc.heap[gb279]? = some (.cells (ce10_0 0 0 0 0 0 0 0 false 0 0 0 0 0) 137 (0, 0))) ∧ Aside0 (wc.heap[gb322]? = some (.cells #[.int .i64 t319, .int .i64 t320] 86 (0, 0))) ∧ Aside0 (Below w.heap.size w wc))
       case first =>
        have H := HC68.out
        clear HC68
        by_cases c80 : t321 = true
        ·subst c80
         have H1 : (host_Sync.j1 kj3 a1 t298 a0_0 a0_1 a0_2 a0_3 a0_4 a0_5 a0_6 true a0_8 a0_9 a0_10 a0_11 a0_12 t319 t320) = some (r1, r2, r3, r4, r5, r6, r7, r8, r9, r10, r11, r12, r13, r14) := by rw [if_pos rfl] at H; exact H
         clear H
         have H := H1
         clear H1
         as_aux_lemma =>
          have H' := qS H
          clear H
          have hnb81 := NB322_277.out
          have hnc81 := NB277_322.out
          have hnb82 := NB322_278.out
          have hnc82 := NB278_322.out
          have hnb83 := NB322_279.out
          have hnc83 := NB279_322.out
          have hcz84_0 : w77.cell? ⟨gb322, 0, none⟩ = some (.int .i64 0) := (qC BK322.out 0).trans rfl
          have hcz84_1 : w77.cell? ⟨gb322, 1, none⟩ = some (.int .i64 0) := (qC BK322.out 1).trans rfl
          have hfz84_0 := qF BK322.out 0
          have hfz84_1 := qF BK322.out 1
          have hnb85 := NB278_277.out
          have hnc85 := NB277_278.out
          have hnb86 := NB278_279.out
          have hnc86 := NB279_278.out
          have hcz87_0 : w77.cell? ⟨gb278, 0, none⟩ = some (.int .i64 a2_0) := (qC BK278.out 0).trans rfl
          have hcz87_1 : w77.cell? ⟨gb278, 1, none⟩ = some (.int .i64 a2_1) := (qC BK278.out 1).trans rfl
          have hfz87_0 := qF BK278.out 0
          have hfz87_1 := qF BK278.out 1
          go_wp2
          go_meet
          case rel => exact ⟨_, (t319), (t320), H', ⟨by have := HJ3.out; first | omega | exact Nat.le_refl _⟩, ⟨by (with_reducible repeat (first | refine qN ?_ _ | refine qD ?_ | refine qA ?_ _)); refine blk_far ?_ NB277_278.out _; (with_reducible repeat (first | refine qN ?_ _ | refine qD ?_ | refine qA ?_ _)); refine blk_far ?_ NB277_278.out _; (with_reducible repeat (first | refine qN ?_ _ | refine qD ?_ | refine qA ?_ _)); refine blk_far ?_ NB277_322.out _; (with_reducible repeat (first | refine qN ?_ _ | refine qD ?_ | refine qA ?_ _)); refine blk_far ?_ NB277_322.out _; (with_reducible repeat (first | refine qN ?_ _ | refine qD ?_ | refine qA ?_ _)); exact BK277.out⟩, ⟨by (with_reducible repeat (first | refine qN ?_ _ | refine qD ?_ | refine qA ?_ _)); refine blk_put (cs := #[.int .i64 t319, .int .i64 a2_1]) ?_ 1 _ rfl; (with_reducible repeat (first | refine qN ?_ _ | refine qD ?_ | refine qA ?_ _)); refine blk_put (cs := #[.int .i64 a2_0, .int .i64 a2_1]) ?_ 0 _ rfl; (with_reducible repeat (first | refine qN ?_ _ | refine qD ?_ | refine qA ?_ _)); refine blk_far ?_ NB278_322.out _; (with_reducible repeat (first | refine qN ?_ _ | refine qD ?_ | refine qA ?_ _)); refine blk_far ?_ NB278_322.out _; (with_reducible repeat (first | refine qN ?_ _ | refine qD ?_ | refine qA ?_ _)); exact BK278.out⟩, ⟨by (with_reducible repeat (first | refine qN ?_ _ | refine qD ?_ | refine qA ?_ _)); refine blk_far ?_ NB279_278.out _; (with_reducible repeat (first | refine qN ?_ _ | refine qD ?_ | refine qA ?_ _)); refine blk_far ?_ NB279_278.out _; (with_reducible repeat (first | refine qN ?_ _ | refine qD ?_ | refine qA ?_ _)); refine blk_far ?_ NB279_322.out _; (with_reducible repeat (first | refine qN ?_ _ | refine qD ?_ | refine qA ?_ _)); refine blk_far ?_ NB279_322.out _; (with_reducible repeat (first | refine qN ?_ _ | refine qD ?_ | refine qA ?_ _)); exact BK279.out⟩, ⟨by (with_reducible repeat (first | refine qN ?_ _ | refine qD ?_ | refine qA ?_ _)); refine blk_far ?_ NB322_278.out _; (with_reducible repeat (first | refine qN ?_ _ | refine qD ?_ | refine qA ?_ _)); refine blk_far ?_ NB322_278.out _; (with_reducible repeat (first | refine qN ?_ _ | refine qD ?_ | refine qA ?_ _)); refine blk_put (cs := #[.int .i64 t319, .int .i64 0]) ?_ 1 _ rfl; (with_reducible repeat (first | refine qN ?_ _ | refine qD ?_ | refine qA ?_ _)); refine blk_put (cs := #[.int .i64 0, .int .i64 0]) ?_ 0 _ rfl; (with_reducible repeat (first | refine qN ?_ _ | refine qD ?_ | refine qA ?_ _)); exact BK322.out⟩, ⟨by repeat (first | (with_reducible first | exact HB.out | apply qpA | apply qpN | apply qp1 | refine qpS ?_ GE277.out | refine qpS ?_ GE278.out | refine qpS ?_ GE279.out | refine qpS ?_ GE322.out) | exact HB.out)⟩⟩
        ·replace c80 := Bool.eq_false_iff.mpr c80
         subst c80
         have H1 : (host_Sync.j1 kj3 a1 t298 a0_0 a0_1 a0_2 a0_3 a0_4 a0_5 a0_6 true a0_8 a0_9 a0_10 a0_11 a0_12 a2_0 a2_1) = some (r1, r2, r3, r4, r5, r6, r7, r8, r9, r10, r11, r12, r13, r14) := by rw [if_neg (show ¬ (false = true) by decide)] at H; exact H
         clear H
         have H := H1
         clear H1
         as_aux_lemma =>
          have H' := qS H
          clear H
          go_wp2
          go_meet
          case rel => exact ⟨_, (a2_0), (a2_1), H', ⟨by have := HJ3.out; first | omega | exact Nat.le_refl _⟩, ⟨by (with_reducible repeat (first | refine qN ?_ _ | refine qD ?_ | refine qA ?_ _)); refine blk_far ?_ NB277_322.out _; (with_reducible repeat (first | refine qN ?_ _ | refine qD ?_ | refine qA ?_ _)); refine blk_far ?_ NB277_322.out _; (with_reducible repeat (first | refine qN ?_ _ | refine qD ?_ | refine qA ?_ _)); exact BK277.out⟩, ⟨by (with_reducible repeat (first | refine qN ?_ _ | refine qD ?_ | refine qA ?_ _)); refine blk_far ?_ NB278_322.out _; (with_reducible repeat (first | refine qN ?_ _ | refine qD ?_ | refine qA ?_ _)); refine blk_far ?_ NB278_322.out _; (with_reducible repeat (first | refine qN ?_ _ | refine qD ?_ | refine qA ?_ _)); exact BK278.out⟩, ⟨by (with_reducible repeat (first | refine qN ?_ _ | refine qD ?_ | refine qA ?_ _)); refine blk_far ?_ NB279_322.out _; (with_reducible repeat (first | refine qN ?_ _ | refine qD ?_ | refine qA ?_ _)); refine blk_far ?_ NB279_322.out _; (with_reducible repeat (first | refine qN ?_ _ | refine qD ?_ | refine qA ?_ _)); exact BK279.out⟩, ⟨by (with_reducible repeat (first | refine qN ?_ _ | refine qD ?_ | refine qA ?_ _)); refine blk_put (cs := #[.int .i64 t319, .int .i64 0]) ?_ 1 _ rfl; (with_reducible repeat (first | refine qN ?_ _ | refine qD ?_ | refine qA ?_ _)); refine blk_put (cs := #[.int .i64 0, .int .i64 0]) ?_ 0 _ rfl; (with_reducible repeat (first | refine qN ?_ _ | refine qD ?_ | refine qA ?_ _)); exact BK322.out⟩, ⟨by repeat (first | (with_reducible first | exact HB.out | apply qpA | apply qpN | apply qp1 | refine qpS ?_ GE277.out | refine qpS ?_ GE278.out | refine qpS ?_ GE279.out | refine qpS ?_ GE322.out) | exact HB.out)⟩⟩
       case rest =>
        clear HC68
        try clear c1
        try clear p2
        try clear c7
        try clear c8
        try clear c12
        try clear c77
        try clear c80
        try clear c81
        try clear c82
        try clear c83
        try clear c85
        try clear c86
        try clear hcz84_0
        try clear hcz84_1
        try clear hcz87_0
        try clear hcz87_1
        try clear hfz84_0
        try clear hfz84_1
        try clear hfz87_0
        try clear hfz87_1
        obtain ⟨kq, x279000_67, x279001_67, HA, HJ67, BK277, BK278, BK279, BK322, HB⟩ := hcut
        cases kq with
        | zero => exact absurd HA.out (by simp [host_Sync.j1])
        | succ kj67 =>
         have H := HA.out
         clear HA
         simp only [host_Sync.j1] at H
         replace H := Option.bind_eq_some_iff.mp H
         obtain ⟨⟨t323, t324, t325, t326, t327, t328, t329, t330, t331, t332, t333, t334, t335, t336⟩, A880, H⟩ := H
         replace H : (if t336.isNone = true then ((num_SubSat.f t332 t298).bind fun t339 => ((servo_Step.f a0_11 a0_12 a0_3 a0_4 a0_5 t339).bind fun bt340 => (some (t323, t324, t325, t326, t327, t328, t329, t330, t331, t332, t333, bt340.1, bt340.2.1, bt340.2.2)))) else (some (0, 0, 0, 0, 0, 0, 0, false, 0, 0, 0, 0, 0, some (t336.getD 0)))) = some (r1, r2, r3, r4, r5, r6, r7, r8, r9, r10, r11, r12, r13, r14) := H
         have A88 := qS A880
         clear A880
         rcases t336 with _ | q338
         ·have H1 : ((num_SubSat.f t332 t298).bind fun t339 => ((servo_Step.f a0_11 a0_12 a0_3 a0_4 a0_5 t339).bind fun bt340 => (some (t323, t324, t325, t326, t327, t328, t329, t330, t331, t332, t333, bt340.1, bt340.2.1, bt340.2.2)))) = some (r1, r2, r3, r4, r5, r6, r7, r8, r9, r10, r11, r12, r13, r14) := by rw [if_pos (show (none : Option Int).isNone = true by rfl)] at H; exact H
          clear H
          have H := H1
          clear H1
          try simp only [errW_none, errW_some]
          replace H := Option.bind_eq_some_iff.mp H
          obtain ⟨t339, A890, H⟩ := H
          replace H : ((servo_Step.f a0_11 a0_12 a0_3 a0_4 a0_5 t339).bind fun bt340 => (some (t323, t324, t325, t326, t327, t328, t329, t330, t331, t332, t333, bt340.1, bt340.2.1, bt340.2.2))) = some (r1, r2, r3, r4, r5, r6, r7, r8, r9, r10, r11, r12, r13, r14) := H
          have A89 := qS A890
          clear A890
          replace H := Option.bind_eq_some_iff.mp H
          obtain ⟨⟨t340, t341, t342⟩, A900, H⟩ := H
          replace H : (some (t323, t324, t325, t326, t327, t328, t329, t330, t331, t332, t333, t340, t341, t342)) = some (r1, r2, r3, r4, r5, r6, r7, r8, r9, r10, r11, r12, r13, r14) := H
          have A90 := qS A900
          clear A900
          as_aux_lemma =>
           simp only [Option.some.injEq, Prod.mk.injEq] at H
           obtain ⟨rfl, rfl, rfl, rfl, rfl, rfl, rfl, rfl, rfl, rfl, rfl, rfl, rfl, rfl⟩ := H
           have hnb91 := NB277_278.out
           have hnc91 := NB278_277.out
           have hnb92 := NB277_279.out
           have hnc92 := NB279_277.out
           have hnb93 := NB277_322.out
           have hnc93 := NB322_277.out
           obtain ⟨hcz94_0, hcz94_1, hcz94_2, hcz94_3, hcz94_4, hcz94_5, hcz94_6, hcz94_7, hcz94_8, hcz94_9, hcz94_10, hcz94_11, hcz94_12, hfz94_0, hfz94_1, hfz94_2, hfz94_3, hfz94_4, hfz94_5, hfz94_6, hfz94_7, hfz94_8, hfz94_9, hfz94_10, hfz94_11, hfz94_12⟩ := cz13 BK277.out
           try go_wp2_with (first | ((with_reducible refine gate_dst (N := 88) rfl ?_); refine rowget_event rfl rfl gb277 0 137 #[.int .u32 a0_0, .int .i64 a0_1, .int .i64 a0_2, .int .i64 a0_3, .int .i64 a0_4, .int .i64 a0_5, .int .i64 a0_6, .bool true, .int .i64 a0_8, .int .i64 a0_9, .int .i64 a0_10, .int .i64 a0_11, .int .i64 a0_12] #[.int .u32 a0_0, .int .i64 a0_1, .int .i64 a0_2, .int .i64 a0_3, .int .i64 a0_4, .int .i64 a0_5, .int .i64 a0_6, .bool true, .int .i64 a0_8, .int .i64 a0_9, .int .i64 a0_10, .int .i64 a0_11, .int .i64 a0_12] _ rfl (qW BK277.out) rfl Tryd.underlying137 rfl (by kernel_rfl) ?_; have hnb95 := NB278_279.out; have hnc95 := NB279_278.out; have hnb96 := NB278_322.out; have hnc96 := NB322_278.out; have hcz97_0 : wc.cell? ⟨gb278, 0, none⟩ = some (.int .i64 x279000_67) := (qC BK278.out 0).trans rfl; have hcz97_1 : wc.cell? ⟨gb278, 1, none⟩ = some (.int .i64 x279001_67) := (qC BK278.out 1).trans rfl; have hfz97_0 := qF BK278.out 0; have hfz97_1 := qF BK278.out 1) | ((with_reducible refine gate_callee (f := 120) rfl ?_); refine goesL_ (some 91) rfl rfl Tryd.func120 (by kernel_rfl) rfl #[.agg #[.int .u32 a0_0, .int .i64 a0_1, .int .i64 a0_2, .int .i64 a0_3, .int .i64 a0_4, .int .i64 a0_5, .int .i64 a0_6, .bool true, .int .i64 a0_8, .int .i64 a0_9, .int .i64 a0_10, .int .i64 a0_11, .int .i64 a0_12], .int .i64 a1, .agg #[.int .i64 x279000_67, .int .i64 x279001_67]] rfl (by (try simp only [List.map_toArray, List.map_cons, List.map_nil]); first | done | rfl | (simp only [*]; done) | (simp only [List.length_drop, List.length_take]; rfl) | (simp only [Act.eval, Array.getD_eq_getD_getElem?, Option.getD_some, *])) ?_; (with_reducible refine (host_Host_set.calls a0_0 a0_1 a0_2 a0_3 a0_4 a0_5 a0_6 true a0_8 a0_9 a0_10 a0_11 a0_12 a1 x279000_67 x279001_67 t323 t324 t325 t326 t327 t328 t329 t330 t331 t332 t333 t334 t335 none _ A88.out).mono ?_); rintro e w98 ⟨rfl, hb⟩; refine ⟨_, rfl, ?_⟩; have n0_ := qS (qB (g := gb277) (o := .cells (ce10_0 a0_0 a0_1 a0_2 a0_3 a0_4 a0_5 a0_6 true a0_8 a0_9 a0_10 a0_11 a0_12) 137 (0, 0)) (qW BK277.out) hb); have n1_ := qS (qB (g := gb278) (o := .cells #[.int .i64 x279000_67, .int .i64 x279001_67] 86 (0, 0)) (qW BK278.out) hb); have n2_ := qS (qB (g := gb279) (o := .cells (ce10_0 0 0 0 0 0 0 0 false 0 0 0 0 0) 137 (0, 0)) (qW BK279.out) hb); have n3_ := qS (qB (g := gb322) (o := .cells #[.int .i64 t319, .int .i64 t320] 86 (0, 0)) (qW BK322.out) hb); have n4_ := qS (below_step (bW4 HB.out GE277.out GE278.out GE279.out GE322.out) hb); clear BK277; clear BK278; clear BK279; clear BK322; clear HB; have BK277 := n0_; have BK278 := n1_; have BK279 := n2_; have BK322 := n3_; have HB := n4_; clear n0_ n1_ n2_ n3_ n4_; (try clear hb); (try clear hb2); (try clear hk); (try clear hi); (try simp only [errW_none, errW_some])) | ((with_reducible refine gate_dst (N := 13) rfl ?_); refine box_event ?hg (N := 13) ?hd (cs := #[.int .u32 0, .int .i64 0, .int .i64 0, .int .i64 0, .int .i64 0, .int .i64 0, .int .i64 0, .bool false, .int .i64 0, .int .i64 0, .int .i64 0, .int .i64 0, .int .i64 0]) (t := 137) ?hr ?_; (case hd => rfl); (case hg => rfl); (case hr => first | (go_simp; done) | (go_simp; rfl)); intro gb337 hg w99 hbox hb; have n0_ := qS (qB (g := gb277) (o := .cells (ce10_0 a0_0 a0_1 a0_2 a0_3 a0_4 a0_5 a0_6 true a0_8 a0_9 a0_10 a0_11 a0_12) 137 (0, 0)) (qW BK277.out) hb); have n1_ := qS (qB (g := gb278) (o := .cells #[.int .i64 x279000_67, .int .i64 x279001_67] 86 (0, 0)) (qW BK278.out) hb); have n2_ := qS (qB (g := gb279) (o := .cells (ce10_0 0 0 0 0 0 0 0 false 0 0 0 0 0) 137 (0, 0)) (qW BK279.out) hb); have n3_ := qS (qB (g := gb322) (o := .cells #[.int .i64 t319, .int .i64 t320] 86 (0, 0)) (qW BK322.out) hb); have n4_ := qS (below_step (bW4 HB.out GE277.out GE278.out GE279.out GE322.out) hb); have n5_ := qS (hbox); have n6_ := qS ((by rw [hg]; exact (below_size (bW4 HB.out GE277.out GE278.out GE279.out GE322.out)) : w.heap.size ≤ gb337)); have n7_ := qS ((by rw [hg]; exact (below_size (bW4 HB.out GE277.out GE278.out GE279.out GE322.out)) : w.heap.size ≤ gb337)); have n8_ := qS ((by rw [hg]; exact Nat.ne_of_lt (blk_lt (g := gb277) (o := .cells (ce10_0 a0_0 a0_1 a0_2 a0_3 a0_4 a0_5 a0_6 true a0_8 a0_9 a0_10 a0_11 a0_12) 137 (0, 0)) (qW BK277.out)) : gb277 ≠ gb337)); have n9_ := qS ((by rw [hg]; exact Nat.ne_of_gt (blk_lt (g := gb277) (o := .cells (ce10_0 a0_0 a0_1 a0_2 a0_3 a0_4 a0_5 a0_6 true a0_8 a0_9 a0_10 a0_11 a0_12) 137 (0, 0)) (qW BK277.out)) : gb337 ≠ gb277)); have n10_ := qS ((by rw [hg]; exact Nat.ne_of_lt (blk_lt (g := gb278) (o := .cells #[.int .i64 x279000_67, .int .i64 x279001_67] 86 (0, 0)) (qW BK278.out)) : gb278 ≠ gb337)); have n11_ := qS ((by rw [hg]; exact Nat.ne_of_gt (blk_lt (g := gb278) (o := .cells #[.int .i64 x279000_67, .int .i64 x279001_67] 86 (0, 0)) (qW BK278.out)) : gb337 ≠ gb278)); have n12_ := qS ((by rw [hg]; exact Nat.ne_of_lt (blk_lt (g := gb279) (o := .cells (ce10_0 0 0 0 0 0 0 0 false 0 0 0 0 0) 137 (0, 0)) (qW BK279.out)) : gb279 ≠ gb337)); have n13_ := qS ((by rw [hg]; exact Nat.ne_of_gt (blk_lt (g := gb279) (o := .cells (ce10_0 0 0 0 0 0 0 0 false 0 0 0 0 0) 137 (0, 0)) (qW BK279.out)) : gb337 ≠ gb279)); have n14_ := qS ((by rw [hg]; exact Nat.ne_of_lt (blk_lt (g := gb322) (o := .cells #[.int .i64 t319, .int .i64 t320] 86 (0, 0)) (qW BK322.out)) : gb322 ≠ gb337)); have n15_ := qS ((by rw [hg]; exact Nat.ne_of_gt (blk_lt (g := gb322) (o := .cells #[.int .i64 t319, .int .i64 t320] 86 (0, 0)) (qW BK322.out)) : gb337 ≠ gb322)); clear BK277; clear BK278; clear BK279; clear BK322; clear HB; have BK277 := n0_; have BK278 := n1_; have BK279 := n2_; have BK322 := n3_; have HB := n4_; have BK337 := n5_; have GW337 := n6_; have GE337 := n7_; have NB277_337 := n8_; have NB337_277 := n9_; have NB278_337 := n10_; have NB337_278 := n11_; have NB279_337 := n12_; have NB337_279 := n13_; have NB322_337 := n14_; have NB337_322 := n15_; clear n0_ n1_ n2_ n3_ n4_ n5_ n6_ n7_ n8_ n9_ n10_ n11_ n12_ n13_ n14_ n15_; clear hb hbox hg) | ((with_reducible refine gate_store (t := 137) (p := 13) rfl ?_); refine rowput_event rfl rfl rfl gb337 0 137 #[.int .u32 0, .int .i64 0, .int .i64 0, .int .i64 0, .int .i64 0, .int .i64 0, .int .i64 0, .bool false, .int .i64 0, .int .i64 0, .int .i64 0, .int .i64 0, .int .i64 0] #[.int .u32 t323, .int .i64 t324, .int .i64 t325, .int .i64 t326, .int .i64 t327, .int .i64 t328, .int .i64 t329, .bool t330, .int .i64 t331, .int .i64 t332, .int .i64 t333, .int .i64 t334, .int .i64 t335] _ [.int .u32 t323, .int .i64 t324, .int .i64 t325, .int .i64 t326, .int .i64 t327, .int .i64 t328, .int .i64 t329, .bool t330, .int .i64 t331, .int .i64 t332, .int .i64 t333, .int .i64 t334, .int .i64 t335] rfl rfl rfl (qW BK337.out) (by kernel_rfl) (by simp) (by simp [Value.oneCell']) rfl (bW5 HB.out GE277.out GE278.out GE279.out GE322.out GE337.out) GE337.out ?_; intro w100 hnw_ hfar_ hb_; have n0_ : Aside0 (w100.heap[gb277]? = some (.cells (ce10_0 a0_0 a0_1 a0_2 a0_3 a0_4 a0_5 a0_6 true a0_8 a0_9 a0_10 a0_11 a0_12) 137 (0, 0))) := ⟨(hfar_ _ NB277_337.out).trans (qW BK277.out)⟩; have n1_ : Aside0 (w100.heap[gb278]? = some (.cells #[.int .i64 x279000_67, .int .i64 x279001_67] 86 (0, 0))) := ⟨(hfar_ _ NB278_337.out).trans (qW BK278.out)⟩; have n2_ : Aside0 (w100.heap[gb279]? = some (.cells (ce10_0 0 0 0 0 0 0 0 false 0 0 0 0 0) 137 (0, 0))) := ⟨(hfar_ _ NB279_337.out).trans (qW BK279.out)⟩; have n3_ : Aside0 (w100.heap[gb322]? = some (.cells #[.int .i64 t319, .int .i64 t320] 86 (0, 0))) := ⟨(hfar_ _ NB322_337.out).trans (qW BK322.out)⟩; have n4_ : Aside0 (w100.heap[gb337]? = some (.cells (ce10_0 t323 t324 t325 t326 t327 t328 t329 t330 t331 t332 t333 t334 t335) 137 (0, 0))) := ⟨hnw_⟩; have nb_ := qS hb_; clear hnw_ hfar_ hb_ HB BK277 BK278 BK279 BK322 BK337; have BK277 := n0_; have BK278 := n1_; have BK279 := n2_; have BK322 := n3_; have BK337 := n4_; have HB := nb_; clear nb_ n0_ n1_ n2_ n3_ n4_))
           have n0_ := qS (qD BK277.out)
           have n1_ := qS (qD BK278.out)
           have n2_ := qS (qD BK279.out)
           have n3_ := qS (qD BK322.out)
           have n4_ := qS (qD BK337.out)
           have n5_ := qS (qp1 HB.out)
           clear BK277
           clear BK278
           clear BK279
           clear BK322
           clear BK337
           clear HB
           have BK277 := n0_
           have BK278 := n1_
           have BK279 := n2_
           have BK322 := n3_
           have BK337 := n4_
           have HB := n5_
           clear n0_ n1_ n2_ n3_ n4_ n5_
           refine start_ (n := 19) (S := fun w' => w'.cell? ⟨gb277, 0, none⟩ = some (.int .u32 a0_0) ∧ w'.cell? ⟨gb277, 1, none⟩ = some (.int .i64 a0_1) ∧ w'.cell? ⟨gb277, 2, none⟩ = some (.int .i64 a0_2) ∧ w'.cell? ⟨gb277, 3, none⟩ = some (.int .i64 a0_3) ∧ w'.cell? ⟨gb277, 4, none⟩ = some (.int .i64 a0_4) ∧ w'.cell? ⟨gb277, 5, none⟩ = some (.int .i64 a0_5) ∧ w'.cell? ⟨gb277, 6, none⟩ = some (.int .i64 a0_6) ∧ w'.cell? ⟨gb277, 7, none⟩ = some (.bool true) ∧ w'.cell? ⟨gb277, 8, none⟩ = some (.int .i64 a0_8) ∧ w'.cell? ⟨gb277, 9, none⟩ = some (.int .i64 a0_9) ∧ w'.cell? ⟨gb277, 10, none⟩ = some (.int .i64 a0_10) ∧ w'.cell? ⟨gb277, 11, none⟩ = some (.int .i64 a0_11) ∧ w'.cell? ⟨gb277, 12, none⟩ = some (.int .i64 a0_12) ∧ w'.cell? ⟨gb337, 0, none⟩ = some (.int .u32 t323) ∧ w'.cell? ⟨gb337, 1, none⟩ = some (.int .i64 t324) ∧ w'.cell? ⟨gb337, 2, none⟩ = some (.int .i64 t325) ∧ w'.cell? ⟨gb337, 3, none⟩ = some (.int .i64 t326) ∧ w'.cell? ⟨gb337, 4, none⟩ = some (.int .i64 t327) ∧ w'.cell? ⟨gb337, 5, none⟩ = some (.int .i64 t328) ∧ w'.cell? ⟨gb337, 6, none⟩ = some (.int .i64 t329) ∧ w'.cell? ⟨gb337, 7, none⟩ = some (.bool t330) ∧ w'.cell? ⟨gb337, 8, none⟩ = some (.int .i64 t331) ∧ w'.cell? ⟨gb337, 9, none⟩ = some (.int .i64 t332) ∧ w'.cell? ⟨gb337, 10, none⟩ = some (.int .i64 t333) ∧ w'.cell? ⟨gb337, 11, none⟩ = some (.int .i64 t334) ∧ w'.cell? ⟨gb337, 12, none⟩ = some (.int .i64 t335)) (ds := [17]) #[false, false, false, false, false, false, false, false, false, false, false, false, false, false, false, false, false, false, false] (by kernel_rfl) rfl rfl ⟨(qC BK277.out 0).trans rfl, (qC BK277.out 1).trans rfl, (qC BK277.out 2).trans rfl, (qC BK277.out 3).trans rfl, (qC BK277.out 4).trans rfl, (qC BK277.out 5).trans rfl, (qC BK277.out 6).trans rfl, (qC BK277.out 7).trans rfl, (qC BK277.out 8).trans rfl, (qC BK277.out 9).trans rfl, (qC BK277.out 10).trans rfl, (qC BK277.out 11).trans rfl, (qC BK277.out 12).trans rfl, (qC BK337.out 0).trans rfl, (qC BK337.out 1).trans rfl, (qC BK337.out 2).trans rfl, (qC BK337.out 3).trans rfl, (qC BK337.out 4).trans rfl, (qC BK337.out 5).trans rfl, (qC BK337.out 6).trans rfl, (qC BK337.out 7).trans rfl, (qC BK337.out 8).trans rfl, (qC BK337.out 9).trans rfl, (qC BK337.out 10).trans rfl, (qC BK337.out 11).trans rfl, (qC BK337.out 12).trans rfl⟩ (fun hHeld => ?_); refine with_tabW host_Sync.tab16 host_Sync.bits16 (fun HT_ HW_ => ?_)
           generalize w100.drew = w101 at BK277 BK278 BK279 BK322 BK337 HB hHeld ⊢
           refine pure_ (i := 0) (N := some 99) (v := ?_) (a' := ?_) #[true, false, false, false, false, false, false, false, false, false, false, false, false, false, false, false, false, false, false] rfl rfl (any_of HT_.out (by kernel_rfl)) (fun _ _ _ h => h) (Or.inl ⟨by rfl, ?_⟩) ?_ ?_
           rotate_left
           ·intro w'
            go_simp
            with_reducible rfl
           rotate_left
           ·simp only [Act.put, List.setIfInBounds_toArray, List.set_cons_zero, List.set_cons_succ, i64_w, i32_w]
            rfl
           refine pure_ (i := 2) (N := some 101) (v := ?_) (a' := ?_) #[true, false, true, false, false, false, false, false, false, false, false, false, false, false, false, false, false, false, false] rfl rfl (any_of HT_.out (by kernel_rfl)) (fun _ _ _ h => h) (Or.inl ⟨by rfl, ?_⟩) ?_ ?_
           rotate_left
           ·intro w'
            go_simp
            with_reducible rfl
           rotate_left
           ·simp only [Act.put, List.setIfInBounds_toArray, List.set_cons_zero, List.set_cons_succ, i64_w, i32_w]
            rfl
           refine pure_ (i := 3) (N := some 102) (v := ?_) (a' := ?_) #[true, false, true, true, false, false, false, false, false, false, false, false, false, false, false, false, false, false, false] rfl rfl (any_of HT_.out (by kernel_rfl)) (fun _ _ _ h => h) (Or.inl ⟨by rfl, ?_⟩) ?_ ?_
           rotate_left
           ·intro w'
            go_simp
            with_reducible rfl
           rotate_left
           ·simp only [Act.put, List.setIfInBounds_toArray, List.set_cons_zero, List.set_cons_succ, i64_w, i32_w]
            rfl
           refine pure_ (i := 5) (N := some 104) (v := ?_) (a' := ?_) #[true, false, true, true, false, true, false, false, false, false, false, false, false, false, false, false, false, false, false] rfl rfl (any_of HT_.out (by kernel_rfl)) (fun _ _ _ h => h) (Or.inl ⟨by rfl, ?_⟩) ?_ ?_
           rotate_left
           ·intro w'
            go_simp
            with_reducible rfl
           rotate_left
           ·simp only [Act.put, List.setIfInBounds_toArray, List.set_cons_zero, List.set_cons_succ, i64_w, i32_w]
            rfl
           refine pure_ (i := 6) (N := some 105) (v := ?_) (a' := ?_) #[true, false, true, true, false, true, true, false, false, false, false, false, false, false, false, false, false, false, false] rfl rfl (any_of HT_.out (by kernel_rfl)) (fun _ _ _ h => h) (Or.inl ⟨by rfl, ?_⟩) ?_ ?_
           rotate_left
           ·intro w'
            go_simp
            with_reducible rfl
           rotate_left
           ·simp only [Act.put, List.setIfInBounds_toArray, List.set_cons_zero, List.set_cons_succ, i64_w, i32_w]
            rfl
           refine pure_ (i := 8) (N := some 107) (v := ?_) (a' := ?_) #[true, false, true, true, false, true, true, false, true, false, false, false, false, false, false, false, false, false, false] rfl rfl (any_of HT_.out (by kernel_rfl)) (fun _ _ _ h => h) (Or.inl ⟨by rfl, ?_⟩) ?_ ?_
           rotate_left
           ·intro w'
            go_simp
            with_reducible rfl
           rotate_left
           ·simp only [Act.put, List.setIfInBounds_toArray, List.set_cons_zero, List.set_cons_succ, i64_w, i32_w]
            rfl
           refine pure_ (i := 10) (N := some 109) (v := ?_) (a' := ?_) #[true, false, true, true, false, true, true, false, true, false, true, false, false, false, false, false, false, false, false] rfl rfl (any_of HT_.out (by kernel_rfl)) (fun _ _ _ h => h) (Or.inl ⟨by rfl, ?_⟩) ?_ ?_
           rotate_left
           ·intro w'
            go_simp
            with_reducible rfl
           rotate_left
           ·simp only [Act.put, List.setIfInBounds_toArray, List.set_cons_zero, List.set_cons_succ, i64_w, i32_w]
            rfl
           refine take_ (i := 1) (N := some 100) (v := ?_) (a' := ?_) #[true, true, true, true, false, true, true, false, true, false, true, false, false, false, false, false, false, false, false] rfl rfl (take_ofW HT_.out HW_.out (by kernel_rfl)) (fun _ _ _ h => h) (Or.inl ⟨by rfl, ?_⟩) hHeld ?_ ?_
           rotate_left
           ·rintro w' ⟨s0, s1, s2, s3, s4, s5, s6, s7, s8, s9, s10, s11, s12, s13, s14, s15, s16, s17, s18, s19, s20, s21, s22, s23, s24, s25⟩
            go_simp
            with_reducible rfl
           rotate_left
           ·simp only [Act.put, List.setIfInBounds_toArray, List.set_cons_zero, List.set_cons_succ, i64_w, i32_w]
            rfl
           refine take_ (i := 4) (N := some 103) (v := ?_) (a' := ?_) #[true, true, true, true, true, true, true, false, true, false, true, false, false, false, false, false, false, false, false] rfl rfl (take_ofW HT_.out HW_.out (by kernel_rfl)) (fun _ _ _ h => h) (Or.inl ⟨by rfl, ?_⟩) hHeld ?_ ?_
           rotate_left
           ·rintro w' ⟨s0, s1, s2, s3, s4, s5, s6, s7, s8, s9, s10, s11, s12, s13, s14, s15, s16, s17, s18, s19, s20, s21, s22, s23, s24, s25⟩
            go_simp
            with_reducible rfl
           rotate_left
           ·simp only [Act.put, List.setIfInBounds_toArray, List.set_cons_zero, List.set_cons_succ, i64_w, i32_w]
            rfl
           refine take_ (i := 7) (N := some 106) (v := ?_) (a' := ?_) #[true, true, true, true, true, true, true, true, true, false, true, false, false, false, false, false, false, false, false] rfl rfl (take_ofW HT_.out HW_.out (by kernel_rfl)) (fun _ _ _ h => h) (Or.inl ⟨by rfl, ?_⟩) hHeld ?_ ?_
           rotate_left
           ·rintro w' ⟨s0, s1, s2, s3, s4, s5, s6, s7, s8, s9, s10, s11, s12, s13, s14, s15, s16, s17, s18, s19, s20, s21, s22, s23, s24, s25⟩
            go_simp
            with_reducible rfl
           rotate_left
           ·simp only [Act.put, List.setIfInBounds_toArray, List.set_cons_zero, List.set_cons_succ, i64_w, i32_w]
            rfl
           refine take_ (i := 9) (N := some 108) (v := ?_) (a' := ?_) #[true, true, true, true, true, true, true, true, true, true, true, false, false, false, false, false, false, false, false] rfl rfl (take_ofW HT_.out HW_.out (by kernel_rfl)) (fun _ _ _ h => h) (Or.inl ⟨by rfl, ?_⟩) hHeld ?_ ?_
           rotate_left
           ·rintro w' ⟨s0, s1, s2, s3, s4, s5, s6, s7, s8, s9, s10, s11, s12, s13, s14, s15, s16, s17, s18, s19, s20, s21, s22, s23, s24, s25⟩
            go_simp
            with_reducible rfl
           rotate_left
           ·simp only [Act.put, List.setIfInBounds_toArray, List.set_cons_zero, List.set_cons_succ, i64_w, i32_w]
            rfl
           refine one_ (i := 11) (N := some 110) #[true, true, true, true, true, true, true, true, true, true, true, true, false, false, false, false, false, false, false] rfl rfl (one_of HT_.out (by kernel_rfl)) (by decide) (fun K hK => ?_)
           refine goes_ Tryd.func77 (by kernel_rfl) rfl #[.int .i64 t332, .int .i64 t298] (by rfl) rfl rfl (by (try simp only [List.map_toArray, List.map_cons, List.map_nil]); first | done | rfl | (simp only [*]; done) | (simp only [List.length_drop, List.length_take]; rfl) | (simp only [Act.eval, Array.getD_eq_getD_getElem?, Option.getD_some, *])) ?_
           with_reducible refine (num_SubSat.calls t332 t298 t339 _ A89.out).mono ?_
           rintro e w' ⟨rfl, ⟨nd, rfl⟩⟩
           refine ⟨_, rfl, ?_⟩
           refine hK.out _ _ ⟨(qC BK277.out 0).trans rfl, (qC BK277.out 1).trans rfl, (qC BK277.out 2).trans rfl, (qC BK277.out 3).trans rfl, (qC BK277.out 4).trans rfl, (qC BK277.out 5).trans rfl, (qC BK277.out 6).trans rfl, (qC BK277.out 7).trans rfl, (qC BK277.out 8).trans rfl, (qC BK277.out 9).trans rfl, (qC BK277.out 10).trans rfl, (qC BK277.out 11).trans rfl, (qC BK277.out 12).trans rfl, (qC BK337.out 0).trans rfl, (qC BK337.out 1).trans rfl, (qC BK337.out 2).trans rfl, (qC BK337.out 3).trans rfl, (qC BK337.out 4).trans rfl, (qC BK337.out 5).trans rfl, (qC BK337.out 6).trans rfl, (qC BK337.out 7).trans rfl, (qC BK337.out 8).trans rfl, (qC BK337.out 9).trans rfl, (qC BK337.out 10).trans rfl, (qC BK337.out 11).trans rfl, (qC BK337.out 12).trans rfl⟩ (fun hHeld => ?_)
           clear hK K
           refine norm_ (a' := ?_) ?_ ?_
           rotate_left
           ·show Act.put _ (some 110) _ = _
            simp only [Act.put, List.setIfInBounds_toArray, List.set_cons_zero, List.set_cons_succ, i64_w, i32_w]
            rfl
           refine one_ (i := 12) (N := some 111) #[true, true, true, true, true, true, true, true, true, true, true, true, true, false, false, false, false, false, false] rfl rfl (one_of HT_.out (by kernel_rfl)) (by decide) (fun K hK => ?_)
           refine goes_ Tryd.func124 (by kernel_rfl) rfl #[.agg #[.int .i64 a0_11, .int .i64 a0_12], .agg #[.int .i64 a0_3, .int .i64 a0_4], .int .i64 a0_5, .int .i64 t339] (by rfl) rfl rfl (by (try simp only [List.map_toArray, List.map_cons, List.map_nil]); first | done | rfl | (simp only [*]; done) | (simp only [List.length_drop, List.length_take]; rfl) | (simp only [Act.eval, Array.getD_eq_getD_getElem?, Option.getD_some, *])) ?_
           with_reducible refine (servo_Step.calls a0_11 a0_12 a0_3 a0_4 a0_5 t339 t340 t341 t342 _ A90.out).mono ?_
           rintro e w102 ⟨rfl, hb⟩
           refine ⟨_, rfl, ?_⟩
           have n0_ := qS (qB (g := gb277) (o := .cells (ce10_0 a0_0 a0_1 a0_2 a0_3 a0_4 a0_5 a0_6 true a0_8 a0_9 a0_10 a0_11 a0_12) 137 (0, 0)) (qW BK277.out) hb)
           have n1_ := qS (qB (g := gb278) (o := .cells #[.int .i64 x279000_67, .int .i64 x279001_67] 86 (0, 0)) (qW BK278.out) hb)
           have n2_ := qS (qB (g := gb279) (o := .cells (ce10_0 0 0 0 0 0 0 0 false 0 0 0 0 0) 137 (0, 0)) (qW BK279.out) hb)
           have n3_ := qS (qB (g := gb322) (o := .cells #[.int .i64 t319, .int .i64 t320] 86 (0, 0)) (qW BK322.out) hb)
           have n4_ := qS (qB (g := gb337) (o := .cells (ce10_0 t323 t324 t325 t326 t327 t328 t329 t330 t331 t332 t333 t334 t335) 137 (0, 0)) (qW BK337.out) hb)
           have n5_ := qS (below_step (bW5 HB.out GE277.out GE278.out GE279.out GE322.out GE337.out) hb)
           clear BK277
           clear BK278
           clear BK279
           clear BK322
           clear BK337
           clear HB
           have BK277 := n0_
           have BK278 := n1_
           have BK279 := n2_
           have BK322 := n3_
           have BK337 := n4_
           have HB := n5_
           clear n0_ n1_ n2_ n3_ n4_ n5_
           (try clear hb)
           (try clear hb2)
           (try clear hk)
           (try clear hi)
           (try simp only [errW_none, errW_some])
           refine hK.out _ _ ⟨(qC BK277.out 0).trans rfl, (qC BK277.out 1).trans rfl, (qC BK277.out 2).trans rfl, (qC BK277.out 3).trans rfl, (qC BK277.out 4).trans rfl, (qC BK277.out 5).trans rfl, (qC BK277.out 6).trans rfl, (qC BK277.out 7).trans rfl, (qC BK277.out 8).trans rfl, (qC BK277.out 9).trans rfl, (qC BK277.out 10).trans rfl, (qC BK277.out 11).trans rfl, (qC BK277.out 12).trans rfl, (qC BK337.out 0).trans rfl, (qC BK337.out 1).trans rfl, (qC BK337.out 2).trans rfl, (qC BK337.out 3).trans rfl, (qC BK337.out 4).trans rfl, (qC BK337.out 5).trans rfl, (qC BK337.out 6).trans rfl, (qC BK337.out 7).trans rfl, (qC BK337.out 8).trans rfl, (qC BK337.out 9).trans rfl, (qC BK337.out 10).trans rfl, (qC BK337.out 11).trans rfl, (qC BK337.out 12).trans rfl⟩ (fun hHeld => ?_)
           clear hK K
           refine norm_ (a' := ?_) ?_ ?_
           rotate_left
           ·show Act.put _ (some 111) _ = _
            simp only [Act.put, List.setIfInBounds_toArray, List.set_cons_zero, List.set_cons_succ, i64_w, i32_w]
            rfl
           refine pure_ (i := 13) (N := some 98) (v := ?_) (a' := ?_) #[true, true, true, true, true, true, true, true, true, true, true, true, true, true, false, false, false, false, false] rfl rfl (any_of HT_.out (by kernel_rfl)) (fun _ _ _ h => h) (Or.inl ⟨by rfl, ?_⟩) ?_ ?_
           rotate_left
           ·intro w'
            go_simp
            with_reducible rfl
           rotate_left
           ·simp only [Act.put, List.setIfInBounds_toArray, List.set_cons_zero, List.set_cons_succ, i64_w, i32_w]
            rfl
           refine pure_ (i := 14) (N := some 112) (v := ?_) (a' := ?_) #[true, true, true, true, true, true, true, true, true, true, true, true, true, true, true, false, false, false, false] rfl rfl (any_of HT_.out (by kernel_rfl)) (fun _ _ _ h => h) (Or.inl ⟨by rfl, ?_⟩) ?_ ?_
           rotate_left
           ·intro w'
            go_simp
            with_reducible rfl
           rotate_left
           ·simp only [Act.put, List.setIfInBounds_toArray, List.set_cons_zero, List.set_cons_succ, i64_w, i32_w]
            rfl
           refine pure_ (i := 15) (N := some 113) (v := ?_) (a' := ?_) #[true, true, true, true, true, true, true, true, true, true, true, true, true, true, true, true, false, false, false] rfl rfl (any_of HT_.out (by kernel_rfl)) (fun _ _ _ h => h) (Or.inl ⟨by rfl, ?_⟩) ?_ ?_
           rotate_left
           ·intro w'
            go_simp
            with_reducible rfl
           rotate_left
           ·simp only [Act.put, List.setIfInBounds_toArray, List.set_cons_zero, List.set_cons_succ, i64_w, i32_w]
            rfl
           refine pure_ (i := 16) (N := some 114) (v := ?_) (a' := ?_) #[true, true, true, true, true, true, true, true, true, true, true, true, true, true, true, true, true, false, false] rfl rfl (any_of HT_.out (by kernel_rfl)) (fun _ _ _ h => h) (Or.inl ⟨by rfl, ?_⟩) ?_ ?_
           rotate_left
           ·intro w'
            go_simp
            with_reducible rfl
           rotate_left
           ·simp only [Act.put, List.setIfInBounds_toArray, List.set_cons_zero, List.set_cons_succ, i64_w, i32_w]
            rfl
           refine last_ (i := 17) (N := none) #[true, true, true, true, true, true, true, true, true, true, true, true, true, true, true, true, true, true, false] rfl rfl (one_of HT_.out (by kernel_rfl)) (by decide) (fun K hK => ?_)
           have hs103 : w102.cell? ⟨gb337, 11, none⟩ = some (.int .i64 t334) := (qC BK337.out 11).trans rfl
           have hfs103 := qF BK337.out 11
           have hns103_0 := NB277_337.out
           have hns103_1 := NB278_337.out
           have hns103_2 := NB279_337.out
           have hns103_3 := NB322_337.out
           have hms103_0 := NB337_277.out
           have hms103_1 := NB337_278.out
           have hms103_2 := NB337_279.out
           have hms103_3 := NB337_322.out
           have hs104 : w102.cell? ⟨gb337, 12, none⟩ = some (.int .i64 t335) := (qC BK337.out 12).trans rfl
           have hfs104 := qF BK337.out 12
           have hns104_0 := NB277_337.out
           have hns104_1 := NB278_337.out
           have hns104_2 := NB279_337.out
           have hns104_3 := NB322_337.out
           have hms104_0 := NB337_277.out
           have hms104_1 := NB337_278.out
           have hms104_2 := NB337_279.out
           have hms104_3 := NB337_322.out
           refine skip_ (w1 := ?_) (by rfl) rfl ?_ ?_
           rotate_left
           ·go_simp
            rfl
           refine hK.out _ _ ?_
           clear hK K
           refine pure_ (i := 18) (N := some 10) (v := ?_) (a' := ?_) #[true, true, true, true, true, true, true, true, true, true, true, true, true, true, true, true, true, true, true] rfl rfl (any_of HT_.out (by kernel_rfl)) (fun _ _ _ h => h) (Or.inl ⟨by rfl, ?_⟩) ?_ ?_
           rotate_left
           ·intro w'
            go_simp
            with_reducible rfl
           rotate_left
           ·simp only [Act.put, List.setIfInBounds_toArray, List.set_cons_zero, List.set_cons_succ, i64_w, i32_w]
            rfl
           refine done_ (done_of HT_.out (by kernel_rfl)) ?_
           have hnb105 := NB337_277.out
           have hnc105 := NB277_337.out
           have hnb106 := NB337_278.out
           have hnc106 := NB278_337.out
           have hnb107 := NB337_279.out
           have hnc107 := NB279_337.out
           have hnb108 := NB337_322.out
           have hnc108 := NB322_337.out
           obtain ⟨hcz109_0, hcz109_1, hcz109_2, hcz109_3, hcz109_4, hcz109_5, hcz109_6, hcz109_7, hcz109_8, hcz109_9, hcz109_10, hcz109_11, hcz109_12, hfz109_0, hfz109_1, hfz109_2, hfz109_3, hfz109_4, hfz109_5, hfz109_6, hfz109_7, hfz109_8, hfz109_9, hfz109_10, hfz109_11, hfz109_12⟩ := cz13 BK337.out
           try go_wp2_with (first | ((with_reducible refine gate_dst (N := 115) rfl ?_); refine rowget_event rfl rfl gb337 0 137 #[.int .u32 t323, .int .i64 t324, .int .i64 t325, .int .i64 t326, .int .i64 t327, .int .i64 t328, .int .i64 t329, .bool t330, .int .i64 t331, .int .i64 t332, .int .i64 t333, .int .i64 t340, .int .i64 t341] #[.int .u32 t323, .int .i64 t324, .int .i64 t325, .int .i64 t326, .int .i64 t327, .int .i64 t328, .int .i64 t329, .bool t330, .int .i64 t331, .int .i64 t332, .int .i64 t333, .int .i64 t340, .int .i64 t341] _ rfl (by (with_reducible repeat (first | refine qN ?_ _ | refine qD ?_ | refine qA ?_ _)); refine blk_put (cs := #[.int .u32 t323, .int .i64 t324, .int .i64 t325, .int .i64 t326, .int .i64 t327, .int .i64 t328, .int .i64 t329, .bool t330, .int .i64 t331, .int .i64 t332, .int .i64 t333, .int .i64 t340, .int .i64 t335]) ?_ 12 _ rfl; (with_reducible repeat (first | refine qN ?_ _ | refine qD ?_ | refine qA ?_ _)); refine blk_put (cs := #[.int .u32 t323, .int .i64 t324, .int .i64 t325, .int .i64 t326, .int .i64 t327, .int .i64 t328, .int .i64 t329, .bool t330, .int .i64 t331, .int .i64 t332, .int .i64 t333, .int .i64 t334, .int .i64 t335]) ?_ 11 _ rfl; (with_reducible repeat (first | refine qN ?_ _ | refine qD ?_ | refine qA ?_ _)); exact BK337.out) rfl Tryd.underlying137 rfl (by kernel_rfl) ?_) | ((with_reducible refine gate_store (t := 137) (p := 6) rfl ?_); refine rowput_event rfl rfl rfl gb279 0 137 #[.int .u32 0, .int .i64 0, .int .i64 0, .int .i64 0, .int .i64 0, .int .i64 0, .int .i64 0, .bool false, .int .i64 0, .int .i64 0, .int .i64 0, .int .i64 0, .int .i64 0] #[.int .u32 t323, .int .i64 t324, .int .i64 t325, .int .i64 t326, .int .i64 t327, .int .i64 t328, .int .i64 t329, .bool t330, .int .i64 t331, .int .i64 t332, .int .i64 t333, .int .i64 t340, .int .i64 t341] _ [.int .u32 t323, .int .i64 t324, .int .i64 t325, .int .i64 t326, .int .i64 t327, .int .i64 t328, .int .i64 t329, .bool t330, .int .i64 t331, .int .i64 t332, .int .i64 t333, .int .i64 t340, .int .i64 t341] rfl rfl rfl (by (with_reducible repeat (first | refine qN ?_ _ | refine qD ?_ | refine qA ?_ _)); refine blk_far ?_ NB279_337.out _; (with_reducible repeat (first | refine qN ?_ _ | refine qD ?_ | refine qA ?_ _)); refine blk_far ?_ NB279_337.out _; (with_reducible repeat (first | refine qN ?_ _ | refine qD ?_ | refine qA ?_ _)); exact BK279.out) (by kernel_rfl) (by simp) (by simp [Value.oneCell']) rfl (bW5 HB.out GE277.out GE278.out GE279.out GE322.out GE337.out) GE279.out ?_; intro w110 hnw_ hfar_ hb_; have n0_ : Aside0 (w110.heap[gb277]? = some (.cells (ce10_0 a0_0 a0_1 a0_2 a0_3 a0_4 a0_5 a0_6 true a0_8 a0_9 a0_10 a0_11 a0_12) 137 (0, 0))) := ⟨(hfar_ _ NB277_279.out).trans (by (with_reducible repeat (first | refine qN ?_ _ | refine qD ?_ | refine qA ?_ _)); refine blk_far ?_ NB277_337.out _; (with_reducible repeat (first | refine qN ?_ _ | refine qD ?_ | refine qA ?_ _)); refine blk_far ?_ NB277_337.out _; (with_reducible repeat (first | refine qN ?_ _ | refine qD ?_ | refine qA ?_ _)); exact BK277.out)⟩; have n1_ : Aside0 (w110.heap[gb278]? = some (.cells #[.int .i64 x279000_67, .int .i64 x279001_67] 86 (0, 0))) := ⟨(hfar_ _ NB278_279.out).trans (by (with_reducible repeat (first | refine qN ?_ _ | refine qD ?_ | refine qA ?_ _)); refine blk_far ?_ NB278_337.out _; (with_reducible repeat (first | refine qN ?_ _ | refine qD ?_ | refine qA ?_ _)); refine blk_far ?_ NB278_337.out _; (with_reducible repeat (first | refine qN ?_ _ | refine qD ?_ | refine qA ?_ _)); exact BK278.out)⟩; have n2_ : Aside0 (w110.heap[gb279]? = some (.cells (ce10_0 t323 t324 t325 t326 t327 t328 t329 t330 t331 t332 t333 t340 t341) 137 (0, 0))) := ⟨hnw_⟩; have n3_ : Aside0 (w110.heap[gb322]? = some (.cells #[.int .i64 t319, .int .i64 t320] 86 (0, 0))) := ⟨(hfar_ _ NB322_279.out).trans (by (with_reducible repeat (first | refine qN ?_ _ | refine qD ?_ | refine qA ?_ _)); refine blk_far ?_ NB322_337.out _; (with_reducible repeat (first | refine qN ?_ _ | refine qD ?_ | refine qA ?_ _)); refine blk_far ?_ NB322_337.out _; (with_reducible repeat (first | refine qN ?_ _ | refine qD ?_ | refine qA ?_ _)); exact BK322.out)⟩; have n4_ : Aside0 (w110.heap[gb337]? = some (.cells (ce10_0 t323 t324 t325 t326 t327 t328 t329 t330 t331 t332 t333 t340 t341) 137 (0, 0))) := ⟨(hfar_ _ NB337_279.out).trans (by (with_reducible repeat (first | refine qN ?_ _ | refine qD ?_ | refine qA ?_ _)); refine blk_put (cs := #[.int .u32 t323, .int .i64 t324, .int .i64 t325, .int .i64 t326, .int .i64 t327, .int .i64 t328, .int .i64 t329, .bool t330, .int .i64 t331, .int .i64 t332, .int .i64 t333, .int .i64 t340, .int .i64 t335]) ?_ 12 _ rfl; (with_reducible repeat (first | refine qN ?_ _ | refine qD ?_ | refine qA ?_ _)); refine blk_put (cs := #[.int .u32 t323, .int .i64 t324, .int .i64 t325, .int .i64 t326, .int .i64 t327, .int .i64 t328, .int .i64 t329, .bool t330, .int .i64 t331, .int .i64 t332, .int .i64 t333, .int .i64 t334, .int .i64 t335]) ?_ 11 _ rfl; (with_reducible repeat (first | refine qN ?_ _ | refine qD ?_ | refine qA ?_ _)); exact BK337.out)⟩; have nb_ := qS hb_; clear hnw_ hfar_ hb_ HB BK277 BK278 BK279 BK322 BK337; have BK277 := n0_; have BK278 := n1_; have BK279 := n2_; have BK322 := n3_; have BK337 := n4_; have HB := nb_; clear nb_ n0_ n1_ n2_ n3_ n4_))
           refine bodyPost_ret (results_ct rfl _ _ gb279 137 #[.int .u32 t323, .int .i64 t324, .int .i64 t325, .int .i64 t326, .int .i64 t327, .int .i64 t328, .int .i64 t329, .bool t330, .int .i64 t331, .int .i64 t332, .int .i64 t333, .int .i64 t340, .int .i64 t341] (0, 0) _ rfl (qW BK279.out) Tryd.underlying137 rfl (by kernel_rfl)) rfl ?_
           exact ⟨by first | rfl | (simp [errW_none, errW_some] <;> rfl) | (simp [*, errW_none, errW_some] <;> rfl), by repeat (first | (with_reducible first | exact HB.out | apply qpA | apply qpN | apply qp1 | refine qpS ?_ GE277.out | refine qpS ?_ GE278.out | refine qpS ?_ GE279.out | refine qpS ?_ GE322.out | refine qpS ?_ GE337.out) | exact HB.out)⟩
         ·have H1 : (some (0, 0, 0, 0, 0, 0, 0, false, 0, 0, 0, 0, 0, some q338)) = some (r1, r2, r3, r4, r5, r6, r7, r8, r9, r10, r11, r12, r13, r14) := by rw [if_neg (show ¬ (some q338).isNone = true by simp)] at H; exact H
          clear H
          have H := H1
          clear H1
          try simp only [errW_none, errW_some]
          as_aux_lemma =>
           simp only [Option.some.injEq, Prod.mk.injEq] at H
           obtain ⟨rfl, rfl, rfl, rfl, rfl, rfl, rfl, rfl, rfl, rfl, rfl, rfl, rfl, rfl⟩ := H
           have hnb111 := NB277_278.out
           have hnc111 := NB278_277.out
           have hnb112 := NB277_279.out
           have hnc112 := NB279_277.out
           have hnb113 := NB277_322.out
           have hnc113 := NB322_277.out
           obtain ⟨hcz114_0, hcz114_1, hcz114_2, hcz114_3, hcz114_4, hcz114_5, hcz114_6, hcz114_7, hcz114_8, hcz114_9, hcz114_10, hcz114_11, hcz114_12, hfz114_0, hfz114_1, hfz114_2, hfz114_3, hfz114_4, hfz114_5, hfz114_6, hfz114_7, hfz114_8, hfz114_9, hfz114_10, hfz114_11, hfz114_12⟩ := cz13 BK277.out
           go_wp2_with (first | ((with_reducible refine gate_dst (N := 88) rfl ?_); refine rowget_event rfl rfl gb277 0 137 #[.int .u32 a0_0, .int .i64 a0_1, .int .i64 a0_2, .int .i64 a0_3, .int .i64 a0_4, .int .i64 a0_5, .int .i64 a0_6, .bool true, .int .i64 a0_8, .int .i64 a0_9, .int .i64 a0_10, .int .i64 a0_11, .int .i64 a0_12] #[.int .u32 a0_0, .int .i64 a0_1, .int .i64 a0_2, .int .i64 a0_3, .int .i64 a0_4, .int .i64 a0_5, .int .i64 a0_6, .bool true, .int .i64 a0_8, .int .i64 a0_9, .int .i64 a0_10, .int .i64 a0_11, .int .i64 a0_12] _ rfl (qW BK277.out) rfl Tryd.underlying137 rfl (by kernel_rfl) ?_; have hnb115 := NB278_279.out; have hnc115 := NB279_278.out; have hnb116 := NB278_322.out; have hnc116 := NB322_278.out; have hcz117_0 : wc.cell? ⟨gb278, 0, none⟩ = some (.int .i64 x279000_67) := (qC BK278.out 0).trans rfl; have hcz117_1 : wc.cell? ⟨gb278, 1, none⟩ = some (.int .i64 x279001_67) := (qC BK278.out 1).trans rfl; have hfz117_0 := qF BK278.out 0; have hfz117_1 := qF BK278.out 1) | ((with_reducible refine gate_callee (f := 120) rfl ?_); refine goesL_ (some 91) rfl rfl Tryd.func120 (by kernel_rfl) rfl #[.agg #[.int .u32 a0_0, .int .i64 a0_1, .int .i64 a0_2, .int .i64 a0_3, .int .i64 a0_4, .int .i64 a0_5, .int .i64 a0_6, .bool true, .int .i64 a0_8, .int .i64 a0_9, .int .i64 a0_10, .int .i64 a0_11, .int .i64 a0_12], .int .i64 a1, .agg #[.int .i64 x279000_67, .int .i64 x279001_67]] rfl (by (try simp only [List.map_toArray, List.map_cons, List.map_nil]); first | done | rfl | (simp only [*]; done) | (simp only [List.length_drop, List.length_take]; rfl) | (simp only [Act.eval, Array.getD_eq_getD_getElem?, Option.getD_some, *])) ?_; (with_reducible refine (host_Host_set.calls a0_0 a0_1 a0_2 a0_3 a0_4 a0_5 a0_6 true a0_8 a0_9 a0_10 a0_11 a0_12 a1 x279000_67 x279001_67 t323 t324 t325 t326 t327 t328 t329 t330 t331 t332 t333 t334 t335 (some q338) _ A88.out).mono ?_); rintro e w118 ⟨rfl, hb⟩; refine ⟨_, rfl, ?_⟩; have n0_ := qS (qB (g := gb277) (o := .cells (ce10_0 a0_0 a0_1 a0_2 a0_3 a0_4 a0_5 a0_6 true a0_8 a0_9 a0_10 a0_11 a0_12) 137 (0, 0)) (qW BK277.out) hb); have n1_ := qS (qB (g := gb278) (o := .cells #[.int .i64 x279000_67, .int .i64 x279001_67] 86 (0, 0)) (qW BK278.out) hb); have n2_ := qS (qB (g := gb279) (o := .cells (ce10_0 0 0 0 0 0 0 0 false 0 0 0 0 0) 137 (0, 0)) (qW BK279.out) hb); have n3_ := qS (qB (g := gb322) (o := .cells #[.int .i64 t319, .int .i64 t320] 86 (0, 0)) (qW BK322.out) hb); have n4_ := qS (below_step (bW4 HB.out GE277.out GE278.out GE279.out GE322.out) hb); clear BK277; clear BK278; clear BK279; clear BK322; clear HB; have BK277 := n0_; have BK278 := n1_; have BK279 := n2_; have BK322 := n3_; have HB := n4_; clear n0_ n1_ n2_ n3_ n4_; (try clear hb); (try clear hb2); (try clear hk); (try clear hi); (try simp only [errW_none, errW_some])) | ((with_reducible refine gate_dst (N := 13) rfl ?_); refine box_event ?hg (N := 13) ?hd (cs := #[.int .u32 0, .int .i64 0, .int .i64 0, .int .i64 0, .int .i64 0, .int .i64 0, .int .i64 0, .bool false, .int .i64 0, .int .i64 0, .int .i64 0, .int .i64 0, .int .i64 0]) (t := 137) ?hr ?_; (case hd => rfl); (case hg => rfl); (case hr => first | (go_simp; done) | (go_simp; rfl)); intro gb337 hg w119 hbox hb; have n0_ := qS (qB (g := gb277) (o := .cells (ce10_0 a0_0 a0_1 a0_2 a0_3 a0_4 a0_5 a0_6 true a0_8 a0_9 a0_10 a0_11 a0_12) 137 (0, 0)) (qW BK277.out) hb); have n1_ := qS (qB (g := gb278) (o := .cells #[.int .i64 x279000_67, .int .i64 x279001_67] 86 (0, 0)) (qW BK278.out) hb); have n2_ := qS (qB (g := gb279) (o := .cells (ce10_0 0 0 0 0 0 0 0 false 0 0 0 0 0) 137 (0, 0)) (qW BK279.out) hb); have n3_ := qS (qB (g := gb322) (o := .cells #[.int .i64 t319, .int .i64 t320] 86 (0, 0)) (qW BK322.out) hb); have n4_ := qS (below_step (bW4 HB.out GE277.out GE278.out GE279.out GE322.out) hb); have n5_ := qS (hbox); have n6_ := qS ((by rw [hg]; exact (below_size (bW4 HB.out GE277.out GE278.out GE279.out GE322.out)) : w.heap.size ≤ gb337)); have n7_ := qS ((by rw [hg]; exact (below_size (bW4 HB.out GE277.out GE278.out GE279.out GE322.out)) : w.heap.size ≤ gb337)); have n8_ := qS ((by rw [hg]; exact Nat.ne_of_lt (blk_lt (g := gb277) (o := .cells (ce10_0 a0_0 a0_1 a0_2 a0_3 a0_4 a0_5 a0_6 true a0_8 a0_9 a0_10 a0_11 a0_12) 137 (0, 0)) (qW BK277.out)) : gb277 ≠ gb337)); have n9_ := qS ((by rw [hg]; exact Nat.ne_of_gt (blk_lt (g := gb277) (o := .cells (ce10_0 a0_0 a0_1 a0_2 a0_3 a0_4 a0_5 a0_6 true a0_8 a0_9 a0_10 a0_11 a0_12) 137 (0, 0)) (qW BK277.out)) : gb337 ≠ gb277)); have n10_ := qS ((by rw [hg]; exact Nat.ne_of_lt (blk_lt (g := gb278) (o := .cells #[.int .i64 x279000_67, .int .i64 x279001_67] 86 (0, 0)) (qW BK278.out)) : gb278 ≠ gb337)); have n11_ := qS ((by rw [hg]; exact Nat.ne_of_gt (blk_lt (g := gb278) (o := .cells #[.int .i64 x279000_67, .int .i64 x279001_67] 86 (0, 0)) (qW BK278.out)) : gb337 ≠ gb278)); have n12_ := qS ((by rw [hg]; exact Nat.ne_of_lt (blk_lt (g := gb279) (o := .cells (ce10_0 0 0 0 0 0 0 0 false 0 0 0 0 0) 137 (0, 0)) (qW BK279.out)) : gb279 ≠ gb337)); have n13_ := qS ((by rw [hg]; exact Nat.ne_of_gt (blk_lt (g := gb279) (o := .cells (ce10_0 0 0 0 0 0 0 0 false 0 0 0 0 0) 137 (0, 0)) (qW BK279.out)) : gb337 ≠ gb279)); have n14_ := qS ((by rw [hg]; exact Nat.ne_of_lt (blk_lt (g := gb322) (o := .cells #[.int .i64 t319, .int .i64 t320] 86 (0, 0)) (qW BK322.out)) : gb322 ≠ gb337)); have n15_ := qS ((by rw [hg]; exact Nat.ne_of_gt (blk_lt (g := gb322) (o := .cells #[.int .i64 t319, .int .i64 t320] 86 (0, 0)) (qW BK322.out)) : gb337 ≠ gb322)); clear BK277; clear BK278; clear BK279; clear BK322; clear HB; have BK277 := n0_; have BK278 := n1_; have BK279 := n2_; have BK322 := n3_; have HB := n4_; have BK337 := n5_; have GW337 := n6_; have GE337 := n7_; have NB277_337 := n8_; have NB337_277 := n9_; have NB278_337 := n10_; have NB337_278 := n11_; have NB279_337 := n12_; have NB337_279 := n13_; have NB322_337 := n14_; have NB337_322 := n15_; clear n0_ n1_ n2_ n3_ n4_ n5_ n6_ n7_ n8_ n9_ n10_ n11_ n12_ n13_ n14_ n15_; clear hb hbox hg) | ((with_reducible refine gate_store (t := 137) (p := 13) rfl ?_); refine rowput_event rfl rfl rfl gb337 0 137 #[.int .u32 0, .int .i64 0, .int .i64 0, .int .i64 0, .int .i64 0, .int .i64 0, .int .i64 0, .bool false, .int .i64 0, .int .i64 0, .int .i64 0, .int .i64 0, .int .i64 0] #[.int .u32 t323, .int .i64 t324, .int .i64 t325, .int .i64 t326, .int .i64 t327, .int .i64 t328, .int .i64 t329, .bool t330, .int .i64 t331, .int .i64 t332, .int .i64 t333, .int .i64 t334, .int .i64 t335] _ [.int .u32 t323, .int .i64 t324, .int .i64 t325, .int .i64 t326, .int .i64 t327, .int .i64 t328, .int .i64 t329, .bool t330, .int .i64 t331, .int .i64 t332, .int .i64 t333, .int .i64 t334, .int .i64 t335] rfl rfl rfl (qW BK337.out) (by kernel_rfl) (by simp) (by simp [Value.oneCell']) rfl (bW5 HB.out GE277.out GE278.out GE279.out GE322.out GE337.out) GE337.out ?_; intro w120 hnw_ hfar_ hb_; have n0_ : Aside0 (w120.heap[gb277]? = some (.cells (ce10_0 a0_0 a0_1 a0_2 a0_3 a0_4 a0_5 a0_6 true a0_8 a0_9 a0_10 a0_11 a0_12) 137 (0, 0))) := ⟨(hfar_ _ NB277_337.out).trans (qW BK277.out)⟩; have n1_ : Aside0 (w120.heap[gb278]? = some (.cells #[.int .i64 x279000_67, .int .i64 x279001_67] 86 (0, 0))) := ⟨(hfar_ _ NB278_337.out).trans (qW BK278.out)⟩; have n2_ : Aside0 (w120.heap[gb279]? = some (.cells (ce10_0 0 0 0 0 0 0 0 false 0 0 0 0 0) 137 (0, 0))) := ⟨(hfar_ _ NB279_337.out).trans (qW BK279.out)⟩; have n3_ : Aside0 (w120.heap[gb322]? = some (.cells #[.int .i64 t319, .int .i64 t320] 86 (0, 0))) := ⟨(hfar_ _ NB322_337.out).trans (qW BK322.out)⟩; have n4_ : Aside0 (w120.heap[gb337]? = some (.cells (ce10_0 t323 t324 t325 t326 t327 t328 t329 t330 t331 t332 t333 t334 t335) 137 (0, 0))) := ⟨hnw_⟩; have nb_ := qS hb_; clear hnw_ hfar_ hb_ HB BK277 BK278 BK279 BK322 BK337; have BK277 := n0_; have BK278 := n1_; have BK279 := n2_; have BK322 := n3_; have BK337 := n4_; have HB := nb_; clear nb_ n0_ n1_ n2_ n3_ n4_) | ((with_reducible refine gate_store (t := 137) (p := 6) rfl ?_); refine rowput_event rfl rfl rfl gb279 0 137 #[.int .u32 0, .int .i64 0, .int .i64 0, .int .i64 0, .int .i64 0, .int .i64 0, .int .i64 0, .bool false, .int .i64 0, .int .i64 0, .int .i64 0, .int .i64 0, .int .i64 0] #[.int .u32 0, .int .i64 0, .int .i64 0, .int .i64 0, .int .i64 0, .int .i64 0, .int .i64 0, .bool false, .int .i64 0, .int .i64 0, .int .i64 0, .int .i64 0, .int .i64 0] _ [.int .u32 0, .int .i64 0, .int .i64 0, .int .i64 0, .int .i64 0, .int .i64 0, .int .i64 0, .bool false, .int .i64 0, .int .i64 0, .int .i64 0, .int .i64 0, .int .i64 0] rfl rfl rfl (qW BK279.out) (by kernel_rfl) (by simp) (by simp [Value.oneCell']) rfl (bW5 HB.out GE277.out GE278.out GE279.out GE322.out GE337.out) GE279.out ?_; intro w121 hnw_ hfar_ hb_; have n0_ : Aside0 (w121.heap[gb277]? = some (.cells (ce10_0 a0_0 a0_1 a0_2 a0_3 a0_4 a0_5 a0_6 true a0_8 a0_9 a0_10 a0_11 a0_12) 137 (0, 0))) := ⟨(hfar_ _ NB277_279.out).trans (qW BK277.out)⟩; have n1_ : Aside0 (w121.heap[gb278]? = some (.cells #[.int .i64 x279000_67, .int .i64 x279001_67] 86 (0, 0))) := ⟨(hfar_ _ NB278_279.out).trans (qW BK278.out)⟩; have n2_ : Aside0 (w121.heap[gb279]? = some (.cells (ce10_0 0 0 0 0 0 0 0 false 0 0 0 0 0) 137 (0, 0))) := ⟨hnw_⟩; have n3_ : Aside0 (w121.heap[gb322]? = some (.cells #[.int .i64 t319, .int .i64 t320] 86 (0, 0))) := ⟨(hfar_ _ NB322_279.out).trans (qW BK322.out)⟩; have n4_ : Aside0 (w121.heap[gb337]? = some (.cells (ce10_0 t323 t324 t325 t326 t327 t328 t329 t330 t331 t332 t333 t334 t335) 137 (0, 0))) := ⟨(hfar_ _ NB337_279.out).trans (qW BK337.out)⟩; have nb_ := qS hb_; clear hnw_ hfar_ hb_ HB BK277 BK278 BK279 BK322 BK337; have BK277 := n0_; have BK278 := n1_; have BK279 := n2_; have BK322 := n3_; have BK337 := n4_; have HB := nb_; clear nb_ n0_ n1_ n2_ n3_ n4_))
           refine bodyPost_ret (results_ct rfl _ _ gb279 137 #[.int .u32 0, .int .i64 0, .int .i64 0, .int .i64 0, .int .i64 0, .int .i64 0, .int .i64 0, .bool false, .int .i64 0, .int .i64 0, .int .i64 0, .int .i64 0, .int .i64 0] (0, 0) _ rfl (qW BK279.out) Tryd.underlying137 rfl (by kernel_rfl)) rfl ?_
           exact ⟨by first | rfl | (simp [errW_none, errW_some] <;> rfl) | (simp [*, errW_none, errW_some] <;> rfl), by repeat (first | (with_reducible first | exact HB.out | apply qpA | apply qpN | apply qp1 | refine qpS ?_ GE277.out | refine qpS ?_ GE278.out | refine qpS ?_ GE279.out | refine qpS ?_ GE322.out | refine qpS ?_ GE337.out) | exact HB.out)⟩
      ·have H1 : (some (0, 0, 0, 0, 0, 0, 0, false, 0, 0, 0, 0, 0, some q316)) = some (r1, r2, r3, r4, r5, r6, r7, r8, r9, r10, r11, r12, r13, r14) := by rw [if_neg (show ¬ (some q316).isNone = true by simp)] at H; exact H
       clear H
       have H := H1
       clear H1
       try simp only [errW_none, errW_some]
       as_aux_lemma =>
        simp only [Option.some.injEq, Prod.mk.injEq] at H
        obtain ⟨rfl, rfl, rfl, rfl, rfl, rfl, rfl, rfl, rfl, rfl, rfl, rfl, rfl, rfl⟩ := H
        have hnb122 := NB277_278.out
        have hnc122 := NB278_277.out
        have hnb123 := NB277_279.out
        have hnc123 := NB279_277.out
        obtain ⟨hcz124_0, hcz124_1, hcz124_2, hcz124_3, hcz124_4, hcz124_5, hcz124_6, hcz124_7, hcz124_8, hcz124_9, hcz124_10, hcz124_11, hcz124_12, hfz124_0, hfz124_1, hfz124_2, hfz124_3, hfz124_4, hfz124_5, hfz124_6, hfz124_7, hfz124_8, hfz124_9, hfz124_10, hfz124_11, hfz124_12⟩ := cz13 BK277.out
        go_wp2_with (first | ((with_reducible refine gate_dst (N := 52) rfl ?_); refine rowget_event rfl rfl gb277 0 137 #[.int .u32 a0_0, .int .i64 a0_1, .int .i64 a0_2, .int .i64 a0_3, .int .i64 a0_4, .int .i64 a0_5, .int .i64 a0_6, .bool true, .int .i64 a0_8, .int .i64 a0_9, .int .i64 a0_10, .int .i64 a0_11, .int .i64 a0_12] #[.int .u32 a0_0, .int .i64 a0_1, .int .i64 a0_2, .int .i64 a0_3, .int .i64 a0_4, .int .i64 a0_5, .int .i64 a0_6, .bool true, .int .i64 a0_8, .int .i64 a0_9, .int .i64 a0_10, .int .i64 a0_11, .int .i64 a0_12] _ rfl (qW BK277.out) rfl Tryd.underlying137 rfl (by kernel_rfl) ?_) | ((with_reducible refine gate_callee (f := 119) rfl ?_); refine goesL_ (some 54) rfl rfl Tryd.func119 (by kernel_rfl) rfl #[.agg #[.int .u32 a0_0, .int .i64 a0_1, .int .i64 a0_2, .int .i64 a0_3, .int .i64 a0_4, .int .i64 a0_5, .int .i64 a0_6, .bool true, .int .i64 a0_8, .int .i64 a0_9, .int .i64 a0_10, .int .i64 a0_11, .int .i64 a0_12], .int .i64 a1] rfl (by (try simp only [List.map_toArray, List.map_cons, List.map_nil]); first | done | rfl | (simp only [*]; done) | (simp only [List.length_drop, List.length_take]; rfl) | (simp only [Act.eval, Array.getD_eq_getD_getElem?, Option.getD_some, *])) ?_; (with_reducible refine (host_Host_reckoned.calls kj3 a0_0 a0_1 a0_2 a0_3 a0_4 a0_5 a0_6 true a0_8 a0_9 a0_10 a0_11 a0_12 a1 t298 t299 (some q316) _ A51.out).mono ?_); rintro e w125 ⟨rfl, hb⟩; refine ⟨_, rfl, ?_⟩; have n0_ := qS (qB (g := gb277) (o := .cells (ce10_0 a0_0 a0_1 a0_2 a0_3 a0_4 a0_5 a0_6 true a0_8 a0_9 a0_10 a0_11 a0_12) 137 (0, 0)) (qW BK277.out) hb); have n1_ := qS (qB (g := gb278) (o := .cells #[.int .i64 a2_0, .int .i64 a2_1] 86 (0, 0)) (qW BK278.out) hb); have n2_ := qS (qB (g := gb279) (o := .cells (ce10_0 0 0 0 0 0 0 0 false 0 0 0 0 0) 137 (0, 0)) (qW BK279.out) hb); have n3_ := qS (below_step (bW3 HB.out GE277.out GE278.out GE279.out) hb); clear BK277; clear BK278; clear BK279; clear HB; have BK277 := n0_; have BK278 := n1_; have BK279 := n2_; have HB := n3_; clear n0_ n1_ n2_ n3_; (try clear hb); (try clear hb2); (try clear hk); (try clear hi); (try simp only [errW_none, errW_some]); have CA52 := fun W => errors_Is.calls (some q316) (some 2) false W A52.out; try simp only [errW_none, errW_some] at CA52) | (go_at_call 121; (with_reducible refine (CA52 _).mono ?_); rintro e w126 ⟨rfl, hb⟩; have n0_ := qS (qB (g := gb277) (o := .cells (ce10_0 a0_0 a0_1 a0_2 a0_3 a0_4 a0_5 a0_6 true a0_8 a0_9 a0_10 a0_11 a0_12) 137 (0, 0)) (qW BK277.out) hb); have n1_ := qS (qB (g := gb278) (o := .cells #[.int .i64 a2_0, .int .i64 a2_1] 86 (0, 0)) (qW BK278.out) hb); have n2_ := qS (qB (g := gb279) (o := .cells (ce10_0 0 0 0 0 0 0 0 false 0 0 0 0 0) 137 (0, 0)) (qW BK279.out) hb); have n3_ := qS (below_step (bW3 HB.out GE277.out GE278.out GE279.out) hb); clear BK277; clear BK278; clear BK279; clear HB; have BK277 := n0_; have BK278 := n1_; have BK279 := n2_; have HB := n3_; clear n0_ n1_ n2_ n3_; (try clear hb); (try clear hb2); (try clear hk); (try clear hi)) | ((with_reducible refine gate_store (t := 137) (p := 6) rfl ?_); refine rowput_event rfl rfl rfl gb279 0 137 #[.int .u32 0, .int .i64 0, .int .i64 0, .int .i64 0, .int .i64 0, .int .i64 0, .int .i64 0, .bool false, .int .i64 0, .int .i64 0, .int .i64 0, .int .i64 0, .int .i64 0] #[.int .u32 0, .int .i64 0, .int .i64 0, .int .i64 0, .int .i64 0, .int .i64 0, .int .i64 0, .bool false, .int .i64 0, .int .i64 0, .int .i64 0, .int .i64 0, .int .i64 0] _ [.int .u32 0, .int .i64 0, .int .i64 0, .int .i64 0, .int .i64 0, .int .i64 0, .int .i64 0, .bool false, .int .i64 0, .int .i64 0, .int .i64 0, .int .i64 0, .int .i64 0] rfl rfl rfl (qW BK279.out) (by kernel_rfl) (by simp) (by simp [Value.oneCell']) rfl (bW3 HB.out GE277.out GE278.out GE279.out) GE279.out ?_; intro w127 hnw_ hfar_ hb_; have n0_ : Aside0 (w127.heap[gb277]? = some (.cells (ce10_0 a0_0 a0_1 a0_2 a0_3 a0_4 a0_5 a0_6 true a0_8 a0_9 a0_10 a0_11 a0_12) 137 (0, 0))) := ⟨(hfar_ _ NB277_279.out).trans (qW BK277.out)⟩; have n1_ : Aside0 (w127.heap[gb278]? = some (.cells #[.int .i64 a2_0, .int .i64 a2_1] 86 (0, 0))) := ⟨(hfar_ _ NB278_279.out).trans (qW BK278.out)⟩; have n2_ : Aside0 (w127.heap[gb279]? = some (.cells (ce10_0 0 0 0 0 0 0 0 false 0 0 0 0 0) 137 (0, 0))) := ⟨hnw_⟩; have nb_ := qS hb_; clear hnw_ hfar_ hb_ HB BK277 BK278 BK279; have BK277 := n0_; have BK278 := n1_; have BK279 := n2_; have HB := nb_; clear nb_ n0_ n1_ n2_))
        refine bodyPost_ret (results_ct rfl _ _ gb279 137 #[.int .u32 0, .int .i64 0, .int .i64 0, .int .i64 0, .int .i64 0, .int .i64 0, .int .i64 0, .bool false, .int .i64 0, .int .i64 0, .int .i64 0, .int .i64 0, .int .i64 0] (0, 0) _ rfl (qW BK279.out) Tryd.underlying137 rfl (by kernel_rfl)) rfl ?_
        exact ⟨by first | rfl | (simp [errW_none, errW_some] <;> rfl) | (simp [*, errW_none, errW_some] <;> rfl), by repeat (first | (with_reducible first | exact HB.out | apply qpA | apply qpN | apply qp1 | refine qpS ?_ GE277.out | refine qpS ?_ GE278.out | refine qpS ?_ GE279.out) | exact HB.out)⟩
    ·replace c50 := Bool.eq_false_iff.mpr c50
     subst c50
     have H1 : ((host_Host_set.f a0_0 a0_1 a0_2 a0_3 a0_4 a0_5 a0_6 false a0_8 a0_9 a0_10 a0_11 a0_12 a1 a2_0 a2_1).bind fun bt284 => (some (bt284.1, bt284.2.1, bt284.2.2.1, bt284.2.2.2.1, bt284.2.2.2.2.1, bt284.2.2.2.2.2.1, bt284.2.2.2.2.2.2.1, bt284.2.2.2.2.2.2.2.1, bt284.2.2.2.2.2.2.2.2.1, bt284.2.2.2.2.2.2.2.2.2.1, bt284.2.2.2.2.2.2.2.2.2.2.1, bt284.2.2.2.2.2.2.2.2.2.2.2.1, bt284.2.2.2.2.2.2.2.2.2.2.2.2.1, bt284.2.2.2.2.2.2.2.2.2.2.2.2.2))) = some (r1, r2, r3, r4, r5, r6, r7, r8, r9, r10, r11, r12, r13, r14) := by rw [if_neg (show ¬ (false = true) by decide)] at H; exact H
     clear H
     have H := H1
     clear H1
     replace H := Option.bind_eq_some_iff.mp H
     obtain ⟨⟨t284, t285, t286, t287, t288, t289, t290, t291, t292, t293, t294, t295, t296, t297⟩, A1280, H⟩ := H
     replace H : (some (t284, t285, t286, t287, t288, t289, t290, t291, t292, t293, t294, t295, t296, t297)) = some (r1, r2, r3, r4, r5, r6, r7, r8, r9, r10, r11, r12, r13, r14) := H
     have A128 := qS A1280
     clear A1280
     as_aux_lemma =>
      simp only [Option.some.injEq, Prod.mk.injEq] at H
      obtain ⟨rfl, rfl, rfl, rfl, rfl, rfl, rfl, rfl, rfl, rfl, rfl, rfl, rfl, rfl⟩ := H
      have hnb129 := NB277_278.out
      have hnc129 := NB278_277.out
      have hnb130 := NB277_279.out
      have hnc130 := NB279_277.out
      obtain ⟨hcz131_0, hcz131_1, hcz131_2, hcz131_3, hcz131_4, hcz131_5, hcz131_6, hcz131_7, hcz131_8, hcz131_9, hcz131_10, hcz131_11, hcz131_12, hfz131_0, hfz131_1, hfz131_2, hfz131_3, hfz131_4, hfz131_5, hfz131_6, hfz131_7, hfz131_8, hfz131_9, hfz131_10, hfz131_11, hfz131_12⟩ := cz13 BK277.out
      go_wp2_with (first | ((with_reducible refine gate_dst (N := 45) rfl ?_); refine rowget_event rfl rfl gb277 0 137 #[.int .u32 a0_0, .int .i64 a0_1, .int .i64 a0_2, .int .i64 a0_3, .int .i64 a0_4, .int .i64 a0_5, .int .i64 a0_6, .bool false, .int .i64 a0_8, .int .i64 a0_9, .int .i64 a0_10, .int .i64 a0_11, .int .i64 a0_12] #[.int .u32 a0_0, .int .i64 a0_1, .int .i64 a0_2, .int .i64 a0_3, .int .i64 a0_4, .int .i64 a0_5, .int .i64 a0_6, .bool false, .int .i64 a0_8, .int .i64 a0_9, .int .i64 a0_10, .int .i64 a0_11, .int .i64 a0_12] _ rfl (qW BK277.out) rfl Tryd.underlying137 rfl (by kernel_rfl) ?_; have hnb132 := NB278_279.out; have hnc132 := NB279_278.out; have hcz133_0 : wc.cell? ⟨gb278, 0, none⟩ = some (.int .i64 a2_0) := (qC BK278.out 0).trans rfl; have hcz133_1 : wc.cell? ⟨gb278, 1, none⟩ = some (.int .i64 a2_1) := (qC BK278.out 1).trans rfl; have hfz133_0 := qF BK278.out 0; have hfz133_1 := qF BK278.out 1) | ((with_reducible refine gate_callee (f := 120) rfl ?_); refine goesL_ (some 48) rfl rfl Tryd.func120 (by kernel_rfl) rfl #[.agg #[.int .u32 a0_0, .int .i64 a0_1, .int .i64 a0_2, .int .i64 a0_3, .int .i64 a0_4, .int .i64 a0_5, .int .i64 a0_6, .bool false, .int .i64 a0_8, .int .i64 a0_9, .int .i64 a0_10, .int .i64 a0_11, .int .i64 a0_12], .int .i64 a1, .agg #[.int .i64 a2_0, .int .i64 a2_1]] rfl (by (try simp only [List.map_toArray, List.map_cons, List.map_nil]); first | done | rfl | (simp only [*]; done) | (simp only [List.length_drop, List.length_take]; rfl) | (simp only [Act.eval, Array.getD_eq_getD_getElem?, Option.getD_some, *])) ?_; (with_reducible refine (host_Host_set.calls a0_0 a0_1 a0_2 a0_3 a0_4 a0_5 a0_6 false a0_8 a0_9 a0_10 a0_11 a0_12 a1 a2_0 a2_1 t284 t285 t286 t287 t288 t289 t290 t291 t292 t293 t294 t295 t296 t297 _ A128.out).mono ?_); rintro e w134 ⟨rfl, hb⟩; refine ⟨_, rfl, ?_⟩; have n0_ := qS (qB (g := gb277) (o := .cells (ce10_0 a0_0 a0_1 a0_2 a0_3 a0_4 a0_5 a0_6 false a0_8 a0_9 a0_10 a0_11 a0_12) 137 (0, 0)) (qW BK277.out) hb); have n1_ := qS (qB (g := gb278) (o := .cells #[.int .i64 a2_0, .int .i64 a2_1] 86 (0, 0)) (qW BK278.out) hb); have n2_ := qS (qB (g := gb279) (o := .cells (ce10_0 0 0 0 0 0 0 0 false 0 0 0 0 0) 137 (0, 0)) (qW BK279.out) hb); have n3_ := qS (below_step (bW3 HB.out GE277.out GE278.out GE279.out) hb); clear BK277; clear BK278; clear BK279; clear HB; have BK277 := n0_; have BK278 := n1_; have BK279 := n2_; have HB := n3_; clear n0_ n1_ n2_ n3_; (try clear hb); (try clear hb2); (try clear hk); (try clear hi); (try simp only [errW_none, errW_some])) | ((with_reducible refine gate_store (t := 137) (p := 6) rfl ?_); refine rowput_event rfl rfl rfl gb279 0 137 #[.int .u32 0, .int .i64 0, .int .i64 0, .int .i64 0, .int .i64 0, .int .i64 0, .int .i64 0, .bool false, .int .i64 0, .int .i64 0, .int .i64 0, .int .i64 0, .int .i64 0] #[.int .u32 t284, .int .i64 t285, .int .i64 t286, .int .i64 t287, .int .i64 t288, .int .i64 t289, .int .i64 t290, .bool t291, .int .i64 t292, .int .i64 t293, .int .i64 t294, .int .i64 t295, .int .i64 t296] _ [.int .u32 t284, .int .i64 t285, .int .i64 t286, .int .i64 t287, .int .i64 t288, .int .i64 t289, .int .i64 t290, .bool t291, .int .i64 t292, .int .i64 t293, .int .i64 t294, .int .i64 t295, .int .i64 t296] rfl rfl rfl (qW BK279.out) (by kernel_rfl) (by simp) (by simp [Value.oneCell']) rfl (bW3 HB.out GE277.out GE278.out GE279.out) GE279.out ?_; intro w135 hnw_ hfar_ hb_; have n0_ : Aside0 (w135.heap[gb277]? = some (.cells (ce10_0 a0_0 a0_1 a0_2 a0_3 a0_4 a0_5 a0_6 false a0_8 a0_9 a0_10 a0_11 a0_12) 137 (0, 0))) := ⟨(hfar_ _ NB277_279.out).trans (qW BK277.out)⟩; have n1_ : Aside0 (w135.heap[gb278]? = some (.cells #[.int .i64 a2_0, .int .i64 a2_1] 86 (0, 0))) := ⟨(hfar_ _ NB278_279.out).trans (qW BK278.out)⟩; have n2_ : Aside0 (w135.heap[gb279]? = some (.cells (ce10_0 t284 t285 t286 t287 t288 t289 t290 t291 t292 t293 t294 t295 t296) 137 (0, 0))) := ⟨hnw_⟩; have nb_ := qS hb_; clear hnw_ hfar_ hb_ HB BK277 BK278 BK279; have BK277 := n0_; have BK278 := n1_; have BK279 := n2_; have HB := nb_; clear nb_ n0_ n1_ n2_))
      refine bodyPost_ret (results_ct rfl _ _ gb279 137 #[.int .u32 t284, .int .i64 t285, .int .i64 t286, .int .i64 t287, .int .i64 t288, .int .i64 t289, .int .i64 t290, .bool t291, .int .i64 t292, .int .i64 t293, .int .i64 t294, .int .i64 t295, .int .i64 t296] (0, 0) _ rfl (qW BK279.out) Tryd.underlying137 rfl (by kernel_rfl)) rfl ?_
      exact ⟨by first | rfl | (simp [errW_none, errW_some] <;> rfl) | (simp [*, errW_none, errW_some] <;> rfl), by repeat (first | (with_reducible first | exact HB.out | apply qpA | apply qpN | apply qp1 | refine qpS ?_ GE277.out | refine qpS ?_ GE278.out | refine qpS ?_ GE279.out) | exact HB.out)⟩

end Go.Proofs.YtcpbfckmngbgdaaDoor.MHo
