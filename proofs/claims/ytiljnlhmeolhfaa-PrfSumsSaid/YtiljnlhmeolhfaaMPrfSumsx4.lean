/- Printed by wip/gen/mp.py: Go functions as plain Lean functions, and that the calls do what these say. -/
import Derived.Test.YtiljnlhmeolhfaaMPrfSumsx0
import Derived.Test.YtiljnlhmeolhfaaMPrfSumsx1
import Derived.Test.YtiljnlhmeolhfaaMPrfSumsx2
import Derived.Test.YtiljnlhmeolhfaaMPrfSumsx3
namespace Go.Proofs.Ytiljnlhmeolhfaa.MPrfSums
open Go.RowKit Go.Proofs.YtiljnlhmeolhfaaW.PrintWords Go.Proofs.YtiljnlhmeolhfaaW.PrintLast Go.Proofs.YtiljnlhmeolhfaaW.PrintMore
attribute [local go_sem] max2_int min2_int max_two min_two max_three min_three max_four min_four   -- for this text's walks alone
set_option linter.unusedVariables false
set_option linter.unusedSimpArgs false

attribute [local go_sem high] eqA27
/-! ### fuseelaw23_sure: function 7 -/
def fuseelaw23_sure.l1 : Nat → List Int → Int → Int → Int → Int → Int → Int → Int → Int → Int → Int → Int → Int → Int → Int → Int → Int → Int → Option (Bool)
 | 0, _, _, _, _, _, _, _, _, _, _, _, _, _, _, _, _, _, _ => none
 | k + 1, x2, x4, x138000, x138001, x138002, x138003, x138004, x138005, x138006, x138007, x138008, x138009, x138010, x138011, x138012, x138013, x138014, x138015 => if x4 < 15 then (if x2.length < 140737488355328 then (fuseelaw23_sure.l1 k (x2 ++ [(x4) % 256]) (wrap64 (x4 + 1)) x138000 x138001 x138002 x138003 x138004 x138005 x138006 x138007 x138008 x138009 x138010 x138011 x138012 x138013 x138014 x138015) else (none)) else ((prf_Sum.f x138000 x138001 x138002 x138003 x138004 x138005 x138006 x138007 x138008 x138009 x138010 x138011 x138012 x138013 x138014 x138015 x2).bind fun t141 => (if t141 = 11613035633349379557 then ((prf_Number.f k x138000 x138001 x138002 x138003 x138004 x138005 x138006 x138007 x138008 x138009 x138010 x138011 x138012 x138013 x138014 x138015 7 0).bind fun t142 => (if t142 = 0 then ((prf_Derive.f k x138000 x138001 x138002 x138003 x138004 x138005 x138006 x138007 x138008 x138009 x138010 x138011 x138012 x138013 x138014 x138015 1).bind fun bt143 => (some (!(bt143.1 == x138000) || (!(bt143.2.1 == x138001) || (!(bt143.2.2.1 == x138002) || (!(bt143.2.2.2.1 == x138003) || (!(bt143.2.2.2.2.1 == x138004) || (!(bt143.2.2.2.2.2.1 == x138005) || (!(bt143.2.2.2.2.2.2.1 == x138006) || (!(bt143.2.2.2.2.2.2.2.1 == x138007) || (!(bt143.2.2.2.2.2.2.2.2.1 == x138008) || (!(bt143.2.2.2.2.2.2.2.2.2.1 == x138009) || (!(bt143.2.2.2.2.2.2.2.2.2.2.1 == x138010) || (!(bt143.2.2.2.2.2.2.2.2.2.2.2.1 == x138011) || (!(bt143.2.2.2.2.2.2.2.2.2.2.2.2.1 == x138012) || (!(bt143.2.2.2.2.2.2.2.2.2.2.2.2.2.1 == x138013) || (!(bt143.2.2.2.2.2.2.2.2.2.2.2.2.2.2.1 == x138014) || (!(bt143.2.2.2.2.2.2.2.2.2.2.2.2.2.2.2 == x138015))))))))))))))))))) else (none))) else (none)))
def fuseelaw23_sure.f (k : Nat)  : Option (Bool) := fuseelaw23_sure.l1 k ([] : List Int) 0 0 1 2 3 4 5 6 7 8 9 10 11 12 13 14 15
theorem fuseelaw23_sure.mono_l : ∀ k, (∀ y0 y1 y2 y3 y4 y5 y6 y7 y8 y9 y10 y11 y12 y13 y14 y15 y16 y17, LeO (fuseelaw23_sure.l1 k y0 y1 y2 y3 y4 y5 y6 y7 y8 y9 y10 y11 y12 y13 y14 y15 y16 y17) (fuseelaw23_sure.l1 (k + 1) y0 y1 y2 y3 y4 y5 y6 y7 y8 y9 y10 y11 y12 y13 y14 y15 y16 y17))
 | 0 => fun _ _ _ _ _ _ _ _ _ _ _ _ _ _ _ _ _ _ r h => by simp [fuseelaw23_sure.l1] at h
 | k + 1 => by
  have ih0 := fuseelaw23_sure.mono_l k
  ·intro y0 y1 y2 y3 y4 y5 y6 y7 y8 y9 y10 y11 y12 y13 y14 y15 y16 y17
   unfold fuseelaw23_sure.l1
   repeat' first
   | (with_reducible exact ih0 _ _ _ _ _ _ _ _ _ _ _ _ _ _ _ _ _ _)
   | (with_reducible exact prf_Derive.mono _ _ _ _ _ _ _ _ _ _ _ _ _ _ _ _ _ _)
   | (with_reducible exact prf_Number.mono _ _ _ _ _ _ _ _ _ _ _ _ _ _ _ _ _ _ _)
   | (with_reducible exact LeO.refl _)
   | (with_reducible exact LeO.none _)
   | (with_reducible refine LeO.ite ?_ ?_)
   | (with_reducible refine LeO.bind ?_ (fun _ => ?_))
   | exact ih0 _ _ _ _ _ _ _ _ _ _ _ _ _ _ _ _ _ _
   | exact prf_Derive.mono _ _ _ _ _ _ _ _ _ _ _ _ _ _ _ _ _ _
   | exact prf_Number.mono _ _ _ _ _ _ _ _ _ _ _ _ _ _ _ _ _ _ _
   | exact LeO.none _
   | refine LeO.ite ?_ ?_
   | refine LeO.bind ?_ (fun _ => ?_)
theorem fuseelaw23_sure.mono : ∀ k, LeO (fuseelaw23_sure.f k ) (fuseelaw23_sure.f (k + 1) ) := by
 intro  k
 have ih0 := fuseelaw23_sure.mono_l k
 unfold fuseelaw23_sure.f
 repeat' first
   | (with_reducible exact ih0 _ _ _ _ _ _ _ _ _ _ _ _ _ _ _ _ _ _)
   | (with_reducible exact prf_Derive.mono _ _ _ _ _ _ _ _ _ _ _ _ _ _ _ _ _ _)
   | (with_reducible exact prf_Number.mono _ _ _ _ _ _ _ _ _ _ _ _ _ _ _ _ _ _ _)
   | (with_reducible exact LeO.refl _)
   | (with_reducible exact LeO.none _)
   | (with_reducible refine LeO.ite ?_ ?_)
   | (with_reducible refine LeO.bind ?_ (fun _ => ?_))
   | exact ih0 _ _ _ _ _ _ _ _ _ _ _ _ _ _ _ _ _ _
   | exact prf_Derive.mono _ _ _ _ _ _ _ _ _ _ _ _ _ _ _ _ _ _
   | exact prf_Number.mono _ _ _ _ _ _ _ _ _ _ _ _ _ _ _ _ _ _ _
   | exact LeO.none _
   | refine LeO.ite ?_ ?_
   | refine LeO.bind ?_ (fun _ => ?_)
def fuseelaw23_sure.T11 : Bool × List (List Nat × List Nat) := (true, [([], []), ([], []), ([0, 1], [0, 1]), ([2], [2]), ([3, 2], [3]), ([4], [4]), ([5, 4, 4], [4, 5]), ([6, 4], [4, 6]), ([4, 7], [4, 7]), ([8, 6], [8]), ([9], [9]), ([10, 9, 9], [9, 10]), ([9], [9]), ([11, 12, 9], [9, 11, 12]), ([9, 13], [9, 13]), ([14, 11, 0, 1, 2, 3, 4, 5, 6, 7, 8, 9, 10, 11, 12, 13, 14], [14])])
def fuseelaw23_sure.B11 : List Nat := [0, 0, 3, 7, 15, 31, 63, 127, 255, 511, 1023, 2047, 1023, 8191, 16383, 32767]
theorem fuseelaw23_sure.tab11 : rtab .any (opsOf Try.f7 11) = fuseelaw23_sure.T11 := by kernel_rfl
theorem fuseelaw23_sure.bits11 : waitsOk fuseelaw23_sure.T11.2 fuseelaw23_sure.B11 = true := by kernel_rfl
set_option maxHeartbeats 8000000 in
set_option maxRecDepth 100000 in
theorem fuseelaw23_sure.calls (k : Nat)  (r : Bool) (w : World) (h : fuseelaw23_sure.f k  = some r) :
  Calls Try.prog 7 #[] w fun e w' => e = .returned (.bool r) ∧ Below w.heap.size w w' := by
 have hu27 := Try.underlying27
 have HB := qS (Below.refl w.heap.size w)
 have H : (fuseelaw23_sure.l1 k ([] : List Int) 0 0 1 2 3 4 5 6 7 8 9 10 11 12 13 14 15) = some r := h
 clear h
 have H' := qS H
 clear H
 go_enter Try.func7, Try.ntmps7
 try go_wp2_with (first | ((with_reducible refine gate_dst (N := 1) rfl ?_); refine box_event ?hg (N := 1) ?hd (cs := #[.int .u8 0, .int .u8 0, .int .u8 0, .int .u8 0, .int .u8 0, .int .u8 0, .int .u8 0, .int .u8 0, .int .u8 0, .int .u8 0, .int .u8 0, .int .u8 0, .int .u8 0, .int .u8 0, .int .u8 0, .int .u8 0]) (t := 27) ?hr ?_; (case hd => rfl); (case hg => rfl); (case hr => first | (go_simp; done) | (go_simp; rfl)); intro gb137 hg w1 hbox hb; have n0_ := qS (below_step (by repeat (first | (with_reducible first | exact HB.out | apply qpA | apply qpN | apply qp1) | exact HB.out)) hb); have n1_ := qS (hbox); have n2_ := qS ((by rw [hg]; exact (below_size (by repeat (first | (with_reducible first | exact HB.out | apply qpA | apply qpN | apply qp1) | exact HB.out))) : w.heap.size ≤ gb137)); have n3_ := qS ((by rw [hg]; exact (below_size (by repeat (first | (with_reducible first | exact HB.out | apply qpA | apply qpN | apply qp1) | exact HB.out))) : w.heap.size ≤ gb137)); clear HB; have HB := n0_; have BK137 := n1_; have GW137 := n2_; have GE137 := n3_; clear n0_ n1_ n2_ n3_; clear hb hbox hg))
 refine wp_loop_rounds 26 ?_
 rw [rounds_succ]
 refine name_w (fun w2 hq_ => ?_)
 have n0_ : Aside0 (w2.heap[gb137]? = some (.cells #[.int .u8 0, .int .u8 0, .int .u8 0, .int .u8 0, .int .u8 0, .int .u8 0, .int .u8 0, .int .u8 0, .int .u8 0, .int .u8 0, .int .u8 0, .int .u8 0, .int .u8 0, .int .u8 0, .int .u8 0, .int .u8 0] 27 (0, 0))) := ⟨by rw [hq_]; exact (by (with_reducible repeat (first | refine qN ?_ _ | refine qD ?_ | refine qA ?_ _)); exact BK137.out)⟩
 have n1_ : Aside0 (Below w.heap.size w w2) := ⟨by rw [hq_]; exact (by repeat (first | (with_reducible first | exact HB.out | apply qpA | apply qpN | apply qp1 | refine qpS ?_ GE137.out) | exact HB.out))⟩
 clear hq_ BK137 HB
 have BK137 := n0_
 have HB := n1_
 clear n0_ n1_
 have hcz3_0 : w2.cell? ⟨gb137, 0, none⟩ = some (.int .u8 0) := (qC BK137.out 0).trans rfl
 have hfz3_0 := qF BK137.out 0
 try go_wp2
 rw [rounds_succ]
 refine name_w (fun w4 hq_ => ?_)
 have n0_ : Aside0 (w4.heap[gb137]? = some (.cells #[.int .u8 0, .int .u8 0, .int .u8 0, .int .u8 0, .int .u8 0, .int .u8 0, .int .u8 0, .int .u8 0, .int .u8 0, .int .u8 0, .int .u8 0, .int .u8 0, .int .u8 0, .int .u8 0, .int .u8 0, .int .u8 0] 27 (0, 0))) := ⟨by rw [hq_]; exact (by (with_reducible repeat (first | refine qN ?_ _ | refine qD ?_ | refine qA ?_ _)); refine blk_put (cs := #[.int .u8 0, .int .u8 0, .int .u8 0, .int .u8 0, .int .u8 0, .int .u8 0, .int .u8 0, .int .u8 0, .int .u8 0, .int .u8 0, .int .u8 0, .int .u8 0, .int .u8 0, .int .u8 0, .int .u8 0, .int .u8 0]) ?_ 0 _ rfl; (with_reducible repeat (first | refine qN ?_ _ | refine qD ?_ | refine qA ?_ _)); exact BK137.out)⟩
 have n1_ : Aside0 (Below w.heap.size w w4) := ⟨by rw [hq_]; exact (by repeat (first | (with_reducible first | exact HB.out | apply qpA | apply qpN | apply qp1 | refine qpS ?_ GE137.out) | exact HB.out))⟩
 clear hq_ BK137 HB
 have BK137 := n0_
 have HB := n1_
 clear n0_ n1_
 (try clear hcz3_0 hfz3_0)
 have hcz5_1 : w4.cell? ⟨gb137, 1, none⟩ = some (.int .u8 0) := (qC BK137.out 1).trans rfl
 have hfz5_1 := qF BK137.out 1
 try go_wp2
 rw [rounds_succ]
 refine name_w (fun w6 hq_ => ?_)
 have n0_ : Aside0 (w6.heap[gb137]? = some (.cells #[.int .u8 0, .int .u8 1, .int .u8 0, .int .u8 0, .int .u8 0, .int .u8 0, .int .u8 0, .int .u8 0, .int .u8 0, .int .u8 0, .int .u8 0, .int .u8 0, .int .u8 0, .int .u8 0, .int .u8 0, .int .u8 0] 27 (0, 0))) := ⟨by rw [hq_]; exact (by (with_reducible repeat (first | refine qN ?_ _ | refine qD ?_ | refine qA ?_ _)); refine blk_put (cs := #[.int .u8 0, .int .u8 0, .int .u8 0, .int .u8 0, .int .u8 0, .int .u8 0, .int .u8 0, .int .u8 0, .int .u8 0, .int .u8 0, .int .u8 0, .int .u8 0, .int .u8 0, .int .u8 0, .int .u8 0, .int .u8 0]) ?_ 1 _ rfl; (with_reducible repeat (first | refine qN ?_ _ | refine qD ?_ | refine qA ?_ _)); exact BK137.out)⟩
 have n1_ : Aside0 (Below w.heap.size w w6) := ⟨by rw [hq_]; exact (by repeat (first | (with_reducible first | exact HB.out | apply qpA | apply qpN | apply qp1 | refine qpS ?_ GE137.out) | exact HB.out))⟩
 clear hq_ BK137 HB
 have BK137 := n0_
 have HB := n1_
 clear n0_ n1_
 (try clear hcz5_1 hfz5_1)
 have hcz7_2 : w6.cell? ⟨gb137, 2, none⟩ = some (.int .u8 0) := (qC BK137.out 2).trans rfl
 have hfz7_2 := qF BK137.out 2
 try go_wp2
 rw [rounds_succ]
 refine name_w (fun w8 hq_ => ?_)
 have n0_ : Aside0 (w8.heap[gb137]? = some (.cells #[.int .u8 0, .int .u8 1, .int .u8 2, .int .u8 0, .int .u8 0, .int .u8 0, .int .u8 0, .int .u8 0, .int .u8 0, .int .u8 0, .int .u8 0, .int .u8 0, .int .u8 0, .int .u8 0, .int .u8 0, .int .u8 0] 27 (0, 0))) := ⟨by rw [hq_]; exact (by (with_reducible repeat (first | refine qN ?_ _ | refine qD ?_ | refine qA ?_ _)); refine blk_put (cs := #[.int .u8 0, .int .u8 1, .int .u8 0, .int .u8 0, .int .u8 0, .int .u8 0, .int .u8 0, .int .u8 0, .int .u8 0, .int .u8 0, .int .u8 0, .int .u8 0, .int .u8 0, .int .u8 0, .int .u8 0, .int .u8 0]) ?_ 2 _ rfl; (with_reducible repeat (first | refine qN ?_ _ | refine qD ?_ | refine qA ?_ _)); exact BK137.out)⟩
 have n1_ : Aside0 (Below w.heap.size w w8) := ⟨by rw [hq_]; exact (by repeat (first | (with_reducible first | exact HB.out | apply qpA | apply qpN | apply qp1 | refine qpS ?_ GE137.out) | exact HB.out))⟩
 clear hq_ BK137 HB
 have BK137 := n0_
 have HB := n1_
 clear n0_ n1_
 (try clear hcz7_2 hfz7_2)
 have hcz9_3 : w8.cell? ⟨gb137, 3, none⟩ = some (.int .u8 0) := (qC BK137.out 3).trans rfl
 have hfz9_3 := qF BK137.out 3
 try go_wp2
 rw [rounds_succ]
 refine name_w (fun w10 hq_ => ?_)
 have n0_ : Aside0 (w10.heap[gb137]? = some (.cells #[.int .u8 0, .int .u8 1, .int .u8 2, .int .u8 3, .int .u8 0, .int .u8 0, .int .u8 0, .int .u8 0, .int .u8 0, .int .u8 0, .int .u8 0, .int .u8 0, .int .u8 0, .int .u8 0, .int .u8 0, .int .u8 0] 27 (0, 0))) := ⟨by rw [hq_]; exact (by (with_reducible repeat (first | refine qN ?_ _ | refine qD ?_ | refine qA ?_ _)); refine blk_put (cs := #[.int .u8 0, .int .u8 1, .int .u8 2, .int .u8 0, .int .u8 0, .int .u8 0, .int .u8 0, .int .u8 0, .int .u8 0, .int .u8 0, .int .u8 0, .int .u8 0, .int .u8 0, .int .u8 0, .int .u8 0, .int .u8 0]) ?_ 3 _ rfl; (with_reducible repeat (first | refine qN ?_ _ | refine qD ?_ | refine qA ?_ _)); exact BK137.out)⟩
 have n1_ : Aside0 (Below w.heap.size w w10) := ⟨by rw [hq_]; exact (by repeat (first | (with_reducible first | exact HB.out | apply qpA | apply qpN | apply qp1 | refine qpS ?_ GE137.out) | exact HB.out))⟩
 clear hq_ BK137 HB
 have BK137 := n0_
 have HB := n1_
 clear n0_ n1_
 (try clear hcz9_3 hfz9_3)
 have hcz11_4 : w10.cell? ⟨gb137, 4, none⟩ = some (.int .u8 0) := (qC BK137.out 4).trans rfl
 have hfz11_4 := qF BK137.out 4
 try go_wp2
 rw [rounds_succ]
 refine name_w (fun w12 hq_ => ?_)
 have n0_ : Aside0 (w12.heap[gb137]? = some (.cells #[.int .u8 0, .int .u8 1, .int .u8 2, .int .u8 3, .int .u8 4, .int .u8 0, .int .u8 0, .int .u8 0, .int .u8 0, .int .u8 0, .int .u8 0, .int .u8 0, .int .u8 0, .int .u8 0, .int .u8 0, .int .u8 0] 27 (0, 0))) := ⟨by rw [hq_]; exact (by (with_reducible repeat (first | refine qN ?_ _ | refine qD ?_ | refine qA ?_ _)); refine blk_put (cs := #[.int .u8 0, .int .u8 1, .int .u8 2, .int .u8 3, .int .u8 0, .int .u8 0, .int .u8 0, .int .u8 0, .int .u8 0, .int .u8 0, .int .u8 0, .int .u8 0, .int .u8 0, .int .u8 0, .int .u8 0, .int .u8 0]) ?_ 4 _ rfl; (with_reducible repeat (first | refine qN ?_ _ | refine qD ?_ | refine qA ?_ _)); exact BK137.out)⟩
 have n1_ : Aside0 (Below w.heap.size w w12) := ⟨by rw [hq_]; exact (by repeat (first | (with_reducible first | exact HB.out | apply qpA | apply qpN | apply qp1 | refine qpS ?_ GE137.out) | exact HB.out))⟩
 clear hq_ BK137 HB
 have BK137 := n0_
 have HB := n1_
 clear n0_ n1_
 (try clear hcz11_4 hfz11_4)
 have hcz13_5 : w12.cell? ⟨gb137, 5, none⟩ = some (.int .u8 0) := (qC BK137.out 5).trans rfl
 have hfz13_5 := qF BK137.out 5
 try go_wp2
 rw [rounds_succ]
 refine name_w (fun w14 hq_ => ?_)
 have n0_ : Aside0 (w14.heap[gb137]? = some (.cells #[.int .u8 0, .int .u8 1, .int .u8 2, .int .u8 3, .int .u8 4, .int .u8 5, .int .u8 0, .int .u8 0, .int .u8 0, .int .u8 0, .int .u8 0, .int .u8 0, .int .u8 0, .int .u8 0, .int .u8 0, .int .u8 0] 27 (0, 0))) := ⟨by rw [hq_]; exact (by (with_reducible repeat (first | refine qN ?_ _ | refine qD ?_ | refine qA ?_ _)); refine blk_put (cs := #[.int .u8 0, .int .u8 1, .int .u8 2, .int .u8 3, .int .u8 4, .int .u8 0, .int .u8 0, .int .u8 0, .int .u8 0, .int .u8 0, .int .u8 0, .int .u8 0, .int .u8 0, .int .u8 0, .int .u8 0, .int .u8 0]) ?_ 5 _ rfl; (with_reducible repeat (first | refine qN ?_ _ | refine qD ?_ | refine qA ?_ _)); exact BK137.out)⟩
 have n1_ : Aside0 (Below w.heap.size w w14) := ⟨by rw [hq_]; exact (by repeat (first | (with_reducible first | exact HB.out | apply qpA | apply qpN | apply qp1 | refine qpS ?_ GE137.out) | exact HB.out))⟩
 clear hq_ BK137 HB
 have BK137 := n0_
 have HB := n1_
 clear n0_ n1_
 (try clear hcz13_5 hfz13_5)
 have hcz15_6 : w14.cell? ⟨gb137, 6, none⟩ = some (.int .u8 0) := (qC BK137.out 6).trans rfl
 have hfz15_6 := qF BK137.out 6
 try go_wp2
 rw [rounds_succ]
 refine name_w (fun w16 hq_ => ?_)
 have n0_ : Aside0 (w16.heap[gb137]? = some (.cells #[.int .u8 0, .int .u8 1, .int .u8 2, .int .u8 3, .int .u8 4, .int .u8 5, .int .u8 6, .int .u8 0, .int .u8 0, .int .u8 0, .int .u8 0, .int .u8 0, .int .u8 0, .int .u8 0, .int .u8 0, .int .u8 0] 27 (0, 0))) := ⟨by rw [hq_]; exact (by (with_reducible repeat (first | refine qN ?_ _ | refine qD ?_ | refine qA ?_ _)); refine blk_put (cs := #[.int .u8 0, .int .u8 1, .int .u8 2, .int .u8 3, .int .u8 4, .int .u8 5, .int .u8 0, .int .u8 0, .int .u8 0, .int .u8 0, .int .u8 0, .int .u8 0, .int .u8 0, .int .u8 0, .int .u8 0, .int .u8 0]) ?_ 6 _ rfl; (with_reducible repeat (first | refine qN ?_ _ | refine qD ?_ | refine qA ?_ _)); exact BK137.out)⟩
 have n1_ : Aside0 (Below w.heap.size w w16) := ⟨by rw [hq_]; exact (by repeat (first | (with_reducible first | exact HB.out | apply qpA | apply qpN | apply qp1 | refine qpS ?_ GE137.out) | exact HB.out))⟩
 clear hq_ BK137 HB
 have BK137 := n0_
 have HB := n1_
 clear n0_ n1_
 (try clear hcz15_6 hfz15_6)
 have hcz17_7 : w16.cell? ⟨gb137, 7, none⟩ = some (.int .u8 0) := (qC BK137.out 7).trans rfl
 have hfz17_7 := qF BK137.out 7
 try go_wp2
 rw [rounds_succ]
 refine name_w (fun w18 hq_ => ?_)
 have n0_ : Aside0 (w18.heap[gb137]? = some (.cells #[.int .u8 0, .int .u8 1, .int .u8 2, .int .u8 3, .int .u8 4, .int .u8 5, .int .u8 6, .int .u8 7, .int .u8 0, .int .u8 0, .int .u8 0, .int .u8 0, .int .u8 0, .int .u8 0, .int .u8 0, .int .u8 0] 27 (0, 0))) := ⟨by rw [hq_]; exact (by (with_reducible repeat (first | refine qN ?_ _ | refine qD ?_ | refine qA ?_ _)); refine blk_put (cs := #[.int .u8 0, .int .u8 1, .int .u8 2, .int .u8 3, .int .u8 4, .int .u8 5, .int .u8 6, .int .u8 0, .int .u8 0, .int .u8 0, .int .u8 0, .int .u8 0, .int .u8 0, .int .u8 0, .int .u8 0, .int .u8 0]) ?_ 7 _ rfl; (with_reducible repeat (first | refine qN ?_ _ | refine qD ?_ | refine qA ?_ _)); exact BK137.out)⟩
 have n1_ : Aside0 (Below w.heap.size w w18) := ⟨by rw [hq_]; exact (by repeat (first | (with_reducible first | exact HB.out | apply qpA | apply qpN | apply qp1 | refine qpS ?_ GE137.out) | exact HB.out))⟩
 clear hq_ BK137 HB
 have BK137 := n0_
 have HB := n1_
 clear n0_ n1_
 (try clear hcz17_7 hfz17_7)
 have hcz19_8 : w18.cell? ⟨gb137, 8, none⟩ = some (.int .u8 0) := (qC BK137.out 8).trans rfl
 have hfz19_8 := qF BK137.out 8
 try go_wp2
 rw [rounds_succ]
 refine name_w (fun w20 hq_ => ?_)
 have n0_ : Aside0 (w20.heap[gb137]? = some (.cells #[.int .u8 0, .int .u8 1, .int .u8 2, .int .u8 3, .int .u8 4, .int .u8 5, .int .u8 6, .int .u8 7, .int .u8 8, .int .u8 0, .int .u8 0, .int .u8 0, .int .u8 0, .int .u8 0, .int .u8 0, .int .u8 0] 27 (0, 0))) := ⟨by rw [hq_]; exact (by (with_reducible repeat (first | refine qN ?_ _ | refine qD ?_ | refine qA ?_ _)); refine blk_put (cs := #[.int .u8 0, .int .u8 1, .int .u8 2, .int .u8 3, .int .u8 4, .int .u8 5, .int .u8 6, .int .u8 7, .int .u8 0, .int .u8 0, .int .u8 0, .int .u8 0, .int .u8 0, .int .u8 0, .int .u8 0, .int .u8 0]) ?_ 8 _ rfl; (with_reducible repeat (first | refine qN ?_ _ | refine qD ?_ | refine qA ?_ _)); exact BK137.out)⟩
 have n1_ : Aside0 (Below w.heap.size w w20) := ⟨by rw [hq_]; exact (by repeat (first | (with_reducible first | exact HB.out | apply qpA | apply qpN | apply qp1 | refine qpS ?_ GE137.out) | exact HB.out))⟩
 clear hq_ BK137 HB
 have BK137 := n0_
 have HB := n1_
 clear n0_ n1_
 (try clear hcz19_8 hfz19_8)
 have hcz21_9 : w20.cell? ⟨gb137, 9, none⟩ = some (.int .u8 0) := (qC BK137.out 9).trans rfl
 have hfz21_9 := qF BK137.out 9
 try go_wp2
 rw [rounds_succ]
 refine name_w (fun w22 hq_ => ?_)
 have n0_ : Aside0 (w22.heap[gb137]? = some (.cells #[.int .u8 0, .int .u8 1, .int .u8 2, .int .u8 3, .int .u8 4, .int .u8 5, .int .u8 6, .int .u8 7, .int .u8 8, .int .u8 9, .int .u8 0, .int .u8 0, .int .u8 0, .int .u8 0, .int .u8 0, .int .u8 0] 27 (0, 0))) := ⟨by rw [hq_]; exact (by (with_reducible repeat (first | refine qN ?_ _ | refine qD ?_ | refine qA ?_ _)); refine blk_put (cs := #[.int .u8 0, .int .u8 1, .int .u8 2, .int .u8 3, .int .u8 4, .int .u8 5, .int .u8 6, .int .u8 7, .int .u8 8, .int .u8 0, .int .u8 0, .int .u8 0, .int .u8 0, .int .u8 0, .int .u8 0, .int .u8 0]) ?_ 9 _ rfl; (with_reducible repeat (first | refine qN ?_ _ | refine qD ?_ | refine qA ?_ _)); exact BK137.out)⟩
 have n1_ : Aside0 (Below w.heap.size w w22) := ⟨by rw [hq_]; exact (by repeat (first | (with_reducible first | exact HB.out | apply qpA | apply qpN | apply qp1 | refine qpS ?_ GE137.out) | exact HB.out))⟩
 clear hq_ BK137 HB
 have BK137 := n0_
 have HB := n1_
 clear n0_ n1_
 (try clear hcz21_9 hfz21_9)
 have hcz23_10 : w22.cell? ⟨gb137, 10, none⟩ = some (.int .u8 0) := (qC BK137.out 10).trans rfl
 have hfz23_10 := qF BK137.out 10
 try go_wp2
 rw [rounds_succ]
 refine name_w (fun w24 hq_ => ?_)
 have n0_ : Aside0 (w24.heap[gb137]? = some (.cells #[.int .u8 0, .int .u8 1, .int .u8 2, .int .u8 3, .int .u8 4, .int .u8 5, .int .u8 6, .int .u8 7, .int .u8 8, .int .u8 9, .int .u8 10, .int .u8 0, .int .u8 0, .int .u8 0, .int .u8 0, .int .u8 0] 27 (0, 0))) := ⟨by rw [hq_]; exact (by (with_reducible repeat (first | refine qN ?_ _ | refine qD ?_ | refine qA ?_ _)); refine blk_put (cs := #[.int .u8 0, .int .u8 1, .int .u8 2, .int .u8 3, .int .u8 4, .int .u8 5, .int .u8 6, .int .u8 7, .int .u8 8, .int .u8 9, .int .u8 0, .int .u8 0, .int .u8 0, .int .u8 0, .int .u8 0, .int .u8 0]) ?_ 10 _ rfl; (with_reducible repeat (first | refine qN ?_ _ | refine qD ?_ | refine qA ?_ _)); exact BK137.out)⟩
 have n1_ : Aside0 (Below w.heap.size w w24) := ⟨by rw [hq_]; exact (by repeat (first | (with_reducible first | exact HB.out | apply qpA | apply qpN | apply qp1 | refine qpS ?_ GE137.out) | exact HB.out))⟩
 clear hq_ BK137 HB
 have BK137 := n0_
 have HB := n1_
 clear n0_ n1_
 (try clear hcz23_10 hfz23_10)
 have hcz25_11 : w24.cell? ⟨gb137, 11, none⟩ = some (.int .u8 0) := (qC BK137.out 11).trans rfl
 have hfz25_11 := qF BK137.out 11
 try go_wp2
 rw [rounds_succ]
 refine name_w (fun w26 hq_ => ?_)
 have n0_ : Aside0 (w26.heap[gb137]? = some (.cells #[.int .u8 0, .int .u8 1, .int .u8 2, .int .u8 3, .int .u8 4, .int .u8 5, .int .u8 6, .int .u8 7, .int .u8 8, .int .u8 9, .int .u8 10, .int .u8 11, .int .u8 0, .int .u8 0, .int .u8 0, .int .u8 0] 27 (0, 0))) := ⟨by rw [hq_]; exact (by (with_reducible repeat (first | refine qN ?_ _ | refine qD ?_ | refine qA ?_ _)); refine blk_put (cs := #[.int .u8 0, .int .u8 1, .int .u8 2, .int .u8 3, .int .u8 4, .int .u8 5, .int .u8 6, .int .u8 7, .int .u8 8, .int .u8 9, .int .u8 10, .int .u8 0, .int .u8 0, .int .u8 0, .int .u8 0, .int .u8 0]) ?_ 11 _ rfl; (with_reducible repeat (first | refine qN ?_ _ | refine qD ?_ | refine qA ?_ _)); exact BK137.out)⟩
 have n1_ : Aside0 (Below w.heap.size w w26) := ⟨by rw [hq_]; exact (by repeat (first | (with_reducible first | exact HB.out | apply qpA | apply qpN | apply qp1 | refine qpS ?_ GE137.out) | exact HB.out))⟩
 clear hq_ BK137 HB
 have BK137 := n0_
 have HB := n1_
 clear n0_ n1_
 (try clear hcz25_11 hfz25_11)
 have hcz27_12 : w26.cell? ⟨gb137, 12, none⟩ = some (.int .u8 0) := (qC BK137.out 12).trans rfl
 have hfz27_12 := qF BK137.out 12
 try go_wp2
 rw [rounds_succ]
 refine name_w (fun w28 hq_ => ?_)
 have n0_ : Aside0 (w28.heap[gb137]? = some (.cells #[.int .u8 0, .int .u8 1, .int .u8 2, .int .u8 3, .int .u8 4, .int .u8 5, .int .u8 6, .int .u8 7, .int .u8 8, .int .u8 9, .int .u8 10, .int .u8 11, .int .u8 12, .int .u8 0, .int .u8 0, .int .u8 0] 27 (0, 0))) := ⟨by rw [hq_]; exact (by (with_reducible repeat (first | refine qN ?_ _ | refine qD ?_ | refine qA ?_ _)); refine blk_put (cs := #[.int .u8 0, .int .u8 1, .int .u8 2, .int .u8 3, .int .u8 4, .int .u8 5, .int .u8 6, .int .u8 7, .int .u8 8, .int .u8 9, .int .u8 10, .int .u8 11, .int .u8 0, .int .u8 0, .int .u8 0, .int .u8 0]) ?_ 12 _ rfl; (with_reducible repeat (first | refine qN ?_ _ | refine qD ?_ | refine qA ?_ _)); exact BK137.out)⟩
 have n1_ : Aside0 (Below w.heap.size w w28) := ⟨by rw [hq_]; exact (by repeat (first | (with_reducible first | exact HB.out | apply qpA | apply qpN | apply qp1 | refine qpS ?_ GE137.out) | exact HB.out))⟩
 clear hq_ BK137 HB
 have BK137 := n0_
 have HB := n1_
 clear n0_ n1_
 (try clear hcz27_12 hfz27_12)
 have hcz29_13 : w28.cell? ⟨gb137, 13, none⟩ = some (.int .u8 0) := (qC BK137.out 13).trans rfl
 have hfz29_13 := qF BK137.out 13
 try go_wp2
 rw [rounds_succ]
 refine name_w (fun w30 hq_ => ?_)
 have n0_ : Aside0 (w30.heap[gb137]? = some (.cells #[.int .u8 0, .int .u8 1, .int .u8 2, .int .u8 3, .int .u8 4, .int .u8 5, .int .u8 6, .int .u8 7, .int .u8 8, .int .u8 9, .int .u8 10, .int .u8 11, .int .u8 12, .int .u8 13, .int .u8 0, .int .u8 0] 27 (0, 0))) := ⟨by rw [hq_]; exact (by (with_reducible repeat (first | refine qN ?_ _ | refine qD ?_ | refine qA ?_ _)); refine blk_put (cs := #[.int .u8 0, .int .u8 1, .int .u8 2, .int .u8 3, .int .u8 4, .int .u8 5, .int .u8 6, .int .u8 7, .int .u8 8, .int .u8 9, .int .u8 10, .int .u8 11, .int .u8 12, .int .u8 0, .int .u8 0, .int .u8 0]) ?_ 13 _ rfl; (with_reducible repeat (first | refine qN ?_ _ | refine qD ?_ | refine qA ?_ _)); exact BK137.out)⟩
 have n1_ : Aside0 (Below w.heap.size w w30) := ⟨by rw [hq_]; exact (by repeat (first | (with_reducible first | exact HB.out | apply qpA | apply qpN | apply qp1 | refine qpS ?_ GE137.out) | exact HB.out))⟩
 clear hq_ BK137 HB
 have BK137 := n0_
 have HB := n1_
 clear n0_ n1_
 (try clear hcz29_13 hfz29_13)
 have hcz31_14 : w30.cell? ⟨gb137, 14, none⟩ = some (.int .u8 0) := (qC BK137.out 14).trans rfl
 have hfz31_14 := qF BK137.out 14
 try go_wp2
 rw [rounds_succ]
 refine name_w (fun w32 hq_ => ?_)
 have n0_ : Aside0 (w32.heap[gb137]? = some (.cells #[.int .u8 0, .int .u8 1, .int .u8 2, .int .u8 3, .int .u8 4, .int .u8 5, .int .u8 6, .int .u8 7, .int .u8 8, .int .u8 9, .int .u8 10, .int .u8 11, .int .u8 12, .int .u8 13, .int .u8 14, .int .u8 0] 27 (0, 0))) := ⟨by rw [hq_]; exact (by (with_reducible repeat (first | refine qN ?_ _ | refine qD ?_ | refine qA ?_ _)); refine blk_put (cs := #[.int .u8 0, .int .u8 1, .int .u8 2, .int .u8 3, .int .u8 4, .int .u8 5, .int .u8 6, .int .u8 7, .int .u8 8, .int .u8 9, .int .u8 10, .int .u8 11, .int .u8 12, .int .u8 13, .int .u8 0, .int .u8 0]) ?_ 14 _ rfl; (with_reducible repeat (first | refine qN ?_ _ | refine qD ?_ | refine qA ?_ _)); exact BK137.out)⟩
 have n1_ : Aside0 (Below w.heap.size w w32) := ⟨by rw [hq_]; exact (by repeat (first | (with_reducible first | exact HB.out | apply qpA | apply qpN | apply qp1 | refine qpS ?_ GE137.out) | exact HB.out))⟩
 clear hq_ BK137 HB
 have BK137 := n0_
 have HB := n1_
 clear n0_ n1_
 (try clear hcz31_14 hfz31_14)
 have hcz33_15 : w32.cell? ⟨gb137, 15, none⟩ = some (.int .u8 0) := (qC BK137.out 15).trans rfl
 have hfz33_15 := qF BK137.out 15
 try go_wp2
 rw [rounds_succ]
 refine name_w (fun w34 hq_ => ?_)
 have n0_ : Aside0 (w34.heap[gb137]? = some (.cells #[.int .u8 0, .int .u8 1, .int .u8 2, .int .u8 3, .int .u8 4, .int .u8 5, .int .u8 6, .int .u8 7, .int .u8 8, .int .u8 9, .int .u8 10, .int .u8 11, .int .u8 12, .int .u8 13, .int .u8 14, .int .u8 15] 27 (0, 0))) := ⟨by rw [hq_]; exact (by (with_reducible repeat (first | refine qN ?_ _ | refine qD ?_ | refine qA ?_ _)); refine blk_put (cs := #[.int .u8 0, .int .u8 1, .int .u8 2, .int .u8 3, .int .u8 4, .int .u8 5, .int .u8 6, .int .u8 7, .int .u8 8, .int .u8 9, .int .u8 10, .int .u8 11, .int .u8 12, .int .u8 13, .int .u8 14, .int .u8 0]) ?_ 15 _ rfl; (with_reducible repeat (first | refine qN ?_ _ | refine qD ?_ | refine qA ?_ _)); exact BK137.out)⟩
 have n1_ : Aside0 (Below w.heap.size w w34) := ⟨by rw [hq_]; exact (by repeat (first | (with_reducible first | exact HB.out | apply qpA | apply qpN | apply qp1 | refine qpS ?_ GE137.out) | exact HB.out))⟩
 clear hq_ BK137 HB
 have BK137 := n0_
 have HB := n1_
 clear n0_ n1_
 (try clear hcz33_15 hfz33_15)
 try go_wp2
 go_loopg [2, 4] k (fun kq v2 v4 w' => ∃ (x2_1 : List Int) (x4_1 : Int), v4 = .int .i64 x4_1 ∧ Aside0 (fuseelaw23_sure.l1 kq x2_1 x4_1 0 1 2 3 4 5 6 7 8 9 10 11 12 13 14 15 = some r) ∧ Aside0 (kq ≤ k) ∧ Aside0 (Kd.R (Kd.int .u8) 5 w' w.heap.size (fun _ => True) v2 x2_1) ∧ Aside0 (w'.heap[gb137]? = some (.cells #[.int .u8 0, .int .u8 1, .int .u8 2, .int .u8 3, .int .u8 4, .int .u8 5, .int .u8 6, .int .u8 7, .int .u8 8, .int .u8 9, .int .u8 10, .int .u8 11, .int .u8 12, .int .u8 13, .int .u8 14, .int .u8 15] 27 (0, 0))) ∧ Aside0 (Below w.heap.size w w'))
 case atStart => exact ⟨(([] : List Int)), (0), (by first | rfl | (simp; done) | (simp [*]; done)), H', ⟨Nat.le_refl _⟩, ⟨by first | exact Kd.R_nil _ _ _ _ _ | exact Kd.N_nil _ _ _ _ _ | exact Kd.V_nil _ _ _ _ _ | exact Kd.Q_nil _ _ _ _ _ | exact Kd.S_nil _ _ _ _ _⟩, ⟨by (with_reducible repeat (first | refine qN ?_ _ | refine qD ?_ | refine qA ?_ _)); exact BK137.out⟩, ⟨by repeat (first | (with_reducible first | exact HB.out | apply qpA | apply qpN | apply qp1 | refine qpS ?_ GE137.out) | exact HB.out)⟩⟩
 case round =>
  clear H'
  try clear p2
  try clear c7
  try clear hcz11_4
  try clear hcz13_5
  try clear hcz15_6
  try clear hcz17_7
  try clear hcz19_8
  try clear hcz21_9
  try clear hcz23_10
  try clear hcz25_11
  try clear hcz27_12
  try clear hcz29_13
  try clear hcz31_14
  try clear hcz33_15
  try clear hcz3_0
  try clear hcz5_1
  try clear hcz7_2
  try clear hcz9_3
  try clear hfz11_4
  try clear hfz13_5
  try clear hfz15_6
  try clear hfz17_7
  try clear hfz19_8
  try clear hfz21_9
  try clear hfz23_10
  try clear hfz25_11
  try clear hfz27_12
  try clear hfz29_13
  try clear hfz31_14
  try clear hfz33_15
  try clear hfz3_0
  try clear hfz5_1
  try clear hfz7_2
  try clear hfz9_3
  obtain ⟨x2_1, x4_1, rfl, HA, HK1, HO_2, BK137, HB⟩ := hrel
  cases gk with
  | zero => exact absurd HA.out (by simp [fuseelaw23_sure.l1])
  | succ k1 =>
   have H := HA.out
   clear HA
   simp only [fuseelaw23_sure.l1] at H
   by_cases c35 : x4_1 < 15
   ·rw [if_pos c35] at H
    have c35b0 : decide (x4_1 < 15) = true := decide_eq_true c35
    clear c35
    by_cases c36 : x2_1.length < 140737488355328
    ·rw [if_pos c36] at H
     have LMc36 := qS c36
     clear c36
     obtain ⟨y138, hy138⟩ : ∃ y_ : List Int, y_ = (x2_1 ++ [(x4_1) % 256]) := ⟨_, rfl⟩
     replace H : (fuseelaw23_sure.l1 k1 y138 (wrap64 (x4_1 + 1)) 0 1 2 3 4 5 6 7 8 9 10 11 12 13 14 15) = some r := by first | (rw [hy138]; with_reducible exact H) | (have H2_ := (Option.bind_some _ _).symm.trans H; rw [hy138]; with_reducible exact H2_) | (have H2_ := (Option.bind_some _ _).symm.trans H; with_reducible exact H2_) | with_reducible exact H | (rw [hy138]; exact H) | exact H
     have Ny138 := qS hy138
     clear hy138
     have H' := qS H
     clear H
     go_wp2_with (first | ((with_reducible refine gate_builtin (b := .append) (xs := #[.tmp 17, .tmp 20]) rfl ?_); at_builtin; refine Kd.R_append (Kd.int .u8) (w0 := w) w.heap.size rfl (.tmp 17) (.tmp 20) 23 5 (.int .u8 0) 1 rfl Try.underlying23 info5 rfl (by decide) (by omega) u2 x2_1 ((x4_1) % 256) [.int .u8 ((x4_1) % 256)] (fun _ => True) (fun _ => False) rfl rfl ?aP (fun _ hk => hk.elim) ?aF ?aO ?aB ?aS ?aL ?_; (case aP => exact rfl); (case aB => exact (by repeat (first | (with_reducible first | exact HB.out | apply qpA | apply qpN | apply qp1 | refine qpS ?_ GE137.out) | exact HB.out))); (case aF => exact (fun _ _ => trivial)); (case aO => exact (by (with_reducible repeat (first | apply Kd.R_alloc | apply Kd.R_drewN | apply Kd.R_drew)); exact HO_2.out)); (case aS => exact (below_size (by repeat (first | (with_reducible first | exact HB.out | apply qpA | apply qpN | apply qp1 | refine qpS ?_ GE137.out) | exact HB.out)))); (case aL => have := LMc36.out; omega); intro v139 w37 ho hb hg hat; rw [← Ny138.out] at ho; have n0_ := qS (blk_grown (g := gb137) (o := .cells #[.int .u8 0, .int .u8 1, .int .u8 2, .int .u8 3, .int .u8 4, .int .u8 5, .int .u8 6, .int .u8 7, .int .u8 8, .int .u8 9, .int .u8 10, .int .u8 11, .int .u8 12, .int .u8 13, .int .u8 14, .int .u8 15] 27 (0, 0)) (by (with_reducible repeat (first | refine qN ?_ _ | refine qD ?_ | refine qA ?_ _)); exact BK137.out) hg (Kd.R_ne HO_2.out BK137.out (by decide))); have n1_ := qS (hb); have n2_ := qS (ho); clear BK137; clear HB; clear HO_2; have BK137 := n0_; have HB := n1_; have HO140 := n2_; clear n0_ n1_ n2_; clear ho hb hg hat))
     go_roundg k1
     case measure => have := HK1.out; omega
     case rel => exact ⟨(y138), (wrap64 (x4_1 + 1)), (by first | rfl | (simp; done) | (simp [*]; done)), H', ⟨by have := HK1.out; omega⟩, ⟨by (with_reducible repeat (first | apply Kd.R_alloc | apply Kd.R_drewN | apply Kd.R_drew)); exact HO140.out⟩, ⟨by (with_reducible repeat (first | refine qN ?_ _ | refine qD ?_ | refine qA ?_ _)); exact BK137.out⟩, ⟨by repeat (first | (with_reducible first | exact HB.out | apply qpA | apply qpN | apply qp1 | refine qpS ?_ GE137.out) | exact HB.out)⟩⟩
    ·rw [if_neg c36] at H
     exact absurd H (by simp)
   ·rw [if_neg c35] at H
    have c35b0 : decide (x4_1 < 15) = false := decide_eq_false c35
    clear c35
    replace H := Option.bind_eq_some_iff.mp H
    obtain ⟨t141, A380, H⟩ := H
    replace H : (if t141 = 11613035633349379557 then ((prf_Number.f k1 0 1 2 3 4 5 6 7 8 9 10 11 12 13 14 15 7 0).bind fun t142 => (if t142 = 0 then ((prf_Derive.f k1 0 1 2 3 4 5 6 7 8 9 10 11 12 13 14 15 1).bind fun bt143 => (some (!(bt143.1 == 0) || (!(bt143.2.1 == 1) || (!(bt143.2.2.1 == 2) || (!(bt143.2.2.2.1 == 3) || (!(bt143.2.2.2.2.1 == 4) || (!(bt143.2.2.2.2.2.1 == 5) || (!(bt143.2.2.2.2.2.2.1 == 6) || (!(bt143.2.2.2.2.2.2.2.1 == 7) || (!(bt143.2.2.2.2.2.2.2.2.1 == 8) || (!(bt143.2.2.2.2.2.2.2.2.2.1 == 9) || (!(bt143.2.2.2.2.2.2.2.2.2.2.1 == 10) || (!(bt143.2.2.2.2.2.2.2.2.2.2.2.1 == 11) || (!(bt143.2.2.2.2.2.2.2.2.2.2.2.2.1 == 12) || (!(bt143.2.2.2.2.2.2.2.2.2.2.2.2.2.1 == 13) || (!(bt143.2.2.2.2.2.2.2.2.2.2.2.2.2.2.1 == 14) || (!(bt143.2.2.2.2.2.2.2.2.2.2.2.2.2.2.2 == 15))))))))))))))))))) else (none))) else (none)) = some r := H
    have A38 := qS A380
    clear A380
    by_cases c39 : t141 = 11613035633349379557
    ·rw [if_pos c39] at H
     have c39b0 : (t141 == 11613035633349379557) = true := beq_iff_eq.mpr c39
     have c39b1 : (t141 != 11613035633349379557) = false := bne_eq_false_iff_eq.mpr c39
     clear c39
     replace H := Option.bind_eq_some_iff.mp H
     obtain ⟨t142, A400, H⟩ := H
     replace H : (if t142 = 0 then ((prf_Derive.f k1 0 1 2 3 4 5 6 7 8 9 10 11 12 13 14 15 1).bind fun bt143 => (some (!(bt143.1 == 0) || (!(bt143.2.1 == 1) || (!(bt143.2.2.1 == 2) || (!(bt143.2.2.2.1 == 3) || (!(bt143.2.2.2.2.1 == 4) || (!(bt143.2.2.2.2.2.1 == 5) || (!(bt143.2.2.2.2.2.2.1 == 6) || (!(bt143.2.2.2.2.2.2.2.1 == 7) || (!(bt143.2.2.2.2.2.2.2.2.1 == 8) || (!(bt143.2.2.2.2.2.2.2.2.2.1 == 9) || (!(bt143.2.2.2.2.2.2.2.2.2.2.1 == 10) || (!(bt143.2.2.2.2.2.2.2.2.2.2.2.1 == 11) || (!(bt143.2.2.2.2.2.2.2.2.2.2.2.2.1 == 12) || (!(bt143.2.2.2.2.2.2.2.2.2.2.2.2.2.1 == 13) || (!(bt143.2.2.2.2.2.2.2.2.2.2.2.2.2.2.1 == 14) || (!(bt143.2.2.2.2.2.2.2.2.2.2.2.2.2.2.2 == 15))))))))))))))))))) else (none)) = some r := H
     have A40 := qS A400
     clear A400
     by_cases c41 : t142 = 0
     ·rw [if_pos c41] at H
      have c41b0 : (t142 == 0) = true := beq_iff_eq.mpr c41
      have c41b1 : (t142 != 0) = false := bne_eq_false_iff_eq.mpr c41
      clear c41
      replace H := Option.bind_eq_some_iff.mp H
      obtain ⟨⟨t143, t144, t145, t146, t147, t148, t149, t150, t151, t152, t153, t154, t155, t156, t157, t158⟩, A420, H⟩ := H
      replace H : (some (!(t143 == 0) || (!(t144 == 1) || (!(t145 == 2) || (!(t146 == 3) || (!(t147 == 4) || (!(t148 == 5) || (!(t149 == 6) || (!(t150 == 7) || (!(t151 == 8) || (!(t152 == 9) || (!(t153 == 10) || (!(t154 == 11) || (!(t155 == 12) || (!(t156 == 13) || (!(t157 == 14) || (!(t158 == 15)))))))))))))))))) = some r := H
      have A42 := qS A420
      clear A420
      obtain rfl := Option.some.inj H
      try go_wp2
      have n0_ := qS (Kd.R_drew HO_2.out)
      have n1_ := qS (qD BK137.out)
      have n2_ := qS (qp1 HB.out)
      clear HO_2
      clear BK137
      clear HB
      have HO_2 := n0_
      have BK137 := n1_
      have HB := n2_
      clear n0_ n1_ n2_
      obtain ⟨Ao44, co44, eo44⟩ := Kd.R_slice HO_2.out
      (first | subst eo44 | (injection eo44 with f1_ f2_ f3_; have f4_ := f1_.symm; have f5_ := f3_.symm; clear f1_ f2_ f3_; subst f4_; subst f5_))
      refine start_ (n := 16) (S := fun w' => w'.cell? ⟨gb137, 0, none⟩ = some (.int .u8 0) ∧ w'.cell? ⟨gb137, 1, none⟩ = some (.int .u8 1) ∧ w'.cell? ⟨gb137, 2, none⟩ = some (.int .u8 2) ∧ w'.cell? ⟨gb137, 3, none⟩ = some (.int .u8 3) ∧ w'.cell? ⟨gb137, 4, none⟩ = some (.int .u8 4) ∧ w'.cell? ⟨gb137, 5, none⟩ = some (.int .u8 5) ∧ w'.cell? ⟨gb137, 6, none⟩ = some (.int .u8 6) ∧ w'.cell? ⟨gb137, 7, none⟩ = some (.int .u8 7) ∧ w'.cell? ⟨gb137, 8, none⟩ = some (.int .u8 8) ∧ w'.cell? ⟨gb137, 9, none⟩ = some (.int .u8 9) ∧ w'.cell? ⟨gb137, 10, none⟩ = some (.int .u8 10) ∧ w'.cell? ⟨gb137, 11, none⟩ = some (.int .u8 11) ∧ w'.cell? ⟨gb137, 12, none⟩ = some (.int .u8 12) ∧ w'.cell? ⟨gb137, 13, none⟩ = some (.int .u8 13) ∧ w'.cell? ⟨gb137, 14, none⟩ = some (.int .u8 14) ∧ w'.cell? ⟨gb137, 15, none⟩ = some (.int .u8 15)) (ds := []) #[false, false, false, false, false, false, false, false, false, false, false, false, false, false, false, false] (by kernel_rfl) rfl rfl ⟨(qC BK137.out 0).trans rfl, (qC BK137.out 1).trans rfl, (qC BK137.out 2).trans rfl, (qC BK137.out 3).trans rfl, (qC BK137.out 4).trans rfl, (qC BK137.out 5).trans rfl, (qC BK137.out 6).trans rfl, (qC BK137.out 7).trans rfl, (qC BK137.out 8).trans rfl, (qC BK137.out 9).trans rfl, (qC BK137.out 10).trans rfl, (qC BK137.out 11).trans rfl, (qC BK137.out 12).trans rfl, (qC BK137.out 13).trans rfl, (qC BK137.out 14).trans rfl, (qC BK137.out 15).trans rfl⟩ (fun hHeld => ?_); refine with_tabW fuseelaw23_sure.tab11 fuseelaw23_sure.bits11 (fun HT_ HW_ => ?_)
      generalize wr.drew = w43 at HO_2 BK137 HB hHeld ⊢
      refine pure_ (i := 1) (N := some 23) (v := ?_) (a' := ?_) #[false, true, false, false, false, false, false, false, false, false, false, false, false, false, false, false] rfl rfl (any_of HT_.out (by kernel_rfl)) (fun _ _ _ h => h) (Or.inl ⟨by rfl, ?_⟩) ?_ ?_
      rotate_left
      ·intro w'
       go_simp
       with_reducible rfl
      rotate_left
      ·simp only [Act.put, List.setIfInBounds_toArray, List.set_cons_zero, List.set_cons_succ, i64_w, i32_w]
       rfl
      refine take_ (i := 0) (N := some 22) (v := ?_) (a' := ?_) #[true, true, false, false, false, false, false, false, false, false, false, false, false, false, false, false] rfl rfl (take_ofW HT_.out HW_.out (by kernel_rfl)) (fun _ _ _ h => h) (Or.inl ⟨by rfl, ?_⟩) hHeld ?_ ?_
      rotate_left
      ·rintro w' ⟨s0, s1, s2, s3, s4, s5, s6, s7, s8, s9, s10, s11, s12, s13, s14, s15⟩
       go_simp
       with_reducible rfl
      rotate_left
      ·simp only [Act.put, List.setIfInBounds_toArray, List.set_cons_zero, List.set_cons_succ, i64_w, i32_w]
       rfl
      refine one_ (i := 2) (N := some 24) #[true, true, true, false, false, false, false, false, false, false, false, false, false, false, false, false] rfl rfl (one_of HT_.out (by kernel_rfl)) (by decide) (fun K hK => ?_)
      refine goes_ Try.func8 (by kernel_rfl) rfl #[.agg #[.int .u8 0, .int .u8 1, .int .u8 2, .int .u8 3, .int .u8 4, .int .u8 5, .int .u8 6, .int .u8 7, .int .u8 8, .int .u8 9, .int .u8 10, .int .u8 11, .int .u8 12, .int .u8 13, .int .u8 14, .int .u8 15], .slice Ao44 x2_1.length co44] (by rfl) rfl rfl (by (try simp only [List.map_toArray, List.map_cons, List.map_nil]); first | done | rfl | (simp only [*]; done) | (simp only [List.length_drop, List.length_take]; rfl) | (simp only [Act.eval, Array.getD_eq_getD_getElem?, Option.getD_some, *])) ?_
      with_reducible refine (prf_Sum.calls 0 1 2 3 4 5 6 7 8 9 10 11 12 13 14 15 _ _ x2_1 t141 _ ?side1 ?side2 A38.out).mono ?_
      (case side1 => repeat (first | exact (Kd.R_reads' HO_2.out).2.2 | (with_reducible refine Kd.C_alloc ?_ _) | (with_reducible refine Kd.C_drewN ?_ _) | (with_reducible refine Kd.C_drew ?_)))
      (case side2 => exact (Kd.R_reads' HO_2.out).2.1)
      rintro e w45 ⟨rfl, hb⟩
      refine ⟨_, rfl, ?_⟩
      have n0_ := qS (Kd.R_below (by (with_reducible repeat (first | apply Kd.R_alloc | apply Kd.R_drewN | apply Kd.R_drew)); exact HO_2.out) hb)
      have n1_ := qS (qB (g := gb137) (o := .cells #[.int .u8 0, .int .u8 1, .int .u8 2, .int .u8 3, .int .u8 4, .int .u8 5, .int .u8 6, .int .u8 7, .int .u8 8, .int .u8 9, .int .u8 10, .int .u8 11, .int .u8 12, .int .u8 13, .int .u8 14, .int .u8 15] 27 (0, 0)) (by (with_reducible repeat (first | refine qN ?_ _ | refine qD ?_ | refine qA ?_ _)); exact BK137.out) hb)
      have n2_ := qS (below_step (by repeat (first | (with_reducible first | exact HB.out | apply qpA | apply qpN | apply qp1 | refine qpS ?_ GE137.out) | exact HB.out)) hb)
      clear HO_2
      clear BK137
      clear HB
      have HO_2 := n0_
      have BK137 := n1_
      have HB := n2_
      clear n0_ n1_ n2_
      (try clear hb)
      (try clear hb2)
      (try clear hk)
      (try clear hi)
      refine hK.out _ _ ⟨(qC BK137.out 0).trans rfl, (qC BK137.out 1).trans rfl, (qC BK137.out 2).trans rfl, (qC BK137.out 3).trans rfl, (qC BK137.out 4).trans rfl, (qC BK137.out 5).trans rfl, (qC BK137.out 6).trans rfl, (qC BK137.out 7).trans rfl, (qC BK137.out 8).trans rfl, (qC BK137.out 9).trans rfl, (qC BK137.out 10).trans rfl, (qC BK137.out 11).trans rfl, (qC BK137.out 12).trans rfl, (qC BK137.out 13).trans rfl, (qC BK137.out 14).trans rfl, (qC BK137.out 15).trans rfl⟩ (fun hHeld => ?_)
      clear hK K
      refine norm_ (a' := ?_) ?_ ?_
      rotate_left
      ·show Act.put _ (some 24) _ = _
       simp only [Act.put, List.setIfInBounds_toArray, List.set_cons_zero, List.set_cons_succ, i64_w, i32_w]
       rfl
      refine pure_ (i := 3) (N := some 25) (v := ?_) (a' := ?_) #[true, true, true, true, false, false, false, false, false, false, false, false, false, false, false, false] rfl rfl (any_of HT_.out (by kernel_rfl)) (fun _ _ _ h => h) (Or.inl ⟨by rfl, ?_⟩) ?_ ?_
      rotate_left
      ·intro w'
       go_simp
       with_reducible rfl
      rotate_left
      ·simp only [Act.put, List.setIfInBounds_toArray, List.set_cons_zero, List.set_cons_succ, i64_w, i32_w]
       rfl
      refine pure_ (i := 4) (N := some 26) (v := ?_) (a' := ?_) #[true, true, true, true, true, false, false, false, false, false, false, false, false, false, false, false] rfl rfl (any_of HT_.out (by kernel_rfl)) (fun _ _ _ h => h) (Or.inl ⟨by rfl, ?_⟩) ?_ ?_
      rotate_left
      ·intro w'
       go_simp
       with_reducible rfl
      rotate_left
      ·simp only [Act.put, List.setIfInBounds_toArray, List.set_cons_zero, List.set_cons_succ, i64_w, i32_w]
       rfl
      refine take_ (i := 5) (N := some 27) (v := ?_) (a' := ?_) #[true, true, true, true, true, true, false, false, false, false, false, false, false, false, false, false] rfl rfl (take_ofW HT_.out HW_.out (by kernel_rfl)) (fun _ _ _ h => h) (Or.inl ⟨by rfl, ?_⟩) hHeld ?_ ?_
      rotate_left
      ·rintro w' ⟨s0, s1, s2, s3, s4, s5, s6, s7, s8, s9, s10, s11, s12, s13, s14, s15⟩
       go_simp
       with_reducible rfl
      rotate_left
      ·simp only [Act.put, List.setIfInBounds_toArray, List.set_cons_zero, List.set_cons_succ, i64_w, i32_w]
       rfl
      refine one_ (i := 6) (N := some 28) #[true, true, true, true, true, true, true, false, false, false, false, false, false, false, false, false] rfl rfl (one_of HT_.out (by kernel_rfl)) (by decide) (fun K hK => ?_)
      refine goes_ Try.func10 (by kernel_rfl) rfl #[.agg #[.int .u8 0, .int .u8 1, .int .u8 2, .int .u8 3, .int .u8 4, .int .u8 5, .int .u8 6, .int .u8 7, .int .u8 8, .int .u8 9, .int .u8 10, .int .u8 11, .int .u8 12, .int .u8 13, .int .u8 14, .int .u8 15], .int .i64 7, .int .u64 0] (by rfl) rfl rfl (by (try simp only [List.map_toArray, List.map_cons, List.map_nil]); first | done | rfl | (simp only [*]; done) | (simp only [List.length_drop, List.length_take]; rfl) | (simp only [Act.eval, Array.getD_eq_getD_getElem?, Option.getD_some, *])) ?_
      with_reducible refine (prf_Number.calls k1 0 1 2 3 4 5 6 7 8 9 10 11 12 13 14 15 7 0 t142 _ A40.out).mono ?_
      rintro e w46 ⟨rfl, hb⟩
      refine ⟨_, rfl, ?_⟩
      have n0_ := qS (Kd.R_below (by (with_reducible repeat (first | apply Kd.R_alloc | apply Kd.R_drewN | apply Kd.R_drew)); exact HO_2.out) hb)
      have n1_ := qS (qB (g := gb137) (o := .cells #[.int .u8 0, .int .u8 1, .int .u8 2, .int .u8 3, .int .u8 4, .int .u8 5, .int .u8 6, .int .u8 7, .int .u8 8, .int .u8 9, .int .u8 10, .int .u8 11, .int .u8 12, .int .u8 13, .int .u8 14, .int .u8 15] 27 (0, 0)) (by (with_reducible repeat (first | refine qN ?_ _ | refine qD ?_ | refine qA ?_ _)); exact BK137.out) hb)
      have n2_ := qS (below_step (by repeat (first | (with_reducible first | exact HB.out | apply qpA | apply qpN | apply qp1 | refine qpS ?_ GE137.out) | exact HB.out)) hb)
      clear HO_2
      clear BK137
      clear HB
      have HO_2 := n0_
      have BK137 := n1_
      have HB := n2_
      clear n0_ n1_ n2_
      (try clear hb)
      (try clear hb2)
      (try clear hk)
      (try clear hi)
      refine hK.out _ _ ⟨(qC BK137.out 0).trans rfl, (qC BK137.out 1).trans rfl, (qC BK137.out 2).trans rfl, (qC BK137.out 3).trans rfl, (qC BK137.out 4).trans rfl, (qC BK137.out 5).trans rfl, (qC BK137.out 6).trans rfl, (qC BK137.out 7).trans rfl, (qC BK137.out 8).trans rfl, (qC BK137.out 9).trans rfl, (qC BK137.out 10).trans rfl, (qC BK137.out 11).trans rfl, (qC BK137.out 12).trans rfl, (qC BK137.out 13).trans rfl, (qC BK137.out 14).trans rfl, (qC BK137.out 15).trans rfl⟩ (fun hHeld => ?_)
      clear hK K
      refine norm_ (a' := ?_) ?_ ?_
      rotate_left
      ·show Act.put _ (some 28) _ = _
       simp only [Act.put, List.setIfInBounds_toArray, List.set_cons_zero, List.set_cons_succ, i64_w, i32_w]
       rfl
      refine pure_ (i := 7) (N := some 29) (v := ?_) (a' := ?_) #[true, true, true, true, true, true, true, true, false, false, false, false, false, false, false, false] rfl rfl (any_of HT_.out (by kernel_rfl)) (fun _ _ _ h => h) (Or.inl ⟨by rfl, ?_⟩) ?_ ?_
      rotate_left
      ·intro w'
       go_simp
       with_reducible rfl
      rotate_left
      ·simp only [Act.put, List.setIfInBounds_toArray, List.set_cons_zero, List.set_cons_succ, i64_w, i32_w]
       rfl
      refine pure_ (i := 8) (N := some 30) (v := ?_) (a' := ?_) #[true, true, true, true, true, true, true, true, true, false, false, false, false, false, false, false] rfl rfl (any_of HT_.out (by kernel_rfl)) (fun _ _ _ h => h) (Or.inl ⟨by rfl, ?_⟩) ?_ ?_
      rotate_left
      ·intro w'
       go_simp
       with_reducible rfl
      rotate_left
      ·simp only [Act.put, List.setIfInBounds_toArray, List.set_cons_zero, List.set_cons_succ, i64_w, i32_w]
       rfl
      refine pure_ (i := 9) (N := some 31) (v := ?_) (a' := ?_) #[true, true, true, true, true, true, true, true, true, true, false, false, false, false, false, false] rfl rfl (any_of HT_.out (by kernel_rfl)) (fun _ _ _ h => h) (Or.inl ⟨by rfl, ?_⟩) ?_ ?_
      rotate_left
      ·intro w'
       go_simp
       with_reducible rfl
      rotate_left
      ·simp only [Act.put, List.setIfInBounds_toArray, List.set_cons_zero, List.set_cons_succ, i64_w, i32_w]
       rfl
      refine take_ (i := 10) (N := some 32) (v := ?_) (a' := ?_) #[true, true, true, true, true, true, true, true, true, true, true, false, false, false, false, false] rfl rfl (take_ofW HT_.out HW_.out (by kernel_rfl)) (fun _ _ _ h => h) (Or.inl ⟨by rfl, ?_⟩) hHeld ?_ ?_
      rotate_left
      ·rintro w' ⟨s0, s1, s2, s3, s4, s5, s6, s7, s8, s9, s10, s11, s12, s13, s14, s15⟩
       go_simp
       with_reducible rfl
      rotate_left
      ·simp only [Act.put, List.setIfInBounds_toArray, List.set_cons_zero, List.set_cons_succ, i64_w, i32_w]
       rfl
      refine take_ (i := 12) (N := some 34) (v := ?_) (a' := ?_) #[true, true, true, true, true, true, true, true, true, true, true, false, true, false, false, false] rfl rfl (take_ofW HT_.out HW_.out (by kernel_rfl)) (fun _ _ _ h => h) (Or.inl ⟨by rfl, ?_⟩) hHeld ?_ ?_
      rotate_left
      ·rintro w' ⟨s0, s1, s2, s3, s4, s5, s6, s7, s8, s9, s10, s11, s12, s13, s14, s15⟩
       go_simp
       with_reducible rfl
      rotate_left
      ·simp only [Act.put, List.setIfInBounds_toArray, List.set_cons_zero, List.set_cons_succ, i64_w, i32_w]
       rfl
      refine one_ (i := 11) (N := some 33) #[true, true, true, true, true, true, true, true, true, true, true, true, true, false, false, false] rfl rfl (one_of HT_.out (by kernel_rfl)) (by decide) (fun K hK => ?_)
      refine goes_ Try.func12 (by kernel_rfl) rfl #[.agg #[.int .u8 0, .int .u8 1, .int .u8 2, .int .u8 3, .int .u8 4, .int .u8 5, .int .u8 6, .int .u8 7, .int .u8 8, .int .u8 9, .int .u8 10, .int .u8 11, .int .u8 12, .int .u8 13, .int .u8 14, .int .u8 15], .int .u8 1] (by rfl) rfl rfl (by (try simp only [List.map_toArray, List.map_cons, List.map_nil]); first | done | rfl | (simp only [*]; done) | (simp only [List.length_drop, List.length_take]; rfl) | (simp only [Act.eval, Array.getD_eq_getD_getElem?, Option.getD_some, *])) ?_
      with_reducible refine (prf_Derive.calls k1 0 1 2 3 4 5 6 7 8 9 10 11 12 13 14 15 1 t143 t144 t145 t146 t147 t148 t149 t150 t151 t152 t153 t154 t155 t156 t157 t158 _ A42.out).mono ?_
      rintro e w47 ⟨rfl, hb⟩
      refine ⟨_, rfl, ?_⟩
      have n0_ := qS (Kd.R_below (by (with_reducible repeat (first | apply Kd.R_alloc | apply Kd.R_drewN | apply Kd.R_drew)); exact HO_2.out) hb)
      have n1_ := qS (qB (g := gb137) (o := .cells #[.int .u8 0, .int .u8 1, .int .u8 2, .int .u8 3, .int .u8 4, .int .u8 5, .int .u8 6, .int .u8 7, .int .u8 8, .int .u8 9, .int .u8 10, .int .u8 11, .int .u8 12, .int .u8 13, .int .u8 14, .int .u8 15] 27 (0, 0)) (by (with_reducible repeat (first | refine qN ?_ _ | refine qD ?_ | refine qA ?_ _)); exact BK137.out) hb)
      have n2_ := qS (below_step (by repeat (first | (with_reducible first | exact HB.out | apply qpA | apply qpN | apply qp1 | refine qpS ?_ GE137.out) | exact HB.out)) hb)
      clear HO_2
      clear BK137
      clear HB
      have HO_2 := n0_
      have BK137 := n1_
      have HB := n2_
      clear n0_ n1_ n2_
      (try clear hb)
      (try clear hb2)
      (try clear hk)
      (try clear hi)
      refine hK.out _ _ ⟨(qC BK137.out 0).trans rfl, (qC BK137.out 1).trans rfl, (qC BK137.out 2).trans rfl, (qC BK137.out 3).trans rfl, (qC BK137.out 4).trans rfl, (qC BK137.out 5).trans rfl, (qC BK137.out 6).trans rfl, (qC BK137.out 7).trans rfl, (qC BK137.out 8).trans rfl, (qC BK137.out 9).trans rfl, (qC BK137.out 10).trans rfl, (qC BK137.out 11).trans rfl, (qC BK137.out 12).trans rfl, (qC BK137.out 13).trans rfl, (qC BK137.out 14).trans rfl, (qC BK137.out 15).trans rfl⟩ (fun hHeld => ?_)
      clear hK K
      refine norm_ (a' := ?_) ?_ ?_
      rotate_left
      ·show Act.put _ (some 33) _ = _
       simp only [Act.put, List.setIfInBounds_toArray, List.set_cons_zero, List.set_cons_succ, i64_w, i32_w]
       rfl
      refine pure_ (i := 13) (N := some 35) (v := ?_) (a' := ?_) #[true, true, true, true, true, true, true, true, true, true, true, true, true, true, false, false] rfl rfl (any_of HT_.out (by kernel_rfl)) (fun _ _ _ h => h) (Or.inl ⟨by rfl, ?_⟩) ?_ ?_
      rotate_left
      ·intro w'
       go_simp
       with_reducible rfl
      rotate_left
      ·simp only [Act.put, List.setIfInBounds_toArray, List.set_cons_zero, List.set_cons_succ, i64_w, i32_w]
       rfl
      refine pure_ (i := 14) (N := some 36) (v := ?_) (a' := ?_) #[true, true, true, true, true, true, true, true, true, true, true, true, true, true, true, false] rfl rfl (any_of HT_.out (by kernel_rfl)) (fun _ _ _ h => h) (Or.inl ⟨by rfl, ?_⟩) ?_ ?_
      rotate_left
      ·intro w'
       go_simp
       with_reducible rfl
      rotate_left
      ·simp only [Act.put, List.setIfInBounds_toArray, List.set_cons_zero, List.set_cons_succ, i64_w, i32_w]
       rfl
      refine pure_ (i := 15) (N := some 0) (v := ?_) (a' := ?_) #[true, true, true, true, true, true, true, true, true, true, true, true, true, true, true, true] rfl rfl (any_of HT_.out (by kernel_rfl)) (fun _ _ _ h => h) (Or.inl ⟨by rfl, ?_⟩) ?_ ?_
      rotate_left
      ·intro w'
       go_simp
       with_reducible rfl
      rotate_left
      ·simp only [Act.put, List.setIfInBounds_toArray, List.set_cons_zero, List.set_cons_succ, i64_w, i32_w]
       rfl
      refine done_ (done_of HT_.out (by kernel_rfl)) ?_
      try go_wp2
      go_ret
      exact ⟨by first | rfl | (simp [errW_none, errW_some] <;> rfl) | (simp [*, errW_none, errW_some] <;> rfl), by repeat (first | (with_reducible first | exact HB.out | apply qpA | apply qpN | apply qp1 | refine qpS ?_ GE137.out) | exact HB.out)⟩
     ·rw [if_neg c41] at H
      exact absurd H (by simp)
    ·rw [if_neg c39] at H
     exact absurd H (by simp)

/-! ### fuseeref23_Sum: function 9 -/
def fuseeref23_Sum.f (a0_0 : Int) (a0_1 : Int) (a0_2 : Int) (a0_3 : Int) (a0_4 : Int) (a0_5 : Int) (a0_6 : Int) (a0_7 : Int) (a0_8 : Int) (a0_9 : Int) (a0_10 : Int) (a0_11 : Int) (a0_12 : Int) (a0_13 : Int) (a0_14 : Int) (a0_15 : Int) (l1 : List Int) : Option Int := _root_.Go.Proofs.Ytiljnlhmeolhfaa.MPf.fuseeref23_Sum.f a0_0 a0_1 a0_2 a0_3 a0_4 a0_5 a0_6 a0_7 a0_8 a0_9 a0_10 a0_11 a0_12 a0_13 a0_14 a0_15 l1
theorem fuseeref23_Sum.calls (a0_0 : Int) (a0_1 : Int) (a0_2 : Int) (a0_3 : Int) (a0_4 : Int) (a0_5 : Int) (a0_6 : Int) (a0_7 : Int) (a0_8 : Int) (a0_9 : Int) (a0_10 : Int) (a0_11 : Int) (a0_12 : Int) (a0_13 : Int) (a0_14 : Int) (a0_15 : Int) (A1 : Option Addr) (c1 : Nat) (l1 : List Int) (r : Int) (w : World) (hr1 : Kd.C (Kd.int .u8) w A1 l1.length l1) (hc1 : l1.length ≤ c1) (h : fuseeref23_Sum.f a0_0 a0_1 a0_2 a0_3 a0_4 a0_5 a0_6 a0_7 a0_8 a0_9 a0_10 a0_11 a0_12 a0_13 a0_14 a0_15 l1 = some r) :
    Calls Try.prog 9 #[.agg #[.int .u8 a0_0, .int .u8 a0_1, .int .u8 a0_2, .int .u8 a0_3, .int .u8 a0_4, .int .u8 a0_5, .int .u8 a0_6, .int .u8 a0_7, .int .u8 a0_8, .int .u8 a0_9, .int .u8 a0_10, .int .u8 a0_11, .int .u8 a0_12, .int .u8 a0_13, .int .u8 a0_14, .int .u8 a0_15], .slice A1 l1.length c1] w fun e w' => e = .returned (.int .u64 r) ∧ Below w.heap.size w w' := _root_.Go.Proofs.Ytiljnlhmeolhfaa.MPf.fuseeref23_Sum.calls a0_0 a0_1 a0_2 a0_3 a0_4 a0_5 a0_6 a0_7 a0_8 a0_9 a0_10 a0_11 a0_12 a0_13 a0_14 a0_15 A1 c1 l1 r w hr1 hc1 h

/-! ### fuseeref05_Put: function 35 -/
def fuseeref05_Put.l0 : Nat → Int → Int → List Int → Int → Option (List Int)
 | 0, _, _, _, _ => none
 | k + 1, x1, x2, x7, x8 => if x8 < x2 then (if x7.length < 140737488355328 then (fuseeref05_Put.l0 k (IntKind.u64.wrap (Int.tdiv x1 256)) x2 (x7 ++ [(Int.tmod x1 256) % 256]) (wrap64 (x8 + 1))) else (none)) else (some x7)
def fuseeref05_Put.f (k : Nat) (l0 : List Int) (a1 : Int) (a2 : Int) : Option (List Int) := if ([] : List Int).length + l0.length < 140737488355328 then (fuseeref05_Put.l0 k a1 a2 (([] : List Int) ++ l0) 0) else (none)
theorem fuseeref05_Put.mono_l : ∀ k, (∀ y0 y1 y2 y3, LeO (fuseeref05_Put.l0 k y0 y1 y2 y3) (fuseeref05_Put.l0 (k + 1) y0 y1 y2 y3))
 | 0 => fun _ _ _ _ r h => by simp [fuseeref05_Put.l0] at h
 | k + 1 => by
  have ih0 := fuseeref05_Put.mono_l k
  ·intro y0 y1 y2 y3
   unfold fuseeref05_Put.l0
   repeat' first
   | (with_reducible exact ih0 _ _ _ _)
   | (with_reducible exact LeO.refl _)
   | (with_reducible exact LeO.none _)
   | (with_reducible refine LeO.ite ?_ ?_)
   | (with_reducible refine LeO.bind ?_ (fun _ => ?_))
   | exact ih0 _ _ _ _
   | exact LeO.none _
   | refine LeO.ite ?_ ?_
   | refine LeO.bind ?_ (fun _ => ?_)
theorem fuseeref05_Put.mono : ∀ a0 a1 a2 k, LeO (fuseeref05_Put.f k a0 a1 a2) (fuseeref05_Put.f (k + 1) a0 a1 a2) := by
 intro a0 a1 a2 k
 have ih0 := fuseeref05_Put.mono_l k
 unfold fuseeref05_Put.f
 repeat' first
   | (with_reducible exact ih0 _ _ _ _)
   | (with_reducible exact LeO.refl _)
   | (with_reducible exact LeO.none _)
   | (with_reducible refine LeO.ite ?_ ?_)
   | (with_reducible refine LeO.bind ?_ (fun _ => ?_))
   | exact ih0 _ _ _ _
   | exact LeO.none _
   | refine LeO.ite ?_ ?_
   | refine LeO.bind ?_ (fun _ => ?_)
set_option maxHeartbeats 8000000 in
set_option maxRecDepth 100000 in
theorem fuseeref05_Put.calls (k : Nat) (A0 : Option Addr) (c0 : Nat) (l0 : List Int) (a1 : Int) (a2 : Int) (r : List Int) (w : World) (hr0 : Kd.C (Kd.int .u8) w A0 l0.length l0) (hc0 : l0.length ≤ c0) (h : fuseeref05_Put.f k l0 a1 a2 = some r) :
  Calls Try.prog 35 #[.slice A0 l0.length c0, .int .u64 a1, .int .i64 a2] w fun e w' => ∃ v0_ : Value, e = .returned (v0_) ∧ Kd.R (Kd.int .u8) 5 w' w.heap.size (fun _ => True) v0_ r ∧ Below w.heap.size w w' := by
 have HR0 := qS hr0
 have HC0 := qS hc0
 clear hr0 hc0
 have HB := qS (Below.refl w.heap.size w)
 have H : (if ([] : List Int).length + l0.length < 140737488355328 then (fuseeref05_Put.l0 k a1 a2 (([] : List Int) ++ l0) 0) else (none)) = some r := h
 clear h
 by_cases c4 : ([] : List Int).length + l0.length < 140737488355328
 ·rw [if_pos c4] at H
  have LMc4 := qS c4
  clear c4
  obtain ⟨y159, hy159⟩ : ∃ y_ : List Int, y_ = (([] : List Int) ++ l0) := ⟨_, rfl⟩
  replace H : (fuseeref05_Put.l0 k a1 a2 y159 0) = some r := by first | (rw [hy159]; with_reducible exact H) | (have H2_ := (Option.bind_some _ _).symm.trans H; rw [hy159]; with_reducible exact H2_) | (have H2_ := (Option.bind_some _ _).symm.trans H; with_reducible exact H2_) | with_reducible exact H | (rw [hy159]; exact H) | exact H
  have Ny159 := qS hy159
  clear hy159
  have H' := qS H
  clear H
  go_enter Try.func35, Try.ntmps35
  go_wp2_with (first | ((with_reducible refine gate_builtin (b := .append) (xs := #[.tmp 9, .tmp 10]) rfl ?_); at_builtin; refine Kd.R_append_rows (Kd.int .u8) (w0 := w) w.heap.size rfl (.tmp 9) (.tmp 10) 23 5 (.int .u8 0) 1 rfl Try.underlying23 info5 rfl (by decide) (by omega) (.slice none 0 0) ([] : List Int) l0 _ _ _ (fun _ => True) (fun _ => False) rfl rfl ?aO ?aR (fun _ _ h => h) (fun _ h => h.elim) ?aF ?aB ?aS ?aL ?_; (case aR => repeat (first | exact HR0.out | (with_reducible refine Kd.C_alloc ?_ _) | (with_reducible refine Kd.C_drewN ?_ _) | (with_reducible refine Kd.C_drew ?_))); (case aB => exact (by repeat (first | (with_reducible first | exact HB.out | apply qpA | apply qpN | apply qp1) | exact HB.out))); (case aF => exact (fun _ _ => trivial)); (case aO => exact ((Kd.R_nil _ _ _ _ (fun _ => True)))); (case aS => exact (below_size (by repeat (first | (with_reducible first | exact HB.out | apply qpA | apply qpN | apply qp1) | exact HB.out)))); (case aL => have := LMc4.out; omega); intro v160 w5 ho hb hg hat; rw [← Ny159.out] at ho; have n0_ := qS (hb); have n1_ := qS (ho); clear HB; have HB := n0_; have HO161 := n1_; clear n0_ n1_; clear ho hb hg hat))
  go_loopg [1, 7, 8] k (fun kq v1 v7 v8 w' => ∃ (x1_1 : Int) (x7_1 : List Int) (x8_1 : Int), v1 = .int .u64 x1_1 ∧ v8 = .int .i64 x8_1 ∧ Aside0 (fuseeref05_Put.l0 kq x1_1 a2 x7_1 x8_1 = some r) ∧ Aside0 (kq ≤ k) ∧ Aside0 (Kd.R (Kd.int .u8) 5 w' w.heap.size (fun _ => True) v7 x7_1) ∧ Aside0 (Below w.heap.size w w'))
  case atStart => exact ⟨(a1), (y159), (0), (by first | rfl | (simp; done) | (simp [*]; done)), (by first | rfl | (simp; done) | (simp [*]; done)), H', ⟨Nat.le_refl _⟩, ⟨by (with_reducible repeat (first | apply Kd.R_alloc | apply Kd.R_drewN | apply Kd.R_drew)); exact HO161.out⟩, ⟨by repeat (first | (with_reducible first | exact HB.out | apply qpA | apply qpN | apply qp1) | exact HB.out)⟩⟩
  case round =>
   clear H'
   try clear p2
   try clear c3
   try clear c4
   obtain ⟨x1_1, x7_1, x8_1, rfl, rfl, HA, HK1, HO_7, HB⟩ := hrel
   cases gk with
   | zero => exact absurd HA.out (by simp [fuseeref05_Put.l0])
   | succ k1 =>
    have H := HA.out
    clear HA
    simp only [fuseeref05_Put.l0] at H
    by_cases c6 : x8_1 < a2
    ·rw [if_pos c6] at H
     have c6b0 : decide (x8_1 < a2) = true := decide_eq_true c6
     clear c6
     by_cases c7 : x7_1.length < 140737488355328
     ·rw [if_pos c7] at H
      have LMc7 := qS c7
      clear c7
      obtain ⟨y162, hy162⟩ : ∃ y_ : List Int, y_ = (x7_1 ++ [(Int.tmod x1_1 256) % 256]) := ⟨_, rfl⟩
      replace H : (fuseeref05_Put.l0 k1 (IntKind.u64.wrap (Int.tdiv x1_1 256)) a2 y162 (wrap64 (x8_1 + 1))) = some r := by first | (rw [hy162]; with_reducible exact H) | (have H2_ := (Option.bind_some _ _).symm.trans H; rw [hy162]; with_reducible exact H2_) | (have H2_ := (Option.bind_some _ _).symm.trans H; with_reducible exact H2_) | with_reducible exact H | (rw [hy162]; exact H) | exact H
      have Ny162 := qS hy162
      clear hy162
      as_aux_lemma =>
       have H' := qS H
       clear H
       go_wp2_with (first | ((with_reducible refine gate_builtin (b := .append) (xs := #[.tmp 17, .tmp 21]) rfl ?_); at_builtin; refine Kd.R_append (Kd.int .u8) (w0 := w) w.heap.size rfl (.tmp 17) (.tmp 21) 23 5 (.int .u8 0) 1 rfl Try.underlying23 info5 rfl (by decide) (by omega) u7 x7_1 ((Int.tmod x1_1 256) % 256) [.int .u8 ((Int.tmod x1_1 256) % 256)] (fun _ => True) (fun _ => False) rfl rfl ?aP (fun _ hk => hk.elim) ?aF ?aO ?aB ?aS ?aL ?_; (case aP => exact rfl); (case aB => exact (by repeat (first | (with_reducible first | exact HB.out | apply qpA | apply qpN | apply qp1) | exact HB.out))); (case aF => exact (fun _ _ => trivial)); (case aO => exact (by (with_reducible repeat (first | apply Kd.R_alloc | apply Kd.R_drewN | apply Kd.R_drew)); exact HO_7.out)); (case aS => exact (below_size (by repeat (first | (with_reducible first | exact HB.out | apply qpA | apply qpN | apply qp1) | exact HB.out)))); (case aL => have := LMc7.out; omega); intro v163 w8 ho hb hg hat; rw [← Ny162.out] at ho; have n0_ := qS (hb); have n1_ := qS (ho); clear HB; clear HO_7; have HB := n0_; have HO164 := n1_; clear n0_ n1_; clear ho hb hg hat))
       go_roundg k1
       case measure => have := HK1.out; omega
       case rel => exact ⟨(IntKind.u64.wrap (Int.tdiv x1_1 256)), (y162), (wrap64 (x8_1 + 1)), (by first | rfl | (simp; done) | (simp [*]; done)), (by first | rfl | (simp; done) | (simp [*]; done)), H', ⟨by have := HK1.out; omega⟩, ⟨by (with_reducible repeat (first | apply Kd.R_alloc | apply Kd.R_drewN | apply Kd.R_drew)); exact HO164.out⟩, ⟨by repeat (first | (with_reducible first | exact HB.out | apply qpA | apply qpN | apply qp1) | exact HB.out)⟩⟩
     ·rw [if_neg c7] at H
      exact absurd H (by simp)
    ·rw [if_neg c6] at H
     have c6b0 : decide (x8_1 < a2) = false := decide_eq_false c6
     clear c6
     as_aux_lemma =>
      obtain rfl := Option.some.inj H
      go_wp2
      go_ret
      exact ⟨_, by first | rfl | (simp [errW_none, errW_some] <;> rfl) | (simp [*, errW_none, errW_some] <;> rfl), by (with_reducible repeat (first | apply Kd.R_alloc | apply Kd.R_drewN | apply Kd.R_drew)); exact HO_7.out, by repeat (first | (with_reducible first | exact HB.out | apply qpA | apply qpN | apply qp1) | exact HB.out)⟩
 ·rw [if_neg c4] at H
  exact absurd H (by simp)

end Go.Proofs.Ytiljnlhmeolhfaa.MPrfSums
