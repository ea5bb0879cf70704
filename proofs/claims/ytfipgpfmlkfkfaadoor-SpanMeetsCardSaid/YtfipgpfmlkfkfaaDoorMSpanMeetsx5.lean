/- Printed by wip/gen/mp.py: Go functions as plain Lean functions, and that the calls do what these say. -/
import Derived.Test.YtfipgpfmlkfkfaaDoorMSpanMeetsx0
import Derived.Test.YtfipgpfmlkfkfaaDoorMSpanMeetsx1
import Derived.Test.YtfipgpfmlkfkfaaDoorMSpanMeetsx2
import Derived.Test.YtfipgpfmlkfkfaaDoorMSpanMeetsx3
import Derived.Test.YtfipgpfmlkfkfaaDoorMSpanMeetsx4
namespace Go.Proofs.YtfipgpfmlkfkfaaDoor.MSpanMeets
open Go.RowKit Go.Proofs.YtfipgpfmlkfkfaaDoorW.PrintWords Go.Proofs.YtfipgpfmlkfkfaaDoorW.PrintLast Go.Proofs.YtfipgpfmlkfkfaaDoorW.PrintMore
attribute [local go_sem] max2_int min2_int max_two min_two max_three min_three max_four min_four   -- for this text's walks alone
set_option linter.unusedVariables false
set_option linter.unusedSimpArgs false

attribute [local go_sem high] eqA68
/-! ### fuseelaw13_SpanMeets: function 14 -/
mutual
def fuseelaw13_SpanMeets.j0 : Nat → Bool → Bool → Int → Bool → Int → Int → Int → Int → Int → Int → Int → Int → Int → Int → Option (Bool)
 | 0, _, _, _, _, _, _, _, _, _, _, _, _, _, _ => none
 | k + 1, x10, x12, x13, x14, x173000, x173001, x175000, x175001, x176000, x176001, x181000, x181001, x185000, x185001 => if (x10 != x12) = true then (fuseelaw13_SpanMeets.j1 k true x173000 x173001 x175000 x175001 x176000 x176001) else (if (!(x181000 == x185000) || (!(x181001 == x185001))) = true then (fuseelaw13_SpanMeets.j1 k true x173000 x173001 x175000 x175001 x176000 x176001) else (if x14 = true then (if x10 = true then ((span_Has.f x181000 x181001 x13).bind fun t191 => (if t191 = true then (fuseelaw13_SpanMeets.j1 k false x173000 x173001 x175000 x175001 x176000 x176001) else (fuseelaw13_SpanMeets.j1 k true x173000 x173001 x175000 x175001 x176000 x176001))) else (fuseelaw13_SpanMeets.j1 k true x173000 x173001 x175000 x175001 x176000 x176001)) else (if x10 = true then ((span_Has.f x181000 x181001 x13).bind fun t192 => (fuseelaw13_SpanMeets.j1 k t192 x173000 x173001 x175000 x175001 x176000 x176001)) else (fuseelaw13_SpanMeets.j1 k false x173000 x173001 x175000 x175001 x176000 x176001))))
def fuseelaw13_SpanMeets.j1 : Nat → Bool → Int → Int → Int → Int → Int → Int → Option (Bool)
 | 0, _, _, _, _, _, _, _ => none
 | k + 1, x88, x173000, x173001, x175000, x175001, x176000, x176001 => if x88 = true then (none) else ((span_Grow.f k x176000 x176001 (wrap64 (x175001))).bind fun bt193 => ((span_Check.f x176000 x176001).bind fun t197 => (if t197.isNone = true then (fuseelaw13_SpanMeets.j2 k bt193.2.2 (decide ((wrap64 (x175001)) < 0)) x173000 x173001 x176000 x176001 bt193.1 bt193.2.1) else (fuseelaw13_SpanMeets.j2 k bt193.2.2 true x173000 x173001 x176000 x176001 bt193.1 bt193.2.1))))
def fuseelaw13_SpanMeets.j2 : Nat → Option Int → Bool → Int → Int → Int → Int → Int → Int → Option (Bool)
 | 0, _, _, _, _, _, _, _, _ => none
 | k + 1, x17, x104, x173000, x173001, x176000, x176001, x197000, x197001 => if x104 = true then ((fuseelaw13_num.f x17).bind fun t199 => (if t199 = 1 then ((fuseelaw13_sure.f k).bind fun t200 => (some t200)) else (none))) else ((span_Mid.f x176000 x176001).bind fun bt201 => (if x17.isNone = true then (if bt201.2.2.isNone = true then ((span_Has.f x197000 x197001 x176000).bind fun t206 => (if t206 = true then ((span_Has.f x197000 x197001 x176001).bind fun t207 => (if t207 = true then ((span_Has.f x176000 x176001 bt201.1).bind fun t208 => (if t208 = true then (if bt201.2.1 ≥ 0 then (if x173000 < (-2305843009213693952) then ((fuseelaw13_sure.f k).bind fun t209 => (some t209)) else (if x173001 > 2305843009213693952 then ((fuseelaw13_sure.f k).bind fun t210 => (some t210)) else (if (wrap64 (bt201.1 - x173000)) ≤ bt201.2.1 then (if (wrap64 (bt201.2.1 - (wrap64 (bt201.1 - x173000)))) ≤ 1 then ((fuseelaw13_sure.f k).bind fun t211 => (some t211)) else (none)) else (none)))) else (none)) else (none))) else (none))) else (none))) else (none)) else (none)))
end
def fuseelaw13_SpanMeets.f (k : Nat) (a0_0 : Int) (a0_1 : Int) (a1_0 : Int) (a1_1 : Int) (a2_0 : Int) (a2_1 : Int) : Option (Bool) := (span_Meet.f a0_0 a0_1 a1_0 a1_1).bind fun bt177 => ((span_Meet.f a1_0 a1_1 a0_0 a0_1).bind fun bt181 => ((span_Check.f a0_0 a0_1).bind fun t185 => (if t185.isNone = true then ((span_Check.f a1_0 a1_1).bind fun t187 => (if t187.isNone = true then ((span_Has.f a0_0 a0_1 (wrap64 (a2_0))).bind fun t189 => (if t189 = true then ((span_Has.f a1_0 a1_1 (wrap64 (a2_0))).bind fun t190 => (fuseelaw13_SpanMeets.j0 k bt177.2.2 bt181.2.2 (wrap64 (a2_0)) t190 a0_0 a0_1 a2_0 a2_1 a0_0 a0_1 bt177.1 bt177.2.1 bt181.1 bt181.2.1)) else (fuseelaw13_SpanMeets.j0 k bt177.2.2 bt181.2.2 (wrap64 (a2_0)) false a0_0 a0_1 a2_0 a2_1 a0_0 a0_1 bt177.1 bt177.2.1 bt181.1 bt181.2.1))) else (fuseelaw13_SpanMeets.j0 k bt177.2.2 bt181.2.2 (wrap64 (a2_0)) false a0_0 a0_1 a2_0 a2_1 a0_0 a0_1 bt177.1 bt177.2.1 bt181.1 bt181.2.1))) else (fuseelaw13_SpanMeets.j0 k bt177.2.2 bt181.2.2 (wrap64 (a2_0)) false a0_0 a0_1 a2_0 a2_1 a0_0 a0_1 bt177.1 bt177.2.1 bt181.1 bt181.2.1))))
theorem fuseelaw13_SpanMeets.mono_l : ∀ k, (∀ y0 y1 y2 y3 y4 y5 y6 y7 y8 y9 y10 y11 y12 y13, LeO (fuseelaw13_SpanMeets.j0 k y0 y1 y2 y3 y4 y5 y6 y7 y8 y9 y10 y11 y12 y13) (fuseelaw13_SpanMeets.j0 (k + 1) y0 y1 y2 y3 y4 y5 y6 y7 y8 y9 y10 y11 y12 y13)) ∧ (∀ y0 y1 y2 y3 y4 y5 y6, LeO (fuseelaw13_SpanMeets.j1 k y0 y1 y2 y3 y4 y5 y6) (fuseelaw13_SpanMeets.j1 (k + 1) y0 y1 y2 y3 y4 y5 y6)) ∧ (∀ y0 y1 y2 y3 y4 y5 y6 y7, LeO (fuseelaw13_SpanMeets.j2 k y0 y1 y2 y3 y4 y5 y6 y7) (fuseelaw13_SpanMeets.j2 (k + 1) y0 y1 y2 y3 y4 y5 y6 y7))
 | 0 => ⟨fun _ _ _ _ _ _ _ _ _ _ _ _ _ _ r h => by simp [fuseelaw13_SpanMeets.j0] at h, fun _ _ _ _ _ _ _ r h => by simp [fuseelaw13_SpanMeets.j1] at h, fun _ _ _ _ _ _ _ _ r h => by simp [fuseelaw13_SpanMeets.j2] at h⟩
 | k + 1 => by
  obtain ⟨ih0, ih1, ih2⟩ := fuseelaw13_SpanMeets.mono_l k
  refine ⟨?_, ?_, ?_⟩
  ·intro y0 y1 y2 y3 y4 y5 y6 y7 y8 y9 y10 y11 y12 y13
   unfold fuseelaw13_SpanMeets.j0
   repeat' first
   | (with_reducible exact ih0 _ _ _ _ _ _ _ _ _ _ _ _ _ _)
   | (with_reducible exact ih1 _ _ _ _ _ _ _)
   | (with_reducible exact ih2 _ _ _ _ _ _ _ _)
   | (with_reducible exact fuseelaw13_sure.mono _)
   | (with_reducible exact span_Grow.mono _ _ _ _)
   | (with_reducible exact LeO.refl _)
   | (with_reducible exact LeO.none _)
   | (with_reducible refine LeO.ite ?_ ?_)
   | (with_reducible refine LeO.bind ?_ (fun _ => ?_))
   | exact ih0 _ _ _ _ _ _ _ _ _ _ _ _ _ _
   | exact ih1 _ _ _ _ _ _ _
   | exact ih2 _ _ _ _ _ _ _ _
   | exact fuseelaw13_sure.mono _
   | exact span_Grow.mono _ _ _ _
   | exact LeO.none _
   | refine LeO.ite ?_ ?_
   | refine LeO.bind ?_ (fun _ => ?_)
  ·intro y0 y1 y2 y3 y4 y5 y6
   unfold fuseelaw13_SpanMeets.j1
   repeat' first
   | (with_reducible exact ih0 _ _ _ _ _ _ _ _ _ _ _ _ _ _)
   | (with_reducible exact ih1 _ _ _ _ _ _ _)
   | (with_reducible exact ih2 _ _ _ _ _ _ _ _)
   | (with_reducible exact fuseelaw13_sure.mono _)
   | (with_reducible exact span_Grow.mono _ _ _ _)
   | (with_reducible exact LeO.refl _)
   | (with_reducible exact LeO.none _)
   | (with_reducible refine LeO.ite ?_ ?_)
   | (with_reducible refine LeO.bind ?_ (fun _ => ?_))
   | exact ih0 _ _ _ _ _ _ _ _ _ _ _ _ _ _
   | exact ih1 _ _ _ _ _ _ _
   | exact ih2 _ _ _ _ _ _ _ _
   | exact fuseelaw13_sure.mono _
   | exact span_Grow.mono _ _ _ _
   | exact LeO.none _
   | refine LeO.ite ?_ ?_
   | refine LeO.bind ?_ (fun _ => ?_)
  ·intro y0 y1 y2 y3 y4 y5 y6 y7
   unfold fuseelaw13_SpanMeets.j2
   repeat' first
   | (with_reducible exact ih0 _ _ _ _ _ _ _ _ _ _ _ _ _ _)
   | (with_reducible exact ih1 _ _ _ _ _ _ _)
   | (with_reducible exact ih2 _ _ _ _ _ _ _ _)
   | (with_reducible exact fuseelaw13_sure.mono _)
   | (with_reducible exact span_Grow.mono _ _ _ _)
   | (with_reducible exact LeO.refl _)
   | (with_reducible exact LeO.none _)
   | (with_reducible refine LeO.ite ?_ ?_)
   | (with_reducible refine LeO.bind ?_ (fun _ => ?_))
   | exact ih0 _ _ _ _ _ _ _ _ _ _ _ _ _ _
   | exact ih1 _ _ _ _ _ _ _
   | exact ih2 _ _ _ _ _ _ _ _
   | exact fuseelaw13_sure.mono _
   | exact span_Grow.mono _ _ _ _
   | exact LeO.none _
   | refine LeO.ite ?_ ?_
   | refine LeO.bind ?_ (fun _ => ?_)
theorem fuseelaw13_SpanMeets.mono : ∀ a0 a1 a2 a3 a4 a5 k, LeO (fuseelaw13_SpanMeets.f k a0 a1 a2 a3 a4 a5) (fuseelaw13_SpanMeets.f (k + 1) a0 a1 a2 a3 a4 a5) := by
 intro a0 a1 a2 a3 a4 a5 k
 obtain ⟨ih0, ih1, ih2⟩ := fuseelaw13_SpanMeets.mono_l k
 unfold fuseelaw13_SpanMeets.f
 repeat' first
   | (with_reducible exact ih0 _ _ _ _ _ _ _ _ _ _ _ _ _ _)
   | (with_reducible exact ih1 _ _ _ _ _ _ _)
   | (with_reducible exact ih2 _ _ _ _ _ _ _ _)
   | (with_reducible exact fuseelaw13_sure.mono _)
   | (with_reducible exact span_Grow.mono _ _ _ _)
   | (with_reducible exact LeO.refl _)
   | (with_reducible exact LeO.none _)
   | (with_reducible refine LeO.ite ?_ ?_)
   | (with_reducible refine LeO.bind ?_ (fun _ => ?_))
   | exact ih0 _ _ _ _ _ _ _ _ _ _ _ _ _ _
   | exact ih1 _ _ _ _ _ _ _
   | exact ih2 _ _ _ _ _ _ _ _
   | exact fuseelaw13_sure.mono _
   | exact span_Grow.mono _ _ _ _
   | exact LeO.none _
   | refine LeO.ite ?_ ?_
   | refine LeO.bind ?_ (fun _ => ?_)
set_option maxHeartbeats 8000000 in
set_option maxRecDepth 100000 in
theorem fuseelaw13_SpanMeets.calls (k : Nat) (a0_0 : Int) (a0_1 : Int) (a1_0 : Int) (a1_1 : Int) (a2_0 : Int) (a2_1 : Int) (r : Bool) (w : World) (hgL : HG w) (h : fuseelaw13_SpanMeets.f k a0_0 a0_1 a1_0 a1_1 a2_0 a2_1 = some r) :
  Calls Tryd.prog 14 #[.agg #[.int .i64 a0_0, .int .i64 a0_1], .agg #[.int .i64 a1_0, .int .i64 a1_1], .agg #[.int .i32 a2_0, .int .i32 a2_1]] w fun e w' => e = .returned (.bool r) ∧ Below w.heap.size w w' := by
 have hu73 := Tryd.underlying73
 have hu110 := Tryd.underlying110
 have hu68 := Tryd.underlying68
 have hu29 := Tryd.underlying29
 have hu115 := Tryd.underlying115
 have HB := qS (Below.refl w.heap.size w)
 have H : ((span_Meet.f a0_0 a0_1 a1_0 a1_1).bind fun bt177 => ((span_Meet.f a1_0 a1_1 a0_0 a0_1).bind fun bt181 => ((span_Check.f a0_0 a0_1).bind fun t185 => (if t185.isNone = true then ((span_Check.f a1_0 a1_1).bind fun t187 => (if t187.isNone = true then ((span_Has.f a0_0 a0_1 (wrap64 (a2_0))).bind fun t189 => (if t189 = true then ((span_Has.f a1_0 a1_1 (wrap64 (a2_0))).bind fun t190 => (fuseelaw13_SpanMeets.j0 k bt177.2.2 bt181.2.2 (wrap64 (a2_0)) t190 a0_0 a0_1 a2_0 a2_1 a0_0 a0_1 bt177.1 bt177.2.1 bt181.1 bt181.2.1)) else (fuseelaw13_SpanMeets.j0 k bt177.2.2 bt181.2.2 (wrap64 (a2_0)) false a0_0 a0_1 a2_0 a2_1 a0_0 a0_1 bt177.1 bt177.2.1 bt181.1 bt181.2.1))) else (fuseelaw13_SpanMeets.j0 k bt177.2.2 bt181.2.2 (wrap64 (a2_0)) false a0_0 a0_1 a2_0 a2_1 a0_0 a0_1 bt177.1 bt177.2.1 bt181.1 bt181.2.1))) else (fuseelaw13_SpanMeets.j0 k bt177.2.2 bt181.2.2 (wrap64 (a2_0)) false a0_0 a0_1 a2_0 a2_1 a0_0 a0_1 bt177.1 bt177.2.1 bt181.1 bt181.2.1))))) = some r := h
 clear h
 replace H := Option.bind_eq_some_iff.mp H
 obtain ⟨⟨t177, t178, t179⟩, A40, H⟩ := H
 replace H : ((span_Meet.f a1_0 a1_1 a0_0 a0_1).bind fun bt181 => ((span_Check.f a0_0 a0_1).bind fun t185 => (if t185.isNone = true then ((span_Check.f a1_0 a1_1).bind fun t187 => (if t187.isNone = true then ((span_Has.f a0_0 a0_1 (wrap64 (a2_0))).bind fun t189 => (if t189 = true then ((span_Has.f a1_0 a1_1 (wrap64 (a2_0))).bind fun t190 => (fuseelaw13_SpanMeets.j0 k t179 bt181.2.2 (wrap64 (a2_0)) t190 a0_0 a0_1 a2_0 a2_1 a0_0 a0_1 t177 t178 bt181.1 bt181.2.1)) else (fuseelaw13_SpanMeets.j0 k t179 bt181.2.2 (wrap64 (a2_0)) false a0_0 a0_1 a2_0 a2_1 a0_0 a0_1 t177 t178 bt181.1 bt181.2.1))) else (fuseelaw13_SpanMeets.j0 k t179 bt181.2.2 (wrap64 (a2_0)) false a0_0 a0_1 a2_0 a2_1 a0_0 a0_1 t177 t178 bt181.1 bt181.2.1))) else (fuseelaw13_SpanMeets.j0 k t179 bt181.2.2 (wrap64 (a2_0)) false a0_0 a0_1 a2_0 a2_1 a0_0 a0_1 t177 t178 bt181.1 bt181.2.1)))) = some r := H
 have A4 := qS A40
 clear A40
 replace H := Option.bind_eq_some_iff.mp H
 obtain ⟨⟨t181, t182, t183⟩, A50, H⟩ := H
 replace H : ((span_Check.f a0_0 a0_1).bind fun t185 => (if t185.isNone = true then ((span_Check.f a1_0 a1_1).bind fun t187 => (if t187.isNone = true then ((span_Has.f a0_0 a0_1 (wrap64 (a2_0))).bind fun t189 => (if t189 = true then ((span_Has.f a1_0 a1_1 (wrap64 (a2_0))).bind fun t190 => (fuseelaw13_SpanMeets.j0 k t179 t183 (wrap64 (a2_0)) t190 a0_0 a0_1 a2_0 a2_1 a0_0 a0_1 t177 t178 t181 t182)) else (fuseelaw13_SpanMeets.j0 k t179 t183 (wrap64 (a2_0)) false a0_0 a0_1 a2_0 a2_1 a0_0 a0_1 t177 t178 t181 t182))) else (fuseelaw13_SpanMeets.j0 k t179 t183 (wrap64 (a2_0)) false a0_0 a0_1 a2_0 a2_1 a0_0 a0_1 t177 t178 t181 t182))) else (fuseelaw13_SpanMeets.j0 k t179 t183 (wrap64 (a2_0)) false a0_0 a0_1 a2_0 a2_1 a0_0 a0_1 t177 t178 t181 t182))) = some r := H
 have A5 := qS A50
 clear A50
 have HC6 := qS H
 clear H
 go_enter Tryd.func14, Tryd.ntmps14
 try go_wp2_with (first | ((with_reducible refine gate_dst (N := 3) rfl ?_); refine box_event ?hg (N := 3) ?hd (cs := #[.int .i64 a0_0, .int .i64 a0_1]) (t := 73) ?hr ?_; (case hd => rfl); (case hg => rfl); (case hr => first | (go_simp; done) | (go_simp; rfl)); intro gb172 hg w7 hbox hb; have n0_ := qS (below_step (by repeat (first | (with_reducible first | exact HB.out | apply qpA | apply qpN | apply qp1) | exact HB.out)) hb); have n1_ := qS (hbox); have n2_ := qS ((by rw [hg]; exact (below_size (by repeat (first | (with_reducible first | exact HB.out | apply qpA | apply qpN | apply qp1) | exact HB.out))) : w.heap.size ≤ gb172)); have n3_ := qS ((by rw [hg]; exact (below_size (by repeat (first | (with_reducible first | exact HB.out | apply qpA | apply qpN | apply qp1) | exact HB.out))) : w.heap.size ≤ gb172)); clear HB; have HB := n0_; have BK172 := n1_; have GW172 := n2_; have GE172 := n3_; clear n0_ n1_ n2_ n3_; clear hb hbox hg) | ((with_reducible refine gate_dst (N := 4) rfl ?_); refine box_event ?hg (N := 4) ?hd (cs := #[.int .i64 a1_0, .int .i64 a1_1]) (t := 73) ?hr ?_; (case hd => rfl); (case hg => rfl); (case hr => first | (go_simp; done) | (go_simp; rfl)); intro gb173 hg w8 hbox hb; have n0_ := qS (qB (g := gb172) (o := .cells #[.int .i64 a0_0, .int .i64 a0_1] 73 (0, 0)) (by (with_reducible repeat (first | refine qN ?_ _ | refine qD ?_ | refine qA ?_ _)); exact BK172.out) hb); have n1_ := qS (below_step (by repeat (first | (with_reducible first | exact HB.out | apply qpA | apply qpN | apply qp1 | refine qpS ?_ GE172.out) | exact HB.out)) hb); have n2_ := qS (hbox); have n3_ := qS ((by rw [hg]; exact (below_size (by repeat (first | (with_reducible first | exact HB.out | apply qpA | apply qpN | apply qp1 | refine qpS ?_ GE172.out) | exact HB.out))) : w.heap.size ≤ gb173)); have n4_ := qS ((by rw [hg]; exact (below_size (by repeat (first | (with_reducible first | exact HB.out | apply qpA | apply qpN | apply qp1 | refine qpS ?_ GE172.out) | exact HB.out))) : w.heap.size ≤ gb173)); have n5_ := qS ((by rw [hg]; exact Nat.ne_of_lt (blk_lt (g := gb172) (o := .cells #[.int .i64 a0_0, .int .i64 a0_1] 73 (0, 0)) (by (with_reducible repeat (first | refine qN ?_ _ | refine qD ?_ | refine qA ?_ _)); exact BK172.out)) : gb172 ≠ gb173)); have n6_ := qS ((by rw [hg]; exact Nat.ne_of_gt (blk_lt (g := gb172) (o := .cells #[.int .i64 a0_0, .int .i64 a0_1] 73 (0, 0)) (by (with_reducible repeat (first | refine qN ?_ _ | refine qD ?_ | refine qA ?_ _)); exact BK172.out)) : gb173 ≠ gb172)); clear BK172; clear HB; have BK172 := n0_; have HB := n1_; have BK173 := n2_; have GW173 := n3_; have GE173 := n4_; have NB172_173 := n5_; have NB173_172 := n6_; clear n0_ n1_ n2_ n3_ n4_ n5_ n6_; clear hb hbox hg) | ((with_reducible refine gate_dst (N := 5) rfl ?_); refine box_event ?hg (N := 5) ?hd (cs := #[.int .i32 a2_0, .int .i32 a2_1]) (t := 110) ?hr ?_; (case hd => rfl); (case hg => rfl); (case hr => first | (go_simp; done) | (go_simp; rfl)); intro gb174 hg w9 hbox hb; have n0_ := qS (qB (g := gb172) (o := .cells #[.int .i64 a0_0, .int .i64 a0_1] 73 (0, 0)) (by (with_reducible repeat (first | refine qN ?_ _ | refine qD ?_ | refine qA ?_ _)); exact BK172.out) hb); have n1_ := qS (qB (g := gb173) (o := .cells #[.int .i64 a1_0, .int .i64 a1_1] 73 (0, 0)) (by (with_reducible repeat (first | refine qN ?_ _ | refine qD ?_ | refine qA ?_ _)); exact BK173.out) hb); have n2_ := qS (below_step (by repeat (first | (with_reducible first | exact HB.out | apply qpA | apply qpN | apply qp1 | refine qpS ?_ GE172.out | refine qpS ?_ GE173.out) | exact HB.out)) hb); have n3_ := qS (hbox); have n4_ := qS ((by rw [hg]; exact (below_size (by repeat (first | (with_reducible first | exact HB.out | apply qpA | apply qpN | apply qp1 | refine qpS ?_ GE172.out | refine qpS ?_ GE173.out) | exact HB.out))) : w.heap.size ≤ gb174)); have n5_ := qS ((by rw [hg]; exact (below_size (by repeat (first | (with_reducible first | exact HB.out | apply qpA | apply qpN | apply qp1 | refine qpS ?_ GE172.out | refine qpS ?_ GE173.out) | exact HB.out))) : w.heap.size ≤ gb174)); have n6_ := qS ((by rw [hg]; exact Nat.ne_of_lt (blk_lt (g := gb172) (o := .cells #[.int .i64 a0_0, .int .i64 a0_1] 73 (0, 0)) (by (with_reducible repeat (first | refine qN ?_ _ | refine qD ?_ | refine qA ?_ _)); exact BK172.out)) : gb172 ≠ gb174)); have n7_ := qS ((by rw [hg]; exact Nat.ne_of_gt (blk_lt (g := gb172) (o := .cells #[.int .i64 a0_0, .int .i64 a0_1] 73 (0, 0)) (by (with_reducible repeat (first | refine qN ?_ _ | refine qD ?_ | refine qA ?_ _)); exact BK172.out)) : gb174 ≠ gb172)); have n8_ := qS ((by rw [hg]; exact Nat.ne_of_lt (blk_lt (g := gb173) (o := .cells #[.int .i64 a1_0, .int .i64 a1_1] 73 (0, 0)) (by (with_reducible repeat (first | refine qN ?_ _ | refine qD ?_ | refine qA ?_ _)); exact BK173.out)) : gb173 ≠ gb174)); have n9_ := qS ((by rw [hg]; exact Nat.ne_of_gt (blk_lt (g := gb173) (o := .cells #[.int .i64 a1_0, .int .i64 a1_1] 73 (0, 0)) (by (with_reducible repeat (first | refine qN ?_ _ | refine qD ?_ | refine qA ?_ _)); exact BK173.out)) : gb174 ≠ gb173)); clear BK172; clear BK173; clear HB; have BK172 := n0_; have BK173 := n1_; have HB := n2_; have BK174 := n3_; have GW174 := n4_; have GE174 := n5_; have NB172_174 := n6_; have NB174_172 := n7_; have NB173_174 := n8_; have NB174_173 := n9_; clear n0_ n1_ n2_ n3_ n4_ n5_ n6_ n7_ n8_ n9_; clear hb hbox hg))
 have n0_ := qS (qD BK172.out)
 have n1_ := qS (qD BK173.out)
 have n2_ := qS (qD BK174.out)
 have n3_ := qS (qp1 HB.out)
 clear BK172
 clear BK173
 clear BK174
 clear HB
 have BK172 := n0_
 have BK173 := n1_
 have BK174 := n2_
 have HB := n3_
 clear n0_ n1_ n2_ n3_
 refine start_ (n := 6) (S := fun w' => w'.cell? ⟨gb172, 0, none⟩ = some (.int .i64 a0_0) ∧ w'.cell? ⟨gb172, 1, none⟩ = some (.int .i64 a0_1) ∧ w'.cell? ⟨gb173, 0, none⟩ = some (.int .i64 a1_0) ∧ w'.cell? ⟨gb173, 1, none⟩ = some (.int .i64 a1_1)) (ds := []) #[false, false, false, false, false, false] (by kernel_rfl) rfl rfl ⟨(qC BK172.out 0).trans rfl, (qC BK172.out 1).trans rfl, (qC BK173.out 0).trans rfl, (qC BK173.out 1).trans rfl⟩ (fun hHeld => ?_)
 generalize w9.drew = w10 at BK172 BK173 BK174 HB hHeld ⊢
 refine take_ (i := 0) (N := some 21) (v := ?_) (a' := ?_) #[true, false, false, false, false, false] rfl rfl (by kernel_rfl) (fun _ _ _ h => h) (Or.inl ⟨by rfl, ?_⟩) hHeld ?_ ?_
 rotate_left
 ·rintro w' ⟨s0, s1, s2, s3⟩
  go_simp
  with_reducible rfl
 rotate_left
 ·simp only [Act.put, List.setIfInBounds_toArray, List.set_cons_zero, List.set_cons_succ, i64_w, i32_w]
  rfl
 refine take_ (i := 1) (N := some 22) (v := ?_) (a' := ?_) #[true, true, false, false, false, false] rfl rfl (by kernel_rfl) (fun _ _ _ h => h) (Or.inl ⟨by rfl, ?_⟩) hHeld ?_ ?_
 rotate_left
 ·rintro w' ⟨s0, s1, s2, s3⟩
  go_simp
  with_reducible rfl
 rotate_left
 ·simp only [Act.put, List.setIfInBounds_toArray, List.set_cons_zero, List.set_cons_succ, i64_w, i32_w]
  rfl
 refine join_ (σ := Nat × Nat) 2 #[true, true, true, true, false, false] (fun s_ => [(7, .pointer (some ⟨s_.1, 0, none⟩)), (8, .pointer (some ⟨s_.2, 0, none⟩))]) (fun s_ w' => (w'.cell? ⟨gb172, 0, none⟩ = some (.int .i64 a0_0) ∧ w'.cell? ⟨gb172, 1, none⟩ = some (.int .i64 a0_1) ∧ w'.cell? ⟨gb173, 0, none⟩ = some (.int .i64 a1_0) ∧ w'.cell? ⟨gb173, 1, none⟩ = some (.int .i64 a1_1)) ∧ (w'.heap[gb172]? = some (.cells #[.int .i64 a0_0, .int .i64 a0_1] 73 (0, 0))) ∧ (w'.heap[gb173]? = some (.cells #[.int .i64 a1_0, .int .i64 a1_1] 73 (0, 0))) ∧ (w'.heap[gb174]? = some (.cells #[.int .i32 a2_0, .int .i32 a2_1] 110 (0, 0))) ∧ (w'.heap[s_.1]? = some (.cells #[.int .i64 0, .int .i64 0] 68 (0, 0))) ∧ (w'.heap[s_.2]? = some (.cells #[.int .i64 0, .int .i64 0] 68 (0, 0))) ∧ (w.heap.size ≤ s_.1) ∧ (w.heap.size ≤ s_.1) ∧ (gb172 ≠ s_.1) ∧ (s_.1 ≠ gb172) ∧ (gb173 ≠ s_.1) ∧ (s_.1 ≠ gb173) ∧ (gb174 ≠ s_.1) ∧ (s_.1 ≠ gb174) ∧ (s_.2 ≠ s_.1) ∧ (s_.1 ≠ s_.2) ∧ (w.heap.size ≤ s_.2) ∧ (w.heap.size ≤ s_.2) ∧ (gb172 ≠ s_.2) ∧ (s_.2 ≠ gb172) ∧ (gb173 ≠ s_.2) ∧ (s_.2 ≠ gb173) ∧ (gb174 ≠ s_.2) ∧ (s_.2 ≠ gb174) ∧ (Below w.heap.size w w')) ?_ ?_
 rotate_left
 ·intro hCont
  refine two_ (i := 2) (j := 3) (Ni := some 7) (Nj := some 8) #[true, true, true, false, false, false] #[true, true, false, true, false, false] rfl rfl rfl rfl (by kernel_rfl) (by decide) (by decide) (fun K hK => ?_) (fun K hK => ?_)
  ·skip
   refine box_step ?hg (N := 7) ?hd (cs := #[.int .i64 0, .int .i64 0]) (t := 68) ?hr ?_; (case hd => rfl); (case hg => rfl); (case hr => first | (go_simp; done) | (go_simp; rfl))
   intro gb175 hg w11 hbox hb
   have n0_ := qS (qB (g := gb172) (o := .cells #[.int .i64 a0_0, .int .i64 a0_1] 73 (0, 0)) (by (with_reducible repeat (first | refine qN ?_ _ | refine qD ?_ | refine qA ?_ _)); exact BK172.out) hb)
   have n1_ := qS (qB (g := gb173) (o := .cells #[.int .i64 a1_0, .int .i64 a1_1] 73 (0, 0)) (by (with_reducible repeat (first | refine qN ?_ _ | refine qD ?_ | refine qA ?_ _)); exact BK173.out) hb)
   have n2_ := qS (qB (g := gb174) (o := .cells #[.int .i32 a2_0, .int .i32 a2_1] 110 (0, 0)) (by (with_reducible repeat (first | refine qN ?_ _ | refine qD ?_ | refine qA ?_ _)); exact BK174.out) hb)
   have n3_ := qS (below_step (by repeat (first | (with_reducible first | exact HB.out | apply qpA | apply qpN | apply qp1 | refine qpS ?_ GE172.out | refine qpS ?_ GE173.out | refine qpS ?_ GE174.out) | exact HB.out)) hb)
   have n4_ := qS (hbox)
   have n5_ := qS ((by rw [hg]; exact (below_size (by repeat (first | (with_reducible first | exact HB.out | apply qpA | apply qpN | apply qp1 | refine qpS ?_ GE172.out | refine qpS ?_ GE173.out | refine qpS ?_ GE174.out) | exact HB.out))) : w.heap.size ≤ gb175))
   have n6_ := qS ((by rw [hg]; exact (below_size (by repeat (first | (with_reducible first | exact HB.out | apply qpA | apply qpN | apply qp1 | refine qpS ?_ GE172.out | refine qpS ?_ GE173.out | refine qpS ?_ GE174.out) | exact HB.out))) : w.heap.size ≤ gb175))
   have n7_ := qS ((by rw [hg]; exact Nat.ne_of_lt (blk_lt (g := gb172) (o := .cells #[.int .i64 a0_0, .int .i64 a0_1] 73 (0, 0)) (by (with_reducible repeat (first | refine qN ?_ _ | refine qD ?_ | refine qA ?_ _)); exact BK172.out)) : gb172 ≠ gb175))
   have n8_ := qS ((by rw [hg]; exact Nat.ne_of_gt (blk_lt (g := gb172) (o := .cells #[.int .i64 a0_0, .int .i64 a0_1] 73 (0, 0)) (by (with_reducible repeat (first | refine qN ?_ _ | refine qD ?_ | refine qA ?_ _)); exact BK172.out)) : gb175 ≠ gb172))
   have n9_ := qS ((by rw [hg]; exact Nat.ne_of_lt (blk_lt (g := gb173) (o := .cells #[.int .i64 a1_0, .int .i64 a1_1] 73 (0, 0)) (by (with_reducible repeat (first | refine qN ?_ _ | refine qD ?_ | refine qA ?_ _)); exact BK173.out)) : gb173 ≠ gb175))
   have n10_ := qS ((by rw [hg]; exact Nat.ne_of_gt (blk_lt (g := gb173) (o := .cells #[.int .i64 a1_0, .int .i64 a1_1] 73 (0, 0)) (by (with_reducible repeat (first | refine qN ?_ _ | refine qD ?_ | refine qA ?_ _)); exact BK173.out)) : gb175 ≠ gb173))
   have n11_ := qS ((by rw [hg]; exact Nat.ne_of_lt (blk_lt (g := gb174) (o := .cells #[.int .i32 a2_0, .int .i32 a2_1] 110 (0, 0)) (by (with_reducible repeat (first | refine qN ?_ _ | refine qD ?_ | refine qA ?_ _)); exact BK174.out)) : gb174 ≠ gb175))
   have n12_ := qS ((by rw [hg]; exact Nat.ne_of_gt (blk_lt (g := gb174) (o := .cells #[.int .i32 a2_0, .int .i32 a2_1] 110 (0, 0)) (by (with_reducible repeat (first | refine qN ?_ _ | refine qD ?_ | refine qA ?_ _)); exact BK174.out)) : gb175 ≠ gb174))
   clear BK172
   clear BK173
   clear BK174
   clear HB
   have BK172 := n0_
   have BK173 := n1_
   have BK174 := n2_
   have HB := n3_
   have BK175 := n4_
   have GW175 := n5_
   have GE175 := n6_
   have NB172_175 := n7_
   have NB175_172 := n8_
   have NB173_175 := n9_
   have NB175_173 := n10_
   have NB174_175 := n11_
   have NB175_174 := n12_
   clear n0_ n1_ n2_ n3_ n4_ n5_ n6_ n7_ n8_ n9_ n10_ n11_ n12_
   clear hb hbox hg
   refine hK.out _ _ ⟨(qC BK172.out 0).trans rfl, (qC BK172.out 1).trans rfl, (qC BK173.out 0).trans rfl, (qC BK173.out 1).trans rfl⟩ (fun hHeld => ?_)
   clear hK K
   refine norm_ (a' := ?_) ?_ ?_
   rotate_left
   ·show Act.put _ (some 7) _ = _
    simp only [Act.put, List.setIfInBounds_toArray, List.set_cons_zero, List.set_cons_succ, i64_w, i32_w]
    rfl
   refine one_ (i := 3) (N := some 8) #[true, true, true, true, false, false] rfl rfl (by kernel_rfl) (by decide) (fun K hK => ?_)
   refine box_step ?hg (N := 8) ?hd (cs := #[.int .i64 0, .int .i64 0]) (t := 68) ?hr ?_; (case hd => rfl); (case hg => rfl); (case hr => first | (go_simp; done) | (go_simp; rfl))
   intro gb176 hg w12 hbox hb
   have n0_ := qS (qB (g := gb172) (o := .cells #[.int .i64 a0_0, .int .i64 a0_1] 73 (0, 0)) (by (with_reducible repeat (first | refine qN ?_ _ | refine qD ?_ | refine qA ?_ _)); exact BK172.out) hb)
   have n1_ := qS (qB (g := gb173) (o := .cells #[.int .i64 a1_0, .int .i64 a1_1] 73 (0, 0)) (by (with_reducible repeat (first | refine qN ?_ _ | refine qD ?_ | refine qA ?_ _)); exact BK173.out) hb)
   have n2_ := qS (qB (g := gb174) (o := .cells #[.int .i32 a2_0, .int .i32 a2_1] 110 (0, 0)) (by (with_reducible repeat (first | refine qN ?_ _ | refine qD ?_ | refine qA ?_ _)); exact BK174.out) hb)
   have n3_ := qS (qB (g := gb175) (o := .cells #[.int .i64 0, .int .i64 0] 68 (0, 0)) (by (with_reducible repeat (first | refine qN ?_ _ | refine qD ?_ | refine qA ?_ _)); exact BK175.out) hb)
   have n4_ := qS (below_step (by repeat (first | (with_reducible first | exact HB.out | apply qpA | apply qpN | apply qp1 | refine qpS ?_ GE172.out | refine qpS ?_ GE173.out | refine qpS ?_ GE174.out | refine qpS ?_ GE175.out) | exact HB.out)) hb)
   have n5_ := qS (hbox)
   have n6_ := qS ((by rw [hg]; exact (below_size (by repeat (first | (with_reducible first | exact HB.out | apply qpA | apply qpN | apply qp1 | refine qpS ?_ GE172.out | refine qpS ?_ GE173.out | refine qpS ?_ GE174.out | refine qpS ?_ GE175.out) | exact HB.out))) : w.heap.size ≤ gb176))
   have n7_ := qS ((by rw [hg]; exact (below_size (by repeat (first | (with_reducible first | exact HB.out | apply qpA | apply qpN | apply qp1 | refine qpS ?_ GE172.out | refine qpS ?_ GE173.out | refine qpS ?_ GE174.out | refine qpS ?_ GE175.out) | exact HB.out))) : w.heap.size ≤ gb176))
   have n8_ := qS ((by rw [hg]; exact Nat.ne_of_lt (blk_lt (g := gb172) (o := .cells #[.int .i64 a0_0, .int .i64 a0_1] 73 (0, 0)) (by (with_reducible repeat (first | refine qN ?_ _ | refine qD ?_ | refine qA ?_ _)); exact BK172.out)) : gb172 ≠ gb176))
   have n9_ := qS ((by rw [hg]; exact Nat.ne_of_gt (blk_lt (g := gb172) (o := .cells #[.int .i64 a0_0, .int .i64 a0_1] 73 (0, 0)) (by (with_reducible repeat (first | refine qN ?_ _ | refine qD ?_ | refine qA ?_ _)); exact BK172.out)) : gb176 ≠ gb172))
   have n10_ := qS ((by rw [hg]; exact Nat.ne_of_lt (blk_lt (g := gb173) (o := .cells #[.int .i64 a1_0, .int .i64 a1_1] 73 (0, 0)) (by (with_reducible repeat (first | refine qN ?_ _ | refine qD ?_ | refine qA ?_ _)); exact BK173.out)) : gb173 ≠ gb176))
   have n11_ := qS ((by rw [hg]; exact Nat.ne_of_gt (blk_lt (g := gb173) (o := .cells #[.int .i64 a1_0, .int .i64 a1_1] 73 (0, 0)) (by (with_reducible repeat (first | refine qN ?_ _ | refine qD ?_ | refine qA ?_ _)); exact BK173.out)) : gb176 ≠ gb173))
   have n12_ := qS ((by rw [hg]; exact Nat.ne_of_lt (blk_lt (g := gb174) (o := .cells #[.int .i32 a2_0, .int .i32 a2_1] 110 (0, 0)) (by (with_reducible repeat (first | refine qN ?_ _ | refine qD ?_ | refine qA ?_ _)); exact BK174.out)) : gb174 ≠ gb176))
   have n13_ := qS ((by rw [hg]; exact Nat.ne_of_gt (blk_lt (g := gb174) (o := .cells #[.int .i32 a2_0, .int .i32 a2_1] 110 (0, 0)) (by (with_reducible repeat (first | refine qN ?_ _ | refine qD ?_ | refine qA ?_ _)); exact BK174.out)) : gb176 ≠ gb174))
   have n14_ := qS ((by rw [hg]; exact Nat.ne_of_lt (blk_lt (g := gb175) (o := .cells #[.int .i64 0, .int .i64 0] 68 (0, 0)) (by (with_reducible repeat (first | refine qN ?_ _ | refine qD ?_ | refine qA ?_ _)); exact BK175.out)) : gb175 ≠ gb176))
   have n15_ := qS ((by rw [hg]; exact Nat.ne_of_gt (blk_lt (g := gb175) (o := .cells #[.int .i64 0, .int .i64 0] 68 (0, 0)) (by (with_reducible repeat (first | refine qN ?_ _ | refine qD ?_ | refine qA ?_ _)); exact BK175.out)) : gb176 ≠ gb175))
   clear BK172
   clear BK173
   clear BK174
   clear BK175
   clear HB
   have BK172 := n0_
   have BK173 := n1_
   have BK174 := n2_
   have BK175 := n3_
   have HB := n4_
   have BK176 := n5_
   have GW176 := n6_
   have GE176 := n7_
   have NB172_176 := n8_
   have NB176_172 := n9_
   have NB173_176 := n10_
   have NB176_173 := n11_
   have NB174_176 := n12_
   have NB176_174 := n13_
   have NB175_176 := n14_
   have NB176_175 := n15_
   clear n0_ n1_ n2_ n3_ n4_ n5_ n6_ n7_ n8_ n9_ n10_ n11_ n12_ n13_ n14_ n15_
   clear hb hbox hg
   refine hK.out _ _ ⟨(qC BK172.out 0).trans rfl, (qC BK172.out 1).trans rfl, (qC BK173.out 0).trans rfl, (qC BK173.out 1).trans rfl⟩ (fun hHeld => ?_)
   clear hK K
   refine norm_ (a' := ?_) ?_ ?_
   rotate_left
   ·show Act.put _ (some 8) _ = _
    simp only [Act.put, List.setIfInBounds_toArray, List.set_cons_zero, List.set_cons_succ, i64_w, i32_w]
    rfl
   exact norm_ (by simp only [putAll, Act.put, List.setIfInBounds_toArray, List.set_cons_zero, List.set_cons_succ]) (hCont (gb175, gb176) _ ⟨hHeld, (by (with_reducible repeat (first | refine qN ?_ _ | refine qD ?_ | refine qA ?_ _)); exact BK172.out), (by (with_reducible repeat (first | refine qN ?_ _ | refine qD ?_ | refine qA ?_ _)); exact BK173.out), (by (with_reducible repeat (first | refine qN ?_ _ | refine qD ?_ | refine qA ?_ _)); exact BK174.out), (by (with_reducible repeat (first | refine qN ?_ _ | refine qD ?_ | refine qA ?_ _)); exact BK175.out), (by (with_reducible repeat (first | refine qN ?_ _ | refine qD ?_ | refine qA ?_ _)); exact BK176.out), GW175.out, GE175.out, NB172_175.out, NB175_172.out, NB173_175.out, NB175_173.out, NB174_175.out, NB175_174.out, NB176_175.out, NB175_176.out, GW176.out, GE176.out, NB172_176.out, NB176_172.out, NB173_176.out, NB176_173.out, NB174_176.out, NB176_174.out, (by repeat (first | (with_reducible first | exact HB.out | apply qpA | apply qpN | apply qp1 | refine qpS ?_ GE172.out | refine qpS ?_ GE173.out | refine qpS ?_ GE174.out | refine qpS ?_ GE175.out | refine qpS ?_ GE176.out) | exact HB.out))⟩)
  ·skip
   refine box_step ?hg (N := 8) ?hd (cs := #[.int .i64 0, .int .i64 0]) (t := 68) ?hr ?_; (case hd => rfl); (case hg => rfl); (case hr => first | (go_simp; done) | (go_simp; rfl))
   intro gb176 hg w11 hbox hb
   have n0_ := qS (qB (g := gb172) (o := .cells #[.int .i64 a0_0, .int .i64 a0_1] 73 (0, 0)) (by (with_reducible repeat (first | refine qN ?_ _ | refine qD ?_ | refine qA ?_ _)); exact BK172.out) hb)
   have n1_ := qS (qB (g := gb173) (o := .cells #[.int .i64 a1_0, .int .i64 a1_1] 73 (0, 0)) (by (with_reducible repeat (first | refine qN ?_ _ | refine qD ?_ | refine qA ?_ _)); exact BK173.out) hb)
   have n2_ := qS (qB (g := gb174) (o := .cells #[.int .i32 a2_0, .int .i32 a2_1] 110 (0, 0)) (by (with_reducible repeat (first | refine qN ?_ _ | refine qD ?_ | refine qA ?_ _)); exact BK174.out) hb)
   have n3_ := qS (below_step (by repeat (first | (with_reducible first | exact HB.out | apply qpA | apply qpN | apply qp1 | refine qpS ?_ GE172.out | refine qpS ?_ GE173.out | refine qpS ?_ GE174.out) | exact HB.out)) hb)
   have n4_ := qS (hbox)
   have n5_ := qS ((by rw [hg]; exact (below_size (by repeat (first | (with_reducible first | exact HB.out | apply qpA | apply qpN | apply qp1 | refine qpS ?_ GE172.out | refine qpS ?_ GE173.out | refine qpS ?_ GE174.out) | exact HB.out))) : w.heap.size ≤ gb176))
   have n6_ := qS ((by rw [hg]; exact (below_size (by repeat (first | (with_reducible first | exact HB.out | apply qpA | apply qpN | apply qp1 | refine qpS ?_ GE172.out | refine qpS ?_ GE173.out | refine qpS ?_ GE174.out) | exact HB.out))) : w.heap.size ≤ gb176))
   have n7_ := qS ((by rw [hg]; exact Nat.ne_of_lt (blk_lt (g := gb172) (o := .cells #[.int .i64 a0_0, .int .i64 a0_1] 73 (0, 0)) (by (with_reducible repeat (first | refine qN ?_ _ | refine qD ?_ | refine qA ?_ _)); exact BK172.out)) : gb172 ≠ gb176))
   have n8_ := qS ((by rw [hg]; exact Nat.ne_of_gt (blk_lt (g := gb172) (o := .cells #[.int .i64 a0_0, .int .i64 a0_1] 73 (0, 0)) (by (with_reducible repeat (first | refine qN ?_ _ | refine qD ?_ | refine qA ?_ _)); exact BK172.out)) : gb176 ≠ gb172))
   have n9_ := qS ((by rw [hg]; exact Nat.ne_of_lt (blk_lt (g := gb173) (o := .cells #[.int .i64 a1_0, .int .i64 a1_1] 73 (0, 0)) (by (with_reducible repeat (first | refine qN ?_ _ | refine qD ?_ | refine qA ?_ _)); exact BK173.out)) : gb173 ≠ gb176))
   have n10_ := qS ((by rw [hg]; exact Nat.ne_of_gt (blk_lt (g := gb173) (o := .cells #[.int .i64 a1_0, .int .i64 a1_1] 73 (0, 0)) (by (with_reducible repeat (first | refine qN ?_ _ | refine qD ?_ | refine qA ?_ _)); exact BK173.out)) : gb176 ≠ gb173))
   have n11_ := qS ((by rw [hg]; exact Nat.ne_of_lt (blk_lt (g := gb174) (o := .cells #[.int .i32 a2_0, .int .i32 a2_1] 110 (0, 0)) (by (with_reducible repeat (first | refine qN ?_ _ | refine qD ?_ | refine qA ?_ _)); exact BK174.out)) : gb174 ≠ gb176))
   have n12_ := qS ((by rw [hg]; exact Nat.ne_of_gt (blk_lt (g := gb174) (o := .cells #[.int .i32 a2_0, .int .i32 a2_1] 110 (0, 0)) (by (with_reducible repeat (first | refine qN ?_ _ | refine qD ?_ | refine qA ?_ _)); exact BK174.out)) : gb176 ≠ gb174))
   clear BK172
   clear BK173
   clear BK174
   clear HB
   have BK172 := n0_
   have BK173 := n1_
   have BK174 := n2_
   have HB := n3_
   have BK176 := n4_
   have GW176 := n5_
   have GE176 := n6_
   have NB172_176 := n7_
   have NB176_172 := n8_
   have NB173_176 := n9_
   have NB176_173 := n10_
   have NB174_176 := n11_
   have NB176_174 := n12_
   clear n0_ n1_ n2_ n3_ n4_ n5_ n6_ n7_ n8_ n9_ n10_ n11_ n12_
   clear hb hbox hg
   refine hK.out _ _ ⟨(qC BK172.out 0).trans rfl, (qC BK172.out 1).trans rfl, (qC BK173.out 0).trans rfl, (qC BK173.out 1).trans rfl⟩ (fun hHeld => ?_)
   clear hK K
   refine norm_ (a' := ?_) ?_ ?_
   rotate_left
   ·show Act.put _ (some 8) _ = _
    simp only [Act.put, List.setIfInBounds_toArray, List.set_cons_zero, List.set_cons_succ, i64_w, i32_w]
    rfl
   refine one_ (i := 2) (N := some 7) #[true, true, true, true, false, false] rfl rfl (by kernel_rfl) (by decide) (fun K hK => ?_)
   refine box_step ?hg (N := 7) ?hd (cs := #[.int .i64 0, .int .i64 0]) (t := 68) ?hr ?_; (case hd => rfl); (case hg => rfl); (case hr => first | (go_simp; done) | (go_simp; rfl))
   intro gb175 hg w12 hbox hb
   have n0_ := qS (qB (g := gb172) (o := .cells #[.int .i64 a0_0, .int .i64 a0_1] 73 (0, 0)) (by (with_reducible repeat (first | refine qN ?_ _ | refine qD ?_ | refine qA ?_ _)); exact BK172.out) hb)
   have n1_ := qS (qB (g := gb173) (o := .cells #[.int .i64 a1_0, .int .i64 a1_1] 73 (0, 0)) (by (with_reducible repeat (first | refine qN ?_ _ | refine qD ?_ | refine qA ?_ _)); exact BK173.out) hb)
   have n2_ := qS (qB (g := gb174) (o := .cells #[.int .i32 a2_0, .int .i32 a2_1] 110 (0, 0)) (by (with_reducible repeat (first | refine qN ?_ _ | refine qD ?_ | refine qA ?_ _)); exact BK174.out) hb)
   have n3_ := qS (qB (g := gb176) (o := .cells #[.int .i64 0, .int .i64 0] 68 (0, 0)) (by (with_reducible repeat (first | refine qN ?_ _ | refine qD ?_ | refine qA ?_ _)); exact BK176.out) hb)
   have n4_ := qS (below_step (by repeat (first | (with_reducible first | exact HB.out | apply qpA | apply qpN | apply qp1 | refine qpS ?_ GE172.out | refine qpS ?_ GE173.out | refine qpS ?_ GE174.out | refine qpS ?_ GE176.out) | exact HB.out)) hb)
   have n5_ := qS (hbox)
   have n6_ := qS ((by rw [hg]; exact (below_size (by repeat (first | (with_reducible first | exact HB.out | apply qpA | apply qpN | apply qp1 | refine qpS ?_ GE172.out | refine qpS ?_ GE173.out | refine qpS ?_ GE174.out | refine qpS ?_ GE176.out) | exact HB.out))) : w.heap.size ≤ gb175))
   have n7_ := qS ((by rw [hg]; exact (below_size (by repeat (first | (with_reducible first | exact HB.out | apply qpA | apply qpN | apply qp1 | refine qpS ?_ GE172.out | refine qpS ?_ GE173.out | refine qpS ?_ GE174.out | refine qpS ?_ GE176.out) | exact HB.out))) : w.heap.size ≤ gb175))
   have n8_ := qS ((by rw [hg]; exact Nat.ne_of_lt (blk_lt (g := gb172) (o := .cells #[.int .i64 a0_0, .int .i64 a0_1] 73 (0, 0)) (by (with_reducible repeat (first | refine qN ?_ _ | refine qD ?_ | refine qA ?_ _)); exact BK172.out)) : gb172 ≠ gb175))
   have n9_ := qS ((by rw [hg]; exact Nat.ne_of_gt (blk_lt (g := gb172) (o := .cells #[.int .i64 a0_0, .int .i64 a0_1] 73 (0, 0)) (by (with_reducible repeat (first | refine qN ?_ _ | refine qD ?_ | refine qA ?_ _)); exact BK172.out)) : gb175 ≠ gb172))
   have n10_ := qS ((by rw [hg]; exact Nat.ne_of_lt (blk_lt (g := gb173) (o := .cells #[.int .i64 a1_0, .int .i64 a1_1] 73 (0, 0)) (by (with_reducible repeat (first | refine qN ?_ _ | refine qD ?_ | refine qA ?_ _)); exact BK173.out)) : gb173 ≠ gb175))
   have n11_ := qS ((by rw [hg]; exact Nat.ne_of_gt (blk_lt (g := gb173) (o := .cells #[.int .i64 a1_0, .int .i64 a1_1] 73 (0, 0)) (by (with_reducible repeat (first | refine qN ?_ _ | refine qD ?_ | refine qA ?_ _)); exact BK173.out)) : gb175 ≠ gb173))
   have n12_ := qS ((by rw [hg]; exact Nat.ne_of_lt (blk_lt (g := gb174) (o := .cells #[.int .i32 a2_0, .int .i32 a2_1] 110 (0, 0)) (by (with_reducible repeat (first | refine qN ?_ _ | refine qD ?_ | refine qA ?_ _)); exact BK174.out)) : gb174 ≠ gb175))
   have n13_ := qS ((by rw [hg]; exact Nat.ne_of_gt (blk_lt (g := gb174) (o := .cells #[.int .i32 a2_0, .int .i32 a2_1] 110 (0, 0)) (by (with_reducible repeat (first | refine qN ?_ _ | refine qD ?_ | refine qA ?_ _)); exact BK174.out)) : gb175 ≠ gb174))
   have n14_ := qS ((by rw [hg]; exact Nat.ne_of_lt (blk_lt (g := gb176) (o := .cells #[.int .i64 0, .int .i64 0] 68 (0, 0)) (by (with_reducible repeat (first | refine qN ?_ _ | refine qD ?_ | refine qA ?_ _)); exact BK176.out)) : gb176 ≠ gb175))
   have n15_ := qS ((by rw [hg]; exact Nat.ne_of_gt (blk_lt (g := gb176) (o := .cells #[.int .i64 0, .int .i64 0] 68 (0, 0)) (by (with_reducible repeat (first | refine qN ?_ _ | refine qD ?_ | refine qA ?_ _)); exact BK176.out)) : gb175 ≠ gb176))
   clear BK172
   clear BK173
   clear BK174
   clear BK176
   clear HB
   have BK172 := n0_
   have BK173 := n1_
   have BK174 := n2_
   have BK176 := n3_
   have HB := n4_
   have BK175 := n5_
   have GW175 := n6_
   have GE175 := n7_
   have NB172_175 := n8_
   have NB175_172 := n9_
   have NB173_175 := n10_
   have NB175_173 := n11_
   have NB174_175 := n12_
   have NB175_174 := n13_
   have NB176_175 := n14_
   have NB175_176 := n15_
   clear n0_ n1_ n2_ n3_ n4_ n5_ n6_ n7_ n8_ n9_ n10_ n11_ n12_ n13_ n14_ n15_
   clear hb hbox hg
   refine hK.out _ _ ⟨(qC BK172.out 0).trans rfl, (qC BK172.out 1).trans rfl, (qC BK173.out 0).trans rfl, (qC BK173.out 1).trans rfl⟩ (fun hHeld => ?_)
   clear hK K
   refine norm_ (a' := ?_) ?_ ?_
   rotate_left
   ·show Act.put _ (some 7) _ = _
    simp only [Act.put, List.setIfInBounds_toArray, List.set_cons_zero, List.set_cons_succ, i64_w, i32_w]
    rfl
   exact norm_ (by simp only [putAll, Act.put, List.setIfInBounds_toArray, List.set_cons_zero, List.set_cons_succ]) (hCont (gb175, gb176) _ ⟨hHeld, (by (with_reducible repeat (first | refine qN ?_ _ | refine qD ?_ | refine qA ?_ _)); exact BK172.out), (by (with_reducible repeat (first | refine qN ?_ _ | refine qD ?_ | refine qA ?_ _)); exact BK173.out), (by (with_reducible repeat (first | refine qN ?_ _ | refine qD ?_ | refine qA ?_ _)); exact BK174.out), (by (with_reducible repeat (first | refine qN ?_ _ | refine qD ?_ | refine qA ?_ _)); exact BK175.out), (by (with_reducible repeat (first | refine qN ?_ _ | refine qD ?_ | refine qA ?_ _)); exact BK176.out), GW175.out, GE175.out, NB172_175.out, NB175_172.out, NB173_175.out, NB175_173.out, NB174_175.out, NB175_174.out, NB176_175.out, NB175_176.out, GW176.out, GE176.out, NB172_176.out, NB176_172.out, NB173_176.out, NB176_173.out, NB174_176.out, NB176_174.out, (by repeat (first | (with_reducible first | exact HB.out | apply qpA | apply qpN | apply qp1 | refine qpS ?_ GE172.out | refine qpS ?_ GE173.out | refine qpS ?_ GE174.out | refine qpS ?_ GE176.out | refine qpS ?_ GE175.out) | exact HB.out))⟩)
 rintro ⟨gb175, gb176⟩ w13 ⟨hS_, h0_, h1_, h2_, h3_, h4_, h5_, h6_, h7_, h8_, h9_, h10_, h11_, h12_, h13_, h14_, h15_, h16_, h17_, h18_, h19_, h20_, h21_, h22_, h23_⟩
 have n0_ : Aside0 (w13.heap[gb172]? = some (.cells #[.int .i64 a0_0, .int .i64 a0_1] 73 (0, 0))) := ⟨h0_⟩
 have n1_ : Aside0 (w13.heap[gb173]? = some (.cells #[.int .i64 a1_0, .int .i64 a1_1] 73 (0, 0))) := ⟨h1_⟩
 have n2_ : Aside0 (w13.heap[gb174]? = some (.cells #[.int .i32 a2_0, .int .i32 a2_1] 110 (0, 0))) := ⟨h2_⟩
 have n3_ : Aside0 (w13.heap[gb175]? = some (.cells #[.int .i64 0, .int .i64 0] 68 (0, 0))) := ⟨h3_⟩
 have n4_ : Aside0 (w13.heap[gb176]? = some (.cells #[.int .i64 0, .int .i64 0] 68 (0, 0))) := ⟨h4_⟩
 have n5_ : Aside0 (w.heap.size ≤ gb175) := ⟨h5_⟩
 have n6_ : Aside0 (w.heap.size ≤ gb175) := ⟨h6_⟩
 have n7_ : Aside0 (gb172 ≠ gb175) := ⟨h7_⟩
 have n8_ : Aside0 (gb175 ≠ gb172) := ⟨h8_⟩
 have n9_ : Aside0 (gb173 ≠ gb175) := ⟨h9_⟩
 have n10_ : Aside0 (gb175 ≠ gb173) := ⟨h10_⟩
 have n11_ : Aside0 (gb174 ≠ gb175) := ⟨h11_⟩
 have n12_ : Aside0 (gb175 ≠ gb174) := ⟨h12_⟩
 have n13_ : Aside0 (gb176 ≠ gb175) := ⟨h13_⟩
 have n14_ : Aside0 (gb175 ≠ gb176) := ⟨h14_⟩
 have n15_ : Aside0 (w.heap.size ≤ gb176) := ⟨h15_⟩
 have n16_ : Aside0 (w.heap.size ≤ gb176) := ⟨h16_⟩
 have n17_ : Aside0 (gb172 ≠ gb176) := ⟨h17_⟩
 have n18_ : Aside0 (gb176 ≠ gb172) := ⟨h18_⟩
 have n19_ : Aside0 (gb173 ≠ gb176) := ⟨h19_⟩
 have n20_ : Aside0 (gb176 ≠ gb173) := ⟨h20_⟩
 have n21_ : Aside0 (gb174 ≠ gb176) := ⟨h21_⟩
 have n22_ : Aside0 (gb176 ≠ gb174) := ⟨h22_⟩
 have n23_ : Aside0 (Below w.heap.size w w13) := ⟨h23_⟩
 clear BK172
 clear BK173
 clear BK174
 clear HB
 clear h0_ h1_ h2_ h3_ h4_ h5_ h6_ h7_ h8_ h9_ h10_ h11_ h12_ h13_ h14_ h15_ h16_ h17_ h18_ h19_ h20_ h21_ h22_ h23_
 have BK172 := n0_
 have BK173 := n1_
 have BK174 := n2_
 have BK175 := n3_
 have BK176 := n4_
 have GW175 := n5_
 have GE175 := n6_
 have NB172_175 := n7_
 have NB175_172 := n8_
 have NB173_175 := n9_
 have NB175_173 := n10_
 have NB174_175 := n11_
 have NB175_174 := n12_
 have NB176_175 := n13_
 have NB175_176 := n14_
 have GW176 := n15_
 have GE176 := n16_
 have NB172_176 := n17_
 have NB176_172 := n18_
 have NB173_176 := n19_
 have NB176_173 := n20_
 have NB174_176 := n21_
 have NB176_174 := n22_
 have HB := n23_
 clear n0_ n1_ n2_ n3_ n4_ n5_ n6_ n7_ n8_ n9_ n10_ n11_ n12_ n13_ n14_ n15_ n16_ n17_ n18_ n19_ n20_ n21_ n22_ n23_
 have hHeld : w13.cell? ⟨gb172, 0, none⟩ = some (.int .i64 a0_0) ∧ w13.cell? ⟨gb172, 1, none⟩ = some (.int .i64 a0_1) ∧ w13.cell? ⟨gb173, 0, none⟩ = some (.int .i64 a1_0) ∧ w13.cell? ⟨gb173, 1, none⟩ = some (.int .i64 a1_1) := hS_
 refine norm_ (a' := ?_) ?_ ?_
 rotate_left
 ·simp only [putAll, Act.put, List.setIfInBounds_toArray, List.set_cons_zero, List.set_cons_succ]
  rfl
 refine one_ (i := 4) (N := none) #[true, true, true, true, true, false] rfl rfl (by kernel_rfl) (by decide) (fun K hK => ?_)
 have hs14 : w13.cell? ⟨gb175, 0, none⟩ = some (.int .i64 0) := (qC BK175.out 0).trans rfl
 have hfs14 := qF BK175.out 0
 have hns14_0 := NB172_175.out
 have hns14_1 := NB173_175.out
 have hns14_2 := NB174_175.out
 have hns14_4 := NB176_175.out
 have hms14_0 := NB175_172.out
 have hms14_1 := NB175_173.out
 have hms14_2 := NB175_174.out
 have hms14_4 := NB175_176.out
 have hs15 : w13.cell? ⟨gb175, 1, none⟩ = some (.int .i64 0) := (qC BK175.out 1).trans rfl
 have hfs15 := qF BK175.out 1
 have hns15_0 := NB172_175.out
 have hns15_1 := NB173_175.out
 have hns15_2 := NB174_175.out
 have hns15_4 := NB176_175.out
 have hms15_0 := NB175_172.out
 have hms15_1 := NB175_173.out
 have hms15_2 := NB175_174.out
 have hms15_4 := NB175_176.out
 refine skip_ (w1 := ?_) (by rfl) rfl ?_ ?_
 rotate_left
 ·go_simp
  rfl
 refine hK.out _ _ ⟨((cell_far (p := ⟨gb175, _, none⟩) NB172_175.out _).trans (((cell_far (p := ⟨gb175, _, none⟩) NB172_175.out _).trans (hHeld.1)))), ((cell_far (p := ⟨gb175, _, none⟩) NB172_175.out _).trans (((cell_far (p := ⟨gb175, _, none⟩) NB172_175.out _).trans (hHeld.2.1)))), ((cell_far (p := ⟨gb175, _, none⟩) NB173_175.out _).trans (((cell_far (p := ⟨gb175, _, none⟩) NB173_175.out _).trans (hHeld.2.2.1)))), ((cell_far (p := ⟨gb175, _, none⟩) NB173_175.out _).trans (((cell_far (p := ⟨gb175, _, none⟩) NB173_175.out _).trans (hHeld.2.2.2))))⟩ (fun hHeld => ?_)
 clear hK K
 refine one_ (i := 5) (N := none) #[true, true, true, true, true, true] rfl rfl (by kernel_rfl) (by decide) (fun K hK => ?_)
 have hs16 : w13.cell? ⟨gb176, 0, none⟩ = some (.int .i64 0) := (qC BK176.out 0).trans rfl
 have hfs16 := qF BK176.out 0
 have hns16_0 := NB172_176.out
 have hns16_1 := NB173_176.out
 have hns16_2 := NB174_176.out
 have hns16_3 := NB175_176.out
 have hms16_0 := NB176_172.out
 have hms16_1 := NB176_173.out
 have hms16_2 := NB176_174.out
 have hms16_3 := NB176_175.out
 have hs17 : w13.cell? ⟨gb176, 1, none⟩ = some (.int .i64 0) := (qC BK176.out 1).trans rfl
 have hfs17 := qF BK176.out 1
 have hns17_0 := NB172_176.out
 have hns17_1 := NB173_176.out
 have hns17_2 := NB174_176.out
 have hns17_3 := NB175_176.out
 have hms17_0 := NB176_172.out
 have hms17_1 := NB176_173.out
 have hms17_2 := NB176_174.out
 have hms17_3 := NB176_175.out
 refine skip_ (w1 := ?_) (by rfl) rfl ?_ ?_
 rotate_left
 ·go_simp
  rfl
 refine hK.out _ _ ⟨((cell_far (p := ⟨gb176, _, none⟩) NB172_176.out _).trans (((cell_far (p := ⟨gb176, _, none⟩) NB172_176.out _).trans (hHeld.1)))), ((cell_far (p := ⟨gb176, _, none⟩) NB172_176.out _).trans (((cell_far (p := ⟨gb176, _, none⟩) NB172_176.out _).trans (hHeld.2.1)))), ((cell_far (p := ⟨gb176, _, none⟩) NB173_176.out _).trans (((cell_far (p := ⟨gb176, _, none⟩) NB173_176.out _).trans (hHeld.2.2.1)))), ((cell_far (p := ⟨gb176, _, none⟩) NB173_176.out _).trans (((cell_far (p := ⟨gb176, _, none⟩) NB173_176.out _).trans (hHeld.2.2.2))))⟩ (fun hHeld => ?_)
 clear hK K
 refine done_ (by kernel_rfl) ?_
 have hnb18 := NB175_172.out
 have hnc18 := NB172_175.out
 have hnb19 := NB175_173.out
 have hnc19 := NB173_175.out
 have hnb20 := NB175_174.out
 have hnc20 := NB174_175.out
 have hnb21 := NB175_176.out
 have hnc21 := NB176_175.out
 have hcz22_0 : w13.cell? ⟨gb175, 0, none⟩ = some (.int .i64 0) := (qC BK175.out 0).trans rfl
 have hcz22_1 : w13.cell? ⟨gb175, 1, none⟩ = some (.int .i64 0) := (qC BK175.out 1).trans rfl
 have hfz22_0 := qF BK175.out 0
 have hfz22_1 := qF BK175.out 1
 have hnb23 := NB176_172.out
 have hnc23 := NB172_176.out
 have hnb24 := NB176_173.out
 have hnc24 := NB173_176.out
 have hnb25 := NB176_174.out
 have hnc25 := NB174_176.out
 have hcz26_0 : w13.cell? ⟨gb176, 0, none⟩ = some (.int .i64 0) := (qC BK176.out 0).trans rfl
 have hcz26_1 : w13.cell? ⟨gb176, 1, none⟩ = some (.int .i64 0) := (qC BK176.out 1).trans rfl
 have hfz26_0 := qF BK176.out 0
 have hfz26_1 := qF BK176.out 1
 go_upto_region 5 with (first | ((with_reducible refine gate_callee (f := 50) rfl ?_); refine goesL_ (some 26) rfl rfl Tryd.func50 (by kernel_rfl) rfl #[.agg #[.int .i64 a0_0, .int .i64 a0_1], .agg #[.int .i64 a1_0, .int .i64 a1_1]] rfl (by (try simp only [List.map_toArray, List.map_cons, List.map_nil]); first | done | rfl | (simp only [*]; done) | (simp only [List.length_drop, List.length_take]; rfl)) ?_; (with_reducible refine (span_Meet.calls a0_0 a0_1 a1_0 a1_1 t177 t178 t179 _ A4.out).mono ?_); rintro e w27 ⟨rfl, hb⟩; refine ⟨_, rfl, ?_⟩; have n0_ := qS (qB (g := gb172) (o := .cells #[.int .i64 a0_0, .int .i64 a0_1] 73 (0, 0)) (by (with_reducible repeat (first | refine qN ?_ _ | refine qD ?_ | refine qA ?_ _)); refine blk_far ?_ NB172_176.out _; (with_reducible repeat (first | refine qN ?_ _ | refine qD ?_ | refine qA ?_ _)); refine blk_far ?_ NB172_176.out _; (with_reducible repeat (first | refine qN ?_ _ | refine qD ?_ | refine qA ?_ _)); refine blk_far ?_ NB172_175.out _; (with_reducible repeat (first | refine qN ?_ _ | refine qD ?_ | refine qA ?_ _)); refine blk_far ?_ NB172_175.out _; (with_reducible repeat (first | refine qN ?_ _ | refine qD ?_ | refine qA ?_ _)); exact BK172.out) hb); have n1_ := qS (qB (g := gb173) (o := .cells #[.int .i64 a1_0, .int .i64 a1_1] 73 (0, 0)) (by (with_reducible repeat (first | refine qN ?_ _ | refine qD ?_ | refine qA ?_ _)); refine blk_far ?_ NB173_176.out _; (with_reducible repeat (first | refine qN ?_ _ | refine qD ?_ | refine qA ?_ _)); refine blk_far ?_ NB173_176.out _; (with_reducible repeat (first | refine qN ?_ _ | refine qD ?_ | refine qA ?_ _)); refine blk_far ?_ NB173_175.out _; (with_reducible repeat (first | refine qN ?_ _ | refine qD ?_ | refine qA ?_ _)); refine blk_far ?_ NB173_175.out _; (with_reducible repeat (first | refine qN ?_ _ | refine qD ?_ | refine qA ?_ _)); exact BK173.out) hb); have n2_ := qS (qB (g := gb174) (o := .cells #[.int .i32 a2_0, .int .i32 a2_1] 110 (0, 0)) (by (with_reducible repeat (first | refine qN ?_ _ | refine qD ?_ | refine qA ?_ _)); refine blk_far ?_ NB174_176.out _; (with_reducible repeat (first | refine qN ?_ _ | refine qD ?_ | refine qA ?_ _)); refine blk_far ?_ NB174_176.out _; (with_reducible repeat (first | refine qN ?_ _ | refine qD ?_ | refine qA ?_ _)); refine blk_far ?_ NB174_175.out _; (with_reducible repeat (first | refine qN ?_ _ | refine qD ?_ | refine qA ?_ _)); refine blk_far ?_ NB174_175.out _; (with_reducible repeat (first | refine qN ?_ _ | refine qD ?_ | refine qA ?_ _)); exact BK174.out) hb); have n3_ := qS (qB (g := gb175) (o := .cells #[.int .i64 a0_0, .int .i64 a0_1] 68 (0, 0)) (by (with_reducible repeat (first | refine qN ?_ _ | refine qD ?_ | refine qA ?_ _)); refine blk_far ?_ NB175_176.out _; (with_reducible repeat (first | refine qN ?_ _ | refine qD ?_ | refine qA ?_ _)); refine blk_far ?_ NB175_176.out _; (with_reducible repeat (first | refine qN ?_ _ | refine qD ?_ | refine qA ?_ _)); refine blk_put (cs := #[.int .i64 a0_0, .int .i64 0]) ?_ 1 _ rfl; (with_reducible repeat (first | refine qN ?_ _ | refine qD ?_ | refine qA ?_ _)); refine blk_put (cs := #[.int .i64 0, .int .i64 0]) ?_ 0 _ rfl; (with_reducible repeat (first | refine qN ?_ _ | refine qD ?_ | refine qA ?_ _)); exact BK175.out) hb); have n4_ := qS (qB (g := gb176) (o := .cells #[.int .i64 a1_0, .int .i64 a1_1] 68 (0, 0)) (by (with_reducible repeat (first | refine qN ?_ _ | refine qD ?_ | refine qA ?_ _)); refine blk_put (cs := #[.int .i64 a1_0, .int .i64 0]) ?_ 1 _ rfl; (with_reducible repeat (first | refine qN ?_ _ | refine qD ?_ | refine qA ?_ _)); refine blk_put (cs := #[.int .i64 0, .int .i64 0]) ?_ 0 _ rfl; (with_reducible repeat (first | refine qN ?_ _ | refine qD ?_ | refine qA ?_ _)); refine blk_far ?_ NB176_175.out _; (with_reducible repeat (first | refine qN ?_ _ | refine qD ?_ | refine qA ?_ _)); refine blk_far ?_ NB176_175.out _; (with_reducible repeat (first | refine qN ?_ _ | refine qD ?_ | refine qA ?_ _)); exact BK176.out) hb); have n5_ := qS (below_step (by repeat (first | (with_reducible first | exact HB.out | apply qpA | apply qpN | apply qp1 | refine qpS ?_ GE172.out | refine qpS ?_ GE173.out | refine qpS ?_ GE174.out | refine qpS ?_ GE175.out | refine qpS ?_ GE176.out) | exact HB.out)) hb); clear BK172; clear BK173; clear BK174; clear BK175; clear BK176; clear HB; have BK172 := n0_; have BK173 := n1_; have BK174 := n2_; have BK175 := n3_; have BK176 := n4_; have HB := n5_; clear n0_ n1_ n2_ n3_ n4_ n5_; (try clear hb); (try clear hb2); (try clear hk); (try clear hi)) | ((with_reducible refine gate_dst (N := 9) rfl ?_); refine box_event ?hg (N := 9) ?hd (cs := #[.int .i64 0, .int .i64 0]) (t := 68) ?hr ?_; (case hd => rfl); (case hg => rfl); (case hr => first | (go_simp; done) | (go_simp; rfl)); intro gb180 hg w28 hbox hb; have n0_ := qS (qB (g := gb172) (o := .cells #[.int .i64 a0_0, .int .i64 a0_1] 73 (0, 0)) (by (with_reducible repeat (first | refine qN ?_ _ | refine qD ?_ | refine qA ?_ _)); exact BK172.out) hb); have n1_ := qS (qB (g := gb173) (o := .cells #[.int .i64 a1_0, .int .i64 a1_1] 73 (0, 0)) (by (with_reducible repeat (first | refine qN ?_ _ | refine qD ?_ | refine qA ?_ _)); exact BK173.out) hb); have n2_ := qS (qB (g := gb174) (o := .cells #[.int .i32 a2_0, .int .i32 a2_1] 110 (0, 0)) (by (with_reducible repeat (first | refine qN ?_ _ | refine qD ?_ | refine qA ?_ _)); exact BK174.out) hb); have n3_ := qS (qB (g := gb175) (o := .cells #[.int .i64 a0_0, .int .i64 a0_1] 68 (0, 0)) (by (with_reducible repeat (first | refine qN ?_ _ | refine qD ?_ | refine qA ?_ _)); exact BK175.out) hb); have n4_ := qS (qB (g := gb176) (o := .cells #[.int .i64 a1_0, .int .i64 a1_1] 68 (0, 0)) (by (with_reducible repeat (first | refine qN ?_ _ | refine qD ?_ | refine qA ?_ _)); exact BK176.out) hb); have n5_ := qS (below_step (by repeat (first | (with_reducible first | exact HB.out | apply qpA | apply qpN | apply qp1 | refine qpS ?_ GE172.out | refine qpS ?_ GE173.out | refine qpS ?_ GE174.out | refine qpS ?_ GE175.out | refine qpS ?_ GE176.out) | exact HB.out)) hb); have n6_ := qS (hbox); have n7_ := qS ((by rw [hg]; exact (below_size (by repeat (first | (with_reducible first | exact HB.out | apply qpA | apply qpN | apply qp1 | refine qpS ?_ GE172.out | refine qpS ?_ GE173.out | refine qpS ?_ GE174.out | refine qpS ?_ GE175.out | refine qpS ?_ GE176.out) | exact HB.out))) : w.heap.size ≤ gb180)); have n8_ := qS ((by rw [hg]; exact (below_size (by repeat (first | (with_reducible first | exact HB.out | apply qpA | apply qpN | apply qp1 | refine qpS ?_ GE172.out | refine qpS ?_ GE173.out | refine qpS ?_ GE174.out | refine qpS ?_ GE175.out | refine qpS ?_ GE176.out) | exact HB.out))) : w.heap.size ≤ gb180)); have n9_ := qS ((by rw [hg]; exact Nat.ne_of_lt (blk_lt (g := gb172) (o := .cells #[.int .i64 a0_0, .int .i64 a0_1] 73 (0, 0)) (by (with_reducible repeat (first | refine qN ?_ _ | refine qD ?_ | refine qA ?_ _)); exact BK172.out)) : gb172 ≠ gb180)); have n10_ := qS ((by rw [hg]; exact Nat.ne_of_gt (blk_lt (g := gb172) (o := .cells #[.int .i64 a0_0, .int .i64 a0_1] 73 (0, 0)) (by (with_reducible repeat (first | refine qN ?_ _ | refine qD ?_ | refine qA ?_ _)); exact BK172.out)) : gb180 ≠ gb172)); have n11_ := qS ((by rw [hg]; exact Nat.ne_of_lt (blk_lt (g := gb173) (o := .cells #[.int .i64 a1_0, .int .i64 a1_1] 73 (0, 0)) (by (with_reducible repeat (first | refine qN ?_ _ | refine qD ?_ | refine qA ?_ _)); exact BK173.out)) : gb173 ≠ gb180)); have n12_ := qS ((by rw [hg]; exact Nat.ne_of_gt (blk_lt (g := gb173) (o := .cells #[.int .i64 a1_0, .int .i64 a1_1] 73 (0, 0)) (by (with_reducible repeat (first | refine qN ?_ _ | refine qD ?_ | refine qA ?_ _)); exact BK173.out)) : gb180 ≠ gb173)); have n13_ := qS ((by rw [hg]; exact Nat.ne_of_lt (blk_lt (g := gb174) (o := .cells #[.int .i32 a2_0, .int .i32 a2_1] 110 (0, 0)) (by (with_reducible repeat (first | refine qN ?_ _ | refine qD ?_ | refine qA ?_ _)); exact BK174.out)) : gb174 ≠ gb180)); have n14_ := qS ((by rw [hg]; exact Nat.ne_of_gt (blk_lt (g := gb174) (o := .cells #[.int .i32 a2_0, .int .i32 a2_1] 110 (0, 0)) (by (with_reducible repeat (first | refine qN ?_ _ | refine qD ?_ | refine qA ?_ _)); exact BK174.out)) : gb180 ≠ gb174)); have n15_ := qS ((by rw [hg]; exact Nat.ne_of_lt (blk_lt (g := gb175) (o := .cells #[.int .i64 a0_0, .int .i64 a0_1] 68 (0, 0)) (by (with_reducible repeat (first | refine qN ?_ _ | refine qD ?_ | refine qA ?_ _)); exact BK175.out)) : gb175 ≠ gb180)); have n16_ := qS ((by rw [hg]; exact Nat.ne_of_gt (blk_lt (g := gb175) (o := .cells #[.int .i64 a0_0, .int .i64 a0_1] 68 (0, 0)) (by (with_reducible repeat (first | refine qN ?_ _ | refine qD ?_ | refine qA ?_ _)); exact BK175.out)) : gb180 ≠ gb175)); have n17_ := qS ((by rw [hg]; exact Nat.ne_of_lt (blk_lt (g := gb176) (o := .cells #[.int .i64 a1_0, .int .i64 a1_1] 68 (0, 0)) (by (with_reducible repeat (first | refine qN ?_ _ | refine qD ?_ | refine qA ?_ _)); exact BK176.out)) : gb176 ≠ gb180)); have n18_ := qS ((by rw [hg]; exact Nat.ne_of_gt (blk_lt (g := gb176) (o := .cells #[.int .i64 a1_0, .int .i64 a1_1] 68 (0, 0)) (by (with_reducible repeat (first | refine qN ?_ _ | refine qD ?_ | refine qA ?_ _)); exact BK176.out)) : gb180 ≠ gb176)); clear BK172; clear BK173; clear BK174; clear BK175; clear BK176; clear HB; have BK172 := n0_; have BK173 := n1_; have BK174 := n2_; have BK175 := n3_; have BK176 := n4_; have HB := n5_; have BK180 := n6_; have GW180 := n7_; have GE180 := n8_; have NB172_180 := n9_; have NB180_172 := n10_; have NB173_180 := n11_; have NB180_173 := n12_; have NB174_180 := n13_; have NB180_174 := n14_; have NB175_180 := n15_; have NB180_175 := n16_; have NB176_180 := n17_; have NB180_176 := n18_; clear n0_ n1_ n2_ n3_ n4_ n5_ n6_ n7_ n8_ n9_ n10_ n11_ n12_ n13_ n14_ n15_ n16_ n17_ n18_; clear hb hbox hg; have hnb29 := NB180_172.out; have hnc29 := NB172_180.out; have hnb30 := NB180_173.out; have hnc30 := NB173_180.out; have hnb31 := NB180_174.out; have hnc31 := NB174_180.out; have hnb32 := NB180_175.out; have hnc32 := NB175_180.out; have hnb33 := NB180_176.out; have hnc33 := NB176_180.out; have hcz34_0 : w28.cell? ⟨gb180, 0, none⟩ = some (.int .i64 0) := (qC BK180.out 0).trans rfl; have hcz34_1 : w28.cell? ⟨gb180, 1, none⟩ = some (.int .i64 0) := (qC BK180.out 1).trans rfl; have hfz34_0 := qF BK180.out 0; have hfz34_1 := qF BK180.out 1; have hcz35_0 : w28.cell? ⟨gb176, 0, none⟩ = some (.int .i64 a1_0) := (qC BK176.out 0).trans rfl; have hcz35_1 : w28.cell? ⟨gb176, 1, none⟩ = some (.int .i64 a1_1) := (qC BK176.out 1).trans rfl; have hfz35_0 := qF BK176.out 0; have hfz35_1 := qF BK176.out 1; have hcz36_0 : w28.cell? ⟨gb175, 0, none⟩ = some (.int .i64 a0_0) := (qC BK175.out 0).trans rfl; have hcz36_1 : w28.cell? ⟨gb175, 1, none⟩ = some (.int .i64 a0_1) := (qC BK175.out 1).trans rfl; have hfz36_0 := qF BK175.out 0; have hfz36_1 := qF BK175.out 1) | ((with_reducible refine gate_callee (f := 50) rfl ?_); refine goesL_ (some 32) rfl rfl Tryd.func50 (by kernel_rfl) rfl #[.agg #[.int .i64 a1_0, .int .i64 a1_1], .agg #[.int .i64 a0_0, .int .i64 a0_1]] rfl (by (try simp only [List.map_toArray, List.map_cons, List.map_nil]); first | done | rfl | (simp only [*]; done) | (simp only [List.length_drop, List.length_take]; rfl)) ?_; (with_reducible refine (span_Meet.calls a1_0 a1_1 a0_0 a0_1 t181 t182 t183 _ A5.out).mono ?_); rintro e w37 ⟨rfl, hb⟩; refine ⟨_, rfl, ?_⟩; have n0_ := qS (qB (g := gb172) (o := .cells #[.int .i64 a0_0, .int .i64 a0_1] 73 (0, 0)) (by (with_reducible repeat (first | refine qN ?_ _ | refine qD ?_ | refine qA ?_ _)); refine blk_far ?_ NB172_180.out _; (with_reducible repeat (first | refine qN ?_ _ | refine qD ?_ | refine qA ?_ _)); refine blk_far ?_ NB172_180.out _; (with_reducible repeat (first | refine qN ?_ _ | refine qD ?_ | refine qA ?_ _)); exact BK172.out) hb); have n1_ := qS (qB (g := gb173) (o := .cells #[.int .i64 a1_0, .int .i64 a1_1] 73 (0, 0)) (by (with_reducible repeat (first | refine qN ?_ _ | refine qD ?_ | refine qA ?_ _)); refine blk_far ?_ NB173_180.out _; (with_reducible repeat (first | refine qN ?_ _ | refine qD ?_ | refine qA ?_ _)); refine blk_far ?_ NB173_180.out _; (with_reducible repeat (first | refine qN ?_ _ | refine qD ?_ | refine qA ?_ _)); exact BK173.out) hb); have n2_ := qS (qB (g := gb174) (o := .cells #[.int .i32 a2_0, .int .i32 a2_1] 110 (0, 0)) (by (with_reducible repeat (first | refine qN ?_ _ | refine qD ?_ | refine qA ?_ _)); refine blk_far ?_ NB174_180.out _; (with_reducible repeat (first | refine qN ?_ _ | refine qD ?_ | refine qA ?_ _)); refine blk_far ?_ NB174_180.out _; (with_reducible repeat (first | refine qN ?_ _ | refine qD ?_ | refine qA ?_ _)); exact BK174.out) hb); have n3_ := qS (qB (g := gb175) (o := .cells #[.int .i64 a0_0, .int .i64 a0_1] 68 (0, 0)) (by (with_reducible repeat (first | refine qN ?_ _ | refine qD ?_ | refine qA ?_ _)); refine blk_far ?_ NB175_180.out _; (with_reducible repeat (first | refine qN ?_ _ | refine qD ?_ | refine qA ?_ _)); refine blk_far ?_ NB175_180.out _; (with_reducible repeat (first | refine qN ?_ _ | refine qD ?_ | refine qA ?_ _)); exact BK175.out) hb); have n4_ := qS (qB (g := gb176) (o := .cells #[.int .i64 a1_0, .int .i64 a1_1] 68 (0, 0)) (by (with_reducible repeat (first | refine qN ?_ _ | refine qD ?_ | refine qA ?_ _)); refine blk_far ?_ NB176_180.out _; (with_reducible repeat (first | refine qN ?_ _ | refine qD ?_ | refine qA ?_ _)); refine blk_far ?_ NB176_180.out _; (with_reducible repeat (first | refine qN ?_ _ | refine qD ?_ | refine qA ?_ _)); exact BK176.out) hb); have n5_ := qS (qB (g := gb180) (o := .cells #[.int .i64 t177, .int .i64 t178] 68 (0, 0)) (by (with_reducible repeat (first | refine qN ?_ _ | refine qD ?_ | refine qA ?_ _)); refine blk_put (cs := #[.int .i64 t177, .int .i64 0]) ?_ 1 _ rfl; (with_reducible repeat (first | refine qN ?_ _ | refine qD ?_ | refine qA ?_ _)); refine blk_put (cs := #[.int .i64 0, .int .i64 0]) ?_ 0 _ rfl; (with_reducible repeat (first | refine qN ?_ _ | refine qD ?_ | refine qA ?_ _)); exact BK180.out) hb); have n6_ := qS (below_step (by repeat (first | (with_reducible first | exact HB.out | apply qpA | apply qpN | apply qp1 | refine qpS ?_ GE172.out | refine qpS ?_ GE173.out | refine qpS ?_ GE174.out | refine qpS ?_ GE175.out | refine qpS ?_ GE176.out | refine qpS ?_ GE180.out) | exact HB.out)) hb); clear BK172; clear BK173; clear BK174; clear BK175; clear BK176; clear BK180; clear HB; have BK172 := n0_; have BK173 := n1_; have BK174 := n2_; have BK175 := n3_; have BK176 := n4_; have BK180 := n5_; have HB := n6_; clear n0_ n1_ n2_ n3_ n4_ n5_ n6_; (try clear hb); (try clear hb2); (try clear hk); (try clear hi)) | ((with_reducible refine gate_dst (N := 11) rfl ?_); refine box_event ?hg (N := 11) ?hd (cs := #[.int .i64 0, .int .i64 0]) (t := 68) ?hr ?_; (case hd => rfl); (case hg => rfl); (case hr => first | (go_simp; done) | (go_simp; rfl)); intro gb184 hg w38 hbox hb; have n0_ := qS (qB (g := gb172) (o := .cells #[.int .i64 a0_0, .int .i64 a0_1] 73 (0, 0)) (by (with_reducible repeat (first | refine qN ?_ _ | refine qD ?_ | refine qA ?_ _)); exact BK172.out) hb); have n1_ := qS (qB (g := gb173) (o := .cells #[.int .i64 a1_0, .int .i64 a1_1] 73 (0, 0)) (by (with_reducible repeat (first | refine qN ?_ _ | refine qD ?_ | refine qA ?_ _)); exact BK173.out) hb); have n2_ := qS (qB (g := gb174) (o := .cells #[.int .i32 a2_0, .int .i32 a2_1] 110 (0, 0)) (by (with_reducible repeat (first | refine qN ?_ _ | refine qD ?_ | refine qA ?_ _)); exact BK174.out) hb); have n3_ := qS (qB (g := gb175) (o := .cells #[.int .i64 a0_0, .int .i64 a0_1] 68 (0, 0)) (by (with_reducible repeat (first | refine qN ?_ _ | refine qD ?_ | refine qA ?_ _)); exact BK175.out) hb); have n4_ := qS (qB (g := gb176) (o := .cells #[.int .i64 a1_0, .int .i64 a1_1] 68 (0, 0)) (by (with_reducible repeat (first | refine qN ?_ _ | refine qD ?_ | refine qA ?_ _)); exact BK176.out) hb); have n5_ := qS (qB (g := gb180) (o := .cells #[.int .i64 t177, .int .i64 t178] 68 (0, 0)) (by (with_reducible repeat (first | refine qN ?_ _ | refine qD ?_ | refine qA ?_ _)); exact BK180.out) hb); have n6_ := qS (below_step (by repeat (first | (with_reducible first | exact HB.out | apply qpA | apply qpN | apply qp1 | refine qpS ?_ GE172.out | refine qpS ?_ GE173.out | refine qpS ?_ GE174.out | refine qpS ?_ GE175.out | refine qpS ?_ GE176.out | refine qpS ?_ GE180.out) | exact HB.out)) hb); have n7_ := qS (hbox); have n8_ := qS ((by rw [hg]; exact (below_size (by repeat (first | (with_reducible first | exact HB.out | apply qpA | apply qpN | apply qp1 | refine qpS ?_ GE172.out | refine qpS ?_ GE173.out | refine qpS ?_ GE174.out | refine qpS ?_ GE175.out | refine qpS ?_ GE176.out | refine qpS ?_ GE180.out) | exact HB.out))) : w.heap.size ≤ gb184)); have n9_ := qS ((by rw [hg]; exact (below_size (by repeat (first | (with_reducible first | exact HB.out | apply qpA | apply qpN | apply qp1 | refine qpS ?_ GE172.out | refine qpS ?_ GE173.out | refine qpS ?_ GE174.out | refine qpS ?_ GE175.out | refine qpS ?_ GE176.out | refine qpS ?_ GE180.out) | exact HB.out))) : w.heap.size ≤ gb184)); have n10_ := qS ((by rw [hg]; exact Nat.ne_of_lt (blk_lt (g := gb172) (o := .cells #[.int .i64 a0_0, .int .i64 a0_1] 73 (0, 0)) (by (with_reducible repeat (first | refine qN ?_ _ | refine qD ?_ | refine qA ?_ _)); exact BK172.out)) : gb172 ≠ gb184)); have n11_ := qS ((by rw [hg]; exact Nat.ne_of_gt (blk_lt (g := gb172) (o := .cells #[.int .i64 a0_0, .int .i64 a0_1] 73 (0, 0)) (by (with_reducible repeat (first | refine qN ?_ _ | refine qD ?_ | refine qA ?_ _)); exact BK172.out)) : gb184 ≠ gb172)); have n12_ := qS ((by rw [hg]; exact Nat.ne_of_lt (blk_lt (g := gb173) (o := .cells #[.int .i64 a1_0, .int .i64 a1_1] 73 (0, 0)) (by (with_reducible repeat (first | refine qN ?_ _ | refine qD ?_ | refine qA ?_ _)); exact BK173.out)) : gb173 ≠ gb184)); have n13_ := qS ((by rw [hg]; exact Nat.ne_of_gt (blk_lt (g := gb173) (o := .cells #[.int .i64 a1_0, .int .i64 a1_1] 73 (0, 0)) (by (with_reducible repeat (first | refine qN ?_ _ | refine qD ?_ | refine qA ?_ _)); exact BK173.out)) : gb184 ≠ gb173)); have n14_ := qS ((by rw [hg]; exact Nat.ne_of_lt (blk_lt (g := gb174) (o := .cells #[.int .i32 a2_0, .int .i32 a2_1] 110 (0, 0)) (by (with_reducible repeat (first | refine qN ?_ _ | refine qD ?_ | refine qA ?_ _)); exact BK174.out)) : gb174 ≠ gb184)); have n15_ := qS ((by rw [hg]; exact Nat.ne_of_gt (blk_lt (g := gb174) (o := .cells #[.int .i32 a2_0, .int .i32 a2_1] 110 (0, 0)) (by (with_reducible repeat (first | refine qN ?_ _ | refine qD ?_ | refine qA ?_ _)); exact BK174.out)) : gb184 ≠ gb174)); have n16_ := qS ((by rw [hg]; exact Nat.ne_of_lt (blk_lt (g := gb175) (o := .cells #[.int .i64 a0_0, .int .i64 a0_1] 68 (0, 0)) (by (with_reducible repeat (first | refine qN ?_ _ | refine qD ?_ | refine qA ?_ _)); exact BK175.out)) : gb175 ≠ gb184)); have n17_ := qS ((by rw [hg]; exact Nat.ne_of_gt (blk_lt (g := gb175) (o := .cells #[.int .i64 a0_0, .int .i64 a0_1] 68 (0, 0)) (by (with_reducible repeat (first | refine qN ?_ _ | refine qD ?_ | refine qA ?_ _)); exact BK175.out)) : gb184 ≠ gb175)); have n18_ := qS ((by rw [hg]; exact Nat.ne_of_lt (blk_lt (g := gb176) (o := .cells #[.int .i64 a1_0, .int .i64 a1_1] 68 (0, 0)) (by (with_reducible repeat (first | refine qN ?_ _ | refine qD ?_ | refine qA ?_ _)); exact BK176.out)) : gb176 ≠ gb184)); have n19_ := qS ((by rw [hg]; exact Nat.ne_of_gt (blk_lt (g := gb176) (o := .cells #[.int .i64 a1_0, .int .i64 a1_1] 68 (0, 0)) (by (with_reducible repeat (first | refine qN ?_ _ | refine qD ?_ | refine qA ?_ _)); exact BK176.out)) : gb184 ≠ gb176)); have n20_ := qS ((by rw [hg]; exact Nat.ne_of_lt (blk_lt (g := gb180) (o := .cells #[.int .i64 t177, .int .i64 t178] 68 (0, 0)) (by (with_reducible repeat (first | refine qN ?_ _ | refine qD ?_ | refine qA ?_ _)); exact BK180.out)) : gb180 ≠ gb184)); have n21_ := qS ((by rw [hg]; exact Nat.ne_of_gt (blk_lt (g := gb180) (o := .cells #[.int .i64 t177, .int .i64 t178] 68 (0, 0)) (by (with_reducible repeat (first | refine qN ?_ _ | refine qD ?_ | refine qA ?_ _)); exact BK180.out)) : gb184 ≠ gb180)); clear BK172; clear BK173; clear BK174; clear BK175; clear BK176; clear BK180; clear HB; have BK172 := n0_; have BK173 := n1_; have BK174 := n2_; have BK175 := n3_; have BK176 := n4_; have BK180 := n5_; have HB := n6_; have BK184 := n7_; have GW184 := n8_; have GE184 := n9_; have NB172_184 := n10_; have NB184_172 := n11_; have NB173_184 := n12_; have NB184_173 := n13_; have NB174_184 := n14_; have NB184_174 := n15_; have NB175_184 := n16_; have NB184_175 := n17_; have NB176_184 := n18_; have NB184_176 := n19_; have NB180_184 := n20_; have NB184_180 := n21_; clear n0_ n1_ n2_ n3_ n4_ n5_ n6_ n7_ n8_ n9_ n10_ n11_ n12_ n13_ n14_ n15_ n16_ n17_ n18_ n19_ n20_ n21_; clear hb hbox hg; have hnb39 := NB184_172.out; have hnc39 := NB172_184.out; have hnb40 := NB184_173.out; have hnc40 := NB173_184.out; have hnb41 := NB184_174.out; have hnc41 := NB174_184.out; have hnb42 := NB184_175.out; have hnc42 := NB175_184.out; have hnb43 := NB184_176.out; have hnc43 := NB176_184.out; have hnb44 := NB184_180.out; have hnc44 := NB180_184.out; have hcz45_0 : w38.cell? ⟨gb184, 0, none⟩ = some (.int .i64 0) := (qC BK184.out 0).trans rfl; have hcz45_1 : w38.cell? ⟨gb184, 1, none⟩ = some (.int .i64 0) := (qC BK184.out 1).trans rfl; have hfz45_0 := qF BK184.out 0; have hfz45_1 := qF BK184.out 1; have hnb46 := NB174_172.out; have hnc46 := NB172_174.out; have hnb47 := NB174_173.out; have hnc47 := NB173_174.out; have hcz48_0 : w38.cell? ⟨gb174, 0, none⟩ = some (.int .i32 a2_0) := (qC BK174.out 0).trans rfl; have hcz48_1 : w38.cell? ⟨gb174, 1, none⟩ = some (.int .i32 a2_1) := (qC BK174.out 1).trans rfl; have hfz48_0 := qF BK174.out 0; have hfz48_1 := qF BK174.out 1))
 (try simp only [Act.put, List.setIfInBounds_toArray, List.set_cons_zero, List.set_cons_succ])
 go_cut [14] (fun v14 wc => ∃ (kq : Nat) (x14_5 : Bool), v14 = .bool x14_5 ∧ Aside0 (fuseelaw13_SpanMeets.j0 kq t179 t183 (wrap64 (a2_0)) x14_5 a0_0 a0_1 a2_0 a2_1 a0_0 a0_1 t177 t178 t181 t182 = some r) ∧ Aside0 (kq ≤ k) ∧ Aside0 (wc.heap[gb172]? = some (.cells #[.int .i64 a0_0, .int .i64 a0_1] 73 (0, 0))) ∧ Aside0 (wc.heap[gb173]? = some (.cells #[.int .i64 a1_0, .int .i64 a1_1] 73 (0, 0))) ∧ Aside0 (wc.heap[gb174]? = some (.cells #[.int .i32 a2_0, .int .i32 a2_1] 110 (0, 0))) ∧ Aside0 (wc.heap[gb175]? = some (.cells #[.int .i64 a0_0, .int .i64 a0_1] 68 (0, 0))) ∧ Aside0 (wc.heap[gb176]? = some (.cells #[.int .i64 a1_0, .int .i64 a1_1] 68 (0, 0))) ∧ Aside0 (wc.heap[gb180]? = some (.cells #[.int .i64 t177, .int .i64 t178] 68 (0, 0))) ∧ Aside0 (wc.heap[gb184]? = some (.cells #[.int .i64 t181, .int .i64 t182] 68 (0, 0))) ∧ Aside0 (Below w.heap.size w wc))
 case first =>
  have H := HC6.out
  clear HC6
  replace H := Option.bind_eq_some_iff.mp H
  obtain ⟨t185, A490, H⟩ := H
  replace H : (if t185.isNone = true then ((span_Check.f a1_0 a1_1).bind fun t187 => (if t187.isNone = true then ((span_Has.f a0_0 a0_1 (wrap64 (a2_0))).bind fun t189 => (if t189 = true then ((span_Has.f a1_0 a1_1 (wrap64 (a2_0))).bind fun t190 => (fuseelaw13_SpanMeets.j0 k t179 t183 (wrap64 (a2_0)) t190 a0_0 a0_1 a2_0 a2_1 a0_0 a0_1 t177 t178 t181 t182)) else (fuseelaw13_SpanMeets.j0 k t179 t183 (wrap64 (a2_0)) false a0_0 a0_1 a2_0 a2_1 a0_0 a0_1 t177 t178 t181 t182))) else (fuseelaw13_SpanMeets.j0 k t179 t183 (wrap64 (a2_0)) false a0_0 a0_1 a2_0 a2_1 a0_0 a0_1 t177 t178 t181 t182))) else (fuseelaw13_SpanMeets.j0 k t179 t183 (wrap64 (a2_0)) false a0_0 a0_1 a2_0 a2_1 a0_0 a0_1 t177 t178 t181 t182)) = some r := H
  have A49 := qS A490
  clear A490
  rcases t185 with _ | q186
  ·have H1 : ((span_Check.f a1_0 a1_1).bind fun t187 => (if t187.isNone = true then ((span_Has.f a0_0 a0_1 (wrap64 (a2_0))).bind fun t189 => (if t189 = true then ((span_Has.f a1_0 a1_1 (wrap64 (a2_0))).bind fun t190 => (fuseelaw13_SpanMeets.j0 k t179 t183 (wrap64 (a2_0)) t190 a0_0 a0_1 a2_0 a2_1 a0_0 a0_1 t177 t178 t181 t182)) else (fuseelaw13_SpanMeets.j0 k t179 t183 (wrap64 (a2_0)) false a0_0 a0_1 a2_0 a2_1 a0_0 a0_1 t177 t178 t181 t182))) else (fuseelaw13_SpanMeets.j0 k t179 t183 (wrap64 (a2_0)) false a0_0 a0_1 a2_0 a2_1 a0_0 a0_1 t177 t178 t181 t182))) = some r := by rw [if_pos (show (none : Option Int).isNone = true by rfl)] at H; exact H
   clear H
   have H := H1
   clear H1
   try simp only [errW_none, errW_some]
   replace H := Option.bind_eq_some_iff.mp H
   obtain ⟨t187, A500, H⟩ := H
   replace H : (if t187.isNone = true then ((span_Has.f a0_0 a0_1 (wrap64 (a2_0))).bind fun t189 => (if t189 = true then ((span_Has.f a1_0 a1_1 (wrap64 (a2_0))).bind fun t190 => (fuseelaw13_SpanMeets.j0 k t179 t183 (wrap64 (a2_0)) t190 a0_0 a0_1 a2_0 a2_1 a0_0 a0_1 t177 t178 t181 t182)) else (fuseelaw13_SpanMeets.j0 k t179 t183 (wrap64 (a2_0)) false a0_0 a0_1 a2_0 a2_1 a0_0 a0_1 t177 t178 t181 t182))) else (fuseelaw13_SpanMeets.j0 k t179 t183 (wrap64 (a2_0)) false a0_0 a0_1 a2_0 a2_1 a0_0 a0_1 t177 t178 t181 t182)) = some r := H
   have A50 := qS A500
   clear A500
   rcases t187 with _ | q188
   ·have H1 : ((span_Has.f a0_0 a0_1 (wrap64 (a2_0))).bind fun t189 => (if t189 = true then ((span_Has.f a1_0 a1_1 (wrap64 (a2_0))).bind fun t190 => (fuseelaw13_SpanMeets.j0 k t179 t183 (wrap64 (a2_0)) t190 a0_0 a0_1 a2_0 a2_1 a0_0 a0_1 t177 t178 t181 t182)) else (fuseelaw13_SpanMeets.j0 k t179 t183 (wrap64 (a2_0)) false a0_0 a0_1 a2_0 a2_1 a0_0 a0_1 t177 t178 t181 t182))) = some r := by rw [if_pos (show (none : Option Int).isNone = true by rfl)] at H; exact H
    clear H
    have H := H1
    clear H1
    try simp only [errW_none, errW_some]
    replace H := Option.bind_eq_some_iff.mp H
    obtain ⟨t189, A510, H⟩ := H
    replace H : (if t189 = true then ((span_Has.f a1_0 a1_1 (wrap64 (a2_0))).bind fun t190 => (fuseelaw13_SpanMeets.j0 k t179 t183 (wrap64 (a2_0)) t190 a0_0 a0_1 a2_0 a2_1 a0_0 a0_1 t177 t178 t181 t182)) else (fuseelaw13_SpanMeets.j0 k t179 t183 (wrap64 (a2_0)) false a0_0 a0_1 a2_0 a2_1 a0_0 a0_1 t177 t178 t181 t182)) = some r := H
    have A51 := qS A510
    clear A510
    by_cases c52 : t189 = true
    ·subst c52
     have H1 : ((span_Has.f a1_0 a1_1 (wrap64 (a2_0))).bind fun t190 => (fuseelaw13_SpanMeets.j0 k t179 t183 (wrap64 (a2_0)) t190 a0_0 a0_1 a2_0 a2_1 a0_0 a0_1 t177 t178 t181 t182)) = some r := by rw [if_pos rfl] at H; exact H
     clear H
     have H := H1
     clear H1
     replace H := Option.bind_eq_some_iff.mp H
     obtain ⟨t190, A530, H⟩ := H
     replace H : (fuseelaw13_SpanMeets.j0 k t179 t183 (wrap64 (a2_0)) t190 a0_0 a0_1 a2_0 a2_1 a0_0 a0_1 t177 t178 t181 t182) = some r := H
     have A53 := qS A530
     clear A530
     as_aux_lemma =>
      have H' := qS H
      clear H
      have hnb54 := NB175_172.out
      have hnc54 := NB172_175.out
      have hnb55 := NB175_173.out
      have hnc55 := NB173_175.out
      have hnb56 := NB175_174.out
      have hnc56 := NB174_175.out
      have hnb57 := NB175_176.out
      have hnc57 := NB176_175.out
      have hnb58 := NB175_180.out
      have hnc58 := NB180_175.out
      have hnb59 := NB175_184.out
      have hnc59 := NB184_175.out
      have hcz60_0 : w38.cell? ⟨gb175, 0, none⟩ = some (.int .i64 a0_0) := (qC BK175.out 0).trans rfl
      have hcz60_1 : w38.cell? ⟨gb175, 1, none⟩ = some (.int .i64 a0_1) := (qC BK175.out 1).trans rfl
      have hfz60_0 := qF BK175.out 0
      have hfz60_1 := qF BK175.out 1
      go_wp2_with (first | ((with_reducible refine gate_callee (f := 53) rfl ?_); refine goesL_ (some 39) rfl rfl Tryd.func53 (by kernel_rfl) rfl #[.agg #[.int .i64 a0_0, .int .i64 a0_1]] rfl (by (try simp only [List.map_toArray, List.map_cons, List.map_nil]); first | done | rfl | (simp only [*]; done) | (simp only [List.length_drop, List.length_take]; rfl)) ?_; (with_reducible refine (span_Check.calls a0_0 a0_1 none _ A49.out).mono ?_); rintro e w61 ⟨rfl, hb⟩; refine ⟨_, rfl, ?_⟩; have n0_ := qS (qB (g := gb172) (o := .cells #[.int .i64 a0_0, .int .i64 a0_1] 73 (0, 0)) (by (with_reducible repeat (first | refine qN ?_ _ | refine qD ?_ | refine qA ?_ _)); refine blk_far ?_ NB172_184.out _; (with_reducible repeat (first | refine qN ?_ _ | refine qD ?_ | refine qA ?_ _)); refine blk_far ?_ NB172_184.out _; (with_reducible repeat (first | refine qN ?_ _ | refine qD ?_ | refine qA ?_ _)); exact BK172.out) hb); have n1_ := qS (qB (g := gb173) (o := .cells #[.int .i64 a1_0, .int .i64 a1_1] 73 (0, 0)) (by (with_reducible repeat (first | refine qN ?_ _ | refine qD ?_ | refine qA ?_ _)); refine blk_far ?_ NB173_184.out _; (with_reducible repeat (first | refine qN ?_ _ | refine qD ?_ | refine qA ?_ _)); refine blk_far ?_ NB173_184.out _; (with_reducible repeat (first | refine qN ?_ _ | refine qD ?_ | refine qA ?_ _)); exact BK173.out) hb); have n2_ := qS (qB (g := gb174) (o := .cells #[.int .i32 a2_0, .int .i32 a2_1] 110 (0, 0)) (by (with_reducible repeat (first | refine qN ?_ _ | refine qD ?_ | refine qA ?_ _)); refine blk_far ?_ NB174_184.out _; (with_reducible repeat (first | refine qN ?_ _ | refine qD ?_ | refine qA ?_ _)); refine blk_far ?_ NB174_184.out _; (with_reducible repeat (first | refine qN ?_ _ | refine qD ?_ | refine qA ?_ _)); exact BK174.out) hb); have n3_ := qS (qB (g := gb175) (o := .cells #[.int .i64 a0_0, .int .i64 a0_1] 68 (0, 0)) (by (with_reducible repeat (first | refine qN ?_ _ | refine qD ?_ | refine qA ?_ _)); refine blk_far ?_ NB175_184.out _; (with_reducible repeat (first | refine qN ?_ _ | refine qD ?_ | refine qA ?_ _)); refine blk_far ?_ NB175_184.out _; (with_reducible repeat (first | refine qN ?_ _ | refine qD ?_ | refine qA ?_ _)); exact BK175.out) hb); have n4_ := qS (qB (g := gb176) (o := .cells #[.int .i64 a1_0, .int .i64 a1_1] 68 (0, 0)) (by (with_reducible repeat (first | refine qN ?_ _ | refine qD ?_ | refine qA ?_ _)); refine blk_far ?_ NB176_184.out _; (with_reducible repeat (first | refine qN ?_ _ | refine qD ?_ | refine qA ?_ _)); refine blk_far ?_ NB176_184.out _; (with_reducible repeat (first | refine qN ?_ _ | refine qD ?_ | refine qA ?_ _)); exact BK176.out) hb); have n5_ := qS (qB (g := gb180) (o := .cells #[.int .i64 t177, .int .i64 t178] 68 (0, 0)) (by (with_reducible repeat (first | refine qN ?_ _ | refine qD ?_ | refine qA ?_ _)); refine blk_far ?_ NB180_184.out _; (with_reducible repeat (first | refine qN ?_ _ | refine qD ?_ | refine qA ?_ _)); refine blk_far ?_ NB180_184.out _; (with_reducible repeat (first | refine qN ?_ _ | refine qD ?_ | refine qA ?_ _)); exact BK180.out) hb); have n6_ := qS (qB (g := gb184) (o := .cells #[.int .i64 t181, .int .i64 t182] 68 (0, 0)) (by (with_reducible repeat (first | refine qN ?_ _ | refine qD ?_ | refine qA ?_ _)); refine blk_put (cs := #[.int .i64 t181, .int .i64 0]) ?_ 1 _ rfl; (with_reducible repeat (first | refine qN ?_ _ | refine qD ?_ | refine qA ?_ _)); refine blk_put (cs := #[.int .i64 0, .int .i64 0]) ?_ 0 _ rfl; (with_reducible repeat (first | refine qN ?_ _ | refine qD ?_ | refine qA ?_ _)); exact BK184.out) hb); have n7_ := qS (below_step (by repeat (first | (with_reducible first | exact HB.out | apply qpA | apply qpN | apply qp1 | refine qpS ?_ GE172.out | refine qpS ?_ GE173.out | refine qpS ?_ GE174.out | refine qpS ?_ GE175.out | refine qpS ?_ GE176.out | refine qpS ?_ GE180.out | refine qpS ?_ GE184.out) | exact HB.out)) hb); clear BK172; clear BK173; clear BK174; clear BK175; clear BK176; clear BK180; clear BK184; clear HB; have BK172 := n0_; have BK173 := n1_; have BK174 := n2_; have BK175 := n3_; have BK176 := n4_; have BK180 := n5_; have BK184 := n6_; have HB := n7_; clear n0_ n1_ n2_ n3_ n4_ n5_ n6_ n7_; (try clear hb); (try clear hb2); (try clear hk); (try clear hi); (try simp only [errW_none, errW_some]); have hnb62 := NB176_172.out; have hnc62 := NB172_176.out; have hnb63 := NB176_173.out; have hnc63 := NB173_176.out; have hnb64 := NB176_174.out; have hnc64 := NB174_176.out; have hnb65 := NB176_180.out; have hnc65 := NB180_176.out; have hnb66 := NB176_184.out; have hnc66 := NB184_176.out; have hcz67_0 : w61.cell? ⟨gb176, 0, none⟩ = some (.int .i64 a1_0) := (qC BK176.out 0).trans rfl; have hcz67_1 : w61.cell? ⟨gb176, 1, none⟩ = some (.int .i64 a1_1) := (qC BK176.out 1).trans rfl; have hfz67_0 := qF BK176.out 0; have hfz67_1 := qF BK176.out 1) | (go_at_call 53; (with_reducible refine (span_Check.calls a1_0 a1_1 none _ A50.out).mono ?_); rintro e w68 ⟨rfl, hb⟩; have n0_ := qS (qB (g := gb172) (o := .cells #[.int .i64 a0_0, .int .i64 a0_1] 73 (0, 0)) (by (with_reducible repeat (first | refine qN ?_ _ | refine qD ?_ | refine qA ?_ _)); exact BK172.out) hb); have n1_ := qS (qB (g := gb173) (o := .cells #[.int .i64 a1_0, .int .i64 a1_1] 73 (0, 0)) (by (with_reducible repeat (first | refine qN ?_ _ | refine qD ?_ | refine qA ?_ _)); exact BK173.out) hb); have n2_ := qS (qB (g := gb174) (o := .cells #[.int .i32 a2_0, .int .i32 a2_1] 110 (0, 0)) (by (with_reducible repeat (first | refine qN ?_ _ | refine qD ?_ | refine qA ?_ _)); exact BK174.out) hb); have n3_ := qS (qB (g := gb175) (o := .cells #[.int .i64 a0_0, .int .i64 a0_1] 68 (0, 0)) (by (with_reducible repeat (first | refine qN ?_ _ | refine qD ?_ | refine qA ?_ _)); exact BK175.out) hb); have n4_ := qS (qB (g := gb176) (o := .cells #[.int .i64 a1_0, .int .i64 a1_1] 68 (0, 0)) (by (with_reducible repeat (first | refine qN ?_ _ | refine qD ?_ | refine qA ?_ _)); exact BK176.out) hb); have n5_ := qS (qB (g := gb180) (o := .cells #[.int .i64 t177, .int .i64 t178] 68 (0, 0)) (by (with_reducible repeat (first | refine qN ?_ _ | refine qD ?_ | refine qA ?_ _)); exact BK180.out) hb); have n6_ := qS (qB (g := gb184) (o := .cells #[.int .i64 t181, .int .i64 t182] 68 (0, 0)) (by (with_reducible repeat (first | refine qN ?_ _ | refine qD ?_ | refine qA ?_ _)); exact BK184.out) hb); have n7_ := qS (below_step (by repeat (first | (with_reducible first | exact HB.out | apply qpA | apply qpN | apply qp1 | refine qpS ?_ GE172.out | refine qpS ?_ GE173.out | refine qpS ?_ GE174.out | refine qpS ?_ GE175.out | refine qpS ?_ GE176.out | refine qpS ?_ GE180.out | refine qpS ?_ GE184.out) | exact HB.out)) hb); clear BK172; clear BK173; clear BK174; clear BK175; clear BK176; clear BK180; clear BK184; clear HB; have BK172 := n0_; have BK173 := n1_; have BK174 := n2_; have BK175 := n3_; have BK176 := n4_; have BK180 := n5_; have BK184 := n6_; have HB := n7_; clear n0_ n1_ n2_ n3_ n4_ n5_ n6_ n7_; (try clear hb); (try clear hb2); (try clear hk); (try clear hi); (try simp only [errW_none, errW_some]); have hcz69_0 : w68.cell? ⟨gb175, 0, none⟩ = some (.int .i64 a0_0) := (qC BK175.out 0).trans rfl; have hcz69_1 : w68.cell? ⟨gb175, 1, none⟩ = some (.int .i64 a0_1) := (qC BK175.out 1).trans rfl; have hfz69_0 := qF BK175.out 0; have hfz69_1 := qF BK175.out 1) | (go_at_call 39; (with_reducible refine (span_Has.calls a0_0 a0_1 (wrap64 (a2_0)) true _ A51.out).mono ?_); rintro e w70 ⟨rfl, hb⟩; have n0_ := qS (qB (g := gb172) (o := .cells #[.int .i64 a0_0, .int .i64 a0_1] 73 (0, 0)) (by (with_reducible repeat (first | refine qN ?_ _ | refine qD ?_ | refine qA ?_ _)); exact BK172.out) hb); have n1_ := qS (qB (g := gb173) (o := .cells #[.int .i64 a1_0, .int .i64 a1_1] 73 (0, 0)) (by (with_reducible repeat (first | refine qN ?_ _ | refine qD ?_ | refine qA ?_ _)); exact BK173.out) hb); have n2_ := qS (qB (g := gb174) (o := .cells #[.int .i32 a2_0, .int .i32 a2_1] 110 (0, 0)) (by (with_reducible repeat (first | refine qN ?_ _ | refine qD ?_ | refine qA ?_ _)); exact BK174.out) hb); have n3_ := qS (qB (g := gb175) (o := .cells #[.int .i64 a0_0, .int .i64 a0_1] 68 (0, 0)) (by (with_reducible repeat (first | refine qN ?_ _ | refine qD ?_ | refine qA ?_ _)); exact BK175.out) hb); have n4_ := qS (qB (g := gb176) (o := .cells #[.int .i64 a1_0, .int .i64 a1_1] 68 (0, 0)) (by (with_reducible repeat (first | refine qN ?_ _ | refine qD ?_ | refine qA ?_ _)); exact BK176.out) hb); have n5_ := qS (qB (g := gb180) (o := .cells #[.int .i64 t177, .int .i64 t178] 68 (0, 0)) (by (with_reducible repeat (first | refine qN ?_ _ | refine qD ?_ | refine qA ?_ _)); exact BK180.out) hb); have n6_ := qS (qB (g := gb184) (o := .cells #[.int .i64 t181, .int .i64 t182] 68 (0, 0)) (by (with_reducible repeat (first | refine qN ?_ _ | refine qD ?_ | refine qA ?_ _)); exact BK184.out) hb); have n7_ := qS (below_step (by repeat (first | (with_reducible first | exact HB.out | apply qpA | apply qpN | apply qp1 | refine qpS ?_ GE172.out | refine qpS ?_ GE173.out | refine qpS ?_ GE174.out | refine qpS ?_ GE175.out | refine qpS ?_ GE176.out | refine qpS ?_ GE180.out | refine qpS ?_ GE184.out) | exact HB.out)) hb); clear BK172; clear BK173; clear BK174; clear BK175; clear BK176; clear BK180; clear BK184; clear HB; have BK172 := n0_; have BK173 := n1_; have BK174 := n2_; have BK175 := n3_; have BK176 := n4_; have BK180 := n5_; have BK184 := n6_; have HB := n7_; clear n0_ n1_ n2_ n3_ n4_ n5_ n6_ n7_; (try clear hb); (try clear hb2); (try clear hk); (try clear hi); have hcz71_0 : w70.cell? ⟨gb176, 0, none⟩ = some (.int .i64 a1_0) := (qC BK176.out 0).trans rfl; have hcz71_1 : w70.cell? ⟨gb176, 1, none⟩ = some (.int .i64 a1_1) := (qC BK176.out 1).trans rfl; have hfz71_0 := qF BK176.out 0; have hfz71_1 := qF BK176.out 1) | (go_at_call 39; (with_reducible refine (span_Has.calls a1_0 a1_1 (wrap64 (a2_0)) t190 _ A53.out).mono ?_); rintro e w72 ⟨rfl, hb⟩; have n0_ := qS (qB (g := gb172) (o := .cells #[.int .i64 a0_0, .int .i64 a0_1] 73 (0, 0)) (by (with_reducible repeat (first | refine qN ?_ _ | refine qD ?_ | refine qA ?_ _)); exact BK172.out) hb); have n1_ := qS (qB (g := gb173) (o := .cells #[.int .i64 a1_0, .int .i64 a1_1] 73 (0, 0)) (by (with_reducible repeat (first | refine qN ?_ _ | refine qD ?_ | refine qA ?_ _)); exact BK173.out) hb); have n2_ := qS (qB (g := gb174) (o := .cells #[.int .i32 a2_0, .int .i32 a2_1] 110 (0, 0)) (by (with_reducible repeat (first | refine qN ?_ _ | refine qD ?_ | refine qA ?_ _)); exact BK174.out) hb); have n3_ := qS (qB (g := gb175) (o := .cells #[.int .i64 a0_0, .int .i64 a0_1] 68 (0, 0)) (by (with_reducible repeat (first | refine qN ?_ _ | refine qD ?_ | refine qA ?_ _)); exact BK175.out) hb); have n4_ := qS (qB (g := gb176) (o := .cells #[.int .i64 a1_0, .int .i64 a1_1] 68 (0, 0)) (by (with_reducible repeat (first | refine qN ?_ _ | refine qD ?_ | refine qA ?_ _)); exact BK176.out) hb); have n5_ := qS (qB (g := gb180) (o := .cells #[.int .i64 t177, .int .i64 t178] 68 (0, 0)) (by (with_reducible repeat (first | refine qN ?_ _ | refine qD ?_ | refine qA ?_ _)); exact BK180.out) hb); have n6_ := qS (qB (g := gb184) (o := .cells #[.int .i64 t181, .int .i64 t182] 68 (0, 0)) (by (with_reducible repeat (first | refine qN ?_ _ | refine qD ?_ | refine qA ?_ _)); exact BK184.out) hb); have n7_ := qS (below_step (by repeat (first | (with_reducible first | exact HB.out | apply qpA | apply qpN | apply qp1 | refine qpS ?_ GE172.out | refine qpS ?_ GE173.out | refine qpS ?_ GE174.out | refine qpS ?_ GE175.out | refine qpS ?_ GE176.out | refine qpS ?_ GE180.out | refine qpS ?_ GE184.out) | exact HB.out)) hb); clear BK172; clear BK173; clear BK174; clear BK175; clear BK176; clear BK180; clear BK184; clear HB; have BK172 := n0_; have BK173 := n1_; have BK174 := n2_; have BK175 := n3_; have BK176 := n4_; have BK180 := n5_; have BK184 := n6_; have HB := n7_; clear n0_ n1_ n2_ n3_ n4_ n5_ n6_ n7_; (try clear hb); (try clear hb2); (try clear hk); (try clear hi)))
      go_meet
      case rel => exact ⟨_, (t190), (by first | rfl | (simp; done) | (simp [*]; done)), H', ⟨by first | omega | exact Nat.le_refl _⟩, ⟨by (with_reducible repeat (first | refine qN ?_ _ | refine qD ?_ | refine qA ?_ _)); exact BK172.out⟩, ⟨by (with_reducible repeat (first | refine qN ?_ _ | refine qD ?_ | refine qA ?_ _)); exact BK173.out⟩, ⟨by (with_reducible repeat (first | refine qN ?_ _ | refine qD ?_ | refine qA ?_ _)); exact BK174.out⟩, ⟨by (with_reducible repeat (first | refine qN ?_ _ | refine qD ?_ | refine qA ?_ _)); exact BK175.out⟩, ⟨by (with_reducible repeat (first | refine qN ?_ _ | refine qD ?_ | refine qA ?_ _)); exact BK176.out⟩, ⟨by (with_reducible repeat (first | refine qN ?_ _ | refine qD ?_ | refine qA ?_ _)); exact BK180.out⟩, ⟨by (with_reducible repeat (first | refine qN ?_ _ | refine qD ?_ | refine qA ?_ _)); exact BK184.out⟩, ⟨by repeat (first | (with_reducible first | exact HB.out | apply qpA | apply qpN | apply qp1 | refine qpS ?_ GE172.out | refine qpS ?_ GE173.out | refine qpS ?_ GE174.out | refine qpS ?_ GE175.out | refine qpS ?_ GE176.out | refine qpS ?_ GE180.out | refine qpS ?_ GE184.out) | exact HB.out)⟩⟩
    ·replace c52 := Bool.eq_false_iff.mpr c52
     subst c52
     have H1 : (fuseelaw13_SpanMeets.j0 k t179 t183 (wrap64 (a2_0)) false a0_0 a0_1 a2_0 a2_1 a0_0 a0_1 t177 t178 t181 t182) = some r := by rw [if_neg (show ¬ (false = true) by decide)] at H; exact H
     clear H
     have H := H1
     clear H1
     as_aux_lemma =>
      have H' := qS H
      clear H
      have hnb73 := NB175_172.out
      have hnc73 := NB172_175.out
      have hnb74 := NB175_173.out
      have hnc74 := NB173_175.out
      have hnb75 := NB175_174.out
      have hnc75 := NB174_175.out
      have hnb76 := NB175_176.out
      have hnc76 := NB176_175.out
      have hnb77 := NB175_180.out
      have hnc77 := NB180_175.out
      have hnb78 := NB175_184.out
      have hnc78 := NB184_175.out
      have hcz79_0 : w38.cell? ⟨gb175, 0, none⟩ = some (.int .i64 a0_0) := (qC BK175.out 0).trans rfl
      have hcz79_1 : w38.cell? ⟨gb175, 1, none⟩ = some (.int .i64 a0_1) := (qC BK175.out 1).trans rfl
      have hfz79_0 := qF BK175.out 0
      have hfz79_1 := qF BK175.out 1
      go_wp2_with (first | ((with_reducible refine gate_callee (f := 53) rfl ?_); refine goesL_ (some 39) rfl rfl Tryd.func53 (by kernel_rfl) rfl #[.agg #[.int .i64 a0_0, .int .i64 a0_1]] rfl (by (try simp only [List.map_toArray, List.map_cons, List.map_nil]); first | done | rfl | (simp only [*]; done) | (simp only [List.length_drop, List.length_take]; rfl)) ?_; (with_reducible refine (span_Check.calls a0_0 a0_1 none _ A49.out).mono ?_); rintro e w80 ⟨rfl, hb⟩; refine ⟨_, rfl, ?_⟩; have n0_ := qS (qB (g := gb172) (o := .cells #[.int .i64 a0_0, .int .i64 a0_1] 73 (0, 0)) (by (with_reducible repeat (first | refine qN ?_ _ | refine qD ?_ | refine qA ?_ _)); refine blk_far ?_ NB172_184.out _; (with_reducible repeat (first | refine qN ?_ _ | refine qD ?_ | refine qA ?_ _)); refine blk_far ?_ NB172_184.out _; (with_reducible repeat (first | refine qN ?_ _ | refine qD ?_ | refine qA ?_ _)); exact BK172.out) hb); have n1_ := qS (qB (g := gb173) (o := .cells #[.int .i64 a1_0, .int .i64 a1_1] 73 (0, 0)) (by (with_reducible repeat (first | refine qN ?_ _ | refine qD ?_ | refine qA ?_ _)); refine blk_far ?_ NB173_184.out _; (with_reducible repeat (first | refine qN ?_ _ | refine qD ?_ | refine qA ?_ _)); refine blk_far ?_ NB173_184.out _; (with_reducible repeat (first | refine qN ?_ _ | refine qD ?_ | refine qA ?_ _)); exact BK173.out) hb); have n2_ := qS (qB (g := gb174) (o := .cells #[.int .i32 a2_0, .int .i32 a2_1] 110 (0, 0)) (by (with_reducible repeat (first | refine qN ?_ _ | refine qD ?_ | refine qA ?_ _)); refine blk_far ?_ NB174_184.out _; (with_reducible repeat (first | refine qN ?_ _ | refine qD ?_ | refine qA ?_ _)); refine blk_far ?_ NB174_184.out _; (with_reducible repeat (first | refine qN ?_ _ | refine qD ?_ | refine qA ?_ _)); exact BK174.out) hb); have n3_ := qS (qB (g := gb175) (o := .cells #[.int .i64 a0_0, .int .i64 a0_1] 68 (0, 0)) (by (with_reducible repeat (first | refine qN ?_ _ | refine qD ?_ | refine qA ?_ _)); refine blk_far ?_ NB175_184.out _; (with_reducible repeat (first | refine qN ?_ _ | refine qD ?_ | refine qA ?_ _)); refine blk_far ?_ NB175_184.out _; (with_reducible repeat (first | refine qN ?_ _ | refine qD ?_ | refine qA ?_ _)); exact BK175.out) hb); have n4_ := qS (qB (g := gb176) (o := .cells #[.int .i64 a1_0, .int .i64 a1_1] 68 (0, 0)) (by (with_reducible repeat (first | refine qN ?_ _ | refine qD ?_ | refine qA ?_ _)); refine blk_far ?_ NB176_184.out _; (with_reducible repeat (first | refine qN ?_ _ | refine qD ?_ | refine qA ?_ _)); refine blk_far ?_ NB176_184.out _; (with_reducible repeat (first | refine qN ?_ _ | refine qD ?_ | refine qA ?_ _)); exact BK176.out) hb); have n5_ := qS (qB (g := gb180) (o := .cells #[.int .i64 t177, .int .i64 t178] 68 (0, 0)) (by (with_reducible repeat (first | refine qN ?_ _ | refine qD ?_ | refine qA ?_ _)); refine blk_far ?_ NB180_184.out _; (with_reducible repeat (first | refine qN ?_ _ | refine qD ?_ | refine qA ?_ _)); refine blk_far ?_ NB180_184.out _; (with_reducible repeat (first | refine qN ?_ _ | refine qD ?_ | refine qA ?_ _)); exact BK180.out) hb); have n6_ := qS (qB (g := gb184) (o := .cells #[.int .i64 t181, .int .i64 t182] 68 (0, 0)) (by (with_reducible repeat (first | refine qN ?_ _ | refine qD ?_ | refine qA ?_ _)); refine blk_put (cs := #[.int .i64 t181, .int .i64 0]) ?_ 1 _ rfl; (with_reducible repeat (first | refine qN ?_ _ | refine qD ?_ | refine qA ?_ _)); refine blk_put (cs := #[.int .i64 0, .int .i64 0]) ?_ 0 _ rfl; (with_reducible repeat (first | refine qN ?_ _ | refine qD ?_ | refine qA ?_ _)); exact BK184.out) hb); have n7_ := qS (below_step (by repeat (first | (with_reducible first | exact HB.out | apply qpA | apply qpN | apply qp1 | refine qpS ?_ GE172.out | refine qpS ?_ GE173.out | refine qpS ?_ GE174.out | refine qpS ?_ GE175.out | refine qpS ?_ GE176.out | refine qpS ?_ GE180.out | refine qpS ?_ GE184.out) | exact HB.out)) hb); clear BK172; clear BK173; clear BK174; clear BK175; clear BK176; clear BK180; clear BK184; clear HB; have BK172 := n0_; have BK173 := n1_; have BK174 := n2_; have BK175 := n3_; have BK176 := n4_; have BK180 := n5_; have BK184 := n6_; have HB := n7_; clear n0_ n1_ n2_ n3_ n4_ n5_ n6_ n7_; (try clear hb); (try clear hb2); (try clear hk); (try clear hi); (try simp only [errW_none, errW_some]); have hnb81 := NB176_172.out; have hnc81 := NB172_176.out; have hnb82 := NB176_173.out; have hnc82 := NB173_176.out; have hnb83 := NB176_174.out; have hnc83 := NB174_176.out; have hnb84 := NB176_180.out; have hnc84 := NB180_176.out; have hnb85 := NB176_184.out; have hnc85 := NB184_176.out; have hcz86_0 : w80.cell? ⟨gb176, 0, none⟩ = some (.int .i64 a1_0) := (qC BK176.out 0).trans rfl; have hcz86_1 : w80.cell? ⟨gb176, 1, none⟩ = some (.int .i64 a1_1) := (qC BK176.out 1).trans rfl; have hfz86_0 := qF BK176.out 0; have hfz86_1 := qF BK176.out 1) | (go_at_call 53; (with_reducible refine (span_Check.calls a1_0 a1_1 none _ A50.out).mono ?_); rintro e w87 ⟨rfl, hb⟩; have n0_ := qS (qB (g := gb172) (o := .cells #[.int .i64 a0_0, .int .i64 a0_1] 73 (0, 0)) (by (with_reducible repeat (first | refine qN ?_ _ | refine qD ?_ | refine qA ?_ _)); exact BK172.out) hb); have n1_ := qS (qB (g := gb173) (o := .cells #[.int .i64 a1_0, .int .i64 a1_1] 73 (0, 0)) (by (with_reducible repeat (first | refine qN ?_ _ | refine qD ?_ | refine qA ?_ _)); exact BK173.out) hb); have n2_ := qS (qB (g := gb174) (o := .cells #[.int .i32 a2_0, .int .i32 a2_1] 110 (0, 0)) (by (with_reducible repeat (first | refine qN ?_ _ | refine qD ?_ | refine qA ?_ _)); exact BK174.out) hb); have n3_ := qS (qB (g := gb175) (o := .cells #[.int .i64 a0_0, .int .i64 a0_1] 68 (0, 0)) (by (with_reducible repeat (first | refine qN ?_ _ | refine qD ?_ | refine qA ?_ _)); exact BK175.out) hb); have n4_ := qS (qB (g := gb176) (o := .cells #[.int .i64 a1_0, .int .i64 a1_1] 68 (0, 0)) (by (with_reducible repeat (first | refine qN ?_ _ | refine qD ?_ | refine qA ?_ _)); exact BK176.out) hb); have n5_ := qS (qB (g := gb180) (o := .cells #[.int .i64 t177, .int .i64 t178] 68 (0, 0)) (by (with_reducible repeat (first | refine qN ?_ _ | refine qD ?_ | refine qA ?_ _)); exact BK180.out) hb); have n6_ := qS (qB (g := gb184) (o := .cells #[.int .i64 t181, .int .i64 t182] 68 (0, 0)) (by (with_reducible repeat (first | refine qN ?_ _ | refine qD ?_ | refine qA ?_ _)); exact BK184.out) hb); have n7_ := qS (below_step (by repeat (first | (with_reducible first | exact HB.out | apply qpA | apply qpN | apply qp1 | refine qpS ?_ GE172.out | refine qpS ?_ GE173.out | refine qpS ?_ GE174.out | refine qpS ?_ GE175.out | refine qpS ?_ GE176.out | refine qpS ?_ GE180.out | refine qpS ?_ GE184.out) | exact HB.out)) hb); clear BK172; clear BK173; clear BK174; clear BK175; clear BK176; clear BK180; clear BK184; clear HB; have BK172 := n0_; have BK173 := n1_; have BK174 := n2_; have BK175 := n3_; have BK176 := n4_; have BK180 := n5_; have BK184 := n6_; have HB := n7_; clear n0_ n1_ n2_ n3_ n4_ n5_ n6_ n7_; (try clear hb); (try clear hb2); (try clear hk); (try clear hi); (try simp only [errW_none, errW_some]); have hcz88_0 : w87.cell? ⟨gb175, 0, none⟩ = some (.int .i64 a0_0) := (qC BK175.out 0).trans rfl; have hcz88_1 : w87.cell? ⟨gb175, 1, none⟩ = some (.int .i64 a0_1) := (qC BK175.out 1).trans rfl; have hfz88_0 := qF BK175.out 0; have hfz88_1 := qF BK175.out 1) | (go_at_call 39; (with_reducible refine (span_Has.calls a0_0 a0_1 (wrap64 (a2_0)) false _ A51.out).mono ?_); rintro e w89 ⟨rfl, hb⟩; have n0_ := qS (qB (g := gb172) (o := .cells #[.int .i64 a0_0, .int .i64 a0_1] 73 (0, 0)) (by (with_reducible repeat (first | refine qN ?_ _ | refine qD ?_ | refine qA ?_ _)); exact BK172.out) hb); have n1_ := qS (qB (g := gb173) (o := .cells #[.int .i64 a1_0, .int .i64 a1_1] 73 (0, 0)) (by (with_reducible repeat (first | refine qN ?_ _ | refine qD ?_ | refine qA ?_ _)); exact BK173.out) hb); have n2_ := qS (qB (g := gb174) (o := .cells #[.int .i32 a2_0, .int .i32 a2_1] 110 (0, 0)) (by (with_reducible repeat (first | refine qN ?_ _ | refine qD ?_ | refine qA ?_ _)); exact BK174.out) hb); have n3_ := qS (qB (g := gb175) (o := .cells #[.int .i64 a0_0, .int .i64 a0_1] 68 (0, 0)) (by (with_reducible repeat (first | refine qN ?_ _ | refine qD ?_ | refine qA ?_ _)); exact BK175.out) hb); have n4_ := qS (qB (g := gb176) (o := .cells #[.int .i64 a1_0, .int .i64 a1_1] 68 (0, 0)) (by (with_reducible repeat (first | refine qN ?_ _ | refine qD ?_ | refine qA ?_ _)); exact BK176.out) hb); have n5_ := qS (qB (g := gb180) (o := .cells #[.int .i64 t177, .int .i64 t178] 68 (0, 0)) (by (with_reducible repeat (first | refine qN ?_ _ | refine qD ?_ | refine qA ?_ _)); exact BK180.out) hb); have n6_ := qS (qB (g := gb184) (o := .cells #[.int .i64 t181, .int .i64 t182] 68 (0, 0)) (by (with_reducible repeat (first | refine qN ?_ _ | refine qD ?_ | refine qA ?_ _)); exact BK184.out) hb); have n7_ := qS (below_step (by repeat (first | (with_reducible first | exact HB.out | apply qpA | apply qpN | apply qp1 | refine qpS ?_ GE172.out | refine qpS ?_ GE173.out | refine qpS ?_ GE174.out | refine qpS ?_ GE175.out | refine qpS ?_ GE176.out | refine qpS ?_ GE180.out | refine qpS ?_ GE184.out) | exact HB.out)) hb); clear BK172; clear BK173; clear BK174; clear BK175; clear BK176; clear BK180; clear BK184; clear HB; have BK172 := n0_; have BK173 := n1_; have BK174 := n2_; have BK175 := n3_; have BK176 := n4_; have BK180 := n5_; have BK184 := n6_; have HB := n7_; clear n0_ n1_ n2_ n3_ n4_ n5_ n6_ n7_; (try clear hb); (try clear hb2); (try clear hk); (try clear hi)))
      go_meet
      case rel => exact ⟨_, (false), (by first | rfl | (simp; done) | (simp [*]; done)), H', ⟨by first | omega | exact Nat.le_refl _⟩, ⟨by (with_reducible repeat (first | refine qN ?_ _ | refine qD ?_ | refine qA ?_ _)); exact BK172.out⟩, ⟨by (with_reducible repeat (first | refine qN ?_ _ | refine qD ?_ | refine qA ?_ _)); exact BK173.out⟩, ⟨by (with_reducible repeat (first | refine qN ?_ _ | refine qD ?_ | refine qA ?_ _)); exact BK174.out⟩, ⟨by (with_reducible repeat (first | refine qN ?_ _ | refine qD ?_ | refine qA ?_ _)); exact BK175.out⟩, ⟨by (with_reducible repeat (first | refine qN ?_ _ | refine qD ?_ | refine qA ?_ _)); exact BK176.out⟩, ⟨by (with_reducible repeat (first | refine qN ?_ _ | refine qD ?_ | refine qA ?_ _)); exact BK180.out⟩, ⟨by (with_reducible repeat (first | refine qN ?_ _ | refine qD ?_ | refine qA ?_ _)); exact BK184.out⟩, ⟨by repeat (first | (with_reducible first | exact HB.out | apply qpA | apply qpN | apply qp1 | refine qpS ?_ GE172.out | refine qpS ?_ GE173.out | refine qpS ?_ GE174.out | refine qpS ?_ GE175.out | refine qpS ?_ GE176.out | refine qpS ?_ GE180.out | refine qpS ?_ GE184.out) | exact HB.out)⟩⟩
   ·have H1 : (fuseelaw13_SpanMeets.j0 k t179 t183 (wrap64 (a2_0)) false a0_0 a0_1 a2_0 a2_1 a0_0 a0_1 t177 t178 t181 t182) = some r := by rw [if_neg (show ¬ (some q188).isNone = true by simp)] at H; exact H
    clear H
    have H := H1
    clear H1
    try simp only [errW_none, errW_some]
    as_aux_lemma =>
     have H' := qS H
     clear H
     have hnb90 := NB175_172.out
     have hnc90 := NB172_175.out
     have hnb91 := NB175_173.out
     have hnc91 := NB173_175.out
     have hnb92 := NB175_174.out
     have hnc92 := NB174_175.out
     have hnb93 := NB175_176.out
     have hnc93 := NB176_175.out
     have hnb94 := NB175_180.out
     have hnc94 := NB180_175.out
     have hnb95 := NB175_184.out
     have hnc95 := NB184_175.out
     have hcz96_0 : w38.cell? ⟨gb175, 0, none⟩ = some (.int .i64 a0_0) := (qC BK175.out 0).trans rfl
     have hcz96_1 : w38.cell? ⟨gb175, 1, none⟩ = some (.int .i64 a0_1) := (qC BK175.out 1).trans rfl
     have hfz96_0 := qF BK175.out 0
     have hfz96_1 := qF BK175.out 1
     go_wp2_with (first | ((with_reducible refine gate_callee (f := 53) rfl ?_); refine goesL_ (some 39) rfl rfl Tryd.func53 (by kernel_rfl) rfl #[.agg #[.int .i64 a0_0, .int .i64 a0_1]] rfl (by (try simp only [List.map_toArray, List.map_cons, List.map_nil]); first | done | rfl | (simp only [*]; done) | (simp only [List.length_drop, List.length_take]; rfl)) ?_; (with_reducible refine (span_Check.calls a0_0 a0_1 none _ A49.out).mono ?_); rintro e w97 ⟨rfl, hb⟩; refine ⟨_, rfl, ?_⟩; have n0_ := qS (qB (g := gb172) (o := .cells #[.int .i64 a0_0, .int .i64 a0_1] 73 (0, 0)) (by (with_reducible repeat (first | refine qN ?_ _ | refine qD ?_ | refine qA ?_ _)); refine blk_far ?_ NB172_184.out _; (with_reducible repeat (first | refine qN ?_ _ | refine qD ?_ | refine qA ?_ _)); refine blk_far ?_ NB172_184.out _; (with_reducible repeat (first | refine qN ?_ _ | refine qD ?_ | refine qA ?_ _)); exact BK172.out) hb); have n1_ := qS (qB (g := gb173) (o := .cells #[.int .i64 a1_0, .int .i64 a1_1] 73 (0, 0)) (by (with_reducible repeat (first | refine qN ?_ _ | refine qD ?_ | refine qA ?_ _)); refine blk_far ?_ NB173_184.out _; (with_reducible repeat (first | refine qN ?_ _ | refine qD ?_ | refine qA ?_ _)); refine blk_far ?_ NB173_184.out _; (with_reducible repeat (first | refine qN ?_ _ | refine qD ?_ | refine qA ?_ _)); exact BK173.out) hb); have n2_ := qS (qB (g := gb174) (o := .cells #[.int .i32 a2_0, .int .i32 a2_1] 110 (0, 0)) (by (with_reducible repeat (first | refine qN ?_ _ | refine qD ?_ | refine qA ?_ _)); refine blk_far ?_ NB174_184.out _; (with_reducible repeat (first | refine qN ?_ _ | refine qD ?_ | refine qA ?_ _)); refine blk_far ?_ NB174_184.out _; (with_reducible repeat (first | refine qN ?_ _ | refine qD ?_ | refine qA ?_ _)); exact BK174.out) hb); have n3_ := qS (qB (g := gb175) (o := .cells #[.int .i64 a0_0, .int .i64 a0_1] 68 (0, 0)) (by (with_reducible repeat (first | refine qN ?_ _ | refine qD ?_ | refine qA ?_ _)); refine blk_far ?_ NB175_184.out _; (with_reducible repeat (first | refine qN ?_ _ | refine qD ?_ | refine qA ?_ _)); refine blk_far ?_ NB175_184.out _; (with_reducible repeat (first | refine qN ?_ _ | refine qD ?_ | refine qA ?_ _)); exact BK175.out) hb); have n4_ := qS (qB (g := gb176) (o := .cells #[.int .i64 a1_0, .int .i64 a1_1] 68 (0, 0)) (by (with_reducible repeat (first | refine qN ?_ _ | refine qD ?_ | refine qA ?_ _)); refine blk_far ?_ NB176_184.out _; (with_reducible repeat (first | refine qN ?_ _ | refine qD ?_ | refine qA ?_ _)); refine blk_far ?_ NB176_184.out _; (with_reducible repeat (first | refine qN ?_ _ | refine qD ?_ | refine qA ?_ _)); exact BK176.out) hb); have n5_ := qS (qB (g := gb180) (o := .cells #[.int .i64 t177, .int .i64 t178] 68 (0, 0)) (by (with_reducible repeat (first | refine qN ?_ _ | refine qD ?_ | refine qA ?_ _)); refine blk_far ?_ NB180_184.out _; (with_reducible repeat (first | refine qN ?_ _ | refine qD ?_ | refine qA ?_ _)); refine blk_far ?_ NB180_184.out _; (with_reducible repeat (first | refine qN ?_ _ | refine qD ?_ | refine qA ?_ _)); exact BK180.out) hb); have n6_ := qS (qB (g := gb184) (o := .cells #[.int .i64 t181, .int .i64 t182] 68 (0, 0)) (by (with_reducible repeat (first | refine qN ?_ _ | refine qD ?_ | refine qA ?_ _)); refine blk_put (cs := #[.int .i64 t181, .int .i64 0]) ?_ 1 _ rfl; (with_reducible repeat (first | refine qN ?_ _ | refine qD ?_ | refine qA ?_ _)); refine blk_put (cs := #[.int .i64 0, .int .i64 0]) ?_ 0 _ rfl; (with_reducible repeat (first | refine qN ?_ _ | refine qD ?_ | refine qA ?_ _)); exact BK184.out) hb); have n7_ := qS (below_step (by repeat (first | (with_reducible first | exact HB.out | apply qpA | apply qpN | apply qp1 | refine qpS ?_ GE172.out | refine qpS ?_ GE173.out | refine qpS ?_ GE174.out | refine qpS ?_ GE175.out | refine qpS ?_ GE176.out | refine qpS ?_ GE180.out | refine qpS ?_ GE184.out) | exact HB.out)) hb); clear BK172; clear BK173; clear BK174; clear BK175; clear BK176; clear BK180; clear BK184; clear HB; have BK172 := n0_; have BK173 := n1_; have BK174 := n2_; have BK175 := n3_; have BK176 := n4_; have BK180 := n5_; have BK184 := n6_; have HB := n7_; clear n0_ n1_ n2_ n3_ n4_ n5_ n6_ n7_; (try clear hb); (try clear hb2); (try clear hk); (try clear hi); (try simp only [errW_none, errW_some]); have hnb98 := NB176_172.out; have hnc98 := NB172_176.out; have hnb99 := NB176_173.out; have hnc99 := NB173_176.out; have hnb100 := NB176_174.out; have hnc100 := NB174_176.out; have hnb101 := NB176_180.out; have hnc101 := NB180_176.out; have hnb102 := NB176_184.out; have hnc102 := NB184_176.out; have hcz103_0 : w97.cell? ⟨gb176, 0, none⟩ = some (.int .i64 a1_0) := (qC BK176.out 0).trans rfl; have hcz103_1 : w97.cell? ⟨gb176, 1, none⟩ = some (.int .i64 a1_1) := (qC BK176.out 1).trans rfl; have hfz103_0 := qF BK176.out 0; have hfz103_1 := qF BK176.out 1) | (go_at_call 53; (with_reducible refine (span_Check.calls a1_0 a1_1 (some q188) _ A50.out).mono ?_); rintro e w104 ⟨rfl, hb⟩; have n0_ := qS (qB (g := gb172) (o := .cells #[.int .i64 a0_0, .int .i64 a0_1] 73 (0, 0)) (by (with_reducible repeat (first | refine qN ?_ _ | refine qD ?_ | refine qA ?_ _)); exact BK172.out) hb); have n1_ := qS (qB (g := gb173) (o := .cells #[.int .i64 a1_0, .int .i64 a1_1] 73 (0, 0)) (by (with_reducible repeat (first | refine qN ?_ _ | refine qD ?_ | refine qA ?_ _)); exact BK173.out) hb); have n2_ := qS (qB (g := gb174) (o := .cells #[.int .i32 a2_0, .int .i32 a2_1] 110 (0, 0)) (by (with_reducible repeat (first | refine qN ?_ _ | refine qD ?_ | refine qA ?_ _)); exact BK174.out) hb); have n3_ := qS (qB (g := gb175) (o := .cells #[.int .i64 a0_0, .int .i64 a0_1] 68 (0, 0)) (by (with_reducible repeat (first | refine qN ?_ _ | refine qD ?_ | refine qA ?_ _)); exact BK175.out) hb); have n4_ := qS (qB (g := gb176) (o := .cells #[.int .i64 a1_0, .int .i64 a1_1] 68 (0, 0)) (by (with_reducible repeat (first | refine qN ?_ _ | refine qD ?_ | refine qA ?_ _)); exact BK176.out) hb); have n5_ := qS (qB (g := gb180) (o := .cells #[.int .i64 t177, .int .i64 t178] 68 (0, 0)) (by (with_reducible repeat (first | refine qN ?_ _ | refine qD ?_ | refine qA ?_ _)); exact BK180.out) hb); have n6_ := qS (qB (g := gb184) (o := .cells #[.int .i64 t181, .int .i64 t182] 68 (0, 0)) (by (with_reducible repeat (first | refine qN ?_ _ | refine qD ?_ | refine qA ?_ _)); exact BK184.out) hb); have n7_ := qS (below_step (by repeat (first | (with_reducible first | exact HB.out | apply qpA | apply qpN | apply qp1 | refine qpS ?_ GE172.out | refine qpS ?_ GE173.out | refine qpS ?_ GE174.out | refine qpS ?_ GE175.out | refine qpS ?_ GE176.out | refine qpS ?_ GE180.out | refine qpS ?_ GE184.out) | exact HB.out)) hb); clear BK172; clear BK173; clear BK174; clear BK175; clear BK176; clear BK180; clear BK184; clear HB; have BK172 := n0_; have BK173 := n1_; have BK174 := n2_; have BK175 := n3_; have BK176 := n4_; have BK180 := n5_; have BK184 := n6_; have HB := n7_; clear n0_ n1_ n2_ n3_ n4_ n5_ n6_ n7_; (try clear hb); (try clear hb2); (try clear hk); (try clear hi); (try simp only [errW_none, errW_some])))
     go_meet
     case rel => exact ⟨_, (false), (by first | rfl | (simp; done) | (simp [*]; done)), H', ⟨by first | omega | exact Nat.le_refl _⟩, ⟨by (with_reducible repeat (first | refine qN ?_ _ | refine qD ?_ | refine qA ?_ _)); exact BK172.out⟩, ⟨by (with_reducible repeat (first | refine qN ?_ _ | refine qD ?_ | refine qA ?_ _)); exact BK173.out⟩, ⟨by (with_reducible repeat (first | refine qN ?_ _ | refine qD ?_ | refine qA ?_ _)); exact BK174.out⟩, ⟨by (with_reducible repeat (first | refine qN ?_ _ | refine qD ?_ | refine qA ?_ _)); exact BK175.out⟩, ⟨by (with_reducible repeat (first | refine qN ?_ _ | refine qD ?_ | refine qA ?_ _)); exact BK176.out⟩, ⟨by (with_reducible repeat (first | refine qN ?_ _ | refine qD ?_ | refine qA ?_ _)); exact BK180.out⟩, ⟨by (with_reducible repeat (first | refine qN ?_ _ | refine qD ?_ | refine qA ?_ _)); exact BK184.out⟩, ⟨by repeat (first | (with_reducible first | exact HB.out | apply qpA | apply qpN | apply qp1 | refine qpS ?_ GE172.out | refine qpS ?_ GE173.out | refine qpS ?_ GE174.out | refine qpS ?_ GE175.out | refine qpS ?_ GE176.out | refine qpS ?_ GE180.out | refine qpS ?_ GE184.out) | exact HB.out)⟩⟩
  ·have H1 : (fuseelaw13_SpanMeets.j0 k t179 t183 (wrap64 (a2_0)) false a0_0 a0_1 a2_0 a2_1 a0_0 a0_1 t177 t178 t181 t182) = some r := by rw [if_neg (show ¬ (some q186).isNone = true by simp)] at H; exact H
   clear H
   have H := H1
   clear H1
   try simp only [errW_none, errW_some]
   as_aux_lemma =>
    have H' := qS H
    clear H
    have hnb105 := NB175_172.out
    have hnc105 := NB172_175.out
    have hnb106 := NB175_173.out
    have hnc106 := NB173_175.out
    have hnb107 := NB175_174.out
    have hnc107 := NB174_175.out
    have hnb108 := NB175_176.out
    have hnc108 := NB176_175.out
    have hnb109 := NB175_180.out
    have hnc109 := NB180_175.out
    have hnb110 := NB175_184.out
    have hnc110 := NB184_175.out
    have hcz111_0 : w38.cell? ⟨gb175, 0, none⟩ = some (.int .i64 a0_0) := (qC BK175.out 0).trans rfl
    have hcz111_1 : w38.cell? ⟨gb175, 1, none⟩ = some (.int .i64 a0_1) := (qC BK175.out 1).trans rfl
    have hfz111_0 := qF BK175.out 0
    have hfz111_1 := qF BK175.out 1
    go_wp2_with (first | ((with_reducible refine gate_callee (f := 53) rfl ?_); refine goesL_ (some 39) rfl rfl Tryd.func53 (by kernel_rfl) rfl #[.agg #[.int .i64 a0_0, .int .i64 a0_1]] rfl (by (try simp only [List.map_toArray, List.map_cons, List.map_nil]); first | done | rfl | (simp only [*]; done) | (simp only [List.length_drop, List.length_take]; rfl)) ?_; (with_reducible refine (span_Check.calls a0_0 a0_1 (some q186) _ A49.out).mono ?_); rintro e w112 ⟨rfl, hb⟩; refine ⟨_, rfl, ?_⟩; have n0_ := qS (qB (g := gb172) (o := .cells #[.int .i64 a0_0, .int .i64 a0_1] 73 (0, 0)) (by (with_reducible repeat (first | refine qN ?_ _ | refine qD ?_ | refine qA ?_ _)); refine blk_far ?_ NB172_184.out _; (with_reducible repeat (first | refine qN ?_ _ | refine qD ?_ | refine qA ?_ _)); refine blk_far ?_ NB172_184.out _; (with_reducible repeat (first | refine qN ?_ _ | refine qD ?_ | refine qA ?_ _)); exact BK172.out) hb); have n1_ := qS (qB (g := gb173) (o := .cells #[.int .i64 a1_0, .int .i64 a1_1] 73 (0, 0)) (by (with_reducible repeat (first | refine qN ?_ _ | refine qD ?_ | refine qA ?_ _)); refine blk_far ?_ NB173_184.out _; (with_reducible repeat (first | refine qN ?_ _ | refine qD ?_ | refine qA ?_ _)); refine blk_far ?_ NB173_184.out _; (with_reducible repeat (first | refine qN ?_ _ | refine qD ?_ | refine qA ?_ _)); exact BK173.out) hb); have n2_ := qS (qB (g := gb174) (o := .cells #[.int .i32 a2_0, .int .i32 a2_1] 110 (0, 0)) (by (with_reducible repeat (first | refine qN ?_ _ | refine qD ?_ | refine qA ?_ _)); refine blk_far ?_ NB174_184.out _; (with_reducible repeat (first | refine qN ?_ _ | refine qD ?_ | refine qA ?_ _)); refine blk_far ?_ NB174_184.out _; (with_reducible repeat (first | refine qN ?_ _ | refine qD ?_ | refine qA ?_ _)); exact BK174.out) hb); have n3_ := qS (qB (g := gb175) (o := .cells #[.int .i64 a0_0, .int .i64 a0_1] 68 (0, 0)) (by (with_reducible repeat (first | refine qN ?_ _ | refine qD ?_ | refine qA ?_ _)); refine blk_far ?_ NB175_184.out _; (with_reducible repeat (first | refine qN ?_ _ | refine qD ?_ | refine qA ?_ _)); refine blk_far ?_ NB175_184.out _; (with_reducible repeat (first | refine qN ?_ _ | refine qD ?_ | refine qA ?_ _)); exact BK175.out) hb); have n4_ := qS (qB (g := gb176) (o := .cells #[.int .i64 a1_0, .int .i64 a1_1] 68 (0, 0)) (by (with_reducible repeat (first | refine qN ?_ _ | refine qD ?_ | refine qA ?_ _)); refine blk_far ?_ NB176_184.out _; (with_reducible repeat (first | refine qN ?_ _ | refine qD ?_ | refine qA ?_ _)); refine blk_far ?_ NB176_184.out _; (with_reducible repeat (first | refine qN ?_ _ | refine qD ?_ | refine qA ?_ _)); exact BK176.out) hb); have n5_ := qS (qB (g := gb180) (o := .cells #[.int .i64 t177, .int .i64 t178] 68 (0, 0)) (by (with_reducible repeat (first | refine qN ?_ _ | refine qD ?_ | refine qA ?_ _)); refine blk_far ?_ NB180_184.out _; (with_reducible repeat (first | refine qN ?_ _ | refine qD ?_ | refine qA ?_ _)); refine blk_far ?_ NB180_184.out _; (with_reducible repeat (first | refine qN ?_ _ | refine qD ?_ | refine qA ?_ _)); exact BK180.out) hb); have n6_ := qS (qB (g := gb184) (o := .cells #[.int .i64 t181, .int .i64 t182] 68 (0, 0)) (by (with_reducible repeat (first | refine qN ?_ _ | refine qD ?_ | refine qA ?_ _)); refine blk_put (cs := #[.int .i64 t181, .int .i64 0]) ?_ 1 _ rfl; (with_reducible repeat (first | refine qN ?_ _ | refine qD ?_ | refine qA ?_ _)); refine blk_put (cs := #[.int .i64 0, .int .i64 0]) ?_ 0 _ rfl; (with_reducible repeat (first | refine qN ?_ _ | refine qD ?_ | refine qA ?_ _)); exact BK184.out) hb); have n7_ := qS (below_step (by repeat (first | (with_reducible first | exact HB.out | apply qpA | apply qpN | apply qp1 | refine qpS ?_ GE172.out | refine qpS ?_ GE173.out | refine qpS ?_ GE174.out | refine qpS ?_ GE175.out | refine qpS ?_ GE176.out | refine qpS ?_ GE180.out | refine qpS ?_ GE184.out) | exact HB.out)) hb); clear BK172; clear BK173; clear BK174; clear BK175; clear BK176; clear BK180; clear BK184; clear HB; have BK172 := n0_; have BK173 := n1_; have BK174 := n2_; have BK175 := n3_; have BK176 := n4_; have BK180 := n5_; have BK184 := n6_; have HB := n7_; clear n0_ n1_ n2_ n3_ n4_ n5_ n6_ n7_; (try clear hb); (try clear hb2); (try clear hk); (try clear hi); (try simp only [errW_none, errW_some])))
    go_meet
    case rel => exact ⟨_, (false), (by first | rfl | (simp; done) | (simp [*]; done)), H', ⟨by first | omega | exact Nat.le_refl _⟩, ⟨by (with_reducible repeat (first | refine qN ?_ _ | refine qD ?_ | refine qA ?_ _)); exact BK172.out⟩, ⟨by (with_reducible repeat (first | refine qN ?_ _ | refine qD ?_ | refine qA ?_ _)); exact BK173.out⟩, ⟨by (with_reducible repeat (first | refine qN ?_ _ | refine qD ?_ | refine qA ?_ _)); exact BK174.out⟩, ⟨by (with_reducible repeat (first | refine qN ?_ _ | refine qD ?_ | refine qA ?_ _)); exact BK175.out⟩, ⟨by (with_reducible repeat (first | refine qN ?_ _ | refine qD ?_ | refine qA ?_ _)); exact BK176.out⟩, ⟨by (with_reducible repeat (first | refine qN ?_ _ | refine qD ?_ | refine qA ?_ _)); exact BK180.out⟩, ⟨by (with_reducible repeat (first | refine qN ?_ _ | refine qD ?_ | refine qA ?_ _)); exact BK184.out⟩, ⟨by repeat (first | (with_reducible first | exact HB.out | apply qpA | apply qpN | apply qp1 | refine qpS ?_ GE172.out | refine qpS ?_ GE173.out | refine qpS ?_ GE174.out | refine qpS ?_ GE175.out | refine qpS ?_ GE176.out | refine qpS ?_ GE180.out | refine qpS ?_ GE184.out) | exact HB.out)⟩⟩
 case rest =>
  clear HC6
  try clear c1
  try clear q1
  try clear c2
  try clear p2
  try clear c3
  try clear c4
  try clear c5
  try clear c6
  try clear p6
  try clear c7
  try clear c8
  try clear c9
  try clear c10
  try clear c11
  try clear c14
  try clear c18
  try clear q18
  try clear c19
  try clear c20
  try clear c21
  try clear c23
  try clear c24
  try clear c25
  try clear c29
  try clear c30
  try clear c31
  try clear c32
  try clear c33
  try clear c39
  try clear c40
  try clear c41
  try clear c42
  try clear c43
  try clear c44
  try clear c46
  try clear c47
  try clear c50
  try clear c52
  try clear c53
  try clear c54
  try clear c55
  try clear c56
  try clear c57
  try clear c58
  try clear c59
  try clear c62
  try clear c63
  try clear c64
  try clear p64
  try clear c65
  try clear c66
  try clear c73
  try clear c74
  try clear c75
  try clear c76
  try clear c77
  try clear c78
  try clear c81
  try clear c82
  try clear c83
  try clear c84
  try clear c85
  try clear c90
  try clear c91
  try clear c92
  try clear c93
  try clear c94
  try clear c95
  try clear c98
  try clear c99
  try clear c100
  try clear c101
  try clear c102
  try clear c105
  try clear c106
  try clear c107
  try clear c108
  try clear c109
  try clear c110
  try clear hcz103_0
  try clear hcz103_1
  try clear hcz111_0
  try clear hcz111_1
  try clear hcz22_0
  try clear hcz22_1
  try clear hcz26_0
  try clear hcz26_1
  try clear hcz34_0
  try clear hcz34_1
  try clear hcz35_0
  try clear hcz35_1
  try clear hcz36_0
  try clear hcz36_1
  try clear hcz45_0
  try clear hcz45_1
  try clear hcz48_0
  try clear hcz48_1
  try clear hcz60_0
  try clear hcz60_1
  try clear hcz67_0
  try clear hcz67_1
  try clear hcz69_0
  try clear hcz69_1
  try clear hcz71_0
  try clear hcz71_1
  try clear hcz79_0
  try clear hcz79_1
  try clear hcz86_0
  try clear hcz86_1
  try clear hcz88_0
  try clear hcz88_1
  try clear hcz96_0
  try clear hcz96_1
  try clear hfz103_0
  try clear hfz103_1
  try clear hfz111_0
  try clear hfz111_1
  try clear hfz22_0
  try clear hfz22_1
  try clear hfz26_0
  try clear hfz26_1
  try clear hfz34_0
  try clear hfz34_1
  try clear hfz35_0
  try clear hfz35_1
  try clear hfz36_0
  try clear hfz36_1
  try clear hfz45_0
  try clear hfz45_1
  try clear hfz48_0
  try clear hfz48_1
  try clear hfz60_0
  try clear hfz60_1
  try clear hfz67_0
  try clear hfz67_1
  try clear hfz69_0
  try clear hfz69_1
  try clear hfz71_0
  try clear hfz71_1
  try clear hfz79_0
  try clear hfz79_1
  try clear hfz86_0
  try clear hfz86_1
  try clear hfz88_0
  try clear hfz88_1
  try clear hfz96_0
  try clear hfz96_1
  try clear q186
  try clear q188
  obtain ⟨kq, x14_5, rfl, HA, HJ5, BK172, BK173, BK174, BK175, BK176, BK180, BK184, HB⟩ := hcut
  cases kq with
  | zero => exact absurd HA.out (by simp [fuseelaw13_SpanMeets.j0])
  | succ kj5 =>
   have H := HA.out
   clear HA
   simp only [fuseelaw13_SpanMeets.j0] at H
   have HC113 := qS H
   clear H
   go_upto_region 6 with (fail)
   go_cut [88] (fun v88 wc => ∃ (kq : Nat) (x88_112 : Bool), v88 = .bool x88_112 ∧ Aside0 (fuseelaw13_SpanMeets.j1 kq x88_112 a0_0 a0_1 a2_0 a2_1 a0_0 a0_1 = some r) ∧ Aside0 (kq ≤ kj5) ∧ Aside0 (wc.heap[gb172]? = some (.cells #[.int .i64 a0_0, .int .i64 a0_1] 73 (0, 0))) ∧ Aside0 (wc.heap[gb173]? = some (.cells #[.int .i64 a1_0, .int .i64 a1_1] 73 (0, 0))) ∧ Aside0 (wc.heap[gb174]? = some (.cells #[.int .i32 a2_0, .int .i32 a2_1] 110 (0, 0))) ∧ Aside0 (wc.heap[gb175]? = some (.cells #[.int .i64 a0_0, .int .i64 a0_1] 68 (0, 0))) ∧ Aside0 (wc.heap[gb176]? = some (.cells #[.int .i64 a1_0, .int .i64 a1_1] 68 (0, 0))) ∧ Aside0 (wc.heap[gb180]? = some (.cells #[.int .i64 t177, .int .i64 t178] 68 (0, 0))) ∧ Aside0 (wc.heap[gb184]? = some (.cells #[.int .i64 t181, .int .i64 t182] 68 (0, 0))) ∧ Aside0 (Below w.heap.size w wc))
   case first =>
    have H := HC113.out
    clear HC113
    by_cases c114 : (t179 != t183) = true
    ·rw [if_pos c114] at H
     have c114b0 : (t179 != t183) = true := c114
     (try (have c114b1 : decide (t179 = t183) = false := by simpa using c114))
     (try (have c114b2 : (t179 == t183) = false := by simpa using c114))
     (try (have c114b3 : ¬ (t179 = t183) := by simpa using c114))
     clear c114
     (first | rw [c114b0] | (simp only [i64_w, i32_w]; rw [c114b0]) | skip)
     as_aux_lemma =>
      have H' := qS H
      clear H
      go_wp2
      go_meet
      case rel => exact ⟨_, (true), (by first | rfl | (simp; done) | (simp [*]; done)), H', ⟨by have := HJ5.out; first | omega | exact Nat.le_refl _⟩, ⟨by (with_reducible repeat (first | refine qN ?_ _ | refine qD ?_ | refine qA ?_ _)); exact BK172.out⟩, ⟨by (with_reducible repeat (first | refine qN ?_ _ | refine qD ?_ | refine qA ?_ _)); exact BK173.out⟩, ⟨by (with_reducible repeat (first | refine qN ?_ _ | refine qD ?_ | refine qA ?_ _)); exact BK174.out⟩, ⟨by (with_reducible repeat (first | refine qN ?_ _ | refine qD ?_ | refine qA ?_ _)); exact BK175.out⟩, ⟨by (with_reducible repeat (first | refine qN ?_ _ | refine qD ?_ | refine qA ?_ _)); exact BK176.out⟩, ⟨by (with_reducible repeat (first | refine qN ?_ _ | refine qD ?_ | refine qA ?_ _)); exact BK180.out⟩, ⟨by (with_reducible repeat (first | refine qN ?_ _ | refine qD ?_ | refine qA ?_ _)); exact BK184.out⟩, ⟨by repeat (first | (with_reducible first | exact HB.out | apply qpA | apply qpN | apply qp1 | refine qpS ?_ GE172.out | refine qpS ?_ GE173.out | refine qpS ?_ GE174.out | refine qpS ?_ GE175.out | refine qpS ?_ GE176.out | refine qpS ?_ GE180.out | refine qpS ?_ GE184.out) | exact HB.out)⟩⟩
    ·rw [if_neg c114] at H
     have c114b0 : (t179 != t183) = false := by simpa using c114
     (try (have c114b1 : decide (t179 = t183) = true := by simpa using c114))
     (try (have c114b2 : (t179 == t183) = true := by simpa using c114))
     clear c114
     (first | rw [c114b0] | (simp only [i64_w, i32_w]; rw [c114b0]) | skip)
     by_cases c115 : (!(t177 == t181) || (!(t178 == t182))) = true
     ·rw [if_pos c115] at H
      have c115b0 : (!(t177 == t181) || (!(t178 == t182))) = true := c115
      clear c115
      as_aux_lemma =>
       have H' := qS H
       clear H
       have hnb116 := NB180_172.out
       have hnc116 := NB172_180.out
       have hnb117 := NB180_173.out
       have hnc117 := NB173_180.out
       have hnb118 := NB180_174.out
       have hnc118 := NB174_180.out
       have hnb119 := NB180_175.out
       have hnc119 := NB175_180.out
       have hnb120 := NB180_176.out
       have hnc120 := NB176_180.out
       have hnb121 := NB180_184.out
       have hnc121 := NB184_180.out
       have hcz122_0 : wc.cell? ⟨gb180, 0, none⟩ = some (.int .i64 t177) := (qC BK180.out 0).trans rfl
       have hcz122_1 : wc.cell? ⟨gb180, 1, none⟩ = some (.int .i64 t178) := (qC BK180.out 1).trans rfl
       have hfz122_0 := qF BK180.out 0
       have hfz122_1 := qF BK180.out 1
       have hnb123 := NB184_172.out
       have hnc123 := NB172_184.out
       have hnb124 := NB184_173.out
       have hnc124 := NB173_184.out
       have hnb125 := NB184_174.out
       have hnc125 := NB174_184.out
       have hnb126 := NB184_175.out
       have hnc126 := NB175_184.out
       have hnb127 := NB184_176.out
       have hnc127 := NB176_184.out
       have hcz128_0 : wc.cell? ⟨gb184, 0, none⟩ = some (.int .i64 t181) := (qC BK184.out 0).trans rfl
       have hcz128_1 : wc.cell? ⟨gb184, 1, none⟩ = some (.int .i64 t182) := (qC BK184.out 1).trans rfl
       have hfz128_0 := qF BK184.out 0
       have hfz128_1 := qF BK184.out 1
       go_wp2
       go_meet
       case rel => exact ⟨_, (true), (by first | rfl | (simp; done) | (simp [*]; done)), H', ⟨by have := HJ5.out; first | omega | exact Nat.le_refl _⟩, ⟨by (with_reducible repeat (first | refine qN ?_ _ | refine qD ?_ | refine qA ?_ _)); exact BK172.out⟩, ⟨by (with_reducible repeat (first | refine qN ?_ _ | refine qD ?_ | refine qA ?_ _)); exact BK173.out⟩, ⟨by (with_reducible repeat (first | refine qN ?_ _ | refine qD ?_ | refine qA ?_ _)); exact BK174.out⟩, ⟨by (with_reducible repeat (first | refine qN ?_ _ | refine qD ?_ | refine qA ?_ _)); exact BK175.out⟩, ⟨by (with_reducible repeat (first | refine qN ?_ _ | refine qD ?_ | refine qA ?_ _)); exact BK176.out⟩, ⟨by (with_reducible repeat (first | refine qN ?_ _ | refine qD ?_ | refine qA ?_ _)); exact BK180.out⟩, ⟨by (with_reducible repeat (first | refine qN ?_ _ | refine qD ?_ | refine qA ?_ _)); exact BK184.out⟩, ⟨by repeat (first | (with_reducible first | exact HB.out | apply qpA | apply qpN | apply qp1 | refine qpS ?_ GE172.out | refine qpS ?_ GE173.out | refine qpS ?_ GE174.out | refine qpS ?_ GE175.out | refine qpS ?_ GE176.out | refine qpS ?_ GE180.out | refine qpS ?_ GE184.out) | exact HB.out)⟩⟩
     ·rw [if_neg c115] at H
      have c115b0 : (!(t177 == t181) || (!(t178 == t182))) = false := by simpa using c115
      clear c115
      by_cases c129 : x14_5 = true
      ·subst c129
       have H1 : (if t179 = true then ((span_Has.f t177 t178 (wrap64 (a2_0))).bind fun t191 => (if t191 = true then (fuseelaw13_SpanMeets.j1 kj5 false a0_0 a0_1 a2_0 a2_1 a0_0 a0_1) else (fuseelaw13_SpanMeets.j1 kj5 true a0_0 a0_1 a2_0 a2_1 a0_0 a0_1))) else (fuseelaw13_SpanMeets.j1 kj5 true a0_0 a0_1 a2_0 a2_1 a0_0 a0_1)) = some r := by rw [if_pos rfl] at H; exact H
       clear H
       have H := H1
       clear H1
       by_cases c130 : t179 = true
       ·subst c130
        have H1 : ((span_Has.f t177 t178 (wrap64 (a2_0))).bind fun t191 => (if t191 = true then (fuseelaw13_SpanMeets.j1 kj5 false a0_0 a0_1 a2_0 a2_1 a0_0 a0_1) else (fuseelaw13_SpanMeets.j1 kj5 true a0_0 a0_1 a2_0 a2_1 a0_0 a0_1))) = some r := by rw [if_pos rfl] at H; exact H
        clear H
        have H := H1
        clear H1
        replace H := Option.bind_eq_some_iff.mp H
        obtain ⟨t191, A1310, H⟩ := H
        replace H : (if t191 = true then (fuseelaw13_SpanMeets.j1 kj5 false a0_0 a0_1 a2_0 a2_1 a0_0 a0_1) else (fuseelaw13_SpanMeets.j1 kj5 true a0_0 a0_1 a2_0 a2_1 a0_0 a0_1)) = some r := H
        have A131 := qS A1310
        clear A1310
        by_cases c132 : t191 = true
        ·subst c132
         have H1 : (fuseelaw13_SpanMeets.j1 kj5 false a0_0 a0_1 a2_0 a2_1 a0_0 a0_1) = some r := by rw [if_pos rfl] at H; exact H
         clear H
         have H := H1
         clear H1
         as_aux_lemma =>
          have H' := qS H
          clear H
          have hnb133 := NB180_172.out
          have hnc133 := NB172_180.out
          have hnb134 := NB180_173.out
          have hnc134 := NB173_180.out
          have hnb135 := NB180_174.out
          have hnc135 := NB174_180.out
          have hnb136 := NB180_175.out
          have hnc136 := NB175_180.out
          have hnb137 := NB180_176.out
          have hnc137 := NB176_180.out
          have hnb138 := NB180_184.out
          have hnc138 := NB184_180.out
          have hcz139_0 : wc.cell? ⟨gb180, 0, none⟩ = some (.int .i64 t177) := (qC BK180.out 0).trans rfl
          have hcz139_1 : wc.cell? ⟨gb180, 1, none⟩ = some (.int .i64 t178) := (qC BK180.out 1).trans rfl
          have hfz139_0 := qF BK180.out 0
          have hfz139_1 := qF BK180.out 1
          have hnb140 := NB184_172.out
          have hnc140 := NB172_184.out
          have hnb141 := NB184_173.out
          have hnc141 := NB173_184.out
          have hnb142 := NB184_174.out
          have hnc142 := NB174_184.out
          have hnb143 := NB184_175.out
          have hnc143 := NB175_184.out
          have hnb144 := NB184_176.out
          have hnc144 := NB176_184.out
          have hcz145_0 : wc.cell? ⟨gb184, 0, none⟩ = some (.int .i64 t181) := (qC BK184.out 0).trans rfl
          have hcz145_1 : wc.cell? ⟨gb184, 1, none⟩ = some (.int .i64 t182) := (qC BK184.out 1).trans rfl
          have hfz145_0 := qF BK184.out 0
          have hfz145_1 := qF BK184.out 1
          go_wp2_with (first | (go_at_call 39; (with_reducible refine (span_Has.calls t177 t178 (wrap64 (a2_0)) true _ A131.out).mono ?_); rintro e w146 ⟨rfl, hb⟩; have n0_ := qS (qB (g := gb172) (o := .cells #[.int .i64 a0_0, .int .i64 a0_1] 73 (0, 0)) (by (with_reducible repeat (first | refine qN ?_ _ | refine qD ?_ | refine qA ?_ _)); exact BK172.out) hb); have n1_ := qS (qB (g := gb173) (o := .cells #[.int .i64 a1_0, .int .i64 a1_1] 73 (0, 0)) (by (with_reducible repeat (first | refine qN ?_ _ | refine qD ?_ | refine qA ?_ _)); exact BK173.out) hb); have n2_ := qS (qB (g := gb174) (o := .cells #[.int .i32 a2_0, .int .i32 a2_1] 110 (0, 0)) (by (with_reducible repeat (first | refine qN ?_ _ | refine qD ?_ | refine qA ?_ _)); exact BK174.out) hb); have n3_ := qS (qB (g := gb175) (o := .cells #[.int .i64 a0_0, .int .i64 a0_1] 68 (0, 0)) (by (with_reducible repeat (first | refine qN ?_ _ | refine qD ?_ | refine qA ?_ _)); exact BK175.out) hb); have n4_ := qS (qB (g := gb176) (o := .cells #[.int .i64 a1_0, .int .i64 a1_1] 68 (0, 0)) (by (with_reducible repeat (first | refine qN ?_ _ | refine qD ?_ | refine qA ?_ _)); exact BK176.out) hb); have n5_ := qS (qB (g := gb180) (o := .cells #[.int .i64 t177, .int .i64 t178] 68 (0, 0)) (by (with_reducible repeat (first | refine qN ?_ _ | refine qD ?_ | refine qA ?_ _)); exact BK180.out) hb); have n6_ := qS (qB (g := gb184) (o := .cells #[.int .i64 t181, .int .i64 t182] 68 (0, 0)) (by (with_reducible repeat (first | refine qN ?_ _ | refine qD ?_ | refine qA ?_ _)); exact BK184.out) hb); have n7_ := qS (below_step (by repeat (first | (with_reducible first | exact HB.out | apply qpA | apply qpN | apply qp1 | refine qpS ?_ GE172.out | refine qpS ?_ GE173.out | refine qpS ?_ GE174.out | refine qpS ?_ GE175.out | refine qpS ?_ GE176.out | refine qpS ?_ GE180.out | refine qpS ?_ GE184.out) | exact HB.out)) hb); clear BK172; clear BK173; clear BK174; clear BK175; clear BK176; clear BK180; clear BK184; clear HB; have BK172 := n0_; have BK173 := n1_; have BK174 := n2_; have BK175 := n3_; have BK176 := n4_; have BK180 := n5_; have BK184 := n6_; have HB := n7_; clear n0_ n1_ n2_ n3_ n4_ n5_ n6_ n7_; (try clear hb); (try clear hb2); (try clear hk); (try clear hi)))
          go_meet
          case rel => exact ⟨_, (false), (by first | rfl | (simp; done) | (simp [*]; done)), H', ⟨by have := HJ5.out; first | omega | exact Nat.le_refl _⟩, ⟨by (with_reducible repeat (first | refine qN ?_ _ | refine qD ?_ | refine qA ?_ _)); exact BK172.out⟩, ⟨by (with_reducible repeat (first | refine qN ?_ _ | refine qD ?_ | refine qA ?_ _)); exact BK173.out⟩, ⟨by (with_reducible repeat (first | refine qN ?_ _ | refine qD ?_ | refine qA ?_ _)); exact BK174.out⟩, ⟨by (with_reducible repeat (first | refine qN ?_ _ | refine qD ?_ | refine qA ?_ _)); exact BK175.out⟩, ⟨by (with_reducible repeat (first | refine qN ?_ _ | refine qD ?_ | refine qA ?_ _)); exact BK176.out⟩, ⟨by (with_reducible repeat (first | refine qN ?_ _ | refine qD ?_ | refine qA ?_ _)); exact BK180.out⟩, ⟨by (with_reducible repeat (first | refine qN ?_ _ | refine qD ?_ | refine qA ?_ _)); exact BK184.out⟩, ⟨by repeat (first | (with_reducible first | exact HB.out | apply qpA | apply qpN | apply qp1 | refine qpS ?_ GE172.out | refine qpS ?_ GE173.out | refine qpS ?_ GE174.out | refine qpS ?_ GE175.out | refine qpS ?_ GE176.out | refine qpS ?_ GE180.out | refine qpS ?_ GE184.out) | exact HB.out)⟩⟩
        ·replace c132 := Bool.eq_false_iff.mpr c132
         subst c132
         have H1 : (fuseelaw13_SpanMeets.j1 kj5 true a0_0 a0_1 a2_0 a2_1 a0_0 a0_1) = some r := by rw [if_neg (show ¬ (false = true) by decide)] at H; exact H
         clear H
         have H := H1
         clear H1
         as_aux_lemma =>
          have H' := qS H
          clear H
          have hnb147 := NB180_172.out
          have hnc147 := NB172_180.out
          have hnb148 := NB180_173.out
          have hnc148 := NB173_180.out
          have hnb149 := NB180_174.out
          have hnc149 := NB174_180.out
          have hnb150 := NB180_175.out
          have hnc150 := NB175_180.out
          have hnb151 := NB180_176.out
          have hnc151 := NB176_180.out
          have hnb152 := NB180_184.out
          have hnc152 := NB184_180.out
          have hcz153_0 : wc.cell? ⟨gb180, 0, none⟩ = some (.int .i64 t177) := (qC BK180.out 0).trans rfl
          have hcz153_1 : wc.cell? ⟨gb180, 1, none⟩ = some (.int .i64 t178) := (qC BK180.out 1).trans rfl
          have hfz153_0 := qF BK180.out 0
          have hfz153_1 := qF BK180.out 1
          have hnb154 := NB184_172.out
          have hnc154 := NB172_184.out
          have hnb155 := NB184_173.out
          have hnc155 := NB173_184.out
          have hnb156 := NB184_174.out
          have hnc156 := NB174_184.out
          have hnb157 := NB184_175.out
          have hnc157 := NB175_184.out
          have hnb158 := NB184_176.out
          have hnc158 := NB176_184.out
          have hcz159_0 : wc.cell? ⟨gb184, 0, none⟩ = some (.int .i64 t181) := (qC BK184.out 0).trans rfl
          have hcz159_1 : wc.cell? ⟨gb184, 1, none⟩ = some (.int .i64 t182) := (qC BK184.out 1).trans rfl
          have hfz159_0 := qF BK184.out 0
          have hfz159_1 := qF BK184.out 1
          go_wp2_with (first | (go_at_call 39; (with_reducible refine (span_Has.calls t177 t178 (wrap64 (a2_0)) false _ A131.out).mono ?_); rintro e w160 ⟨rfl, hb⟩; have n0_ := qS (qB (g := gb172) (o := .cells #[.int .i64 a0_0, .int .i64 a0_1] 73 (0, 0)) (by (with_reducible repeat (first | refine qN ?_ _ | refine qD ?_ | refine qA ?_ _)); exact BK172.out) hb); have n1_ := qS (qB (g := gb173) (o := .cells #[.int .i64 a1_0, .int .i64 a1_1] 73 (0, 0)) (by (with_reducible repeat (first | refine qN ?_ _ | refine qD ?_ | refine qA ?_ _)); exact BK173.out) hb); have n2_ := qS (qB (g := gb174) (o := .cells #[.int .i32 a2_0, .int .i32 a2_1] 110 (0, 0)) (by (with_reducible repeat (first | refine qN ?_ _ | refine qD ?_ | refine qA ?_ _)); exact BK174.out) hb); have n3_ := qS (qB (g := gb175) (o := .cells #[.int .i64 a0_0, .int .i64 a0_1] 68 (0, 0)) (by (with_reducible repeat (first | refine qN ?_ _ | refine qD ?_ | refine qA ?_ _)); exact BK175.out) hb); have n4_ := qS (qB (g := gb176) (o := .cells #[.int .i64 a1_0, .int .i64 a1_1] 68 (0, 0)) (by (with_reducible repeat (first | refine qN ?_ _ | refine qD ?_ | refine qA ?_ _)); exact BK176.out) hb); have n5_ := qS (qB (g := gb180) (o := .cells #[.int .i64 t177, .int .i64 t178] 68 (0, 0)) (by (with_reducible repeat (first | refine qN ?_ _ | refine qD ?_ | refine qA ?_ _)); exact BK180.out) hb); have n6_ := qS (qB (g := gb184) (o := .cells #[.int .i64 t181, .int .i64 t182] 68 (0, 0)) (by (with_reducible repeat (first | refine qN ?_ _ | refine qD ?_ | refine qA ?_ _)); exact BK184.out) hb); have n7_ := qS (below_step (by repeat (first | (with_reducible first | exact HB.out | apply qpA | apply qpN | apply qp1 | refine qpS ?_ GE172.out | refine qpS ?_ GE173.out | refine qpS ?_ GE174.out | refine qpS ?_ GE175.out | refine qpS ?_ GE176.out | refine qpS ?_ GE180.out | refine qpS ?_ GE184.out) | exact HB.out)) hb); clear BK172; clear BK173; clear BK174; clear BK175; clear BK176; clear BK180; clear BK184; clear HB; have BK172 := n0_; have BK173 := n1_; have BK174 := n2_; have BK175 := n3_; have BK176 := n4_; have BK180 := n5_; have BK184 := n6_; have HB := n7_; clear n0_ n1_ n2_ n3_ n4_ n5_ n6_ n7_; (try clear hb); (try clear hb2); (try clear hk); (try clear hi)))
          go_meet
          case rel => exact ⟨_, (true), (by first | rfl | (simp; done) | (simp [*]; done)), H', ⟨by have := HJ5.out; first | omega | exact Nat.le_refl _⟩, ⟨by (with_reducible repeat (first | refine qN ?_ _ | refine qD ?_ | refine qA ?_ _)); exact BK172.out⟩, ⟨by (with_reducible repeat (first | refine qN ?_ _ | refine qD ?_ | refine qA ?_ _)); exact BK173.out⟩, ⟨by (with_reducible repeat (first | refine qN ?_ _ | refine qD ?_ | refine qA ?_ _)); exact BK174.out⟩, ⟨by (with_reducible repeat (first | refine qN ?_ _ | refine qD ?_ | refine qA ?_ _)); exact BK175.out⟩, ⟨by (with_reducible repeat (first | refine qN ?_ _ | refine qD ?_ | refine qA ?_ _)); exact BK176.out⟩, ⟨by (with_reducible repeat (first | refine qN ?_ _ | refine qD ?_ | refine qA ?_ _)); exact BK180.out⟩, ⟨by (with_reducible repeat (first | refine qN ?_ _ | refine qD ?_ | refine qA ?_ _)); exact BK184.out⟩, ⟨by repeat (first | (with_reducible first | exact HB.out | apply qpA | apply qpN | apply qp1 | refine qpS ?_ GE172.out | refine qpS ?_ GE173.out | refine qpS ?_ GE174.out | refine qpS ?_ GE175.out | refine qpS ?_ GE176.out | refine qpS ?_ GE180.out | refine qpS ?_ GE184.out) | exact HB.out)⟩⟩
       ·replace c130 := Bool.eq_false_iff.mpr c130
        subst c130
        have H1 : (fuseelaw13_SpanMeets.j1 kj5 true a0_0 a0_1 a2_0 a2_1 a0_0 a0_1) = some r := by rw [if_neg (show ¬ (false = true) by decide)] at H; exact H
        clear H
        have H := H1
        clear H1
        as_aux_lemma =>
         have H' := qS H
         clear H
         have hnb161 := NB180_172.out
         have hnc161 := NB172_180.out
         have hnb162 := NB180_173.out
         have hnc162 := NB173_180.out
         have hnb163 := NB180_174.out
         have hnc163 := NB174_180.out
         have hnb164 := NB180_175.out
         have hnc164 := NB175_180.out
         have hnb165 := NB180_176.out
         have hnc165 := NB176_180.out
         have hnb166 := NB180_184.out
         have hnc166 := NB184_180.out
         have hcz167_0 : wc.cell? ⟨gb180, 0, none⟩ = some (.int .i64 t177) := (qC BK180.out 0).trans rfl
         have hcz167_1 : wc.cell? ⟨gb180, 1, none⟩ = some (.int .i64 t178) := (qC BK180.out 1).trans rfl
         have hfz167_0 := qF BK180.out 0
         have hfz167_1 := qF BK180.out 1
         have hnb168 := NB184_172.out
         have hnc168 := NB172_184.out
         have hnb169 := NB184_173.out
         have hnc169 := NB173_184.out
         have hnb170 := NB184_174.out
         have hnc170 := NB174_184.out
         have hnb171 := NB184_175.out
         have hnc171 := NB175_184.out
         have hnb172 := NB184_176.out
         have hnc172 := NB176_184.out
         have hcz173_0 : wc.cell? ⟨gb184, 0, none⟩ = some (.int .i64 t181) := (qC BK184.out 0).trans rfl
         have hcz173_1 : wc.cell? ⟨gb184, 1, none⟩ = some (.int .i64 t182) := (qC BK184.out 1).trans rfl
         have hfz173_0 := qF BK184.out 0
         have hfz173_1 := qF BK184.out 1
         go_wp2
         go_meet
         case rel => exact ⟨_, (true), (by first | rfl | (simp; done) | (simp [*]; done)), H', ⟨by have := HJ5.out; first | omega | exact Nat.le_refl _⟩, ⟨by (with_reducible repeat (first | refine qN ?_ _ | refine qD ?_ | refine qA ?_ _)); exact BK172.out⟩, ⟨by (with_reducible repeat (first | refine qN ?_ _ | refine qD ?_ | refine qA ?_ _)); exact BK173.out⟩, ⟨by (with_reducible repeat (first | refine qN ?_ _ | refine qD ?_ | refine qA ?_ _)); exact BK174.out⟩, ⟨by (with_reducible repeat (first | refine qN ?_ _ | refine qD ?_ | refine qA ?_ _)); exact BK175.out⟩, ⟨by (with_reducible repeat (first | refine qN ?_ _ | refine qD ?_ | refine qA ?_ _)); exact BK176.out⟩, ⟨by (with_reducible repeat (first | refine qN ?_ _ | refine qD ?_ | refine qA ?_ _)); exact BK180.out⟩, ⟨by (with_reducible repeat (first | refine qN ?_ _ | refine qD ?_ | refine qA ?_ _)); exact BK184.out⟩, ⟨by repeat (first | (with_reducible first | exact HB.out | apply qpA | apply qpN | apply qp1 | refine qpS ?_ GE172.out | refine qpS ?_ GE173.out | refine qpS ?_ GE174.out | refine qpS ?_ GE175.out | refine qpS ?_ GE176.out | refine qpS ?_ GE180.out | refine qpS ?_ GE184.out) | exact HB.out)⟩⟩
      ·replace c129 := Bool.eq_false_iff.mpr c129
       subst c129
       have H1 : (if t179 = true then ((span_Has.f t177 t178 (wrap64 (a2_0))).bind fun t192 => (fuseelaw13_SpanMeets.j1 kj5 t192 a0_0 a0_1 a2_0 a2_1 a0_0 a0_1)) else (fuseelaw13_SpanMeets.j1 kj5 false a0_0 a0_1 a2_0 a2_1 a0_0 a0_1)) = some r := by rw [if_neg (show ¬ (false = true) by decide)] at H; exact H
       clear H
       have H := H1
       clear H1
       by_cases c174 : t179 = true
       ·subst c174
        have H1 : ((span_Has.f t177 t178 (wrap64 (a2_0))).bind fun t192 => (fuseelaw13_SpanMeets.j1 kj5 t192 a0_0 a0_1 a2_0 a2_1 a0_0 a0_1)) = some r := by rw [if_pos rfl] at H; exact H
        clear H
        have H := H1
        clear H1
        replace H := Option.bind_eq_some_iff.mp H
        obtain ⟨t192, A1750, H⟩ := H
        replace H : (fuseelaw13_SpanMeets.j1 kj5 t192 a0_0 a0_1 a2_0 a2_1 a0_0 a0_1) = some r := H
        have A175 := qS A1750
        clear A1750
        as_aux_lemma =>
         have H' := qS H
         clear H
         have hnb176 := NB180_172.out
         have hnc176 := NB172_180.out
         have hnb177 := NB180_173.out
         have hnc177 := NB173_180.out
         have hnb178 := NB180_174.out
         have hnc178 := NB174_180.out
         have hnb179 := NB180_175.out
         have hnc179 := NB175_180.out
         have hnb180 := NB180_176.out
         have hnc180 := NB176_180.out
         have hnb181 := NB180_184.out
         have hnc181 := NB184_180.out
         have hcz182_0 : wc.cell? ⟨gb180, 0, none⟩ = some (.int .i64 t177) := (qC BK180.out 0).trans rfl
         have hcz182_1 : wc.cell? ⟨gb180, 1, none⟩ = some (.int .i64 t178) := (qC BK180.out 1).trans rfl
         have hfz182_0 := qF BK180.out 0
         have hfz182_1 := qF BK180.out 1
         have hnb183 := NB184_172.out
         have hnc183 := NB172_184.out
         have hnb184 := NB184_173.out
         have hnc184 := NB173_184.out
         have hnb185 := NB184_174.out
         have hnc185 := NB174_184.out
         have hnb186 := NB184_175.out
         have hnc186 := NB175_184.out
         have hnb187 := NB184_176.out
         have hnc187 := NB176_184.out
         have hcz188_0 : wc.cell? ⟨gb184, 0, none⟩ = some (.int .i64 t181) := (qC BK184.out 0).trans rfl
         have hcz188_1 : wc.cell? ⟨gb184, 1, none⟩ = some (.int .i64 t182) := (qC BK184.out 1).trans rfl
         have hfz188_0 := qF BK184.out 0
         have hfz188_1 := qF BK184.out 1
         go_wp2_with (first | (go_at_call 39; (with_reducible refine (span_Has.calls t177 t178 (wrap64 (a2_0)) t192 _ A175.out).mono ?_); rintro e w189 ⟨rfl, hb⟩; have n0_ := qS (qB (g := gb172) (o := .cells #[.int .i64 a0_0, .int .i64 a0_1] 73 (0, 0)) (by (with_reducible repeat (first | refine qN ?_ _ | refine qD ?_ | refine qA ?_ _)); exact BK172.out) hb); have n1_ := qS (qB (g := gb173) (o := .cells #[.int .i64 a1_0, .int .i64 a1_1] 73 (0, 0)) (by (with_reducible repeat (first | refine qN ?_ _ | refine qD ?_ | refine qA ?_ _)); exact BK173.out) hb); have n2_ := qS (qB (g := gb174) (o := .cells #[.int .i32 a2_0, .int .i32 a2_1] 110 (0, 0)) (by (with_reducible repeat (first | refine qN ?_ _ | refine qD ?_ | refine qA ?_ _)); exact BK174.out) hb); have n3_ := qS (qB (g := gb175) (o := .cells #[.int .i64 a0_0, .int .i64 a0_1] 68 (0, 0)) (by (with_reducible repeat (first | refine qN ?_ _ | refine qD ?_ | refine qA ?_ _)); exact BK175.out) hb); have n4_ := qS (qB (g := gb176) (o := .cells #[.int .i64 a1_0, .int .i64 a1_1] 68 (0, 0)) (by (with_reducible repeat (first | refine qN ?_ _ | refine qD ?_ | refine qA ?_ _)); exact BK176.out) hb); have n5_ := qS (qB (g := gb180) (o := .cells #[.int .i64 t177, .int .i64 t178] 68 (0, 0)) (by (with_reducible repeat (first | refine qN ?_ _ | refine qD ?_ | refine qA ?_ _)); exact BK180.out) hb); have n6_ := qS (qB (g := gb184) (o := .cells #[.int .i64 t181, .int .i64 t182] 68 (0, 0)) (by (with_reducible repeat (first | refine qN ?_ _ | refine qD ?_ | refine qA ?_ _)); exact BK184.out) hb); have n7_ := qS (below_step (by repeat (first | (with_reducible first | exact HB.out | apply qpA | apply qpN | apply qp1 | refine qpS ?_ GE172.out | refine qpS ?_ GE173.out | refine qpS ?_ GE174.out | refine qpS ?_ GE175.out | refine qpS ?_ GE176.out | refine qpS ?_ GE180.out | refine qpS ?_ GE184.out) | exact HB.out)) hb); clear BK172; clear BK173; clear BK174; clear BK175; clear BK176; clear BK180; clear BK184; clear HB; have BK172 := n0_; have BK173 := n1_; have BK174 := n2_; have BK175 := n3_; have BK176 := n4_; have BK180 := n5_; have BK184 := n6_; have HB := n7_; clear n0_ n1_ n2_ n3_ n4_ n5_ n6_ n7_; (try clear hb); (try clear hb2); (try clear hk); (try clear hi)))
         go_meet
         case rel => exact ⟨_, (t192), (by first | rfl | (simp; done) | (simp [*]; done)), H', ⟨by have := HJ5.out; first | omega | exact Nat.le_refl _⟩, ⟨by (with_reducible repeat (first | refine qN ?_ _ | refine qD ?_ | refine qA ?_ _)); exact BK172.out⟩, ⟨by (with_reducible repeat (first | refine qN ?_ _ | refine qD ?_ | refine qA ?_ _)); exact BK173.out⟩, ⟨by (with_reducible repeat (first | refine qN ?_ _ | refine qD ?_ | refine qA ?_ _)); exact BK174.out⟩, ⟨by (with_reducible repeat (first | refine qN ?_ _ | refine qD ?_ | refine qA ?_ _)); exact BK175.out⟩, ⟨by (with_reducible repeat (first | refine qN ?_ _ | refine qD ?_ | refine qA ?_ _)); exact BK176.out⟩, ⟨by (with_reducible repeat (first | refine qN ?_ _ | refine qD ?_ | refine qA ?_ _)); exact BK180.out⟩, ⟨by (with_reducible repeat (first | refine qN ?_ _ | refine qD ?_ | refine qA ?_ _)); exact BK184.out⟩, ⟨by repeat (first | (with_reducible first | exact HB.out | apply qpA | apply qpN | apply qp1 | refine qpS ?_ GE172.out | refine qpS ?_ GE173.out | refine qpS ?_ GE174.out | refine qpS ?_ GE175.out | refine qpS ?_ GE176.out | refine qpS ?_ GE180.out | refine qpS ?_ GE184.out) | exact HB.out)⟩⟩
       ·replace c174 := Bool.eq_false_iff.mpr c174
        subst c174
        have H1 : (fuseelaw13_SpanMeets.j1 kj5 false a0_0 a0_1 a2_0 a2_1 a0_0 a0_1) = some r := by rw [if_neg (show ¬ (false = true) by decide)] at H; exact H
        clear H
        have H := H1
        clear H1
        as_aux_lemma =>
         have H' := qS H
         clear H
         have hnb190 := NB180_172.out
         have hnc190 := NB172_180.out
         have hnb191 := NB180_173.out
         have hnc191 := NB173_180.out
         have hnb192 := NB180_174.out
         have hnc192 := NB174_180.out
         have hnb193 := NB180_175.out
         have hnc193 := NB175_180.out
         have hnb194 := NB180_176.out
         have hnc194 := NB176_180.out
         have hnb195 := NB180_184.out
         have hnc195 := NB184_180.out
         have hcz196_0 : wc.cell? ⟨gb180, 0, none⟩ = some (.int .i64 t177) := (qC BK180.out 0).trans rfl
         have hcz196_1 : wc.cell? ⟨gb180, 1, none⟩ = some (.int .i64 t178) := (qC BK180.out 1).trans rfl
         have hfz196_0 := qF BK180.out 0
         have hfz196_1 := qF BK180.out 1
         have hnb197 := NB184_172.out
         have hnc197 := NB172_184.out
         have hnb198 := NB184_173.out
         have hnc198 := NB173_184.out
         have hnb199 := NB184_174.out
         have hnc199 := NB174_184.out
         have hnb200 := NB184_175.out
         have hnc200 := NB175_184.out
         have hnb201 := NB184_176.out
         have hnc201 := NB176_184.out
         have hcz202_0 : wc.cell? ⟨gb184, 0, none⟩ = some (.int .i64 t181) := (qC BK184.out 0).trans rfl
         have hcz202_1 : wc.cell? ⟨gb184, 1, none⟩ = some (.int .i64 t182) := (qC BK184.out 1).trans rfl
         have hfz202_0 := qF BK184.out 0
         have hfz202_1 := qF BK184.out 1
         go_wp2
         go_meet
         case rel => exact ⟨_, (false), (by first | rfl | (simp; done) | (simp [*]; done)), H', ⟨by have := HJ5.out; first | omega | exact Nat.le_refl _⟩, ⟨by (with_reducible repeat (first | refine qN ?_ _ | refine qD ?_ | refine qA ?_ _)); exact BK172.out⟩, ⟨by (with_reducible repeat (first | refine qN ?_ _ | refine qD ?_ | refine qA ?_ _)); exact BK173.out⟩, ⟨by (with_reducible repeat (first | refine qN ?_ _ | refine qD ?_ | refine qA ?_ _)); exact BK174.out⟩, ⟨by (with_reducible repeat (first | refine qN ?_ _ | refine qD ?_ | refine qA ?_ _)); exact BK175.out⟩, ⟨by (with_reducible repeat (first | refine qN ?_ _ | refine qD ?_ | refine qA ?_ _)); exact BK176.out⟩, ⟨by (with_reducible repeat (first | refine qN ?_ _ | refine qD ?_ | refine qA ?_ _)); exact BK180.out⟩, ⟨by (with_reducible repeat (first | refine qN ?_ _ | refine qD ?_ | refine qA ?_ _)); exact BK184.out⟩, ⟨by repeat (first | (with_reducible first | exact HB.out | apply qpA | apply qpN | apply qp1 | refine qpS ?_ GE172.out | refine qpS ?_ GE173.out | refine qpS ?_ GE174.out | refine qpS ?_ GE175.out | refine qpS ?_ GE176.out | refine qpS ?_ GE180.out | refine qpS ?_ GE184.out) | exact HB.out)⟩⟩
   case rest =>
    clear HC113
    try clear c1
    try clear q1
    try clear c2
    try clear p2
    try clear c3
    try clear c4
    try clear c5
    try clear c6
    try clear p6
    try clear c7
    try clear c8
    try clear c9
    try clear c10
    try clear c11
    try clear c12
    try clear c13
    try clear c14
    try clear c15
    try clear c16
    try clear c17
    try clear c18
    try clear q18
    try clear c19
    try clear c20
    try clear c21
    try clear c23
    try clear c24
    try clear c25
    try clear c29
    try clear c30
    try clear c31
    try clear c32
    try clear c33
    try clear c39
    try clear c40
    try clear c41
    try clear c42
    try clear c43
    try clear c44
    try clear c46
    try clear c47
    try clear c50
    try clear c52
    try clear c53
    try clear c54
    try clear c55
    try clear c56
    try clear c57
    try clear c58
    try clear c59
    try clear c62
    try clear c63
    try clear c64
    try clear p64
    try clear c65
    try clear c66
    try clear c73
    try clear c74
    try clear c75
    try clear c76
    try clear c77
    try clear c78
    try clear c81
    try clear c82
    try clear c83
    try clear c84
    try clear c85
    try clear c90
    try clear c91
    try clear c92
    try clear c93
    try clear c94
    try clear c95
    try clear c98
    try clear c99
    try clear c100
    try clear c101
    try clear c102
    try clear c105
    try clear c106
    try clear c107
    try clear c108
    try clear c109
    try clear c110
    try clear c114
    try clear c114b0
    try clear c114b1
    try clear c114b2
    try clear c115
    try clear c115b0
    try clear c116
    try clear c117
    try clear c118
    try clear c119
    try clear c120
    try clear c121
    try clear c123
    try clear c124
    try clear c125
    try clear c126
    try clear c127
    try clear c129
    try clear c130
    try clear c132
    try clear c133
    try clear c134
    try clear c135
    try clear c136
    try clear c137
    try clear c138
    try clear c140
    try clear c141
    try clear c142
    try clear c143
    try clear c144
    try clear c147
    try clear c148
    try clear c149
    try clear c150
    try clear c151
    try clear c152
    try clear c154
    try clear c155
    try clear c156
    try clear c157
    try clear c158
    try clear c161
    try clear c162
    try clear c163
    try clear c164
    try clear c165
    try clear c166
    try clear c168
    try clear c169
    try clear c170
    try clear c171
    try clear c172
    try clear c174
    try clear c176
    try clear c177
    try clear c178
    try clear c179
    try clear c180
    try clear c181
    try clear c183
    try clear c184
    try clear c185
    try clear c186
    try clear q186
    try clear c187
    try clear q188
    try clear c190
    try clear c191
    try clear c192
    try clear c193
    try clear c194
    try clear c195
    try clear c197
    try clear c198
    try clear c199
    try clear c200
    try clear c201
    try clear hcz103_0
    try clear hcz103_1
    try clear hcz111_0
    try clear hcz111_1
    try clear hcz122_0
    try clear hcz122_1
    try clear hcz128_0
    try clear hcz128_1
    try clear hcz139_0
    try clear hcz139_1
    try clear hcz145_0
    try clear hcz145_1
    try clear hcz153_0
    try clear hcz153_1
    try clear hcz159_0
    try clear hcz159_1
    try clear hcz167_0
    try clear hcz167_1
    try clear hcz173_0
    try clear hcz173_1
    try clear hcz182_0
    try clear hcz182_1
    try clear hcz188_0
    try clear hcz188_1
    try clear hcz196_0
    try clear hcz196_1
    try clear hcz202_0
    try clear hcz202_1
    try clear hcz22_0
    try clear hcz22_1
    try clear hcz26_0
    try clear hcz26_1
    try clear hcz34_0
    try clear hcz34_1
    try clear hcz35_0
    try clear hcz35_1
    try clear hcz36_0
    try clear hcz36_1
    try clear hcz45_0
    try clear hcz45_1
    try clear hcz48_0
    try clear hcz48_1
    try clear hcz60_0
    try clear hcz60_1
    try clear hcz67_0
    try clear hcz67_1
    try clear hcz69_0
    try clear hcz69_1
    try clear hcz71_0
    try clear hcz71_1
    try clear hcz79_0
    try clear hcz79_1
    try clear hcz86_0
    try clear hcz86_1
    try clear hcz88_0
    try clear hcz88_1
    try clear hcz96_0
    try clear hcz96_1
    try clear hfz103_0
    try clear hfz103_1
    try clear hfz111_0
    try clear hfz111_1
    try clear hfz122_0
    try clear hfz122_1
    try clear hfz128_0
    try clear hfz128_1
    try clear hfz139_0
    try clear hfz139_1
    try clear hfz145_0
    try clear hfz145_1
    try clear hfz153_0
    try clear hfz153_1
    try clear hfz159_0
    try clear hfz159_1
    try clear hfz167_0
    try clear hfz167_1
    try clear hfz173_0
    try clear hfz173_1
    try clear hfz182_0
    try clear hfz182_1
    try clear hfz188_0
    try clear hfz188_1
    try clear hfz196_0
    try clear hfz196_1
    try clear hfz202_0
    try clear hfz202_1
    try clear hfz22_0
    try clear hfz22_1
    try clear hfz26_0
    try clear hfz26_1
    try clear hfz34_0
    try clear hfz34_1
    try clear hfz35_0
    try clear hfz35_1
    try clear hfz36_0
    try clear hfz36_1
    try clear hfz45_0
    try clear hfz45_1
    try clear hfz48_0
    try clear hfz48_1
    try clear hfz60_0
    try clear hfz60_1
    try clear hfz67_0
    try clear hfz67_1
    try clear hfz69_0
    try clear hfz69_1
    try clear hfz71_0
    try clear hfz71_1
    try clear hfz79_0
    try clear hfz79_1
    try clear hfz86_0
    try clear hfz86_1
    try clear hfz88_0
    try clear hfz88_1
    try clear hfz96_0
    try clear hfz96_1
    try clear p2
    try clear p6
    try clear p64
    try clear q1
    try clear q18
    try clear q186
    try clear q188
    obtain ⟨kq, x88_112, rfl, HA, HJ112, BK172, BK173, BK174, BK175, BK176, BK180, BK184, HB⟩ := hcut
    cases kq with
    | zero => exact absurd HA.out (by simp [fuseelaw13_SpanMeets.j1])
    | succ kj112 =>
     have H := HA.out
     clear HA
     simp only [fuseelaw13_SpanMeets.j1] at H
     by_cases c203 : x88_112 = true
     ·subst c203
      have H1 : (none) = some r := by rw [if_pos rfl] at H; exact H
      clear H
      have H := H1
      clear H1
      exact absurd H (by simp)
     ·replace c203 := Bool.eq_false_iff.mpr c203
      subst c203
      have H1 : ((span_Grow.f kj112 a0_0 a0_1 (wrap64 (a2_1))).bind fun bt193 => ((span_Check.f a0_0 a0_1).bind fun t197 => (if t197.isNone = true then (fuseelaw13_SpanMeets.j2 kj112 bt193.2.2 (decide ((wrap64 (a2_1)) < 0)) a0_0 a0_1 a0_0 a0_1 bt193.1 bt193.2.1) else (fuseelaw13_SpanMeets.j2 kj112 bt193.2.2 true a0_0 a0_1 a0_0 a0_1 bt193.1 bt193.2.1)))) = some r := by rw [if_neg (show ¬ (false = true) by decide)] at H; exact H
      clear H
      have H := H1
      clear H1
      replace H := Option.bind_eq_some_iff.mp H
      obtain ⟨⟨t193, t194, t195⟩, A2040, H⟩ := H
      replace H : ((span_Check.f a0_0 a0_1).bind fun t197 => (if t197.isNone = true then (fuseelaw13_SpanMeets.j2 kj112 t195 (decide ((wrap64 (a2_1)) < 0)) a0_0 a0_1 a0_0 a0_1 t193 t194) else (fuseelaw13_SpanMeets.j2 kj112 t195 true a0_0 a0_1 a0_0 a0_1 t193 t194))) = some r := H
      have A204 := qS A2040
      clear A2040
      have HC205 := qS H
      clear H
      have hnb206 := NB174_172.out
      have hnc206 := NB172_174.out
      have hnb207 := NB174_173.out
      have hnc207 := NB173_174.out
      have hnb208 := NB174_175.out
      have hnc208 := NB175_174.out
      have hnb209 := NB174_176.out
      have hnc209 := NB176_174.out
      have hnb210 := NB174_180.out
      have hnc210 := NB180_174.out
      have hnb211 := NB174_184.out
      have hnc211 := NB184_174.out
      have hcz212_0 : wc.cell? ⟨gb174, 0, none⟩ = some (.int .i32 a2_0) := (qC BK174.out 0).trans rfl
      have hcz212_1 : wc.cell? ⟨gb174, 1, none⟩ = some (.int .i32 a2_1) := (qC BK174.out 1).trans rfl
      have hfz212_0 := qF BK174.out 0
      have hfz212_1 := qF BK174.out 1
      have hnb213 := NB175_172.out
      have hnc213 := NB172_175.out
      have hnb214 := NB175_173.out
      have hnc214 := NB173_175.out
      have hnb215 := NB175_176.out
      have hnc215 := NB176_175.out
      have hnb216 := NB175_180.out
      have hnc216 := NB180_175.out
      have hnb217 := NB175_184.out
      have hnc217 := NB184_175.out
      have hcz218_0 : wc.cell? ⟨gb175, 0, none⟩ = some (.int .i64 a0_0) := (qC BK175.out 0).trans rfl
      have hcz218_1 : wc.cell? ⟨gb175, 1, none⟩ = some (.int .i64 a0_1) := (qC BK175.out 1).trans rfl
      have hfz218_0 := qF BK175.out 0
      have hfz218_1 := qF BK175.out 1
      go_upto_region 10 with (first | ((with_reducible refine gate_callee (f := 51) rfl ?_); refine goesL_ (some 95) rfl rfl Tryd.func51 (by kernel_rfl) rfl #[.agg #[.int .i64 a0_0, .int .i64 a0_1], .int .i64 (wrap64 (a2_1))] rfl (by (try simp only [List.map_toArray, List.map_cons, List.map_nil]); first | done | rfl | (simp only [*]; done) | (simp only [List.length_drop, List.length_take]; rfl)) ?_; (with_reducible refine (span_Grow.calls kj112 a0_0 a0_1 (wrap64 (a2_1)) t193 t194 t195 _ A204.out).mono ?_); rintro e w219 ⟨rfl, hb⟩; refine ⟨_, rfl, ?_⟩; have n0_ := qS (qB (g := gb172) (o := .cells #[.int .i64 a0_0, .int .i64 a0_1] 73 (0, 0)) (by (with_reducible repeat (first | refine qN ?_ _ | refine qD ?_ | refine qA ?_ _)); exact BK172.out) hb); have n1_ := qS (qB (g := gb173) (o := .cells #[.int .i64 a1_0, .int .i64 a1_1] 73 (0, 0)) (by (with_reducible repeat (first | refine qN ?_ _ | refine qD ?_ | refine qA ?_ _)); exact BK173.out) hb); have n2_ := qS (qB (g := gb174) (o := .cells #[.int .i32 a2_0, .int .i32 a2_1] 110 (0, 0)) (by (with_reducible repeat (first | refine qN ?_ _ | refine qD ?_ | refine qA ?_ _)); exact BK174.out) hb); have n3_ := qS (qB (g := gb175) (o := .cells #[.int .i64 a0_0, .int .i64 a0_1] 68 (0, 0)) (by (with_reducible repeat (first | refine qN ?_ _ | refine qD ?_ | refine qA ?_ _)); exact BK175.out) hb); have n4_ := qS (qB (g := gb176) (o := .cells #[.int .i64 a1_0, .int .i64 a1_1] 68 (0, 0)) (by (with_reducible repeat (first | refine qN ?_ _ | refine qD ?_ | refine qA ?_ _)); exact BK176.out) hb); have n5_ := qS (qB (g := gb180) (o := .cells #[.int .i64 t177, .int .i64 t178] 68 (0, 0)) (by (with_reducible repeat (first | refine qN ?_ _ | refine qD ?_ | refine qA ?_ _)); exact BK180.out) hb); have n6_ := qS (qB (g := gb184) (o := .cells #[.int .i64 t181, .int .i64 t182] 68 (0, 0)) (by (with_reducible repeat (first | refine qN ?_ _ | refine qD ?_ | refine qA ?_ _)); exact BK184.out) hb); have n7_ := qS (below_step (by repeat (first | (with_reducible first | exact HB.out | apply qpA | apply qpN | apply qp1 | refine qpS ?_ GE172.out | refine qpS ?_ GE173.out | refine qpS ?_ GE174.out | refine qpS ?_ GE175.out | refine qpS ?_ GE176.out | refine qpS ?_ GE180.out | refine qpS ?_ GE184.out) | exact HB.out)) hb); clear BK172; clear BK173; clear BK174; clear BK175; clear BK176; clear BK180; clear BK184; clear HB; have BK172 := n0_; have BK173 := n1_; have BK174 := n2_; have BK175 := n3_; have BK176 := n4_; have BK180 := n5_; have BK184 := n6_; have HB := n7_; clear n0_ n1_ n2_ n3_ n4_ n5_ n6_ n7_; (try clear hb); (try clear hb2); (try clear hk); (try clear hi); (try simp only [errW_none, errW_some])) | ((with_reducible refine gate_dst (N := 16) rfl ?_); refine box_event ?hg (N := 16) ?hd (cs := #[.int .i64 0, .int .i64 0]) (t := 68) ?hr ?_; (case hd => rfl); (case hg => rfl); (case hr => first | (go_simp; done) | (go_simp; rfl)); intro gb196 hg w220 hbox hb; have n0_ := qS (qB (g := gb172) (o := .cells #[.int .i64 a0_0, .int .i64 a0_1] 73 (0, 0)) (by (with_reducible repeat (first | refine qN ?_ _ | refine qD ?_ | refine qA ?_ _)); exact BK172.out) hb); have n1_ := qS (qB (g := gb173) (o := .cells #[.int .i64 a1_0, .int .i64 a1_1] 73 (0, 0)) (by (with_reducible repeat (first | refine qN ?_ _ | refine qD ?_ | refine qA ?_ _)); exact BK173.out) hb); have n2_ := qS (qB (g := gb174) (o := .cells #[.int .i32 a2_0, .int .i32 a2_1] 110 (0, 0)) (by (with_reducible repeat (first | refine qN ?_ _ | refine qD ?_ | refine qA ?_ _)); exact BK174.out) hb); have n3_ := qS (qB (g := gb175) (o := .cells #[.int .i64 a0_0, .int .i64 a0_1] 68 (0, 0)) (by (with_reducible repeat (first | refine qN ?_ _ | refine qD ?_ | refine qA ?_ _)); exact BK175.out) hb); have n4_ := qS (qB (g := gb176) (o := .cells #[.int .i64 a1_0, .int .i64 a1_1] 68 (0, 0)) (by (with_reducible repeat (first | refine qN ?_ _ | refine qD ?_ | refine qA ?_ _)); exact BK176.out) hb); have n5_ := qS (qB (g := gb180) (o := .cells #[.int .i64 t177, .int .i64 t178] 68 (0, 0)) (by (with_reducible repeat (first | refine qN ?_ _ | refine qD ?_ | refine qA ?_ _)); exact BK180.out) hb); have n6_ := qS (qB (g := gb184) (o := .cells #[.int .i64 t181, .int .i64 t182] 68 (0, 0)) (by (with_reducible repeat (first | refine qN ?_ _ | refine qD ?_ | refine qA ?_ _)); exact BK184.out) hb); have n7_ := qS (below_step (by repeat (first | (with_reducible first | exact HB.out | apply qpA | apply qpN | apply qp1 | refine qpS ?_ GE172.out | refine qpS ?_ GE173.out | refine qpS ?_ GE174.out | refine qpS ?_ GE175.out | refine qpS ?_ GE176.out | refine qpS ?_ GE180.out | refine qpS ?_ GE184.out) | exact HB.out)) hb); have n8_ := qS (hbox); have n9_ := qS ((by rw [hg]; exact (below_size (by repeat (first | (with_reducible first | exact HB.out | apply qpA | apply qpN | apply qp1 | refine qpS ?_ GE172.out | refine qpS ?_ GE173.out | refine qpS ?_ GE174.out | refine qpS ?_ GE175.out | refine qpS ?_ GE176.out | refine qpS ?_ GE180.out | refine qpS ?_ GE184.out) | exact HB.out))) : w.heap.size ≤ gb196)); have n10_ := qS ((by rw [hg]; exact (below_size (by repeat (first | (with_reducible first | exact HB.out | apply qpA | apply qpN | apply qp1 | refine qpS ?_ GE172.out | refine qpS ?_ GE173.out | refine qpS ?_ GE174.out | refine qpS ?_ GE175.out | refine qpS ?_ GE176.out | refine qpS ?_ GE180.out | refine qpS ?_ GE184.out) | exact HB.out))) : w.heap.size ≤ gb196)); have n11_ := qS ((by rw [hg]; exact Nat.ne_of_lt (blk_lt (g := gb172) (o := .cells #[.int .i64 a0_0, .int .i64 a0_1] 73 (0, 0)) (by (with_reducible repeat (first | refine qN ?_ _ | refine qD ?_ | refine qA ?_ _)); exact BK172.out)) : gb172 ≠ gb196)); have n12_ := qS ((by rw [hg]; exact Nat.ne_of_gt (blk_lt (g := gb172) (o := .cells #[.int .i64 a0_0, .int .i64 a0_1] 73 (0, 0)) (by (with_reducible repeat (first | refine qN ?_ _ | refine qD ?_ | refine qA ?_ _)); exact BK172.out)) : gb196 ≠ gb172)); have n13_ := qS ((by rw [hg]; exact Nat.ne_of_lt (blk_lt (g := gb173) (o := .cells #[.int .i64 a1_0, .int .i64 a1_1] 73 (0, 0)) (by (with_reducible repeat (first | refine qN ?_ _ | refine qD ?_ | refine qA ?_ _)); exact BK173.out)) : gb173 ≠ gb196)); have n14_ := qS ((by rw [hg]; exact Nat.ne_of_gt (blk_lt (g := gb173) (o := .cells #[.int .i64 a1_0, .int .i64 a1_1] 73 (0, 0)) (by (with_reducible repeat (first | refine qN ?_ _ | refine qD ?_ | refine qA ?_ _)); exact BK173.out)) : gb196 ≠ gb173)); have n15_ := qS ((by rw [hg]; exact Nat.ne_of_lt (blk_lt (g := gb174) (o := .cells #[.int .i32 a2_0, .int .i32 a2_1] 110 (0, 0)) (by (with_reducible repeat (first | refine qN ?_ _ | refine qD ?_ | refine qA ?_ _)); exact BK174.out)) : gb174 ≠ gb196)); have n16_ := qS ((by rw [hg]; exact Nat.ne_of_gt (blk_lt (g := gb174) (o := .cells #[.int .i32 a2_0, .int .i32 a2_1] 110 (0, 0)) (by (with_reducible repeat (first | refine qN ?_ _ | refine qD ?_ | refine qA ?_ _)); exact BK174.out)) : gb196 ≠ gb174)); have n17_ := qS ((by rw [hg]; exact Nat.ne_of_lt (blk_lt (g := gb175) (o := .cells #[.int .i64 a0_0, .int .i64 a0_1] 68 (0, 0)) (by (with_reducible repeat (first | refine qN ?_ _ | refine qD ?_ | refine qA ?_ _)); exact BK175.out)) : gb175 ≠ gb196)); have n18_ := qS ((by rw [hg]; exact Nat.ne_of_gt (blk_lt (g := gb175) (o := .cells #[.int .i64 a0_0, .int .i64 a0_1] 68 (0, 0)) (by (with_reducible repeat (first | refine qN ?_ _ | refine qD ?_ | refine qA ?_ _)); exact BK175.out)) : gb196 ≠ gb175)); have n19_ := qS ((by rw [hg]; exact Nat.ne_of_lt (blk_lt (g := gb176) (o := .cells #[.int .i64 a1_0, .int .i64 a1_1] 68 (0, 0)) (by (with_reducible repeat (first | refine qN ?_ _ | refine qD ?_ | refine qA ?_ _)); exact BK176.out)) : gb176 ≠ gb196)); have n20_ := qS ((by rw [hg]; exact Nat.ne_of_gt (blk_lt (g := gb176) (o := .cells #[.int .i64 a1_0, .int .i64 a1_1] 68 (0, 0)) (by (with_reducible repeat (first | refine qN ?_ _ | refine qD ?_ | refine qA ?_ _)); exact BK176.out)) : gb196 ≠ gb176)); have n21_ := qS ((by rw [hg]; exact Nat.ne_of_lt (blk_lt (g := gb180) (o := .cells #[.int .i64 t177, .int .i64 t178] 68 (0, 0)) (by (with_reducible repeat (first | refine qN ?_ _ | refine qD ?_ | refine qA ?_ _)); exact BK180.out)) : gb180 ≠ gb196)); have n22_ := qS ((by rw [hg]; exact Nat.ne_of_gt (blk_lt (g := gb180) (o := .cells #[.int .i64 t177, .int .i64 t178] 68 (0, 0)) (by (with_reducible repeat (first | refine qN ?_ _ | refine qD ?_ | refine qA ?_ _)); exact BK180.out)) : gb196 ≠ gb180)); have n23_ := qS ((by rw [hg]; exact Nat.ne_of_lt (blk_lt (g := gb184) (o := .cells #[.int .i64 t181, .int .i64 t182] 68 (0, 0)) (by (with_reducible repeat (first | refine qN ?_ _ | refine qD ?_ | refine qA ?_ _)); exact BK184.out)) : gb184 ≠ gb196)); have n24_ := qS ((by rw [hg]; exact Nat.ne_of_gt (blk_lt (g := gb184) (o := .cells #[.int .i64 t181, .int .i64 t182] 68 (0, 0)) (by (with_reducible repeat (first | refine qN ?_ _ | refine qD ?_ | refine qA ?_ _)); exact BK184.out)) : gb196 ≠ gb184)); clear BK172; clear BK173; clear BK174; clear BK175; clear BK176; clear BK180; clear BK184; clear HB; have BK172 := n0_; have BK173 := n1_; have BK174 := n2_; have BK175 := n3_; have BK176 := n4_; have BK180 := n5_; have BK184 := n6_; have HB := n7_; have BK196 := n8_; have GW196 := n9_; have GE196 := n10_; have NB172_196 := n11_; have NB196_172 := n12_; have NB173_196 := n13_; have NB196_173 := n14_; have NB174_196 := n15_; have NB196_174 := n16_; have NB175_196 := n17_; have NB196_175 := n18_; have NB176_196 := n19_; have NB196_176 := n20_; have NB180_196 := n21_; have NB196_180 := n22_; have NB184_196 := n23_; have NB196_184 := n24_; clear n0_ n1_ n2_ n3_ n4_ n5_ n6_ n7_ n8_ n9_ n10_ n11_ n12_ n13_ n14_ n15_ n16_ n17_ n18_ n19_ n20_ n21_ n22_ n23_ n24_; clear hb hbox hg; have hnb221 := NB196_172.out; have hnc221 := NB172_196.out; have hnb222 := NB196_173.out; have hnc222 := NB173_196.out; have hnb223 := NB196_174.out; have hnc223 := NB174_196.out; have hnb224 := NB196_175.out; have hnc224 := NB175_196.out; have hnb225 := NB196_176.out; have hnc225 := NB176_196.out; have hnb226 := NB196_180.out; have hnc226 := NB180_196.out; have hnb227 := NB196_184.out; have hnc227 := NB184_196.out; have hcz228_0 : w220.cell? ⟨gb196, 0, none⟩ = some (.int .i64 0) := (qC BK196.out 0).trans rfl; have hcz228_1 : w220.cell? ⟨gb196, 1, none⟩ = some (.int .i64 0) := (qC BK196.out 1).trans rfl; have hfz228_0 := qF BK196.out 0; have hfz228_1 := qF BK196.out 1))
      (try simp only [Act.put, List.setIfInBounds_toArray, List.set_cons_zero, List.set_cons_succ])
      go_cut [104] (fun v104 wc => ∃ (kq : Nat) (x104_204 : Bool), v104 = .bool x104_204 ∧ Aside0 (fuseelaw13_SpanMeets.j2 kq t195 x104_204 a0_0 a0_1 a0_0 a0_1 t193 t194 = some r) ∧ Aside0 (kq ≤ kj112) ∧ Aside0 (wc.heap[gb172]? = some (.cells #[.int .i64 a0_0, .int .i64 a0_1] 73 (0, 0))) ∧ Aside0 (wc.heap[gb173]? = some (.cells #[.int .i64 a1_0, .int .i64 a1_1] 73 (0, 0))) ∧ Aside0 (wc.heap[gb174]? = some (.cells #[.int .i32 a2_0, .int .i32 a2_1] 110 (0, 0))) ∧ Aside0 (wc.heap[gb175]? = some (.cells #[.int .i64 a0_0, .int .i64 a0_1] 68 (0, 0))) ∧ Aside0 (wc.heap[gb176]? = some (.cells #[.int .i64 a1_0, .int .i64 a1_1] 68 (0, 0))) ∧ Aside0 (wc.heap[gb180]? = some (.cells #[.int .i64 t177, .int .i64 t178] 68 (0, 0))) ∧ Aside0 (wc.heap[gb184]? = some (.cells #[.int .i64 t181, .int .i64 t182] 68 (0, 0))) ∧ Aside0 (wc.heap[gb196]? = some (.cells #[.int .i64 t193, .int .i64 t194] 68 (0, 0))) ∧ Aside0 (Below w.heap.size w wc))
      case first =>
       have H := HC205.out
       clear HC205
       replace H := Option.bind_eq_some_iff.mp H
       obtain ⟨t197, A2290, H⟩ := H
       replace H : (if t197.isNone = true then (fuseelaw13_SpanMeets.j2 kj112 t195 (decide ((wrap64 (a2_1)) < 0)) a0_0 a0_1 a0_0 a0_1 t193 t194) else (fuseelaw13_SpanMeets.j2 kj112 t195 true a0_0 a0_1 a0_0 a0_1 t193 t194)) = some r := H
       have A229 := qS A2290
       clear A2290
       rcases t197 with _ | q198
       ·have H1 : (fuseelaw13_SpanMeets.j2 kj112 t195 (decide ((wrap64 (a2_1)) < 0)) a0_0 a0_1 a0_0 a0_1 t193 t194) = some r := by rw [if_pos (show (none : Option Int).isNone = true by rfl)] at H; exact H
        clear H
        have H := H1
        clear H1
        try simp only [errW_none, errW_some]
        as_aux_lemma =>
         have H' := qS H
         clear H
         have hnb230 := NB175_172.out
         have hnc230 := NB172_175.out
         have hnb231 := NB175_173.out
         have hnc231 := NB173_175.out
         have hnb232 := NB175_174.out
         have hnc232 := NB174_175.out
         have hnb233 := NB175_176.out
         have hnc233 := NB176_175.out
         have hnb234 := NB175_180.out
         have hnc234 := NB180_175.out
         have hnb235 := NB175_184.out
         have hnc235 := NB184_175.out
         have hnb236 := NB175_196.out
         have hnc236 := NB196_175.out
         have hcz237_0 : w220.cell? ⟨gb175, 0, none⟩ = some (.int .i64 a0_0) := (qC BK175.out 0).trans rfl
         have hcz237_1 : w220.cell? ⟨gb175, 1, none⟩ = some (.int .i64 a0_1) := (qC BK175.out 1).trans rfl
         have hfz237_0 := qF BK175.out 0
         have hfz237_1 := qF BK175.out 1
         go_wp2_with (first | ((with_reducible refine gate_callee (f := 53) rfl ?_); refine goesL_ (some 99) rfl rfl Tryd.func53 (by kernel_rfl) rfl #[.agg #[.int .i64 a0_0, .int .i64 a0_1]] rfl (by (try simp only [List.map_toArray, List.map_cons, List.map_nil]); first | done | rfl | (simp only [*]; done) | (simp only [List.length_drop, List.length_take]; rfl)) ?_; (with_reducible refine (span_Check.calls a0_0 a0_1 none _ A229.out).mono ?_); rintro e w238 ⟨rfl, hb⟩; refine ⟨_, rfl, ?_⟩; have n0_ := qS (qB (g := gb172) (o := .cells #[.int .i64 a0_0, .int .i64 a0_1] 73 (0, 0)) (by (with_reducible repeat (first | refine qN ?_ _ | refine qD ?_ | refine qA ?_ _)); refine blk_far ?_ NB172_196.out _; (with_reducible repeat (first | refine qN ?_ _ | refine qD ?_ | refine qA ?_ _)); refine blk_far ?_ NB172_196.out _; (with_reducible repeat (first | refine qN ?_ _ | refine qD ?_ | refine qA ?_ _)); exact BK172.out) hb); have n1_ := qS (qB (g := gb173) (o := .cells #[.int .i64 a1_0, .int .i64 a1_1] 73 (0, 0)) (by (with_reducible repeat (first | refine qN ?_ _ | refine qD ?_ | refine qA ?_ _)); refine blk_far ?_ NB173_196.out _; (with_reducible repeat (first | refine qN ?_ _ | refine qD ?_ | refine qA ?_ _)); refine blk_far ?_ NB173_196.out _; (with_reducible repeat (first | refine qN ?_ _ | refine qD ?_ | refine qA ?_ _)); exact BK173.out) hb); have n2_ := qS (qB (g := gb174) (o := .cells #[.int .i32 a2_0, .int .i32 a2_1] 110 (0, 0)) (by (with_reducible repeat (first | refine qN ?_ _ | refine qD ?_ | refine qA ?_ _)); refine blk_far ?_ NB174_196.out _; (with_reducible repeat (first | refine qN ?_ _ | refine qD ?_ | refine qA ?_ _)); refine blk_far ?_ NB174_196.out _; (with_reducible repeat (first | refine qN ?_ _ | refine qD ?_ | refine qA ?_ _)); exact BK174.out) hb); have n3_ := qS (qB (g := gb175) (o := .cells #[.int .i64 a0_0, .int .i64 a0_1] 68 (0, 0)) (by (with_reducible repeat (first | refine qN ?_ _ | refine qD ?_ | refine qA ?_ _)); refine blk_far ?_ NB175_196.out _; (with_reducible repeat (first | refine qN ?_ _ | refine qD ?_ | refine qA ?_ _)); refine blk_far ?_ NB175_196.out _; (with_reducible repeat (first | refine qN ?_ _ | refine qD ?_ | refine qA ?_ _)); exact BK175.out) hb); have n4_ := qS (qB (g := gb176) (o := .cells #[.int .i64 a1_0, .int .i64 a1_1] 68 (0, 0)) (by (with_reducible repeat (first | refine qN ?_ _ | refine qD ?_ | refine qA ?_ _)); refine blk_far ?_ NB176_196.out _; (with_reducible repeat (first | refine qN ?_ _ | refine qD ?_ | refine qA ?_ _)); refine blk_far ?_ NB176_196.out _; (with_reducible repeat (first | refine qN ?_ _ | refine qD ?_ | refine qA ?_ _)); exact BK176.out) hb); have n5_ := qS (qB (g := gb180) (o := .cells #[.int .i64 t177, .int .i64 t178] 68 (0, 0)) (by (with_reducible repeat (first | refine qN ?_ _ | refine qD ?_ | refine qA ?_ _)); refine blk_far ?_ NB180_196.out _; (with_reducible repeat (first | refine qN ?_ _ | refine qD ?_ | refine qA ?_ _)); refine blk_far ?_ NB180_196.out _; (with_reducible repeat (first | refine qN ?_ _ | refine qD ?_ | refine qA ?_ _)); exact BK180.out) hb); have n6_ := qS (qB (g := gb184) (o := .cells #[.int .i64 t181, .int .i64 t182] 68 (0, 0)) (by (with_reducible repeat (first | refine qN ?_ _ | refine qD ?_ | refine qA ?_ _)); refine blk_far ?_ NB184_196.out _; (with_reducible repeat (first | refine qN ?_ _ | refine qD ?_ | refine qA ?_ _)); refine blk_far ?_ NB184_196.out _; (with_reducible repeat (first | refine qN ?_ _ | refine qD ?_ | refine qA ?_ _)); exact BK184.out) hb); have n7_ := qS (qB (g := gb196) (o := .cells #[.int .i64 t193, .int .i64 t194] 68 (0, 0)) (by (with_reducible repeat (first | refine qN ?_ _ | refine qD ?_ | refine qA ?_ _)); refine blk_put (cs := #[.int .i64 t193, .int .i64 0]) ?_ 1 _ rfl; (with_reducible repeat (first | refine qN ?_ _ | refine qD ?_ | refine qA ?_ _)); refine blk_put (cs := #[.int .i64 0, .int .i64 0]) ?_ 0 _ rfl; (with_reducible repeat (first | refine qN ?_ _ | refine qD ?_ | refine qA ?_ _)); exact BK196.out) hb); have n8_ := qS (below_step (by repeat (first | (with_reducible first | exact HB.out | apply qpA | apply qpN | apply qp1 | refine qpS ?_ GE172.out | refine qpS ?_ GE173.out | refine qpS ?_ GE174.out | refine qpS ?_ GE175.out | refine qpS ?_ GE176.out | refine qpS ?_ GE180.out | refine qpS ?_ GE184.out | refine qpS ?_ GE196.out) | exact HB.out)) hb); clear BK172; clear BK173; clear BK174; clear BK175; clear BK176; clear BK180; clear BK184; clear BK196; clear HB; have BK172 := n0_; have BK173 := n1_; have BK174 := n2_; have BK175 := n3_; have BK176 := n4_; have BK180 := n5_; have BK184 := n6_; have BK196 := n7_; have HB := n8_; clear n0_ n1_ n2_ n3_ n4_ n5_ n6_ n7_ n8_; (try clear hb); (try clear hb2); (try clear hk); (try clear hi); (try simp only [errW_none, errW_some])))
         go_meet
         case rel => exact ⟨_, (decide ((wrap64 (a2_1)) < 0)), (by first | rfl | (simp; done) | (simp [*]; done)), H', ⟨by have := HJ5.out; have := HJ112.out; first | omega | exact Nat.le_refl _⟩, ⟨by (with_reducible repeat (first | refine qN ?_ _ | refine qD ?_ | refine qA ?_ _)); exact BK172.out⟩, ⟨by (with_reducible repeat (first | refine qN ?_ _ | refine qD ?_ | refine qA ?_ _)); exact BK173.out⟩, ⟨by (with_reducible repeat (first | refine qN ?_ _ | refine qD ?_ | refine qA ?_ _)); exact BK174.out⟩, ⟨by (with_reducible repeat (first | refine qN ?_ _ | refine qD ?_ | refine qA ?_ _)); exact BK175.out⟩, ⟨by (with_reducible repeat (first | refine qN ?_ _ | refine qD ?_ | refine qA ?_ _)); exact BK176.out⟩, ⟨by (with_reducible repeat (first | refine qN ?_ _ | refine qD ?_ | refine qA ?_ _)); exact BK180.out⟩, ⟨by (with_reducible repeat (first | refine qN ?_ _ | refine qD ?_ | refine qA ?_ _)); exact BK184.out⟩, ⟨by (with_reducible repeat (first | refine qN ?_ _ | refine qD ?_ | refine qA ?_ _)); exact BK196.out⟩, ⟨by repeat (first | (with_reducible first | exact HB.out | apply qpA | apply qpN | apply qp1 | refine qpS ?_ GE172.out | refine qpS ?_ GE173.out | refine qpS ?_ GE174.out | refine qpS ?_ GE175.out | refine qpS ?_ GE176.out | refine qpS ?_ GE180.out | refine qpS ?_ GE184.out | refine qpS ?_ GE196.out) | exact HB.out)⟩⟩
       ·have H1 : (fuseelaw13_SpanMeets.j2 kj112 t195 true a0_0 a0_1 a0_0 a0_1 t193 t194) = some r := by rw [if_neg (show ¬ (some q198).isNone = true by simp)] at H; exact H
        clear H
        have H := H1
        clear H1
        try simp only [errW_none, errW_some]
        as_aux_lemma =>
         have H' := qS H
         clear H
         have hnb239 := NB175_172.out
         have hnc239 := NB172_175.out
         have hnb240 := NB175_173.out
         have hnc240 := NB173_175.out
         have hnb241 := NB175_174.out
         have hnc241 := NB174_175.out
         have hnb242 := NB175_176.out
         have hnc242 := NB176_175.out
         have hnb243 := NB175_180.out
         have hnc243 := NB180_175.out
         have hnb244 := NB175_184.out
         have hnc244 := NB184_175.out
         have hnb245 := NB175_196.out
         have hnc245 := NB196_175.out
         have hcz246_0 : w220.cell? ⟨gb175, 0, none⟩ = some (.int .i64 a0_0) := (qC BK175.out 0).trans rfl
         have hcz246_1 : w220.cell? ⟨gb175, 1, none⟩ = some (.int .i64 a0_1) := (qC BK175.out 1).trans rfl
         have hfz246_0 := qF BK175.out 0
         have hfz246_1 := qF BK175.out 1
         go_wp2_with (first | ((with_reducible refine gate_callee (f := 53) rfl ?_); refine goesL_ (some 99) rfl rfl Tryd.func53 (by kernel_rfl) rfl #[.agg #[.int .i64 a0_0, .int .i64 a0_1]] rfl (by (try simp only [List.map_toArray, List.map_cons, List.map_nil]); first | done | rfl | (simp only [*]; done) | (simp only [List.length_drop, List.length_take]; rfl)) ?_; (with_reducible refine (span_Check.calls a0_0 a0_1 (some q198) _ A229.out).mono ?_); rintro e w247 ⟨rfl, hb⟩; refine ⟨_, rfl, ?_⟩; have n0_ := qS (qB (g := gb172) (o := .cells #[.int .i64 a0_0, .int .i64 a0_1] 73 (0, 0)) (by (with_reducible repeat (first | refine qN ?_ _ | refine qD ?_ | refine qA ?_ _)); refine blk_far ?_ NB172_196.out _; (with_reducible repeat (first | refine qN ?_ _ | refine qD ?_ | refine qA ?_ _)); refine blk_far ?_ NB172_196.out _; (with_reducible repeat (first | refine qN ?_ _ | refine qD ?_ | refine qA ?_ _)); exact BK172.out) hb); have n1_ := qS (qB (g := gb173) (o := .cells #[.int .i64 a1_0, .int .i64 a1_1] 73 (0, 0)) (by (with_reducible repeat (first | refine qN ?_ _ | refine qD ?_ | refine qA ?_ _)); refine blk_far ?_ NB173_196.out _; (with_reducible repeat (first | refine qN ?_ _ | refine qD ?_ | refine qA ?_ _)); refine blk_far ?_ NB173_196.out _; (with_reducible repeat (first | refine qN ?_ _ | refine qD ?_ | refine qA ?_ _)); exact BK173.out) hb); have n2_ := qS (qB (g := gb174) (o := .cells #[.int .i32 a2_0, .int .i32 a2_1] 110 (0, 0)) (by (with_reducible repeat (first | refine qN ?_ _ | refine qD ?_ | refine qA ?_ _)); refine blk_far ?_ NB174_196.out _; (with_reducible repeat (first | refine qN ?_ _ | refine qD ?_ | refine qA ?_ _)); refine blk_far ?_ NB174_196.out _; (with_reducible repeat (first | refine qN ?_ _ | refine qD ?_ | refine qA ?_ _)); exact BK174.out) hb); have n3_ := qS (qB (g := gb175) (o := .cells #[.int .i64 a0_0, .int .i64 a0_1] 68 (0, 0)) (by (with_reducible repeat (first | refine qN ?_ _ | refine qD ?_ | refine qA ?_ _)); refine blk_far ?_ NB175_196.out _; (with_reducible repeat (first | refine qN ?_ _ | refine qD ?_ | refine qA ?_ _)); refine blk_far ?_ NB175_196.out _; (with_reducible repeat (first | refine qN ?_ _ | refine qD ?_ | refine qA ?_ _)); exact BK175.out) hb); have n4_ := qS (qB (g := gb176) (o := .cells #[.int .i64 a1_0, .int .i64 a1_1] 68 (0, 0)) (by (with_reducible repeat (first | refine qN ?_ _ | refine qD ?_ | refine qA ?_ _)); refine blk_far ?_ NB176_196.out _; (with_reducible repeat (first | refine qN ?_ _ | refine qD ?_ | refine qA ?_ _)); refine blk_far ?_ NB176_196.out _; (with_reducible repeat (first | refine qN ?_ _ | refine qD ?_ | refine qA ?_ _)); exact BK176.out) hb); have n5_ := qS (qB (g := gb180) (o := .cells #[.int .i64 t177, .int .i64 t178] 68 (0, 0)) (by (with_reducible repeat (first | refine qN ?_ _ | refine qD ?_ | refine qA ?_ _)); refine blk_far ?_ NB180_196.out _; (with_reducible repeat (first | refine qN ?_ _ | refine qD ?_ | refine qA ?_ _)); refine blk_far ?_ NB180_196.out _; (with_reducible repeat (first | refine qN ?_ _ | refine qD ?_ | refine qA ?_ _)); exact BK180.out) hb); have n6_ := qS (qB (g := gb184) (o := .cells #[.int .i64 t181, .int .i64 t182] 68 (0, 0)) (by (with_reducible repeat (first | refine qN ?_ _ | refine qD ?_ | refine qA ?_ _)); refine blk_far ?_ NB184_196.out _; (with_reducible repeat (first | refine qN ?_ _ | refine qD ?_ | refine qA ?_ _)); refine blk_far ?_ NB184_196.out _; (with_reducible repeat (first | refine qN ?_ _ | refine qD ?_ | refine qA ?_ _)); exact BK184.out) hb); have n7_ := qS (qB (g := gb196) (o := .cells #[.int .i64 t193, .int .i64 t194] 68 (0, 0)) (by (with_reducible repeat (first | refine qN ?_ _ | refine qD ?_ | refine qA ?_ _)); refine blk_put (cs := #[.int .i64 t193, .int .i64 0]) ?_ 1 _ rfl; (with_reducible repeat (first | refine qN ?_ _ | refine qD ?_ | refine qA ?_ _)); refine blk_put (cs := #[.int .i64 0, .int .i64 0]) ?_ 0 _ rfl; (with_reducible repeat (first | refine qN ?_ _ | refine qD ?_ | refine qA ?_ _)); exact BK196.out) hb); have n8_ := qS (below_step (by repeat (first | (with_reducible first | exact HB.out | apply qpA | apply qpN | apply qp1 | refine qpS ?_ GE172.out | refine qpS ?_ GE173.out | refine qpS ?_ GE174.out | refine qpS ?_ GE175.out | refine qpS ?_ GE176.out | refine qpS ?_ GE180.out | refine qpS ?_ GE184.out | refine qpS ?_ GE196.out) | exact HB.out)) hb); clear BK172; clear BK173; clear BK174; clear BK175; clear BK176; clear BK180; clear BK184; clear BK196; clear HB; have BK172 := n0_; have BK173 := n1_; have BK174 := n2_; have BK175 := n3_; have BK176 := n4_; have BK180 := n5_; have BK184 := n6_; have BK196 := n7_; have HB := n8_; clear n0_ n1_ n2_ n3_ n4_ n5_ n6_ n7_ n8_; (try clear hb); (try clear hb2); (try clear hk); (try clear hi); (try simp only [errW_none, errW_some])))
         go_meet
         case rel => exact ⟨_, (true), (by first | rfl | (simp; done) | (simp [*]; done)), H', ⟨by have := HJ5.out; have := HJ112.out; first | omega | exact Nat.le_refl _⟩, ⟨by (with_reducible repeat (first | refine qN ?_ _ | refine qD ?_ | refine qA ?_ _)); exact BK172.out⟩, ⟨by (with_reducible repeat (first | refine qN ?_ _ | refine qD ?_ | refine qA ?_ _)); exact BK173.out⟩, ⟨by (with_reducible repeat (first | refine qN ?_ _ | refine qD ?_ | refine qA ?_ _)); exact BK174.out⟩, ⟨by (with_reducible repeat (first | refine qN ?_ _ | refine qD ?_ | refine qA ?_ _)); exact BK175.out⟩, ⟨by (with_reducible repeat (first | refine qN ?_ _ | refine qD ?_ | refine qA ?_ _)); exact BK176.out⟩, ⟨by (with_reducible repeat (first | refine qN ?_ _ | refine qD ?_ | refine qA ?_ _)); exact BK180.out⟩, ⟨by (with_reducible repeat (first | refine qN ?_ _ | refine qD ?_ | refine qA ?_ _)); exact BK184.out⟩, ⟨by (with_reducible repeat (first | refine qN ?_ _ | refine qD ?_ | refine qA ?_ _)); exact BK196.out⟩, ⟨by repeat (first | (with_reducible first | exact HB.out | apply qpA | apply qpN | apply qp1 | refine qpS ?_ GE172.out | refine qpS ?_ GE173.out | refine qpS ?_ GE174.out | refine qpS ?_ GE175.out | refine qpS ?_ GE176.out | refine qpS ?_ GE180.out | refine qpS ?_ GE184.out | refine qpS ?_ GE196.out) | exact HB.out)⟩⟩
      case rest =>
       clear HC205
       try clear c1
       try clear q1
       try clear c2
       try clear p2
       try clear c3
       try clear c4
       try clear c5
       try clear c6
       try clear p6
       try clear c7
       try clear c8
       try clear c9
       try clear c10
       try clear c11
       try clear c12
       try clear c13
       try clear c14
       try clear c15
       try clear c16
       try clear c17
       try clear c18
       try clear q18
       try clear c19
       try clear q19
       try clear c20
       try clear c21
       try clear c22
       try clear c23
       try clear c24
       try clear c25
       try clear c29
       try clear c30
       try clear c31
       try clear c32
       try clear c33
       try clear c39
       try clear c40
       try clear c41
       try clear c42
       try clear c43
       try clear c44
       try clear c46
       try clear c47
       try clear c50
       try clear c51
       try clear c52
       try clear c53
       try clear c54
       try clear c55
       try clear c56
       try clear c57
       try clear c58
       try clear c59
       try clear c62
       try clear c63
       try clear c64
       try clear p64
       try clear c65
       try clear c66
       try clear c73
       try clear c74
       try clear c75
       try clear c76
       try clear c77
       try clear c78
       try clear c81
       try clear c82
       try clear c83
       try clear c84
       try clear c85
       try clear c90
       try clear c91
       try clear c92
       try clear c93
       try clear c94
       try clear c95
       try clear c98
       try clear c99
       try clear c100
       try clear c101
       try clear c102
       try clear c105
       try clear c106
       try clear c107
       try clear c108
       try clear c109
       try clear c110
       try clear c114
       try clear c114b0
       try clear c114b1
       try clear c114b2
       try clear c115
       try clear c115b0
       try clear c116
       try clear c117
       try clear c118
       try clear c119
       try clear c120
       try clear c121
       try clear c123
       try clear c124
       try clear c125
       try clear c126
       try clear c127
       try clear c129
       try clear c130
       try clear c132
       try clear c133
       try clear c134
       try clear c135
       try clear c136
       try clear c137
       try clear c138
       try clear c140
       try clear c141
       try clear c142
       try clear c143
       try clear c144
       try clear c147
       try clear c148
       try clear c149
       try clear c150
       try clear c151
       try clear c152
       try clear c154
       try clear c155
       try clear c156
       try clear c157
       try clear c158
       try clear c161
       try clear c162
       try clear c163
       try clear c164
       try clear c165
       try clear c166
       try clear c168
       try clear c169
       try clear c170
       try clear c171
       try clear c172
       try clear c174
       try clear c176
       try clear c177
       try clear c178
       try clear c179
       try clear c180
       try clear c181
       try clear c183
       try clear c184
       try clear c185
       try clear c186
       try clear q186
       try clear c187
       try clear q188
       try clear c190
       try clear c191
       try clear c192
       try clear c193
       try clear c194
       try clear c195
       try clear c197
       try clear c198
       try clear q198
       try clear c199
       try clear c200
       try clear c201
       try clear c203
       try clear c206
       try clear c207
       try clear c208
       try clear c209
       try clear c210
       try clear c211
       try clear c213
       try clear c214
       try clear c215
       try clear c216
       try clear c217
       try clear c221
       try clear c222
       try clear c223
       try clear c224
       try clear c225
       try clear c226
       try clear c227
       try clear c230
       try clear c231
       try clear c232
       try clear c233
       try clear c234
       try clear c235
       try clear c236
       try clear c239
       try clear c240
       try clear c241
       try clear c242
       try clear c243
       try clear c244
       try clear c245
       try clear hcz103_0
       try clear hcz103_1
       try clear hcz111_0
       try clear hcz111_1
       try clear hcz122_0
       try clear hcz122_1
       try clear hcz128_0
       try clear hcz128_1
       try clear hcz139_0
       try clear hcz139_1
       try clear hcz145_0
       try clear hcz145_1
       try clear hcz153_0
       try clear hcz153_1
       try clear hcz159_0
       try clear hcz159_1
       try clear hcz167_0
       try clear hcz167_1
       try clear hcz173_0
       try clear hcz173_1
       try clear hcz182_0
       try clear hcz182_1
       try clear hcz188_0
       try clear hcz188_1
       try clear hcz196_0
       try clear hcz196_1
       try clear hcz202_0
       try clear hcz202_1
       try clear hcz212_0
       try clear hcz212_1
       try clear hcz218_0
       try clear hcz218_1
       try clear hcz228_0
       try clear hcz228_1
       try clear hcz22_0
       try clear hcz22_1
       try clear hcz237_0
       try clear hcz237_1
       try clear hcz246_0
       try clear hcz246_1
       try clear hcz26_0
       try clear hcz26_1
       try clear hcz34_0
       try clear hcz34_1
       try clear hcz35_0
       try clear hcz35_1
       try clear hcz36_0
       try clear hcz36_1
       try clear hcz45_0
       try clear hcz45_1
       try clear hcz48_0
       try clear hcz48_1
       try clear hcz60_0
       try clear hcz60_1
       try clear hcz67_0
       try clear hcz67_1
       try clear hcz69_0
       try clear hcz69_1
       try clear hcz71_0
       try clear hcz71_1
       try clear hcz79_0
       try clear hcz79_1
       try clear hcz86_0
       try clear hcz86_1
       try clear hcz88_0
       try clear hcz88_1
       try clear hcz96_0
       try clear hcz96_1
       try clear hfz103_0
       try clear hfz103_1
       try clear hfz111_0
       try clear hfz111_1
       try clear hfz122_0
       try clear hfz122_1
       try clear hfz128_0
       try clear hfz128_1
       try clear hfz139_0
       try clear hfz139_1
       try clear hfz145_0
       try clear hfz145_1
       try clear hfz153_0
       try clear hfz153_1
       try clear hfz159_0
       try clear hfz159_1
       try clear hfz167_0
       try clear hfz167_1
       try clear hfz173_0
       try clear hfz173_1
       try clear hfz182_0
       try clear hfz182_1
       try clear hfz188_0
       try clear hfz188_1
       try clear hfz196_0
       try clear hfz196_1
       try clear hfz202_0
       try clear hfz202_1
       try clear hfz212_0
       try clear hfz212_1
       try clear hfz218_0
       try clear hfz218_1
       try clear hfz228_0
       try clear hfz228_1
       try clear hfz22_0
       try clear hfz22_1
       try clear hfz237_0
       try clear hfz237_1
       try clear hfz246_0
       try clear hfz246_1
       try clear hfz26_0
       try clear hfz26_1
       try clear hfz34_0
       try clear hfz34_1
       try clear hfz35_0
       try clear hfz35_1
       try clear hfz36_0
       try clear hfz36_1
       try clear hfz45_0
       try clear hfz45_1
       try clear hfz48_0
       try clear hfz48_1
       try clear hfz60_0
       try clear hfz60_1
       try clear hfz67_0
       try clear hfz67_1
       try clear hfz69_0
       try clear hfz69_1
       try clear hfz71_0
       try clear hfz71_1
       try clear hfz79_0
       try clear hfz79_1
       try clear hfz86_0
       try clear hfz86_1
       try clear hfz88_0
       try clear hfz88_1
       try clear hfz96_0
       try clear hfz96_1
       try clear p2
       try clear p6
       try clear p64
       try clear q1
       try clear q18
       try clear q186
       try clear q188
       try clear q198
       obtain ⟨kq, x104_204, rfl, HA, HJ204, BK172, BK173, BK174, BK175, BK176, BK180, BK184, BK196, HB⟩ := hcut
       cases kq with
       | zero => exact absurd HA.out (by simp [fuseelaw13_SpanMeets.j2])
       | succ kj204 =>
        have H := HA.out
        clear HA
        simp only [fuseelaw13_SpanMeets.j2] at H
        by_cases c248 : x104_204 = true
        ·subst c248
         have H1 : ((fuseelaw13_num.f t195).bind fun t199 => (if t199 = 1 then ((fuseelaw13_sure.f kj204).bind fun t200 => (some t200)) else (none))) = some r := by rw [if_pos rfl] at H; exact H
         clear H
         have H := H1
         clear H1
         replace H := Option.bind_eq_some_iff.mp H
         obtain ⟨t199, A2490, H⟩ := H
         replace H : (if t199 = 1 then ((fuseelaw13_sure.f kj204).bind fun t200 => (some t200)) else (none)) = some r := H
         have A249 := qS A2490
         clear A2490
         by_cases c250 : t199 = 1
         ·rw [if_pos c250] at H
          have c250b0 : (t199 == 1) = true := beq_iff_eq.mpr c250
          have c250b1 : (t199 != 1) = false := bne_eq_false_iff_eq.mpr c250
          clear c250
          replace H := Option.bind_eq_some_iff.mp H
          obtain ⟨t200, A2510, H⟩ := H
          replace H : (some t200) = some r := H
          have A251 := qS A2510
          clear A2510
          as_aux_lemma =>
           obtain rfl := Option.some.inj H
           have CA249 := fun W (hgW : HG W) => fuseelaw13_num.calls t195 t199 W hgW A249.out
           try simp only [errW_none, errW_some] at CA249
           go_wp2_with (first | (go_at_call 38; (with_reducible refine (CA249 _ (HG.below hgL (Nat.le_refl _) (by repeat (first | (with_reducible first | exact HB.out | apply qpA | apply qpN | apply qp1 | refine qpS ?_ GE172.out | refine qpS ?_ GE173.out | refine qpS ?_ GE174.out | refine qpS ?_ GE175.out | refine qpS ?_ GE176.out | refine qpS ?_ GE180.out | refine qpS ?_ GE184.out | refine qpS ?_ GE196.out) | exact HB.out)))).mono ?_); rintro e w252 ⟨rfl, hb⟩; have n0_ := qS (qB (g := gb172) (o := .cells #[.int .i64 a0_0, .int .i64 a0_1] 73 (0, 0)) (by (with_reducible repeat (first | refine qN ?_ _ | refine qD ?_ | refine qA ?_ _)); exact BK172.out) hb); have n1_ := qS (qB (g := gb173) (o := .cells #[.int .i64 a1_0, .int .i64 a1_1] 73 (0, 0)) (by (with_reducible repeat (first | refine qN ?_ _ | refine qD ?_ | refine qA ?_ _)); exact BK173.out) hb); have n2_ := qS (qB (g := gb174) (o := .cells #[.int .i32 a2_0, .int .i32 a2_1] 110 (0, 0)) (by (with_reducible repeat (first | refine qN ?_ _ | refine qD ?_ | refine qA ?_ _)); exact BK174.out) hb); have n3_ := qS (qB (g := gb175) (o := .cells #[.int .i64 a0_0, .int .i64 a0_1] 68 (0, 0)) (by (with_reducible repeat (first | refine qN ?_ _ | refine qD ?_ | refine qA ?_ _)); exact BK175.out) hb); have n4_ := qS (qB (g := gb176) (o := .cells #[.int .i64 a1_0, .int .i64 a1_1] 68 (0, 0)) (by (with_reducible repeat (first | refine qN ?_ _ | refine qD ?_ | refine qA ?_ _)); exact BK176.out) hb); have n5_ := qS (qB (g := gb180) (o := .cells #[.int .i64 t177, .int .i64 t178] 68 (0, 0)) (by (with_reducible repeat (first | refine qN ?_ _ | refine qD ?_ | refine qA ?_ _)); exact BK180.out) hb); have n6_ := qS (qB (g := gb184) (o := .cells #[.int .i64 t181, .int .i64 t182] 68 (0, 0)) (by (with_reducible repeat (first | refine qN ?_ _ | refine qD ?_ | refine qA ?_ _)); exact BK184.out) hb); have n7_ := qS (qB (g := gb196) (o := .cells #[.int .i64 t193, .int .i64 t194] 68 (0, 0)) (by (with_reducible repeat (first | refine qN ?_ _ | refine qD ?_ | refine qA ?_ _)); exact BK196.out) hb); have n8_ := qS (below_step (by repeat (first | (with_reducible first | exact HB.out | apply qpA | apply qpN | apply qp1 | refine qpS ?_ GE172.out | refine qpS ?_ GE173.out | refine qpS ?_ GE174.out | refine qpS ?_ GE175.out | refine qpS ?_ GE176.out | refine qpS ?_ GE180.out | refine qpS ?_ GE184.out | refine qpS ?_ GE196.out) | exact HB.out)) hb); clear BK172; clear BK173; clear BK174; clear BK175; clear BK176; clear BK180; clear BK184; clear BK196; clear HB; have BK172 := n0_; have BK173 := n1_; have BK174 := n2_; have BK175 := n3_; have BK176 := n4_; have BK180 := n5_; have BK184 := n6_; have BK196 := n7_; have HB := n8_; clear n0_ n1_ n2_ n3_ n4_ n5_ n6_ n7_ n8_; (try clear hb); (try clear hb2); (try clear hk); (try clear hi)) | (go_at_call 34; (with_reducible refine (fuseelaw13_sure.calls kj204  t200 _ ?side1 A251.out).mono ?_); (case side1 => exact HG.below hgL (Nat.le_refl _) (by repeat (first | (with_reducible first | exact HB.out | apply qpA | apply qpN | apply qp1 | refine qpS ?_ GE172.out | refine qpS ?_ GE173.out | refine qpS ?_ GE174.out | refine qpS ?_ GE175.out | refine qpS ?_ GE176.out | refine qpS ?_ GE180.out | refine qpS ?_ GE184.out | refine qpS ?_ GE196.out) | exact HB.out))); rintro e w253 ⟨rfl, hb⟩; have n0_ := qS (qB (g := gb172) (o := .cells #[.int .i64 a0_0, .int .i64 a0_1] 73 (0, 0)) (by (with_reducible repeat (first | refine qN ?_ _ | refine qD ?_ | refine qA ?_ _)); exact BK172.out) hb); have n1_ := qS (qB (g := gb173) (o := .cells #[.int .i64 a1_0, .int .i64 a1_1] 73 (0, 0)) (by (with_reducible repeat (first | refine qN ?_ _ | refine qD ?_ | refine qA ?_ _)); exact BK173.out) hb); have n2_ := qS (qB (g := gb174) (o := .cells #[.int .i32 a2_0, .int .i32 a2_1] 110 (0, 0)) (by (with_reducible repeat (first | refine qN ?_ _ | refine qD ?_ | refine qA ?_ _)); exact BK174.out) hb); have n3_ := qS (qB (g := gb175) (o := .cells #[.int .i64 a0_0, .int .i64 a0_1] 68 (0, 0)) (by (with_reducible repeat (first | refine qN ?_ _ | refine qD ?_ | refine qA ?_ _)); exact BK175.out) hb); have n4_ := qS (qB (g := gb176) (o := .cells #[.int .i64 a1_0, .int .i64 a1_1] 68 (0, 0)) (by (with_reducible repeat (first | refine qN ?_ _ | refine qD ?_ | refine qA ?_ _)); exact BK176.out) hb); have n5_ := qS (qB (g := gb180) (o := .cells #[.int .i64 t177, .int .i64 t178] 68 (0, 0)) (by (with_reducible repeat (first | refine qN ?_ _ | refine qD ?_ | refine qA ?_ _)); exact BK180.out) hb); have n6_ := qS (qB (g := gb184) (o := .cells #[.int .i64 t181, .int .i64 t182] 68 (0, 0)) (by (with_reducible repeat (first | refine qN ?_ _ | refine qD ?_ | refine qA ?_ _)); exact BK184.out) hb); have n7_ := qS (qB (g := gb196) (o := .cells #[.int .i64 t193, .int .i64 t194] 68 (0, 0)) (by (with_reducible repeat (first | refine qN ?_ _ | refine qD ?_ | refine qA ?_ _)); exact BK196.out) hb); have n8_ := qS (below_step (by repeat (first | (with_reducible first | exact HB.out | apply qpA | apply qpN | apply qp1 | refine qpS ?_ GE172.out | refine qpS ?_ GE173.out | refine qpS ?_ GE174.out | refine qpS ?_ GE175.out | refine qpS ?_ GE176.out | refine qpS ?_ GE180.out | refine qpS ?_ GE184.out | refine qpS ?_ GE196.out) | exact HB.out)) hb); clear BK172; clear BK173; clear BK174; clear BK175; clear BK176; clear BK180; clear BK184; clear BK196; clear HB; have BK172 := n0_; have BK173 := n1_; have BK174 := n2_; have BK175 := n3_; have BK176 := n4_; have BK180 := n5_; have BK184 := n6_; have BK196 := n7_; have HB := n8_; clear n0_ n1_ n2_ n3_ n4_ n5_ n6_ n7_ n8_; (try clear hb); (try clear hb2); (try clear hk); (try clear hi)))
           go_ret
           exact ⟨by first | rfl | (simp [errW_none, errW_some] <;> rfl) | (simp [*, errW_none, errW_some] <;> rfl), by repeat (first | (with_reducible first | exact HB.out | apply qpA | apply qpN | apply qp1 | refine qpS ?_ GE172.out | refine qpS ?_ GE173.out | refine qpS ?_ GE174.out | refine qpS ?_ GE175.out | refine qpS ?_ GE176.out | refine qpS ?_ GE180.out | refine qpS ?_ GE184.out | refine qpS ?_ GE196.out) | exact HB.out)⟩
         ·rw [if_neg c250] at H
          exact absurd H (by simp)
        ·replace c248 := Bool.eq_false_iff.mpr c248
         subst c248
         have H1 : ((span_Mid.f a0_0 a0_1).bind fun bt201 => (if t195.isNone = true then (if bt201.2.2.isNone = true then ((span_Has.f t193 t194 a0_0).bind fun t206 => (if t206 = true then ((span_Has.f t193 t194 a0_1).bind fun t207 => (if t207 = true then ((span_Has.f a0_0 a0_1 bt201.1).bind fun t208 => (if t208 = true then (if bt201.2.1 ≥ 0 then (if a0_0 < (-2305843009213693952) then ((fuseelaw13_sure.f kj204).bind fun t209 => (some t209)) else (if a0_1 > 2305843009213693952 then ((fuseelaw13_sure.f kj204).bind fun t210 => (some t210)) else (if (wrap64 (bt201.1 - a0_0)) ≤ bt201.2.1 then (if (wrap64 (bt201.2.1 - (wrap64 (bt201.1 - a0_0)))) ≤ 1 then ((fuseelaw13_sure.f kj204).bind fun t211 => (some t211)) else (none)) else (none)))) else (none)) else (none))) else (none))) else (none))) else (none)) else (none))) = some r := by rw [if_neg (show ¬ (false = true) by decide)] at H; exact H
         clear H
         have H := H1
         clear H1
         replace H := Option.bind_eq_some_iff.mp H
         obtain ⟨⟨t201, t202, t203⟩, A2540, H⟩ := H
         replace H : (if t195.isNone = true then (if t203.isNone = true then ((span_Has.f t193 t194 a0_0).bind fun t206 => (if t206 = true then ((span_Has.f t193 t194 a0_1).bind fun t207 => (if t207 = true then ((span_Has.f a0_0 a0_1 t201).bind fun t208 => (if t208 = true then (if t202 ≥ 0 then (if a0_0 < (-2305843009213693952) then ((fuseelaw13_sure.f kj204).bind fun t209 => (some t209)) else (if a0_1 > 2305843009213693952 then ((fuseelaw13_sure.f kj204).bind fun t210 => (some t210)) else (if (wrap64 (t201 - a0_0)) ≤ t202 then (if (wrap64 (t202 - (wrap64 (t201 - a0_0)))) ≤ 1 then ((fuseelaw13_sure.f kj204).bind fun t211 => (some t211)) else (none)) else (none)))) else (none)) else (none))) else (none))) else (none))) else (none)) else (none)) = some r := H
         have A254 := qS A2540
         clear A2540
         rcases t195 with _ | q204
         ·have H1 : (if t203.isNone = true then ((span_Has.f t193 t194 a0_0).bind fun t206 => (if t206 = true then ((span_Has.f t193 t194 a0_1).bind fun t207 => (if t207 = true then ((span_Has.f a0_0 a0_1 t201).bind fun t208 => (if t208 = true then (if t202 ≥ 0 then (if a0_0 < (-2305843009213693952) then ((fuseelaw13_sure.f kj204).bind fun t209 => (some t209)) else (if a0_1 > 2305843009213693952 then ((fuseelaw13_sure.f kj204).bind fun t210 => (some t210)) else (if (wrap64 (t201 - a0_0)) ≤ t202 then (if (wrap64 (t202 - (wrap64 (t201 - a0_0)))) ≤ 1 then ((fuseelaw13_sure.f kj204).bind fun t211 => (some t211)) else (none)) else (none)))) else (none)) else (none))) else (none))) else (none))) else (none)) = some r := by rw [if_pos (show (none : Option Int).isNone = true by rfl)] at H; exact H
          clear H
          have H := H1
          clear H1
          try simp only [errW_none, errW_some]
          rcases t203 with _ | q205
          ·have H1 : ((span_Has.f t193 t194 a0_0).bind fun t206 => (if t206 = true then ((span_Has.f t193 t194 a0_1).bind fun t207 => (if t207 = true then ((span_Has.f a0_0 a0_1 t201).bind fun t208 => (if t208 = true then (if t202 ≥ 0 then (if a0_0 < (-2305843009213693952) then ((fuseelaw13_sure.f kj204).bind fun t209 => (some t209)) else (if a0_1 > 2305843009213693952 then ((fuseelaw13_sure.f kj204).bind fun t210 => (some t210)) else (if (wrap64 (t201 - a0_0)) ≤ t202 then (if (wrap64 (t202 - (wrap64 (t201 - a0_0)))) ≤ 1 then ((fuseelaw13_sure.f kj204).bind fun t211 => (some t211)) else (none)) else (none)))) else (none)) else (none))) else (none))) else (none))) = some r := by rw [if_pos (show (none : Option Int).isNone = true by rfl)] at H; exact H
           clear H
           have H := H1
           clear H1
           try simp only [errW_none, errW_some]
           replace H := Option.bind_eq_some_iff.mp H
           obtain ⟨t206, A2550, H⟩ := H
           replace H : (if t206 = true then ((span_Has.f t193 t194 a0_1).bind fun t207 => (if t207 = true then ((span_Has.f a0_0 a0_1 t201).bind fun t208 => (if t208 = true then (if t202 ≥ 0 then (if a0_0 < (-2305843009213693952) then ((fuseelaw13_sure.f kj204).bind fun t209 => (some t209)) else (if a0_1 > 2305843009213693952 then ((fuseelaw13_sure.f kj204).bind fun t210 => (some t210)) else (if (wrap64 (t201 - a0_0)) ≤ t202 then (if (wrap64 (t202 - (wrap64 (t201 - a0_0)))) ≤ 1 then ((fuseelaw13_sure.f kj204).bind fun t211 => (some t211)) else (none)) else (none)))) else (none)) else (none))) else (none))) else (none)) = some r := H
           have A255 := qS A2550
           clear A2550
           by_cases c256 : t206 = true
           ·subst c256
            have H1 : ((span_Has.f t193 t194 a0_1).bind fun t207 => (if t207 = true then ((span_Has.f a0_0 a0_1 t201).bind fun t208 => (if t208 = true then (if t202 ≥ 0 then (if a0_0 < (-2305843009213693952) then ((fuseelaw13_sure.f kj204).bind fun t209 => (some t209)) else (if a0_1 > 2305843009213693952 then ((fuseelaw13_sure.f kj204).bind fun t210 => (some t210)) else (if (wrap64 (t201 - a0_0)) ≤ t202 then (if (wrap64 (t202 - (wrap64 (t201 - a0_0)))) ≤ 1 then ((fuseelaw13_sure.f kj204).bind fun t211 => (some t211)) else (none)) else (none)))) else (none)) else (none))) else (none))) = some r := by rw [if_pos rfl] at H; exact H
            clear H
            have H := H1
            clear H1
            replace H := Option.bind_eq_some_iff.mp H
            obtain ⟨t207, A2570, H⟩ := H
            replace H : (if t207 = true then ((span_Has.f a0_0 a0_1 t201).bind fun t208 => (if t208 = true then (if t202 ≥ 0 then (if a0_0 < (-2305843009213693952) then ((fuseelaw13_sure.f kj204).bind fun t209 => (some t209)) else (if a0_1 > 2305843009213693952 then ((fuseelaw13_sure.f kj204).bind fun t210 => (some t210)) else (if (wrap64 (t201 - a0_0)) ≤ t202 then (if (wrap64 (t202 - (wrap64 (t201 - a0_0)))) ≤ 1 then ((fuseelaw13_sure.f kj204).bind fun t211 => (some t211)) else (none)) else (none)))) else (none)) else (none))) else (none)) = some r := H
            have A257 := qS A2570
            clear A2570
            by_cases c258 : t207 = true
            ·subst c258
             have H1 : ((span_Has.f a0_0 a0_1 t201).bind fun t208 => (if t208 = true then (if t202 ≥ 0 then (if a0_0 < (-2305843009213693952) then ((fuseelaw13_sure.f kj204).bind fun t209 => (some t209)) else (if a0_1 > 2305843009213693952 then ((fuseelaw13_sure.f kj204).bind fun t210 => (some t210)) else (if (wrap64 (t201 - a0_0)) ≤ t202 then (if (wrap64 (t202 - (wrap64 (t201 - a0_0)))) ≤ 1 then ((fuseelaw13_sure.f kj204).bind fun t211 => (some t211)) else (none)) else (none)))) else (none)) else (none))) = some r := by rw [if_pos rfl] at H; exact H
             clear H
             have H := H1
             clear H1
             replace H := Option.bind_eq_some_iff.mp H
             obtain ⟨t208, A2590, H⟩ := H
             replace H : (if t208 = true then (if t202 ≥ 0 then (if a0_0 < (-2305843009213693952) then ((fuseelaw13_sure.f kj204).bind fun t209 => (some t209)) else (if a0_1 > 2305843009213693952 then ((fuseelaw13_sure.f kj204).bind fun t210 => (some t210)) else (if (wrap64 (t201 - a0_0)) ≤ t202 then (if (wrap64 (t202 - (wrap64 (t201 - a0_0)))) ≤ 1 then ((fuseelaw13_sure.f kj204).bind fun t211 => (some t211)) else (none)) else (none)))) else (none)) else (none)) = some r := H
             have A259 := qS A2590
             clear A2590
             by_cases c260 : t208 = true
             ·subst c260
              have H1 : (if t202 ≥ 0 then (if a0_0 < (-2305843009213693952) then ((fuseelaw13_sure.f kj204).bind fun t209 => (some t209)) else (if a0_1 > 2305843009213693952 then ((fuseelaw13_sure.f kj204).bind fun t210 => (some t210)) else (if (wrap64 (t201 - a0_0)) ≤ t202 then (if (wrap64 (t202 - (wrap64 (t201 - a0_0)))) ≤ 1 then ((fuseelaw13_sure.f kj204).bind fun t211 => (some t211)) else (none)) else (none)))) else (none)) = some r := by rw [if_pos rfl] at H; exact H
              clear H
              have H := H1
              clear H1
              by_cases c261 : t202 ≥ 0
              ·rw [if_pos c261] at H
               have c261b0 : decide (0 ≤ t202) = true := decide_eq_true c261
               clear c261
               by_cases c262 : a0_0 < (-2305843009213693952)
               ·rw [if_pos c262] at H
                have c262b0 : decide (a0_0 < (-2305843009213693952)) = true := decide_eq_true c262
                clear c262
                replace H := Option.bind_eq_some_iff.mp H
                obtain ⟨t209, A2630, H⟩ := H
                replace H : (some t209) = some r := H
                have A263 := qS A2630
                clear A2630
                as_aux_lemma =>
                 obtain rfl := Option.some.inj H
                 have hnb264 := NB175_172.out
                 have hnc264 := NB172_175.out
                 have hnb265 := NB175_173.out
                 have hnc265 := NB173_175.out
                 have hnb266 := NB175_174.out
                 have hnc266 := NB174_175.out
                 have hnb267 := NB175_176.out
                 have hnc267 := NB176_175.out
                 have hnb268 := NB175_180.out
                 have hnc268 := NB180_175.out
                 have hnb269 := NB175_184.out
                 have hnc269 := NB184_175.out
                 have hnb270 := NB175_196.out
                 have hnc270 := NB196_175.out
                 have hcz271_0 : wc.cell? ⟨gb175, 0, none⟩ = some (.int .i64 a0_0) := (qC BK175.out 0).trans rfl
                 have hcz271_1 : wc.cell? ⟨gb175, 1, none⟩ = some (.int .i64 a0_1) := (qC BK175.out 1).trans rfl
                 have hfz271_0 := qF BK175.out 0
                 have hfz271_1 := qF BK175.out 1
                 go_wp2_with (first | ((with_reducible refine gate_callee (f := 52) rfl ?_); refine goesL_ (some 113) rfl rfl Tryd.func52 (by kernel_rfl) rfl #[.agg #[.int .i64 a0_0, .int .i64 a0_1]] rfl (by (try simp only [List.map_toArray, List.map_cons, List.map_nil]); first | done | rfl | (simp only [*]; done) | (simp only [List.length_drop, List.length_take]; rfl)) ?_; (with_reducible refine (span_Mid.calls a0_0 a0_1 t201 t202 none _ A254.out).mono ?_); rintro e w272 ⟨rfl, hb⟩; refine ⟨_, rfl, ?_⟩; have n0_ := qS (qB (g := gb172) (o := .cells #[.int .i64 a0_0, .int .i64 a0_1] 73 (0, 0)) (by (with_reducible repeat (first | refine qN ?_ _ | refine qD ?_ | refine qA ?_ _)); exact BK172.out) hb); have n1_ := qS (qB (g := gb173) (o := .cells #[.int .i64 a1_0, .int .i64 a1_1] 73 (0, 0)) (by (with_reducible repeat (first | refine qN ?_ _ | refine qD ?_ | refine qA ?_ _)); exact BK173.out) hb); have n2_ := qS (qB (g := gb174) (o := .cells #[.int .i32 a2_0, .int .i32 a2_1] 110 (0, 0)) (by (with_reducible repeat (first | refine qN ?_ _ | refine qD ?_ | refine qA ?_ _)); exact BK174.out) hb); have n3_ := qS (qB (g := gb175) (o := .cells #[.int .i64 a0_0, .int .i64 a0_1] 68 (0, 0)) (by (with_reducible repeat (first | refine qN ?_ _ | refine qD ?_ | refine qA ?_ _)); exact BK175.out) hb); have n4_ := qS (qB (g := gb176) (o := .cells #[.int .i64 a1_0, .int .i64 a1_1] 68 (0, 0)) (by (with_reducible repeat (first | refine qN ?_ _ | refine qD ?_ | refine qA ?_ _)); exact BK176.out) hb); have n5_ := qS (qB (g := gb180) (o := .cells #[.int .i64 t177, .int .i64 t178] 68 (0, 0)) (by (with_reducible repeat (first | refine qN ?_ _ | refine qD ?_ | refine qA ?_ _)); exact BK180.out) hb); have n6_ := qS (qB (g := gb184) (o := .cells #[.int .i64 t181, .int .i64 t182] 68 (0, 0)) (by (with_reducible repeat (first | refine qN ?_ _ | refine qD ?_ | refine qA ?_ _)); exact BK184.out) hb); have n7_ := qS (qB (g := gb196) (o := .cells #[.int .i64 t193, .int .i64 t194] 68 (0, 0)) (by (with_reducible repeat (first | refine qN ?_ _ | refine qD ?_ | refine qA ?_ _)); exact BK196.out) hb); have n8_ := qS (below_step (by repeat (first | (with_reducible first | exact HB.out | apply qpA | apply qpN | apply qp1 | refine qpS ?_ GE172.out | refine qpS ?_ GE173.out | refine qpS ?_ GE174.out | refine qpS ?_ GE175.out | refine qpS ?_ GE176.out | refine qpS ?_ GE180.out | refine qpS ?_ GE184.out | refine qpS ?_ GE196.out) | exact HB.out)) hb); clear BK172; clear BK173; clear BK174; clear BK175; clear BK176; clear BK180; clear BK184; clear BK196; clear HB; have BK172 := n0_; have BK173 := n1_; have BK174 := n2_; have BK175 := n3_; have BK176 := n4_; have BK180 := n5_; have BK184 := n6_; have BK196 := n7_; have HB := n8_; clear n0_ n1_ n2_ n3_ n4_ n5_ n6_ n7_ n8_; (try clear hb); (try clear hb2); (try clear hk); (try clear hi); (try simp only [errW_none, errW_some]); have hnb273 := NB196_172.out; have hnc273 := NB172_196.out; have hnb274 := NB196_173.out; have hnc274 := NB173_196.out; have hnb275 := NB196_174.out; have hnc275 := NB174_196.out; have hnb276 := NB196_176.out; have hnc276 := NB176_196.out; have hnb277 := NB196_180.out; have hnc277 := NB180_196.out; have hnb278 := NB196_184.out; have hnc278 := NB184_196.out; have hcz279_0 : w272.cell? ⟨gb196, 0, none⟩ = some (.int .i64 t193) := (qC BK196.out 0).trans rfl; have hcz279_1 : w272.cell? ⟨gb196, 1, none⟩ = some (.int .i64 t194) := (qC BK196.out 1).trans rfl; have hfz279_0 := qF BK196.out 0; have hfz279_1 := qF BK196.out 1; have hcz280_0 : w272.cell? ⟨gb175, 0, none⟩ = some (.int .i64 a0_0) := (qC BK175.out 0).trans rfl; have hcz280_1 : w272.cell? ⟨gb175, 1, none⟩ = some (.int .i64 a0_1) := (qC BK175.out 1).trans rfl; have hfz280_0 := qF BK175.out 0; have hfz280_1 := qF BK175.out 1) | (go_at_call 39; (with_reducible refine (span_Has.calls t193 t194 a0_0 true _ A255.out).mono ?_); rintro e w281 ⟨rfl, hb⟩; have n0_ := qS (qB (g := gb172) (o := .cells #[.int .i64 a0_0, .int .i64 a0_1] 73 (0, 0)) (by (with_reducible repeat (first | refine qN ?_ _ | refine qD ?_ | refine qA ?_ _)); exact BK172.out) hb); have n1_ := qS (qB (g := gb173) (o := .cells #[.int .i64 a1_0, .int .i64 a1_1] 73 (0, 0)) (by (with_reducible repeat (first | refine qN ?_ _ | refine qD ?_ | refine qA ?_ _)); exact BK173.out) hb); have n2_ := qS (qB (g := gb174) (o := .cells #[.int .i32 a2_0, .int .i32 a2_1] 110 (0, 0)) (by (with_reducible repeat (first | refine qN ?_ _ | refine qD ?_ | refine qA ?_ _)); exact BK174.out) hb); have n3_ := qS (qB (g := gb175) (o := .cells #[.int .i64 a0_0, .int .i64 a0_1] 68 (0, 0)) (by (with_reducible repeat (first | refine qN ?_ _ | refine qD ?_ | refine qA ?_ _)); exact BK175.out) hb); have n4_ := qS (qB (g := gb176) (o := .cells #[.int .i64 a1_0, .int .i64 a1_1] 68 (0, 0)) (by (with_reducible repeat (first | refine qN ?_ _ | refine qD ?_ | refine qA ?_ _)); exact BK176.out) hb); have n5_ := qS (qB (g := gb180) (o := .cells #[.int .i64 t177, .int .i64 t178] 68 (0, 0)) (by (with_reducible repeat (first | refine qN ?_ _ | refine qD ?_ | refine qA ?_ _)); exact BK180.out) hb); have n6_ := qS (qB (g := gb184) (o := .cells #[.int .i64 t181, .int .i64 t182] 68 (0, 0)) (by (with_reducible repeat (first | refine qN ?_ _ | refine qD ?_ | refine qA ?_ _)); exact BK184.out) hb); have n7_ := qS (qB (g := gb196) (o := .cells #[.int .i64 t193, .int .i64 t194] 68 (0, 0)) (by (with_reducible repeat (first | refine qN ?_ _ | refine qD ?_ | refine qA ?_ _)); exact BK196.out) hb); have n8_ := qS (below_step (by repeat (first | (with_reducible first | exact HB.out | apply qpA | apply qpN | apply qp1 | refine qpS ?_ GE172.out | refine qpS ?_ GE173.out | refine qpS ?_ GE174.out | refine qpS ?_ GE175.out | refine qpS ?_ GE176.out | refine qpS ?_ GE180.out | refine qpS ?_ GE184.out | refine qpS ?_ GE196.out) | exact HB.out)) hb); clear BK172; clear BK173; clear BK174; clear BK175; clear BK176; clear BK180; clear BK184; clear BK196; clear HB; have BK172 := n0_; have BK173 := n1_; have BK174 := n2_; have BK175 := n3_; have BK176 := n4_; have BK180 := n5_; have BK184 := n6_; have BK196 := n7_; have HB := n8_; clear n0_ n1_ n2_ n3_ n4_ n5_ n6_ n7_ n8_; (try clear hb); (try clear hb2); (try clear hk); (try clear hi); have hcz282_0 : w281.cell? ⟨gb196, 0, none⟩ = some (.int .i64 t193) := (qC BK196.out 0).trans rfl; have hcz282_1 : w281.cell? ⟨gb196, 1, none⟩ = some (.int .i64 t194) := (qC BK196.out 1).trans rfl; have hfz282_0 := qF BK196.out 0; have hfz282_1 := qF BK196.out 1; have hcz283_0 : w281.cell? ⟨gb175, 0, none⟩ = some (.int .i64 a0_0) := (qC BK175.out 0).trans rfl; have hcz283_1 : w281.cell? ⟨gb175, 1, none⟩ = some (.int .i64 a0_1) := (qC BK175.out 1).trans rfl; have hfz283_0 := qF BK175.out 0; have hfz283_1 := qF BK175.out 1) | (go_at_call 39; (with_reducible refine (span_Has.calls t193 t194 a0_1 true _ A257.out).mono ?_); rintro e w284 ⟨rfl, hb⟩; have n0_ := qS (qB (g := gb172) (o := .cells #[.int .i64 a0_0, .int .i64 a0_1] 73 (0, 0)) (by (with_reducible repeat (first | refine qN ?_ _ | refine qD ?_ | refine qA ?_ _)); exact BK172.out) hb); have n1_ := qS (qB (g := gb173) (o := .cells #[.int .i64 a1_0, .int .i64 a1_1] 73 (0, 0)) (by (with_reducible repeat (first | refine qN ?_ _ | refine qD ?_ | refine qA ?_ _)); exact BK173.out) hb); have n2_ := qS (qB (g := gb174) (o := .cells #[.int .i32 a2_0, .int .i32 a2_1] 110 (0, 0)) (by (with_reducible repeat (first | refine qN ?_ _ | refine qD ?_ | refine qA ?_ _)); exact BK174.out) hb); have n3_ := qS (qB (g := gb175) (o := .cells #[.int .i64 a0_0, .int .i64 a0_1] 68 (0, 0)) (by (with_reducible repeat (first | refine qN ?_ _ | refine qD ?_ | refine qA ?_ _)); exact BK175.out) hb); have n4_ := qS (qB (g := gb176) (o := .cells #[.int .i64 a1_0, .int .i64 a1_1] 68 (0, 0)) (by (with_reducible repeat (first | refine qN ?_ _ | refine qD ?_ | refine qA ?_ _)); exact BK176.out) hb); have n5_ := qS (qB (g := gb180) (o := .cells #[.int .i64 t177, .int .i64 t178] 68 (0, 0)) (by (with_reducible repeat (first | refine qN ?_ _ | refine qD ?_ | refine qA ?_ _)); exact BK180.out) hb); have n6_ := qS (qB (g := gb184) (o := .cells #[.int .i64 t181, .int .i64 t182] 68 (0, 0)) (by (with_reducible repeat (first | refine qN ?_ _ | refine qD ?_ | refine qA ?_ _)); exact BK184.out) hb); have n7_ := qS (qB (g := gb196) (o := .cells #[.int .i64 t193, .int .i64 t194] 68 (0, 0)) (by (with_reducible repeat (first | refine qN ?_ _ | refine qD ?_ | refine qA ?_ _)); exact BK196.out) hb); have n8_ := qS (below_step (by repeat (first | (with_reducible first | exact HB.out | apply qpA | apply qpN | apply qp1 | refine qpS ?_ GE172.out | refine qpS ?_ GE173.out | refine qpS ?_ GE174.out | refine qpS ?_ GE175.out | refine qpS ?_ GE176.out | refine qpS ?_ GE180.out | refine qpS ?_ GE184.out | refine qpS ?_ GE196.out) | exact HB.out)) hb); clear BK172; clear BK173; clear BK174; clear BK175; clear BK176; clear BK180; clear BK184; clear BK196; clear HB; have BK172 := n0_; have BK173 := n1_; have BK174 := n2_; have BK175 := n3_; have BK176 := n4_; have BK180 := n5_; have BK184 := n6_; have BK196 := n7_; have HB := n8_; clear n0_ n1_ n2_ n3_ n4_ n5_ n6_ n7_ n8_; (try clear hb); (try clear hb2); (try clear hk); (try clear hi); have hcz285_0 : w284.cell? ⟨gb175, 0, none⟩ = some (.int .i64 a0_0) := (qC BK175.out 0).trans rfl; have hcz285_1 : w284.cell? ⟨gb175, 1, none⟩ = some (.int .i64 a0_1) := (qC BK175.out 1).trans rfl; have hfz285_0 := qF BK175.out 0; have hfz285_1 := qF BK175.out 1) | (go_at_call 39; (with_reducible refine (span_Has.calls a0_0 a0_1 t201 true _ A259.out).mono ?_); rintro e w286 ⟨rfl, hb⟩; have n0_ := qS (qB (g := gb172) (o := .cells #[.int .i64 a0_0, .int .i64 a0_1] 73 (0, 0)) (by (with_reducible repeat (first | refine qN ?_ _ | refine qD ?_ | refine qA ?_ _)); exact BK172.out) hb); have n1_ := qS (qB (g := gb173) (o := .cells #[.int .i64 a1_0, .int .i64 a1_1] 73 (0, 0)) (by (with_reducible repeat (first | refine qN ?_ _ | refine qD ?_ | refine qA ?_ _)); exact BK173.out) hb); have n2_ := qS (qB (g := gb174) (o := .cells #[.int .i32 a2_0, .int .i32 a2_1] 110 (0, 0)) (by (with_reducible repeat (first | refine qN ?_ _ | refine qD ?_ | refine qA ?_ _)); exact BK174.out) hb); have n3_ := qS (qB (g := gb175) (o := .cells #[.int .i64 a0_0, .int .i64 a0_1] 68 (0, 0)) (by (with_reducible repeat (first | refine qN ?_ _ | refine qD ?_ | refine qA ?_ _)); exact BK175.out) hb); have n4_ := qS (qB (g := gb176) (o := .cells #[.int .i64 a1_0, .int .i64 a1_1] 68 (0, 0)) (by (with_reducible repeat (first | refine qN ?_ _ | refine qD ?_ | refine qA ?_ _)); exact BK176.out) hb); have n5_ := qS (qB (g := gb180) (o := .cells #[.int .i64 t177, .int .i64 t178] 68 (0, 0)) (by (with_reducible repeat (first | refine qN ?_ _ | refine qD ?_ | refine qA ?_ _)); exact BK180.out) hb); have n6_ := qS (qB (g := gb184) (o := .cells #[.int .i64 t181, .int .i64 t182] 68 (0, 0)) (by (with_reducible repeat (first | refine qN ?_ _ | refine qD ?_ | refine qA ?_ _)); exact BK184.out) hb); have n7_ := qS (qB (g := gb196) (o := .cells #[.int .i64 t193, .int .i64 t194] 68 (0, 0)) (by (with_reducible repeat (first | refine qN ?_ _ | refine qD ?_ | refine qA ?_ _)); exact BK196.out) hb); have n8_ := qS (below_step (by repeat (first | (with_reducible first | exact HB.out | apply qpA | apply qpN | apply qp1 | refine qpS ?_ GE172.out | refine qpS ?_ GE173.out | refine qpS ?_ GE174.out | refine qpS ?_ GE175.out | refine qpS ?_ GE176.out | refine qpS ?_ GE180.out | refine qpS ?_ GE184.out | refine qpS ?_ GE196.out) | exact HB.out)) hb); clear BK172; clear BK173; clear BK174; clear BK175; clear BK176; clear BK180; clear BK184; clear BK196; clear HB; have BK172 := n0_; have BK173 := n1_; have BK174 := n2_; have BK175 := n3_; have BK176 := n4_; have BK180 := n5_; have BK184 := n6_; have BK196 := n7_; have HB := n8_; clear n0_ n1_ n2_ n3_ n4_ n5_ n6_ n7_ n8_; (try clear hb); (try clear hb2); (try clear hk); (try clear hi); have hnb287 := NB172_173.out; have hnc287 := NB173_172.out; have hnb288 := NB172_174.out; have hnc288 := NB174_172.out; have hnb289 := NB172_176.out; have hnc289 := NB176_172.out; have hnb290 := NB172_180.out; have hnc290 := NB180_172.out; have hnb291 := NB172_184.out; have hnc291 := NB184_172.out; have hcz292_0 : w286.cell? ⟨gb172, 0, none⟩ = some (.int .i64 a0_0) := (qC BK172.out 0).trans rfl; have hcz292_1 : w286.cell? ⟨gb172, 1, none⟩ = some (.int .i64 a0_1) := (qC BK172.out 1).trans rfl; have hfz292_0 := qF BK172.out 0; have hfz292_1 := qF BK172.out 1) | (go_at_call 34; (with_reducible refine (fuseelaw13_sure.calls kj204  t209 _ ?side1 A263.out).mono ?_); (case side1 => exact HG.below hgL (Nat.le_refl _) (by repeat (first | (with_reducible first | exact HB.out | apply qpA | apply qpN | apply qp1 | refine qpS ?_ GE172.out | refine qpS ?_ GE173.out | refine qpS ?_ GE174.out | refine qpS ?_ GE175.out | refine qpS ?_ GE176.out | refine qpS ?_ GE180.out | refine qpS ?_ GE184.out | refine qpS ?_ GE196.out) | exact HB.out))); rintro e w293 ⟨rfl, hb⟩; have n0_ := qS (qB (g := gb172) (o := .cells #[.int .i64 a0_0, .int .i64 a0_1] 73 (0, 0)) (by (with_reducible repeat (first | refine qN ?_ _ | refine qD ?_ | refine qA ?_ _)); exact BK172.out) hb); have n1_ := qS (qB (g := gb173) (o := .cells #[.int .i64 a1_0, .int .i64 a1_1] 73 (0, 0)) (by (with_reducible repeat (first | refine qN ?_ _ | refine qD ?_ | refine qA ?_ _)); exact BK173.out) hb); have n2_ := qS (qB (g := gb174) (o := .cells #[.int .i32 a2_0, .int .i32 a2_1] 110 (0, 0)) (by (with_reducible repeat (first | refine qN ?_ _ | refine qD ?_ | refine qA ?_ _)); exact BK174.out) hb); have n3_ := qS (qB (g := gb175) (o := .cells #[.int .i64 a0_0, .int .i64 a0_1] 68 (0, 0)) (by (with_reducible repeat (first | refine qN ?_ _ | refine qD ?_ | refine qA ?_ _)); exact BK175.out) hb); have n4_ := qS (qB (g := gb176) (o := .cells #[.int .i64 a1_0, .int .i64 a1_1] 68 (0, 0)) (by (with_reducible repeat (first | refine qN ?_ _ | refine qD ?_ | refine qA ?_ _)); exact BK176.out) hb); have n5_ := qS (qB (g := gb180) (o := .cells #[.int .i64 t177, .int .i64 t178] 68 (0, 0)) (by (with_reducible repeat (first | refine qN ?_ _ | refine qD ?_ | refine qA ?_ _)); exact BK180.out) hb); have n6_ := qS (qB (g := gb184) (o := .cells #[.int .i64 t181, .int .i64 t182] 68 (0, 0)) (by (with_reducible repeat (first | refine qN ?_ _ | refine qD ?_ | refine qA ?_ _)); exact BK184.out) hb); have n7_ := qS (qB (g := gb196) (o := .cells #[.int .i64 t193, .int .i64 t194] 68 (0, 0)) (by (with_reducible repeat (first | refine qN ?_ _ | refine qD ?_ | refine qA ?_ _)); exact BK196.out) hb); have n8_ := qS (below_step (by repeat (first | (with_reducible first | exact HB.out | apply qpA | apply qpN | apply qp1 | refine qpS ?_ GE172.out | refine qpS ?_ GE173.out | refine qpS ?_ GE174.out | refine qpS ?_ GE175.out | refine qpS ?_ GE176.out | refine qpS ?_ GE180.out | refine qpS ?_ GE184.out | refine qpS ?_ GE196.out) | exact HB.out)) hb); clear BK172; clear BK173; clear BK174; clear BK175; clear BK176; clear BK180; clear BK184; clear BK196; clear HB; have BK172 := n0_; have BK173 := n1_; have BK174 := n2_; have BK175 := n3_; have BK176 := n4_; have BK180 := n5_; have BK184 := n6_; have BK196 := n7_; have HB := n8_; clear n0_ n1_ n2_ n3_ n4_ n5_ n6_ n7_ n8_; (try clear hb); (try clear hb2); (try clear hk); (try clear hi)))
                 go_ret
                 exact ⟨by first | rfl | (simp [errW_none, errW_some] <;> rfl) | (simp [*, errW_none, errW_some] <;> rfl), by repeat (first | (with_reducible first | exact HB.out | apply qpA | apply qpN | apply qp1 | refine qpS ?_ GE172.out | refine qpS ?_ GE173.out | refine qpS ?_ GE174.out | refine qpS ?_ GE175.out | refine qpS ?_ GE176.out | refine qpS ?_ GE180.out | refine qpS ?_ GE184.out | refine qpS ?_ GE196.out) | exact HB.out)⟩
               ·rw [if_neg c262] at H
                have c262b0 : decide (a0_0 < (-2305843009213693952)) = false := decide_eq_false c262
                clear c262
                by_cases c294 : a0_1 > 2305843009213693952
                ·rw [if_pos c294] at H
                 have c294b0 : decide (2305843009213693952 < a0_1) = true := decide_eq_true c294
                 clear c294
                 replace H := Option.bind_eq_some_iff.mp H
                 obtain ⟨t210, A2950, H⟩ := H
                 replace H : (some t210) = some r := H
                 have A295 := qS A2950
                 clear A2950
                 as_aux_lemma =>
                  obtain rfl := Option.some.inj H
                  have hnb296 := NB175_172.out
                  have hnc296 := NB172_175.out
                  have hnb297 := NB175_173.out
                  have hnc297 := NB173_175.out
                  have hnb298 := NB175_174.out
                  have hnc298 := NB174_175.out
                  have hnb299 := NB175_176.out
                  have hnc299 := NB176_175.out
                  have hnb300 := NB175_180.out
                  have hnc300 := NB180_175.out
                  have hnb301 := NB175_184.out
                  have hnc301 := NB184_175.out
                  have hnb302 := NB175_196.out
                  have hnc302 := NB196_175.out
                  have hcz303_0 : wc.cell? ⟨gb175, 0, none⟩ = some (.int .i64 a0_0) := (qC BK175.out 0).trans rfl
                  have hcz303_1 : wc.cell? ⟨gb175, 1, none⟩ = some (.int .i64 a0_1) := (qC BK175.out 1).trans rfl
                  have hfz303_0 := qF BK175.out 0
                  have hfz303_1 := qF BK175.out 1
                  go_wp2_with (first | ((with_reducible refine gate_callee (f := 52) rfl ?_); refine goesL_ (some 113) rfl rfl Tryd.func52 (by kernel_rfl) rfl #[.agg #[.int .i64 a0_0, .int .i64 a0_1]] rfl (by (try simp only [List.map_toArray, List.map_cons, List.map_nil]); first | done | rfl | (simp only [*]; done) | (simp only [List.length_drop, List.length_take]; rfl)) ?_; (with_reducible refine (span_Mid.calls a0_0 a0_1 t201 t202 none _ A254.out).mono ?_); rintro e w304 ⟨rfl, hb⟩; refine ⟨_, rfl, ?_⟩; have n0_ := qS (qB (g := gb172) (o := .cells #[.int .i64 a0_0, .int .i64 a0_1] 73 (0, 0)) (by (with_reducible repeat (first | refine qN ?_ _ | refine qD ?_ | refine qA ?_ _)); exact BK172.out) hb); have n1_ := qS (qB (g := gb173) (o := .cells #[.int .i64 a1_0, .int .i64 a1_1] 73 (0, 0)) (by (with_reducible repeat (first | refine qN ?_ _ | refine qD ?_ | refine qA ?_ _)); exact BK173.out) hb); have n2_ := qS (qB (g := gb174) (o := .cells #[.int .i32 a2_0, .int .i32 a2_1] 110 (0, 0)) (by (with_reducible repeat (first | refine qN ?_ _ | refine qD ?_ | refine qA ?_ _)); exact BK174.out) hb); have n3_ := qS (qB (g := gb175) (o := .cells #[.int .i64 a0_0, .int .i64 a0_1] 68 (0, 0)) (by (with_reducible repeat (first | refine qN ?_ _ | refine qD ?_ | refine qA ?_ _)); exact BK175.out) hb); have n4_ := qS (qB (g := gb176) (o := .cells #[.int .i64 a1_0, .int .i64 a1_1] 68 (0, 0)) (by (with_reducible repeat (first | refine qN ?_ _ | refine qD ?_ | refine qA ?_ _)); exact BK176.out) hb); have n5_ := qS (qB (g := gb180) (o := .cells #[.int .i64 t177, .int .i64 t178] 68 (0, 0)) (by (with_reducible repeat (first | refine qN ?_ _ | refine qD ?_ | refine qA ?_ _)); exact BK180.out) hb); have n6_ := qS (qB (g := gb184) (o := .cells #[.int .i64 t181, .int .i64 t182] 68 (0, 0)) (by (with_reducible repeat (first | refine qN ?_ _ | refine qD ?_ | refine qA ?_ _)); exact BK184.out) hb); have n7_ := qS (qB (g := gb196) (o := .cells #[.int .i64 t193, .int .i64 t194] 68 (0, 0)) (by (with_reducible repeat (first | refine qN ?_ _ | refine qD ?_ | refine qA ?_ _)); exact BK196.out) hb); have n8_ := qS (below_step (by repeat (first | (with_reducible first | exact HB.out | apply qpA | apply qpN | apply qp1 | refine qpS ?_ GE172.out | refine qpS ?_ GE173.out | refine qpS ?_ GE174.out | refine qpS ?_ GE175.out | refine qpS ?_ GE176.out | refine qpS ?_ GE180.out | refine qpS ?_ GE184.out | refine qpS ?_ GE196.out) | exact HB.out)) hb); clear BK172; clear BK173; clear BK174; clear BK175; clear BK176; clear BK180; clear BK184; clear BK196; clear HB; have BK172 := n0_; have BK173 := n1_; have BK174 := n2_; have BK175 := n3_; have BK176 := n4_; have BK180 := n5_; have BK184 := n6_; have BK196 := n7_; have HB := n8_; clear n0_ n1_ n2_ n3_ n4_ n5_ n6_ n7_ n8_; (try clear hb); (try clear hb2); (try clear hk); (try clear hi); (try simp only [errW_none, errW_some]); have hnb305 := NB196_172.out; have hnc305 := NB172_196.out; have hnb306 := NB196_173.out; have hnc306 := NB173_196.out; have hnb307 := NB196_174.out; have hnc307 := NB174_196.out; have hnb308 := NB196_176.out; have hnc308 := NB176_196.out; have hnb309 := NB196_180.out; have hnc309 := NB180_196.out; have hnb310 := NB196_184.out; have hnc310 := NB184_196.out; have hcz311_0 : w304.cell? ⟨gb196, 0, none⟩ = some (.int .i64 t193) := (qC BK196.out 0).trans rfl; have hcz311_1 : w304.cell? ⟨gb196, 1, none⟩ = some (.int .i64 t194) := (qC BK196.out 1).trans rfl; have hfz311_0 := qF BK196.out 0; have hfz311_1 := qF BK196.out 1; have hcz312_0 : w304.cell? ⟨gb175, 0, none⟩ = some (.int .i64 a0_0) := (qC BK175.out 0).trans rfl; have hcz312_1 : w304.cell? ⟨gb175, 1, none⟩ = some (.int .i64 a0_1) := (qC BK175.out 1).trans rfl; have hfz312_0 := qF BK175.out 0; have hfz312_1 := qF BK175.out 1) | (go_at_call 39; (with_reducible refine (span_Has.calls t193 t194 a0_0 true _ A255.out).mono ?_); rintro e w313 ⟨rfl, hb⟩; have n0_ := qS (qB (g := gb172) (o := .cells #[.int .i64 a0_0, .int .i64 a0_1] 73 (0, 0)) (by (with_reducible repeat (first | refine qN ?_ _ | refine qD ?_ | refine qA ?_ _)); exact BK172.out) hb); have n1_ := qS (qB (g := gb173) (o := .cells #[.int .i64 a1_0, .int .i64 a1_1] 73 (0, 0)) (by (with_reducible repeat (first | refine qN ?_ _ | refine qD ?_ | refine qA ?_ _)); exact BK173.out) hb); have n2_ := qS (qB (g := gb174) (o := .cells #[.int .i32 a2_0, .int .i32 a2_1] 110 (0, 0)) (by (with_reducible repeat (first | refine qN ?_ _ | refine qD ?_ | refine qA ?_ _)); exact BK174.out) hb); have n3_ := qS (qB (g := gb175) (o := .cells #[.int .i64 a0_0, .int .i64 a0_1] 68 (0, 0)) (by (with_reducible repeat (first | refine qN ?_ _ | refine qD ?_ | refine qA ?_ _)); exact BK175.out) hb); have n4_ := qS (qB (g := gb176) (o := .cells #[.int .i64 a1_0, .int .i64 a1_1] 68 (0, 0)) (by (with_reducible repeat (first | refine qN ?_ _ | refine qD ?_ | refine qA ?_ _)); exact BK176.out) hb); have n5_ := qS (qB (g := gb180) (o := .cells #[.int .i64 t177, .int .i64 t178] 68 (0, 0)) (by (with_reducible repeat (first | refine qN ?_ _ | refine qD ?_ | refine qA ?_ _)); exact BK180.out) hb); have n6_ := qS (qB (g := gb184) (o := .cells #[.int .i64 t181, .int .i64 t182] 68 (0, 0)) (by (with_reducible repeat (first | refine qN ?_ _ | refine qD ?_ | refine qA ?_ _)); exact BK184.out) hb); have n7_ := qS (qB (g := gb196) (o := .cells #[.int .i64 t193, .int .i64 t194] 68 (0, 0)) (by (with_reducible repeat (first | refine qN ?_ _ | refine qD ?_ | refine qA ?_ _)); exact BK196.out) hb); have n8_ := qS (below_step (by repeat (first | (with_reducible first | exact HB.out | apply qpA | apply qpN | apply qp1 | refine qpS ?_ GE172.out | refine qpS ?_ GE173.out | refine qpS ?_ GE174.out | refine qpS ?_ GE175.out | refine qpS ?_ GE176.out | refine qpS ?_ GE180.out | refine qpS ?_ GE184.out | refine qpS ?_ GE196.out) | exact HB.out)) hb); clear BK172; clear BK173; clear BK174; clear BK175; clear BK176; clear BK180; clear BK184; clear BK196; clear HB; have BK172 := n0_; have BK173 := n1_; have BK174 := n2_; have BK175 := n3_; have BK176 := n4_; have BK180 := n5_; have BK184 := n6_; have BK196 := n7_; have HB := n8_; clear n0_ n1_ n2_ n3_ n4_ n5_ n6_ n7_ n8_; (try clear hb); (try clear hb2); (try clear hk); (try clear hi); have hcz314_0 : w313.cell? ⟨gb196, 0, none⟩ = some (.int .i64 t193) := (qC BK196.out 0).trans rfl; have hcz314_1 : w313.cell? ⟨gb196, 1, none⟩ = some (.int .i64 t194) := (qC BK196.out 1).trans rfl; have hfz314_0 := qF BK196.out 0; have hfz314_1 := qF BK196.out 1; have hcz315_0 : w313.cell? ⟨gb175, 0, none⟩ = some (.int .i64 a0_0) := (qC BK175.out 0).trans rfl; have hcz315_1 : w313.cell? ⟨gb175, 1, none⟩ = some (.int .i64 a0_1) := (qC BK175.out 1).trans rfl; have hfz315_0 := qF BK175.out 0; have hfz315_1 := qF BK175.out 1) | (go_at_call 39; (with_reducible refine (span_Has.calls t193 t194 a0_1 true _ A257.out).mono ?_); rintro e w316 ⟨rfl, hb⟩; have n0_ := qS (qB (g := gb172) (o := .cells #[.int .i64 a0_0, .int .i64 a0_1] 73 (0, 0)) (by (with_reducible repeat (first | refine qN ?_ _ | refine qD ?_ | refine qA ?_ _)); exact BK172.out) hb); have n1_ := qS (qB (g := gb173) (o := .cells #[.int .i64 a1_0, .int .i64 a1_1] 73 (0, 0)) (by (with_reducible repeat (first | refine qN ?_ _ | refine qD ?_ | refine qA ?_ _)); exact BK173.out) hb); have n2_ := qS (qB (g := gb174) (o := .cells #[.int .i32 a2_0, .int .i32 a2_1] 110 (0, 0)) (by (with_reducible repeat (first | refine qN ?_ _ | refine qD ?_ | refine qA ?_ _)); exact BK174.out) hb); have n3_ := qS (qB (g := gb175) (o := .cells #[.int .i64 a0_0, .int .i64 a0_1] 68 (0, 0)) (by (with_reducible repeat (first | refine qN ?_ _ | refine qD ?_ | refine qA ?_ _)); exact BK175.out) hb); have n4_ := qS (qB (g := gb176) (o := .cells #[.int .i64 a1_0, .int .i64 a1_1] 68 (0, 0)) (by (with_reducible repeat (first | refine qN ?_ _ | refine qD ?_ | refine qA ?_ _)); exact BK176.out) hb); have n5_ := qS (qB (g := gb180) (o := .cells #[.int .i64 t177, .int .i64 t178] 68 (0, 0)) (by (with_reducible repeat (first | refine qN ?_ _ | refine qD ?_ | refine qA ?_ _)); exact BK180.out) hb); have n6_ := qS (qB (g := gb184) (o := .cells #[.int .i64 t181, .int .i64 t182] 68 (0, 0)) (by (with_reducible repeat (first | refine qN ?_ _ | refine qD ?_ | refine qA ?_ _)); exact BK184.out) hb); have n7_ := qS (qB (g := gb196) (o := .cells #[.int .i64 t193, .int .i64 t194] 68 (0, 0)) (by (with_reducible repeat (first | refine qN ?_ _ | refine qD ?_ | refine qA ?_ _)); exact BK196.out) hb); have n8_ := qS (below_step (by repeat (first | (with_reducible first | exact HB.out | apply qpA | apply qpN | apply qp1 | refine qpS ?_ GE172.out | refine qpS ?_ GE173.out | refine qpS ?_ GE174.out | refine qpS ?_ GE175.out | refine qpS ?_ GE176.out | refine qpS ?_ GE180.out | refine qpS ?_ GE184.out | refine qpS ?_ GE196.out) | exact HB.out)) hb); clear BK172; clear BK173; clear BK174; clear BK175; clear BK176; clear BK180; clear BK184; clear BK196; clear HB; have BK172 := n0_; have BK173 := n1_; have BK174 := n2_; have BK175 := n3_; have BK176 := n4_; have BK180 := n5_; have BK184 := n6_; have BK196 := n7_; have HB := n8_; clear n0_ n1_ n2_ n3_ n4_ n5_ n6_ n7_ n8_; (try clear hb); (try clear hb2); (try clear hk); (try clear hi); have hcz317_0 : w316.cell? ⟨gb175, 0, none⟩ = some (.int .i64 a0_0) := (qC BK175.out 0).trans rfl; have hcz317_1 : w316.cell? ⟨gb175, 1, none⟩ = some (.int .i64 a0_1) := (qC BK175.out 1).trans rfl; have hfz317_0 := qF BK175.out 0; have hfz317_1 := qF BK175.out 1) | (go_at_call 39; (with_reducible refine (span_Has.calls a0_0 a0_1 t201 true _ A259.out).mono ?_); rintro e w318 ⟨rfl, hb⟩; have n0_ := qS (qB (g := gb172) (o := .cells #[.int .i64 a0_0, .int .i64 a0_1] 73 (0, 0)) (by (with_reducible repeat (first | refine qN ?_ _ | refine qD ?_ | refine qA ?_ _)); exact BK172.out) hb); have n1_ := qS (qB (g := gb173) (o := .cells #[.int .i64 a1_0, .int .i64 a1_1] 73 (0, 0)) (by (with_reducible repeat (first | refine qN ?_ _ | refine qD ?_ | refine qA ?_ _)); exact BK173.out) hb); have n2_ := qS (qB (g := gb174) (o := .cells #[.int .i32 a2_0, .int .i32 a2_1] 110 (0, 0)) (by (with_reducible repeat (first | refine qN ?_ _ | refine qD ?_ | refine qA ?_ _)); exact BK174.out) hb); have n3_ := qS (qB (g := gb175) (o := .cells #[.int .i64 a0_0, .int .i64 a0_1] 68 (0, 0)) (by (with_reducible repeat (first | refine qN ?_ _ | refine qD ?_ | refine qA ?_ _)); exact BK175.out) hb); have n4_ := qS (qB (g := gb176) (o := .cells #[.int .i64 a1_0, .int .i64 a1_1] 68 (0, 0)) (by (with_reducible repeat (first | refine qN ?_ _ | refine qD ?_ | refine qA ?_ _)); exact BK176.out) hb); have n5_ := qS (qB (g := gb180) (o := .cells #[.int .i64 t177, .int .i64 t178] 68 (0, 0)) (by (with_reducible repeat (first | refine qN ?_ _ | refine qD ?_ | refine qA ?_ _)); exact BK180.out) hb); have n6_ := qS (qB (g := gb184) (o := .cells #[.int .i64 t181, .int .i64 t182] 68 (0, 0)) (by (with_reducible repeat (first | refine qN ?_ _ | refine qD ?_ | refine qA ?_ _)); exact BK184.out) hb); have n7_ := qS (qB (g := gb196) (o := .cells #[.int .i64 t193, .int .i64 t194] 68 (0, 0)) (by (with_reducible repeat (first | refine qN ?_ _ | refine qD ?_ | refine qA ?_ _)); exact BK196.out) hb); have n8_ := qS (below_step (by repeat (first | (with_reducible first | exact HB.out | apply qpA | apply qpN | apply qp1 | refine qpS ?_ GE172.out | refine qpS ?_ GE173.out | refine qpS ?_ GE174.out | refine qpS ?_ GE175.out | refine qpS ?_ GE176.out | refine qpS ?_ GE180.out | refine qpS ?_ GE184.out | refine qpS ?_ GE196.out) | exact HB.out)) hb); clear BK172; clear BK173; clear BK174; clear BK175; clear BK176; clear BK180; clear BK184; clear BK196; clear HB; have BK172 := n0_; have BK173 := n1_; have BK174 := n2_; have BK175 := n3_; have BK176 := n4_; have BK180 := n5_; have BK184 := n6_; have BK196 := n7_; have HB := n8_; clear n0_ n1_ n2_ n3_ n4_ n5_ n6_ n7_ n8_; (try clear hb); (try clear hb2); (try clear hk); (try clear hi); have hnb319 := NB172_173.out; have hnc319 := NB173_172.out; have hnb320 := NB172_174.out; have hnc320 := NB174_172.out; have hnb321 := NB172_176.out; have hnc321 := NB176_172.out; have hnb322 := NB172_180.out; have hnc322 := NB180_172.out; have hnb323 := NB172_184.out; have hnc323 := NB184_172.out; have hcz324_0 : w318.cell? ⟨gb172, 0, none⟩ = some (.int .i64 a0_0) := (qC BK172.out 0).trans rfl; have hcz324_1 : w318.cell? ⟨gb172, 1, none⟩ = some (.int .i64 a0_1) := (qC BK172.out 1).trans rfl; have hfz324_0 := qF BK172.out 0; have hfz324_1 := qF BK172.out 1) | (go_at_call 34; (with_reducible refine (fuseelaw13_sure.calls kj204  t210 _ ?side1 A295.out).mono ?_); (case side1 => exact HG.below hgL (Nat.le_refl _) (by repeat (first | (with_reducible first | exact HB.out | apply qpA | apply qpN | apply qp1 | refine qpS ?_ GE172.out | refine qpS ?_ GE173.out | refine qpS ?_ GE174.out | refine qpS ?_ GE175.out | refine qpS ?_ GE176.out | refine qpS ?_ GE180.out | refine qpS ?_ GE184.out | refine qpS ?_ GE196.out) | exact HB.out))); rintro e w325 ⟨rfl, hb⟩; have n0_ := qS (qB (g := gb172) (o := .cells #[.int .i64 a0_0, .int .i64 a0_1] 73 (0, 0)) (by (with_reducible repeat (first | refine qN ?_ _ | refine qD ?_ | refine qA ?_ _)); exact BK172.out) hb); have n1_ := qS (qB (g := gb173) (o := .cells #[.int .i64 a1_0, .int .i64 a1_1] 73 (0, 0)) (by (with_reducible repeat (first | refine qN ?_ _ | refine qD ?_ | refine qA ?_ _)); exact BK173.out) hb); have n2_ := qS (qB (g := gb174) (o := .cells #[.int .i32 a2_0, .int .i32 a2_1] 110 (0, 0)) (by (with_reducible repeat (first | refine qN ?_ _ | refine qD ?_ | refine qA ?_ _)); exact BK174.out) hb); have n3_ := qS (qB (g := gb175) (o := .cells #[.int .i64 a0_0, .int .i64 a0_1] 68 (0, 0)) (by (with_reducible repeat (first | refine qN ?_ _ | refine qD ?_ | refine qA ?_ _)); exact BK175.out) hb); have n4_ := qS (qB (g := gb176) (o := .cells #[.int .i64 a1_0, .int .i64 a1_1] 68 (0, 0)) (by (with_reducible repeat (first | refine qN ?_ _ | refine qD ?_ | refine qA ?_ _)); exact BK176.out) hb); have n5_ := qS (qB (g := gb180) (o := .cells #[.int .i64 t177, .int .i64 t178] 68 (0, 0)) (by (with_reducible repeat (first | refine qN ?_ _ | refine qD ?_ | refine qA ?_ _)); exact BK180.out) hb); have n6_ := qS (qB (g := gb184) (o := .cells #[.int .i64 t181, .int .i64 t182] 68 (0, 0)) (by (with_reducible repeat (first | refine qN ?_ _ | refine qD ?_ | refine qA ?_ _)); exact BK184.out) hb); have n7_ := qS (qB (g := gb196) (o := .cells #[.int .i64 t193, .int .i64 t194] 68 (0, 0)) (by (with_reducible repeat (first | refine qN ?_ _ | refine qD ?_ | refine qA ?_ _)); exact BK196.out) hb); have n8_ := qS (below_step (by repeat (first | (with_reducible first | exact HB.out | apply qpA | apply qpN | apply qp1 | refine qpS ?_ GE172.out | refine qpS ?_ GE173.out | refine qpS ?_ GE174.out | refine qpS ?_ GE175.out | refine qpS ?_ GE176.out | refine qpS ?_ GE180.out | refine qpS ?_ GE184.out | refine qpS ?_ GE196.out) | exact HB.out)) hb); clear BK172; clear BK173; clear BK174; clear BK175; clear BK176; clear BK180; clear BK184; clear BK196; clear HB; have BK172 := n0_; have BK173 := n1_; have BK174 := n2_; have BK175 := n3_; have BK176 := n4_; have BK180 := n5_; have BK184 := n6_; have BK196 := n7_; have HB := n8_; clear n0_ n1_ n2_ n3_ n4_ n5_ n6_ n7_ n8_; (try clear hb); (try clear hb2); (try clear hk); (try clear hi)))
                  go_ret
                  exact ⟨by first | rfl | (simp [errW_none, errW_some] <;> rfl) | (simp [*, errW_none, errW_some] <;> rfl), by repeat (first | (with_reducible first | exact HB.out | apply qpA | apply qpN | apply qp1 | refine qpS ?_ GE172.out | refine qpS ?_ GE173.out | refine qpS ?_ GE174.out | refine qpS ?_ GE175.out | refine qpS ?_ GE176.out | refine qpS ?_ GE180.out | refine qpS ?_ GE184.out | refine qpS ?_ GE196.out) | exact HB.out)⟩
                ·rw [if_neg c294] at H
                 have c294b0 : decide (2305843009213693952 < a0_1) = false := decide_eq_false c294
                 clear c294
                 by_cases c326 : (wrap64 (t201 - a0_0)) ≤ t202
                 ·rw [if_pos c326] at H
                  have c326b0 : decide ((wrap64 (t201 - a0_0)) ≤ t202) = true := decide_eq_true c326
                  clear c326
                  by_cases c327 : (wrap64 (t202 - (wrap64 (t201 - a0_0)))) ≤ 1
                  ·rw [if_pos c327] at H
                   have c327b0 : decide ((wrap64 (t202 - (wrap64 (t201 - a0_0)))) ≤ 1) = true := decide_eq_true c327
                   clear c327
                   replace H := Option.bind_eq_some_iff.mp H
                   obtain ⟨t211, A3280, H⟩ := H
                   replace H : (some t211) = some r := H
                   have A328 := qS A3280
                   clear A3280
                   as_aux_lemma =>
                    obtain rfl := Option.some.inj H
                    have hnb329 := NB175_172.out
                    have hnc329 := NB172_175.out
                    have hnb330 := NB175_173.out
                    have hnc330 := NB173_175.out
                    have hnb331 := NB175_174.out
                    have hnc331 := NB174_175.out
                    have hnb332 := NB175_176.out
                    have hnc332 := NB176_175.out
                    have hnb333 := NB175_180.out
                    have hnc333 := NB180_175.out
                    have hnb334 := NB175_184.out
                    have hnc334 := NB184_175.out
                    have hnb335 := NB175_196.out
                    have hnc335 := NB196_175.out
                    have hcz336_0 : wc.cell? ⟨gb175, 0, none⟩ = some (.int .i64 a0_0) := (qC BK175.out 0).trans rfl
                    have hcz336_1 : wc.cell? ⟨gb175, 1, none⟩ = some (.int .i64 a0_1) := (qC BK175.out 1).trans rfl
                    have hfz336_0 := qF BK175.out 0
                    have hfz336_1 := qF BK175.out 1
                    go_wp2_with (first | ((with_reducible refine gate_callee (f := 52) rfl ?_); refine goesL_ (some 113) rfl rfl Tryd.func52 (by kernel_rfl) rfl #[.agg #[.int .i64 a0_0, .int .i64 a0_1]] rfl (by (try simp only [List.map_toArray, List.map_cons, List.map_nil]); first | done | rfl | (simp only [*]; done) | (simp only [List.length_drop, List.length_take]; rfl)) ?_; (with_reducible refine (span_Mid.calls a0_0 a0_1 t201 t202 none _ A254.out).mono ?_); rintro e w337 ⟨rfl, hb⟩; refine ⟨_, rfl, ?_⟩; have n0_ := qS (qB (g := gb172) (o := .cells #[.int .i64 a0_0, .int .i64 a0_1] 73 (0, 0)) (by (with_reducible repeat (first | refine qN ?_ _ | refine qD ?_ | refine qA ?_ _)); exact BK172.out) hb); have n1_ := qS (qB (g := gb173) (o := .cells #[.int .i64 a1_0, .int .i64 a1_1] 73 (0, 0)) (by (with_reducible repeat (first | refine qN ?_ _ | refine qD ?_ | refine qA ?_ _)); exact BK173.out) hb); have n2_ := qS (qB (g := gb174) (o := .cells #[.int .i32 a2_0, .int .i32 a2_1] 110 (0, 0)) (by (with_reducible repeat (first | refine qN ?_ _ | refine qD ?_ | refine qA ?_ _)); exact BK174.out) hb); have n3_ := qS (qB (g := gb175) (o := .cells #[.int .i64 a0_0, .int .i64 a0_1] 68 (0, 0)) (by (with_reducible repeat (first | refine qN ?_ _ | refine qD ?_ | refine qA ?_ _)); exact BK175.out) hb); have n4_ := qS (qB (g := gb176) (o := .cells #[.int .i64 a1_0, .int .i64 a1_1] 68 (0, 0)) (by (with_reducible repeat (first | refine qN ?_ _ | refine qD ?_ | refine qA ?_ _)); exact BK176.out) hb); have n5_ := qS (qB (g := gb180) (o := .cells #[.int .i64 t177, .int .i64 t178] 68 (0, 0)) (by (with_reducible repeat (first | refine qN ?_ _ | refine qD ?_ | refine qA ?_ _)); exact BK180.out) hb); have n6_ := qS (qB (g := gb184) (o := .cells #[.int .i64 t181, .int .i64 t182] 68 (0, 0)) (by (with_reducible repeat (first | refine qN ?_ _ | refine qD ?_ | refine qA ?_ _)); exact BK184.out) hb); have n7_ := qS (qB (g := gb196) (o := .cells #[.int .i64 t193, .int .i64 t194] 68 (0, 0)) (by (with_reducible repeat (first | refine qN ?_ _ | refine qD ?_ | refine qA ?_ _)); exact BK196.out) hb); have n8_ := qS (below_step (by repeat (first | (with_reducible first | exact HB.out | apply qpA | apply qpN | apply qp1 | refine qpS ?_ GE172.out | refine qpS ?_ GE173.out | refine qpS ?_ GE174.out | refine qpS ?_ GE175.out | refine qpS ?_ GE176.out | refine qpS ?_ GE180.out | refine qpS ?_ GE184.out | refine qpS ?_ GE196.out) | exact HB.out)) hb); clear BK172; clear BK173; clear BK174; clear BK175; clear BK176; clear BK180; clear BK184; clear BK196; clear HB; have BK172 := n0_; have BK173 := n1_; have BK174 := n2_; have BK175 := n3_; have BK176 := n4_; have BK180 := n5_; have BK184 := n6_; have BK196 := n7_; have HB := n8_; clear n0_ n1_ n2_ n3_ n4_ n5_ n6_ n7_ n8_; (try clear hb); (try clear hb2); (try clear hk); (try clear hi); (try simp only [errW_none, errW_some]); have hnb338 := NB196_172.out; have hnc338 := NB172_196.out; have hnb339 := NB196_173.out; have hnc339 := NB173_196.out; have hnb340 := NB196_174.out; have hnc340 := NB174_196.out; have hnb341 := NB196_176.out; have hnc341 := NB176_196.out; have hnb342 := NB196_180.out; have hnc342 := NB180_196.out; have hnb343 := NB196_184.out; have hnc343 := NB184_196.out; have hcz344_0 : w337.cell? ⟨gb196, 0, none⟩ = some (.int .i64 t193) := (qC BK196.out 0).trans rfl; have hcz344_1 : w337.cell? ⟨gb196, 1, none⟩ = some (.int .i64 t194) := (qC BK196.out 1).trans rfl; have hfz344_0 := qF BK196.out 0; have hfz344_1 := qF BK196.out 1; have hcz345_0 : w337.cell? ⟨gb175, 0, none⟩ = some (.int .i64 a0_0) := (qC BK175.out 0).trans rfl; have hcz345_1 : w337.cell? ⟨gb175, 1, none⟩ = some (.int .i64 a0_1) := (qC BK175.out 1).trans rfl; have hfz345_0 := qF BK175.out 0; have hfz345_1 := qF BK175.out 1) | (go_at_call 39; (with_reducible refine (span_Has.calls t193 t194 a0_0 true _ A255.out).mono ?_); rintro e w346 ⟨rfl, hb⟩; have n0_ := qS (qB (g := gb172) (o := .cells #[.int .i64 a0_0, .int .i64 a0_1] 73 (0, 0)) (by (with_reducible repeat (first | refine qN ?_ _ | refine qD ?_ | refine qA ?_ _)); exact BK172.out) hb); have n1_ := qS (qB (g := gb173) (o := .cells #[.int .i64 a1_0, .int .i64 a1_1] 73 (0, 0)) (by (with_reducible repeat (first | refine qN ?_ _ | refine qD ?_ | refine qA ?_ _)); exact BK173.out) hb); have n2_ := qS (qB (g := gb174) (o := .cells #[.int .i32 a2_0, .int .i32 a2_1] 110 (0, 0)) (by (with_reducible repeat (first | refine qN ?_ _ | refine qD ?_ | refine qA ?_ _)); exact BK174.out) hb); have n3_ := qS (qB (g := gb175) (o := .cells #[.int .i64 a0_0, .int .i64 a0_1] 68 (0, 0)) (by (with_reducible repeat (first | refine qN ?_ _ | refine qD ?_ | refine qA ?_ _)); exact BK175.out) hb); have n4_ := qS (qB (g := gb176) (o := .cells #[.int .i64 a1_0, .int .i64 a1_1] 68 (0, 0)) (by (with_reducible repeat (first | refine qN ?_ _ | refine qD ?_ | refine qA ?_ _)); exact BK176.out) hb); have n5_ := qS (qB (g := gb180) (o := .cells #[.int .i64 t177, .int .i64 t178] 68 (0, 0)) (by (with_reducible repeat (first | refine qN ?_ _ | refine qD ?_ | refine qA ?_ _)); exact BK180.out) hb); have n6_ := qS (qB (g := gb184) (o := .cells #[.int .i64 t181, .int .i64 t182] 68 (0, 0)) (by (with_reducible repeat (first | refine qN ?_ _ | refine qD ?_ | refine qA ?_ _)); exact BK184.out) hb); have n7_ := qS (qB (g := gb196) (o := .cells #[.int .i64 t193, .int .i64 t194] 68 (0, 0)) (by (with_reducible repeat (first | refine qN ?_ _ | refine qD ?_ | refine qA ?_ _)); exact BK196.out) hb); have n8_ := qS (below_step (by repeat (first | (with_reducible first | exact HB.out | apply qpA | apply qpN | apply qp1 | refine qpS ?_ GE172.out | refine qpS ?_ GE173.out | refine qpS ?_ GE174.out | refine qpS ?_ GE175.out | refine qpS ?_ GE176.out | refine qpS ?_ GE180.out | refine qpS ?_ GE184.out | refine qpS ?_ GE196.out) | exact HB.out)) hb); clear BK172; clear BK173; clear BK174; clear BK175; clear BK176; clear BK180; clear BK184; clear BK196; clear HB; have BK172 := n0_; have BK173 := n1_; have BK174 := n2_; have BK175 := n3_; have BK176 := n4_; have BK180 := n5_; have BK184 := n6_; have BK196 := n7_; have HB := n8_; clear n0_ n1_ n2_ n3_ n4_ n5_ n6_ n7_ n8_; (try clear hb); (try clear hb2); (try clear hk); (try clear hi); have hcz347_0 : w346.cell? ⟨gb196, 0, none⟩ = some (.int .i64 t193) := (qC BK196.out 0).trans rfl; have hcz347_1 : w346.cell? ⟨gb196, 1, none⟩ = some (.int .i64 t194) := (qC BK196.out 1).trans rfl; have hfz347_0 := qF BK196.out 0; have hfz347_1 := qF BK196.out 1; have hcz348_0 : w346.cell? ⟨gb175, 0, none⟩ = some (.int .i64 a0_0) := (qC BK175.out 0).trans rfl; have hcz348_1 : w346.cell? ⟨gb175, 1, none⟩ = some (.int .i64 a0_1) := (qC BK175.out 1).trans rfl; have hfz348_0 := qF BK175.out 0; have hfz348_1 := qF BK175.out 1) | (go_at_call 39; (with_reducible refine (span_Has.calls t193 t194 a0_1 true _ A257.out).mono ?_); rintro e w349 ⟨rfl, hb⟩; have n0_ := qS (qB (g := gb172) (o := .cells #[.int .i64 a0_0, .int .i64 a0_1] 73 (0, 0)) (by (with_reducible repeat (first | refine qN ?_ _ | refine qD ?_ | refine qA ?_ _)); exact BK172.out) hb); have n1_ := qS (qB (g := gb173) (o := .cells #[.int .i64 a1_0, .int .i64 a1_1] 73 (0, 0)) (by (with_reducible repeat (first | refine qN ?_ _ | refine qD ?_ | refine qA ?_ _)); exact BK173.out) hb); have n2_ := qS (qB (g := gb174) (o := .cells #[.int .i32 a2_0, .int .i32 a2_1] 110 (0, 0)) (by (with_reducible repeat (first | refine qN ?_ _ | refine qD ?_ | refine qA ?_ _)); exact BK174.out) hb); have n3_ := qS (qB (g := gb175) (o := .cells #[.int .i64 a0_0, .int .i64 a0_1] 68 (0, 0)) (by (with_reducible repeat (first | refine qN ?_ _ | refine qD ?_ | refine qA ?_ _)); exact BK175.out) hb); have n4_ := qS (qB (g := gb176) (o := .cells #[.int .i64 a1_0, .int .i64 a1_1] 68 (0, 0)) (by (with_reducible repeat (first | refine qN ?_ _ | refine qD ?_ | refine qA ?_ _)); exact BK176.out) hb); have n5_ := qS (qB (g := gb180) (o := .cells #[.int .i64 t177, .int .i64 t178] 68 (0, 0)) (by (with_reducible repeat (first | refine qN ?_ _ | refine qD ?_ | refine qA ?_ _)); exact BK180.out) hb); have n6_ := qS (qB (g := gb184) (o := .cells #[.int .i64 t181, .int .i64 t182] 68 (0, 0)) (by (with_reducible repeat (first | refine qN ?_ _ | refine qD ?_ | refine qA ?_ _)); exact BK184.out) hb); have n7_ := qS (qB (g := gb196) (o := .cells #[.int .i64 t193, .int .i64 t194] 68 (0, 0)) (by (with_reducible repeat (first | refine qN ?_ _ | refine qD ?_ | refine qA ?_ _)); exact BK196.out) hb); have n8_ := qS (below_step (by repeat (first | (with_reducible first | exact HB.out | apply qpA | apply qpN | apply qp1 | refine qpS ?_ GE172.out | refine qpS ?_ GE173.out | refine qpS ?_ GE174.out | refine qpS ?_ GE175.out | refine qpS ?_ GE176.out | refine qpS ?_ GE180.out | refine qpS ?_ GE184.out | refine qpS ?_ GE196.out) | exact HB.out)) hb); clear BK172; clear BK173; clear BK174; clear BK175; clear BK176; clear BK180; clear BK184; clear BK196; clear HB; have BK172 := n0_; have BK173 := n1_; have BK174 := n2_; have BK175 := n3_; have BK176 := n4_; have BK180 := n5_; have BK184 := n6_; have BK196 := n7_; have HB := n8_; clear n0_ n1_ n2_ n3_ n4_ n5_ n6_ n7_ n8_; (try clear hb); (try clear hb2); (try clear hk); (try clear hi); have hcz350_0 : w349.cell? ⟨gb175, 0, none⟩ = some (.int .i64 a0_0) := (qC BK175.out 0).trans rfl; have hcz350_1 : w349.cell? ⟨gb175, 1, none⟩ = some (.int .i64 a0_1) := (qC BK175.out 1).trans rfl; have hfz350_0 := qF BK175.out 0; have hfz350_1 := qF BK175.out 1) | (go_at_call 39; (with_reducible refine (span_Has.calls a0_0 a0_1 t201 true _ A259.out).mono ?_); rintro e w351 ⟨rfl, hb⟩; have n0_ := qS (qB (g := gb172) (o := .cells #[.int .i64 a0_0, .int .i64 a0_1] 73 (0, 0)) (by (with_reducible repeat (first | refine qN ?_ _ | refine qD ?_ | refine qA ?_ _)); exact BK172.out) hb); have n1_ := qS (qB (g := gb173) (o := .cells #[.int .i64 a1_0, .int .i64 a1_1] 73 (0, 0)) (by (with_reducible repeat (first | refine qN ?_ _ | refine qD ?_ | refine qA ?_ _)); exact BK173.out) hb); have n2_ := qS (qB (g := gb174) (o := .cells #[.int .i32 a2_0, .int .i32 a2_1] 110 (0, 0)) (by (with_reducible repeat (first | refine qN ?_ _ | refine qD ?_ | refine qA ?_ _)); exact BK174.out) hb); have n3_ := qS (qB (g := gb175) (o := .cells #[.int .i64 a0_0, .int .i64 a0_1] 68 (0, 0)) (by (with_reducible repeat (first | refine qN ?_ _ | refine qD ?_ | refine qA ?_ _)); exact BK175.out) hb); have n4_ := qS (qB (g := gb176) (o := .cells #[.int .i64 a1_0, .int .i64 a1_1] 68 (0, 0)) (by (with_reducible repeat (first | refine qN ?_ _ | refine qD ?_ | refine qA ?_ _)); exact BK176.out) hb); have n5_ := qS (qB (g := gb180) (o := .cells #[.int .i64 t177, .int .i64 t178] 68 (0, 0)) (by (with_reducible repeat (first | refine qN ?_ _ | refine qD ?_ | refine qA ?_ _)); exact BK180.out) hb); have n6_ := qS (qB (g := gb184) (o := .cells #[.int .i64 t181, .int .i64 t182] 68 (0, 0)) (by (with_reducible repeat (first | refine qN ?_ _ | refine qD ?_ | refine qA ?_ _)); exact BK184.out) hb); have n7_ := qS (qB (g := gb196) (o := .cells #[.int .i64 t193, .int .i64 t194] 68 (0, 0)) (by (with_reducible repeat (first | refine qN ?_ _ | refine qD ?_ | refine qA ?_ _)); exact BK196.out) hb); have n8_ := qS (below_step (by repeat (first | (with_reducible first | exact HB.out | apply qpA | apply qpN | apply qp1 | refine qpS ?_ GE172.out | refine qpS ?_ GE173.out | refine qpS ?_ GE174.out | refine qpS ?_ GE175.out | refine qpS ?_ GE176.out | refine qpS ?_ GE180.out | refine qpS ?_ GE184.out | refine qpS ?_ GE196.out) | exact HB.out)) hb); clear BK172; clear BK173; clear BK174; clear BK175; clear BK176; clear BK180; clear BK184; clear BK196; clear HB; have BK172 := n0_; have BK173 := n1_; have BK174 := n2_; have BK175 := n3_; have BK176 := n4_; have BK180 := n5_; have BK184 := n6_; have BK196 := n7_; have HB := n8_; clear n0_ n1_ n2_ n3_ n4_ n5_ n6_ n7_ n8_; (try clear hb); (try clear hb2); (try clear hk); (try clear hi); have hnb352 := NB172_173.out; have hnc352 := NB173_172.out; have hnb353 := NB172_174.out; have hnc353 := NB174_172.out; have hnb354 := NB172_176.out; have hnc354 := NB176_172.out; have hnb355 := NB172_180.out; have hnc355 := NB180_172.out; have hnb356 := NB172_184.out; have hnc356 := NB184_172.out; have hcz357_0 : w351.cell? ⟨gb172, 0, none⟩ = some (.int .i64 a0_0) := (qC BK172.out 0).trans rfl; have hcz357_1 : w351.cell? ⟨gb172, 1, none⟩ = some (.int .i64 a0_1) := (qC BK172.out 1).trans rfl; have hfz357_0 := qF BK172.out 0; have hfz357_1 := qF BK172.out 1) | (go_at_call 34; (with_reducible refine (fuseelaw13_sure.calls kj204  t211 _ ?side1 A328.out).mono ?_); (case side1 => exact HG.below hgL (Nat.le_refl _) (by repeat (first | (with_reducible first | exact HB.out | apply qpA | apply qpN | apply qp1 | refine qpS ?_ GE172.out | refine qpS ?_ GE173.out | refine qpS ?_ GE174.out | refine qpS ?_ GE175.out | refine qpS ?_ GE176.out | refine qpS ?_ GE180.out | refine qpS ?_ GE184.out | refine qpS ?_ GE196.out) | exact HB.out))); rintro e w358 ⟨rfl, hb⟩; have n0_ := qS (qB (g := gb172) (o := .cells #[.int .i64 a0_0, .int .i64 a0_1] 73 (0, 0)) (by (with_reducible repeat (first | refine qN ?_ _ | refine qD ?_ | refine qA ?_ _)); exact BK172.out) hb); have n1_ := qS (qB (g := gb173) (o := .cells #[.int .i64 a1_0, .int .i64 a1_1] 73 (0, 0)) (by (with_reducible repeat (first | refine qN ?_ _ | refine qD ?_ | refine qA ?_ _)); exact BK173.out) hb); have n2_ := qS (qB (g := gb174) (o := .cells #[.int .i32 a2_0, .int .i32 a2_1] 110 (0, 0)) (by (with_reducible repeat (first | refine qN ?_ _ | refine qD ?_ | refine qA ?_ _)); exact BK174.out) hb); have n3_ := qS (qB (g := gb175) (o := .cells #[.int .i64 a0_0, .int .i64 a0_1] 68 (0, 0)) (by (with_reducible repeat (first | refine qN ?_ _ | refine qD ?_ | refine qA ?_ _)); exact BK175.out) hb); have n4_ := qS (qB (g := gb176) (o := .cells #[.int .i64 a1_0, .int .i64 a1_1] 68 (0, 0)) (by (with_reducible repeat (first | refine qN ?_ _ | refine qD ?_ | refine qA ?_ _)); exact BK176.out) hb); have n5_ := qS (qB (g := gb180) (o := .cells #[.int .i64 t177, .int .i64 t178] 68 (0, 0)) (by (with_reducible repeat (first | refine qN ?_ _ | refine qD ?_ | refine qA ?_ _)); exact BK180.out) hb); have n6_ := qS (qB (g := gb184) (o := .cells #[.int .i64 t181, .int .i64 t182] 68 (0, 0)) (by (with_reducible repeat (first | refine qN ?_ _ | refine qD ?_ | refine qA ?_ _)); exact BK184.out) hb); have n7_ := qS (qB (g := gb196) (o := .cells #[.int .i64 t193, .int .i64 t194] 68 (0, 0)) (by (with_reducible repeat (first | refine qN ?_ _ | refine qD ?_ | refine qA ?_ _)); exact BK196.out) hb); have n8_ := qS (below_step (by repeat (first | (with_reducible first | exact HB.out | apply qpA | apply qpN | apply qp1 | refine qpS ?_ GE172.out | refine qpS ?_ GE173.out | refine qpS ?_ GE174.out | refine qpS ?_ GE175.out | refine qpS ?_ GE176.out | refine qpS ?_ GE180.out | refine qpS ?_ GE184.out | refine qpS ?_ GE196.out) | exact HB.out)) hb); clear BK172; clear BK173; clear BK174; clear BK175; clear BK176; clear BK180; clear BK184; clear BK196; clear HB; have BK172 := n0_; have BK173 := n1_; have BK174 := n2_; have BK175 := n3_; have BK176 := n4_; have BK180 := n5_; have BK184 := n6_; have BK196 := n7_; have HB := n8_; clear n0_ n1_ n2_ n3_ n4_ n5_ n6_ n7_ n8_; (try clear hb); (try clear hb2); (try clear hk); (try clear hi)))
                    go_ret
                    exact ⟨by first | rfl | (simp [errW_none, errW_some] <;> rfl) | (simp [*, errW_none, errW_some] <;> rfl), by repeat (first | (with_reducible first | exact HB.out | apply qpA | apply qpN | apply qp1 | refine qpS ?_ GE172.out | refine qpS ?_ GE173.out | refine qpS ?_ GE174.out | refine qpS ?_ GE175.out | refine qpS ?_ GE176.out | refine qpS ?_ GE180.out | refine qpS ?_ GE184.out | refine qpS ?_ GE196.out) | exact HB.out)⟩
                  ·rw [if_neg c327] at H
                   exact absurd H (by simp)
                 ·rw [if_neg c326] at H
                  exact absurd H (by simp)
              ·rw [if_neg c261] at H
               exact absurd H (by simp)
             ·replace c260 := Bool.eq_false_iff.mpr c260
              subst c260
              have H1 : (none) = some r := by rw [if_neg (show ¬ (false = true) by decide)] at H; exact H
              clear H
              have H := H1
              clear H1
              exact absurd H (by simp)
            ·replace c258 := Bool.eq_false_iff.mpr c258
             subst c258
             have H1 : (none) = some r := by rw [if_neg (show ¬ (false = true) by decide)] at H; exact H
             clear H
             have H := H1
             clear H1
             exact absurd H (by simp)
           ·replace c256 := Bool.eq_false_iff.mpr c256
            subst c256
            have H1 : (none) = some r := by rw [if_neg (show ¬ (false = true) by decide)] at H; exact H
            clear H
            have H := H1
            clear H1
            exact absurd H (by simp)
          ·have H1 : (none) = some r := by rw [if_neg (show ¬ (some q205).isNone = true by simp)] at H; exact H
           clear H
           have H := H1
           clear H1
           try simp only [errW_none, errW_some]
           exact absurd H (by simp)
         ·have H1 : (none) = some r := by rw [if_neg (show ¬ (some q204).isNone = true by simp)] at H; exact H
          clear H
          have H := H1
          clear H1
          try simp only [errW_none, errW_some]
          exact absurd H (by simp)

end Go.Proofs.YtfipgpfmlkfkfaaDoor.MSpanMeets
