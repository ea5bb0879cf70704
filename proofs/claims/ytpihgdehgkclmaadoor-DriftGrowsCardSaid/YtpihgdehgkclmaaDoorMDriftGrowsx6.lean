/- Printed by wip/gen/mp.py: Go functions as plain Lean functions, and that the calls do what these say. -/
import Derived.Test.YtpihgdehgkclmaaDoorMDriftGrowsx0
import Derived.Test.YtpihgdehgkclmaaDoorMDriftGrowsx4
import Derived.Test.YtpihgdehgkclmaaDoorMDriftGrowsx5
namespace Go.Proofs.YtpihgdehgkclmaaDoor.MDriftGrows
open Go.RowKit Go.Proofs.YtpihgdehgkclmaaDoorW.PrintWords Go.Proofs.YtpihgdehgkclmaaDoorW.PrintLast Go.Proofs.YtpihgdehgkclmaaDoorW.PrintMore
attribute [local go_sem] max2_int min2_int max_two min_two max_three min_three max_four min_four   -- for this text's walks alone
set_option linter.unusedVariables false
set_option linter.unusedSimpArgs false

/-! ### fuseelaw17_DriftGrows: function 10 -/
mutual
def fuseelaw17_DriftGrows.j0 : Nat → Int → Int → Int → Option Int → Int → Int → Int → Option Int → Int → Int → Int → Option Int → Bool → Option (Bool)
 | 0, _, _, _, _, _, _, _, _, _, _, _, _, _ => none
 | k + 1, x0, x1, x7, x8, x9, x10, x11, x12, x13, x14, x15, x16, x68 => if x68 = true then ((fuseelaw17_num.f x16).bind fun t175 => (if t175 = 1 then (fuseelaw17_DriftGrows.j1 k x7 x8 x9 x10 x11 x12 x13 x14 (x15 != 0)) else (fuseelaw17_DriftGrows.j1 k x7 x8 x9 x10 x11 x12 x13 x14 true))) else (if x16.isNone = true then (fuseelaw17_DriftGrows.j2 k x7 x8 x9 x10 x11 x12 x13 x14 (x15 != (wrap64 (x0 + x1)))) else (fuseelaw17_DriftGrows.j2 k x7 x8 x9 x10 x11 x12 x13 x14 true))
def fuseelaw17_DriftGrows.j1 : Nat → Int → Option Int → Int → Int → Int → Option Int → Int → Int → Bool → Option (Bool)
 | 0, _, _, _, _, _, _, _, _, _ => none
 | k + 1, x7, x8, x9, x10, x11, x12, x13, x14, x75 => if x75 = true then (none) else (if x7 = x9 then ((fuseelaw17_num.f x8).bind fun t176 => (if t176 = x10 then (if x11 = x13 then ((fuseelaw17_num.f x12).bind fun t177 => (if t177 = x14 then ((fuseelaw17_sure.f k).bind fun t178 => (some t178)) else (none))) else (none)) else (none))) else (none))
def fuseelaw17_DriftGrows.j2 : Nat → Int → Option Int → Int → Int → Int → Option Int → Int → Int → Bool → Option (Bool)
 | 0, _, _, _, _, _, _, _, _, _ => none
 | k + 1, x7, x8, x9, x10, x11, x12, x13, x14, x84 => if x84 = true then (none) else (if x7 = x9 then ((fuseelaw17_num.f x8).bind fun t180 => (if t180 = x10 then (if x11 = x13 then ((fuseelaw17_num.f x12).bind fun t181 => (if t181 = x14 then ((fuseelaw17_sure.f k).bind fun t182 => (some t182)) else (none))) else (none)) else (none))) else (none))
end
def fuseelaw17_DriftGrows.f (k : Nat) (a0 : Int) (a1 : Int) (a2_0 : Int) (a2_1 : Int) : Option (Bool) := (drift_Grow.f k a0 a1 a2_0).bind fun bt165 => ((fuseeref17_Grow.f k a0 a1 a2_0).bind fun bt167 => ((drift_Until.f k a0 a1 a2_1).bind fun bt169 => ((fuseeref17_Until.f k a0 a1 a2_1).bind fun bt171 => ((drift_Both.f a0 a1).bind fun bt173 => (if a0 < 0 then (fuseelaw17_DriftGrows.j0 k a0 a1 bt165.1 bt165.2 bt167.1 bt167.2 bt169.1 bt169.2 bt171.1 bt171.2 bt173.1 bt173.2 true) else (if a0 > 1048576 then (fuseelaw17_DriftGrows.j0 k a0 a1 bt165.1 bt165.2 bt167.1 bt167.2 bt169.1 bt169.2 bt171.1 bt171.2 bt173.1 bt173.2 true) else (if a1 < 0 then (fuseelaw17_DriftGrows.j0 k a0 a1 bt165.1 bt165.2 bt167.1 bt167.2 bt169.1 bt169.2 bt171.1 bt171.2 bt173.1 bt173.2 true) else (fuseelaw17_DriftGrows.j0 k a0 a1 bt165.1 bt165.2 bt167.1 bt167.2 bt169.1 bt169.2 bt171.1 bt171.2 bt173.1 bt173.2 (decide (a1 > 1048576))))))))))
theorem fuseelaw17_DriftGrows.mono_l : ∀ k, (∀ y0 y1 y2 y3 y4 y5 y6 y7 y8 y9 y10 y11 y12, LeO (fuseelaw17_DriftGrows.j0 k y0 y1 y2 y3 y4 y5 y6 y7 y8 y9 y10 y11 y12) (fuseelaw17_DriftGrows.j0 (k + 1) y0 y1 y2 y3 y4 y5 y6 y7 y8 y9 y10 y11 y12)) ∧ (∀ y0 y1 y2 y3 y4 y5 y6 y7 y8, LeO (fuseelaw17_DriftGrows.j1 k y0 y1 y2 y3 y4 y5 y6 y7 y8) (fuseelaw17_DriftGrows.j1 (k + 1) y0 y1 y2 y3 y4 y5 y6 y7 y8)) ∧ (∀ y0 y1 y2 y3 y4 y5 y6 y7 y8, LeO (fuseelaw17_DriftGrows.j2 k y0 y1 y2 y3 y4 y5 y6 y7 y8) (fuseelaw17_DriftGrows.j2 (k + 1) y0 y1 y2 y3 y4 y5 y6 y7 y8))
 | 0 => ⟨fun _ _ _ _ _ _ _ _ _ _ _ _ _ r h => by simp [fuseelaw17_DriftGrows.j0] at h, fun _ _ _ _ _ _ _ _ _ r h => by simp [fuseelaw17_DriftGrows.j1] at h, fun _ _ _ _ _ _ _ _ _ r h => by simp [fuseelaw17_DriftGrows.j2] at h⟩
 | k + 1 => by
  obtain ⟨ih0, ih1, ih2⟩ := fuseelaw17_DriftGrows.mono_l k
  refine ⟨?_, ?_, ?_⟩
  ·intro y0 y1 y2 y3 y4 y5 y6 y7 y8 y9 y10 y11 y12
   unfold fuseelaw17_DriftGrows.j0
   repeat' first
   | (with_reducible exact ih0 _ _ _ _ _ _ _ _ _ _ _ _ _)
   | (with_reducible exact ih1 _ _ _ _ _ _ _ _ _)
   | (with_reducible exact ih2 _ _ _ _ _ _ _ _ _)
   | (with_reducible exact drift_Grow.mono _ _ _ _)
   | (with_reducible exact drift_Until.mono _ _ _ _)
   | (with_reducible exact fuseelaw17_sure.mono _)
   | (with_reducible exact fuseeref17_Grow.mono _ _ _ _)
   | (with_reducible exact fuseeref17_Until.mono _ _ _ _)
   | (with_reducible exact LeO.refl _)
   | (with_reducible exact LeO.none _)
   | (with_reducible refine LeO.ite ?_ ?_)
   | (with_reducible refine LeO.bind ?_ (fun _ => ?_))
   | exact ih0 _ _ _ _ _ _ _ _ _ _ _ _ _
   | exact ih1 _ _ _ _ _ _ _ _ _
   | exact ih2 _ _ _ _ _ _ _ _ _
   | exact drift_Grow.mono _ _ _ _
   | exact drift_Until.mono _ _ _ _
   | exact fuseelaw17_sure.mono _
   | exact fuseeref17_Grow.mono _ _ _ _
   | exact fuseeref17_Until.mono _ _ _ _
   | exact LeO.none _
   | refine LeO.ite ?_ ?_
   | refine LeO.bind ?_ (fun _ => ?_)
  ·intro y0 y1 y2 y3 y4 y5 y6 y7 y8
   unfold fuseelaw17_DriftGrows.j1
   repeat' first
   | (with_reducible exact ih0 _ _ _ _ _ _ _ _ _ _ _ _ _)
   | (with_reducible exact ih1 _ _ _ _ _ _ _ _ _)
   | (with_reducible exact ih2 _ _ _ _ _ _ _ _ _)
   | (with_reducible exact drift_Grow.mono _ _ _ _)
   | (with_reducible exact drift_Until.mono _ _ _ _)
   | (with_reducible exact fuseelaw17_sure.mono _)
   | (with_reducible exact fuseeref17_Grow.mono _ _ _ _)
   | (with_reducible exact fuseeref17_Until.mono _ _ _ _)
   | (with_reducible exact LeO.refl _)
   | (with_reducible exact LeO.none _)
   | (with_reducible refine LeO.ite ?_ ?_)
   | (with_reducible refine LeO.bind ?_ (fun _ => ?_))
   | exact ih0 _ _ _ _ _ _ _ _ _ _ _ _ _
   | exact ih1 _ _ _ _ _ _ _ _ _
   | exact ih2 _ _ _ _ _ _ _ _ _
   | exact drift_Grow.mono _ _ _ _
   | exact drift_Until.mono _ _ _ _
   | exact fuseelaw17_sure.mono _
   | exact fuseeref17_Grow.mono _ _ _ _
   | exact fuseeref17_Until.mono _ _ _ _
   | exact LeO.none _
   | refine LeO.ite ?_ ?_
   | refine LeO.bind ?_ (fun _ => ?_)
  ·intro y0 y1 y2 y3 y4 y5 y6 y7 y8
   unfold fuseelaw17_DriftGrows.j2
   repeat' first
   | (with_reducible exact ih0 _ _ _ _ _ _ _ _ _ _ _ _ _)
   | (with_reducible exact ih1 _ _ _ _ _ _ _ _ _)
   | (with_reducible exact ih2 _ _ _ _ _ _ _ _ _)
   | (with_reducible exact drift_Grow.mono _ _ _ _)
   | (with_reducible exact drift_Until.mono _ _ _ _)
   | (with_reducible exact fuseelaw17_sure.mono _)
   | (with_reducible exact fuseeref17_Grow.mono _ _ _ _)
   | (with_reducible exact fuseeref17_Until.mono _ _ _ _)
   | (with_reducible exact LeO.refl _)
   | (with_reducible exact LeO.none _)
   | (with_reducible refine LeO.ite ?_ ?_)
   | (with_reducible refine LeO.bind ?_ (fun _ => ?_))
   | exact ih0 _ _ _ _ _ _ _ _ _ _ _ _ _
   | exact ih1 _ _ _ _ _ _ _ _ _
   | exact ih2 _ _ _ _ _ _ _ _ _
   | exact drift_Grow.mono _ _ _ _
   | exact drift_Until.mono _ _ _ _
   | exact fuseelaw17_sure.mono _
   | exact fuseeref17_Grow.mono _ _ _ _
   | exact fuseeref17_Until.mono _ _ _ _
   | exact LeO.none _
   | refine LeO.ite ?_ ?_
   | refine LeO.bind ?_ (fun _ => ?_)
theorem fuseelaw17_DriftGrows.mono : ∀ a0 a1 a2 a3 k, LeO (fuseelaw17_DriftGrows.f k a0 a1 a2 a3) (fuseelaw17_DriftGrows.f (k + 1) a0 a1 a2 a3) := by
 intro a0 a1 a2 a3 k
 obtain ⟨ih0, ih1, ih2⟩ := fuseelaw17_DriftGrows.mono_l k
 unfold fuseelaw17_DriftGrows.f
 repeat' first
   | (with_reducible exact ih0 _ _ _ _ _ _ _ _ _ _ _ _ _)
   | (with_reducible exact ih1 _ _ _ _ _ _ _ _ _)
   | (with_reducible exact ih2 _ _ _ _ _ _ _ _ _)
   | (with_reducible exact drift_Grow.mono _ _ _ _)
   | (with_reducible exact drift_Until.mono _ _ _ _)
   | (with_reducible exact fuseelaw17_sure.mono _)
   | (with_reducible exact fuseeref17_Grow.mono _ _ _ _)
   | (with_reducible exact fuseeref17_Until.mono _ _ _ _)
   | (with_reducible exact LeO.refl _)
   | (with_reducible exact LeO.none _)
   | (with_reducible refine LeO.ite ?_ ?_)
   | (with_reducible refine LeO.bind ?_ (fun _ => ?_))
   | exact ih0 _ _ _ _ _ _ _ _ _ _ _ _ _
   | exact ih1 _ _ _ _ _ _ _ _ _
   | exact ih2 _ _ _ _ _ _ _ _ _
   | exact drift_Grow.mono _ _ _ _
   | exact drift_Until.mono _ _ _ _
   | exact fuseelaw17_sure.mono _
   | exact fuseeref17_Grow.mono _ _ _ _
   | exact fuseeref17_Until.mono _ _ _ _
   | exact LeO.none _
   | refine LeO.ite ?_ ?_
   | refine LeO.bind ?_ (fun _ => ?_)
set_option maxHeartbeats 8000000 in
set_option maxRecDepth 100000 in
theorem fuseelaw17_DriftGrows.calls (k : Nat) (a0 : Int) (a1 : Int) (a2_0 : Int) (a2_1 : Int) (r : Bool) (w : World) (hgL : HG w) (h : fuseelaw17_DriftGrows.f k a0 a1 a2_0 a2_1 = some r) :
  Calls Tryd.prog 10 #[.int .i64 a0, .int .i64 a1, .agg #[.int .i64 a2_0, .int .i64 a2_1]] w fun e w' => e = .returned (.bool r) ∧ Below w.heap.size w w' := by
 have hu38 := Tryd.underlying38
 have hu27 := Tryd.underlying27
 have hu126 := Tryd.underlying126
 have HB := qS (Below.refl w.heap.size w)
 have H : ((drift_Grow.f k a0 a1 a2_0).bind fun bt165 => ((fuseeref17_Grow.f k a0 a1 a2_0).bind fun bt167 => ((drift_Until.f k a0 a1 a2_1).bind fun bt169 => ((fuseeref17_Until.f k a0 a1 a2_1).bind fun bt171 => ((drift_Both.f a0 a1).bind fun bt173 => (if a0 < 0 then (fuseelaw17_DriftGrows.j0 k a0 a1 bt165.1 bt165.2 bt167.1 bt167.2 bt169.1 bt169.2 bt171.1 bt171.2 bt173.1 bt173.2 true) else (if a0 > 1048576 then (fuseelaw17_DriftGrows.j0 k a0 a1 bt165.1 bt165.2 bt167.1 bt167.2 bt169.1 bt169.2 bt171.1 bt171.2 bt173.1 bt173.2 true) else (if a1 < 0 then (fuseelaw17_DriftGrows.j0 k a0 a1 bt165.1 bt165.2 bt167.1 bt167.2 bt169.1 bt169.2 bt171.1 bt171.2 bt173.1 bt173.2 true) else (fuseelaw17_DriftGrows.j0 k a0 a1 bt165.1 bt165.2 bt167.1 bt167.2 bt169.1 bt169.2 bt171.1 bt171.2 bt173.1 bt173.2 (decide (a1 > 1048576))))))))))) = some r := h
 clear h
 replace H := Option.bind_eq_some_iff.mp H
 obtain ⟨⟨t165, t166⟩, A40, H⟩ := H
 replace H : ((fuseeref17_Grow.f k a0 a1 a2_0).bind fun bt167 => ((drift_Until.f k a0 a1 a2_1).bind fun bt169 => ((fuseeref17_Until.f k a0 a1 a2_1).bind fun bt171 => ((drift_Both.f a0 a1).bind fun bt173 => (if a0 < 0 then (fuseelaw17_DriftGrows.j0 k a0 a1 t165 t166 bt167.1 bt167.2 bt169.1 bt169.2 bt171.1 bt171.2 bt173.1 bt173.2 true) else (if a0 > 1048576 then (fuseelaw17_DriftGrows.j0 k a0 a1 t165 t166 bt167.1 bt167.2 bt169.1 bt169.2 bt171.1 bt171.2 bt173.1 bt173.2 true) else (if a1 < 0 then (fuseelaw17_DriftGrows.j0 k a0 a1 t165 t166 bt167.1 bt167.2 bt169.1 bt169.2 bt171.1 bt171.2 bt173.1 bt173.2 true) else (fuseelaw17_DriftGrows.j0 k a0 a1 t165 t166 bt167.1 bt167.2 bt169.1 bt169.2 bt171.1 bt171.2 bt173.1 bt173.2 (decide (a1 > 1048576)))))))))) = some r := H
 have A4 := qS A40
 clear A40
 replace H := Option.bind_eq_some_iff.mp H
 obtain ⟨⟨t167, t168⟩, A50, H⟩ := H
 replace H : ((drift_Until.f k a0 a1 a2_1).bind fun bt169 => ((fuseeref17_Until.f k a0 a1 a2_1).bind fun bt171 => ((drift_Both.f a0 a1).bind fun bt173 => (if a0 < 0 then (fuseelaw17_DriftGrows.j0 k a0 a1 t165 t166 t167 t168 bt169.1 bt169.2 bt171.1 bt171.2 bt173.1 bt173.2 true) else (if a0 > 1048576 then (fuseelaw17_DriftGrows.j0 k a0 a1 t165 t166 t167 t168 bt169.1 bt169.2 bt171.1 bt171.2 bt173.1 bt173.2 true) else (if a1 < 0 then (fuseelaw17_DriftGrows.j0 k a0 a1 t165 t166 t167 t168 bt169.1 bt169.2 bt171.1 bt171.2 bt173.1 bt173.2 true) else (fuseelaw17_DriftGrows.j0 k a0 a1 t165 t166 t167 t168 bt169.1 bt169.2 bt171.1 bt171.2 bt173.1 bt173.2 (decide (a1 > 1048576))))))))) = some r := H
 have A5 := qS A50
 clear A50
 replace H := Option.bind_eq_some_iff.mp H
 obtain ⟨⟨t169, t170⟩, A60, H⟩ := H
 replace H : ((fuseeref17_Until.f k a0 a1 a2_1).bind fun bt171 => ((drift_Both.f a0 a1).bind fun bt173 => (if a0 < 0 then (fuseelaw17_DriftGrows.j0 k a0 a1 t165 t166 t167 t168 t169 t170 bt171.1 bt171.2 bt173.1 bt173.2 true) else (if a0 > 1048576 then (fuseelaw17_DriftGrows.j0 k a0 a1 t165 t166 t167 t168 t169 t170 bt171.1 bt171.2 bt173.1 bt173.2 true) else (if a1 < 0 then (fuseelaw17_DriftGrows.j0 k a0 a1 t165 t166 t167 t168 t169 t170 bt171.1 bt171.2 bt173.1 bt173.2 true) else (fuseelaw17_DriftGrows.j0 k a0 a1 t165 t166 t167 t168 t169 t170 bt171.1 bt171.2 bt173.1 bt173.2 (decide (a1 > 1048576)))))))) = some r := H
 have A6 := qS A60
 clear A60
 replace H := Option.bind_eq_some_iff.mp H
 obtain ⟨⟨t171, t172⟩, A70, H⟩ := H
 replace H : ((drift_Both.f a0 a1).bind fun bt173 => (if a0 < 0 then (fuseelaw17_DriftGrows.j0 k a0 a1 t165 t166 t167 t168 t169 t170 t171 t172 bt173.1 bt173.2 true) else (if a0 > 1048576 then (fuseelaw17_DriftGrows.j0 k a0 a1 t165 t166 t167 t168 t169 t170 t171 t172 bt173.1 bt173.2 true) else (if a1 < 0 then (fuseelaw17_DriftGrows.j0 k a0 a1 t165 t166 t167 t168 t169 t170 t171 t172 bt173.1 bt173.2 true) else (fuseelaw17_DriftGrows.j0 k a0 a1 t165 t166 t167 t168 t169 t170 t171 t172 bt173.1 bt173.2 (decide (a1 > 1048576))))))) = some r := H
 have A7 := qS A70
 clear A70
 replace H := Option.bind_eq_some_iff.mp H
 obtain ⟨⟨t173, t174⟩, A80, H⟩ := H
 replace H : (if a0 < 0 then (fuseelaw17_DriftGrows.j0 k a0 a1 t165 t166 t167 t168 t169 t170 t171 t172 t173 t174 true) else (if a0 > 1048576 then (fuseelaw17_DriftGrows.j0 k a0 a1 t165 t166 t167 t168 t169 t170 t171 t172 t173 t174 true) else (if a1 < 0 then (fuseelaw17_DriftGrows.j0 k a0 a1 t165 t166 t167 t168 t169 t170 t171 t172 t173 t174 true) else (fuseelaw17_DriftGrows.j0 k a0 a1 t165 t166 t167 t168 t169 t170 t171 t172 t173 t174 (decide (a1 > 1048576)))))) = some r := H
 have A8 := qS A80
 clear A80
 have HC9 := qS H
 clear H
 go_enter Tryd.func10, Tryd.ntmps10
 go_upto_region 6 with (first | ((with_reducible refine gate_dst (N := 5) rfl ?_); refine box_event ?hg (N := 5) ?hd (cs := #[.int .i64 a2_0, .int .i64 a2_1]) (t := 38) ?hr ?_; (case hd => rfl); (case hg => rfl); (case hr => first | (go_simp; done) | (go_simp; rfl)); intro gb164 hg w10 hbox hb; have n0_ := qS (below_step (by repeat (first | (with_reducible first | exact HB.out | apply qpA | apply qpN | apply qp1) | exact HB.out)) hb); have n1_ := qS (hbox); have n2_ := qS ((by rw [hg]; exact (below_size (by repeat (first | (with_reducible first | exact HB.out | apply qpA | apply qpN | apply qp1) | exact HB.out))) : w.heap.size ≤ gb164)); have n3_ := qS ((by rw [hg]; exact (below_size (by repeat (first | (with_reducible first | exact HB.out | apply qpA | apply qpN | apply qp1) | exact HB.out))) : w.heap.size ≤ gb164)); clear HB; have HB := n0_; have BK164 := n1_; have GW164 := n2_; have GE164 := n3_; clear n0_ n1_ n2_ n3_; clear hb hbox hg; have hcz11_0 : w10.cell? ⟨gb164, 0, none⟩ = some (.int .i64 a2_0) := (qC BK164.out 0).trans rfl; have hcz11_1 : w10.cell? ⟨gb164, 1, none⟩ = some (.int .i64 a2_1) := (qC BK164.out 1).trans rfl; have hfz11_0 := qF BK164.out 0; have hfz11_1 := qF BK164.out 1) | ((with_reducible refine gate_callee (f := 45) rfl ?_); refine goesL_ (some 22) rfl rfl Tryd.func45 (by kernel_rfl) rfl #[.int .i64 a0, .int .i64 a1, .int .i64 a2_0] rfl (by (try simp only [List.map_toArray, List.map_cons, List.map_nil]); first | done | rfl | (simp only [*]; done) | (simp only [List.length_drop, List.length_take]; rfl) | (simp only [Act.eval, Array.getD_eq_getD_getElem?, Option.getD_some, *])) ?_; (with_reducible refine (drift_Grow.calls k a0 a1 a2_0 t165 t166 _ A4.out).mono ?_); rintro e w12 ⟨rfl, hb⟩; refine ⟨_, rfl, ?_⟩; have n0_ := qS (qB (g := gb164) (o := .cells #[.int .i64 a2_0, .int .i64 a2_1] 38 (0, 0)) (by (with_reducible repeat (first | refine qN ?_ _ | refine qD ?_ | refine qA ?_ _)); exact BK164.out) hb); have n1_ := qS (below_step (by repeat (first | (with_reducible first | exact HB.out | apply qpA | apply qpN | apply qp1 | refine qpS ?_ GE164.out) | exact HB.out)) hb); clear BK164; clear HB; have BK164 := n0_; have HB := n1_; clear n0_ n1_; (try clear hb); (try clear hb2); (try clear hk); (try clear hi); (try simp only [errW_none, errW_some]); have hcz13_0 : w12.cell? ⟨gb164, 0, none⟩ = some (.int .i64 a2_0) := (qC BK164.out 0).trans rfl; have hcz13_1 : w12.cell? ⟨gb164, 1, none⟩ = some (.int .i64 a2_1) := (qC BK164.out 1).trans rfl; have hfz13_0 := qF BK164.out 0; have hfz13_1 := qF BK164.out 1) | ((with_reducible refine gate_callee (f := 46) rfl ?_); refine goesL_ (some 30) rfl rfl Tryd.func46 (by kernel_rfl) rfl #[.int .i64 a0, .int .i64 a1, .int .i64 a2_0] rfl (by (try simp only [List.map_toArray, List.map_cons, List.map_nil]); first | done | rfl | (simp only [*]; done) | (simp only [List.length_drop, List.length_take]; rfl) | (simp only [Act.eval, Array.getD_eq_getD_getElem?, Option.getD_some, *])) ?_; (with_reducible refine (fuseeref17_Grow.calls k a0 a1 a2_0 t167 t168 _ A5.out).mono ?_); rintro e w14 ⟨rfl, hb⟩; refine ⟨_, rfl, ?_⟩; have n0_ := qS (qB (g := gb164) (o := .cells #[.int .i64 a2_0, .int .i64 a2_1] 38 (0, 0)) (by (with_reducible repeat (first | refine qN ?_ _ | refine qD ?_ | refine qA ?_ _)); exact BK164.out) hb); have n1_ := qS (below_step (by repeat (first | (with_reducible first | exact HB.out | apply qpA | apply qpN | apply qp1 | refine qpS ?_ GE164.out) | exact HB.out)) hb); clear BK164; clear HB; have BK164 := n0_; have HB := n1_; clear n0_ n1_; (try clear hb); (try clear hb2); (try clear hk); (try clear hi); have hcz15_0 : w14.cell? ⟨gb164, 0, none⟩ = some (.int .i64 a2_0) := (qC BK164.out 0).trans rfl; have hcz15_1 : w14.cell? ⟨gb164, 1, none⟩ = some (.int .i64 a2_1) := (qC BK164.out 1).trans rfl; have hfz15_0 := qF BK164.out 0; have hfz15_1 := qF BK164.out 1) | ((with_reducible refine gate_callee (f := 47) rfl ?_); refine goesL_ (some 38) rfl rfl Tryd.func47 (by kernel_rfl) rfl #[.int .i64 a0, .int .i64 a1, .int .i64 a2_1] rfl (by (try simp only [List.map_toArray, List.map_cons, List.map_nil]); first | done | rfl | (simp only [*]; done) | (simp only [List.length_drop, List.length_take]; rfl) | (simp only [Act.eval, Array.getD_eq_getD_getElem?, Option.getD_some, *])) ?_; (with_reducible refine (drift_Until.calls k a0 a1 a2_1 t169 t170 _ A6.out).mono ?_); rintro e w16 ⟨rfl, hb⟩; refine ⟨_, rfl, ?_⟩; have n0_ := qS (qB (g := gb164) (o := .cells #[.int .i64 a2_0, .int .i64 a2_1] 38 (0, 0)) (by (with_reducible repeat (first | refine qN ?_ _ | refine qD ?_ | refine qA ?_ _)); exact BK164.out) hb); have n1_ := qS (below_step (by repeat (first | (with_reducible first | exact HB.out | apply qpA | apply qpN | apply qp1 | refine qpS ?_ GE164.out) | exact HB.out)) hb); clear BK164; clear HB; have BK164 := n0_; have HB := n1_; clear n0_ n1_; (try clear hb); (try clear hb2); (try clear hk); (try clear hi); (try simp only [errW_none, errW_some]); have hcz17_0 : w16.cell? ⟨gb164, 0, none⟩ = some (.int .i64 a2_0) := (qC BK164.out 0).trans rfl; have hcz17_1 : w16.cell? ⟨gb164, 1, none⟩ = some (.int .i64 a2_1) := (qC BK164.out 1).trans rfl; have hfz17_0 := qF BK164.out 0; have hfz17_1 := qF BK164.out 1) | ((with_reducible refine gate_callee (f := 48) rfl ?_); refine goesL_ (some 46) rfl rfl Tryd.func48 (by kernel_rfl) rfl #[.int .i64 a0, .int .i64 a1, .int .i64 a2_1] rfl (by (try simp only [List.map_toArray, List.map_cons, List.map_nil]); first | done | rfl | (simp only [*]; done) | (simp only [List.length_drop, List.length_take]; rfl) | (simp only [Act.eval, Array.getD_eq_getD_getElem?, Option.getD_some, *])) ?_; (with_reducible refine (fuseeref17_Until.calls k a0 a1 a2_1 t171 t172 _ A7.out).mono ?_); rintro e w18 ⟨rfl, hb⟩; refine ⟨_, rfl, ?_⟩; have n0_ := qS (qB (g := gb164) (o := .cells #[.int .i64 a2_0, .int .i64 a2_1] 38 (0, 0)) (by (with_reducible repeat (first | refine qN ?_ _ | refine qD ?_ | refine qA ?_ _)); exact BK164.out) hb); have n1_ := qS (below_step (by repeat (first | (with_reducible first | exact HB.out | apply qpA | apply qpN | apply qp1 | refine qpS ?_ GE164.out) | exact HB.out)) hb); clear BK164; clear HB; have BK164 := n0_; have HB := n1_; clear n0_ n1_; (try clear hb); (try clear hb2); (try clear hk); (try clear hi)) | ((with_reducible refine gate_callee (f := 49) rfl ?_); refine goesL_ (some 52) rfl rfl Tryd.func49 (by kernel_rfl) rfl #[.int .i64 a0, .int .i64 a1] rfl (by (try simp only [List.map_toArray, List.map_cons, List.map_nil]); first | done | rfl | (simp only [*]; done) | (simp only [List.length_drop, List.length_take]; rfl) | (simp only [Act.eval, Array.getD_eq_getD_getElem?, Option.getD_some, *])) ?_; (with_reducible refine (drift_Both.calls a0 a1 t173 t174 _ A8.out).mono ?_); rintro e w' ⟨rfl, ⟨nd, rfl⟩⟩; refine ⟨_, rfl, ?_⟩; (try simp only [errW_none, errW_some])))
 (try simp only [Act.put, List.setIfInBounds_toArray, List.set_cons_zero, List.set_cons_succ])
 go_cut [68] (fun v68 wc => ∃ (kq : Nat) (x68_8 : Bool), v68 = .bool x68_8 ∧ Aside0 (fuseelaw17_DriftGrows.j0 kq a0 a1 t165 t166 t167 t168 t169 t170 t171 t172 t173 t174 x68_8 = some r) ∧ Aside0 (kq ≤ k) ∧ Aside0 (wc.heap[gb164]? = some (.cells #[.int .i64 a2_0, .int .i64 a2_1] 38 (0, 0))) ∧ Aside0 (Below w.heap.size w wc))
 case first =>
  have H := HC9.out
  clear HC9
  by_cases c19 : a0 < 0
  ·rw [if_pos c19] at H
   have c19b0 : decide (a0 < 0) = true := decide_eq_true c19
   clear c19
   (first | rw [c19b0] | (simp only [i64_w, i32_w]; rw [c19b0]) | skip)
   as_aux_lemma =>
    have H' := qS H
    clear H
    go_wp2
    go_meet
    case rel => exact ⟨_, (true), (by first | rfl | (simp; done) | (simp [*]; done)), H', ⟨by first | omega | exact Nat.le_refl _⟩, ⟨by (with_reducible repeat (first | refine qN ?_ _ | refine qD ?_ | refine qA ?_ _)); exact BK164.out⟩, ⟨by repeat (first | (with_reducible first | exact HB.out | apply qpA | apply qpN | apply qp1 | refine qpS ?_ GE164.out) | exact HB.out)⟩⟩
  ·rw [if_neg c19] at H
   have c19b0 : decide (a0 < 0) = false := decide_eq_false c19
   clear c19
   (first | rw [c19b0] | (simp only [i64_w, i32_w]; rw [c19b0]) | skip)
   by_cases c20 : a0 > 1048576
   ·rw [if_pos c20] at H
    have c20b0 : decide (1048576 < a0) = true := decide_eq_true c20
    clear c20
    as_aux_lemma =>
     have H' := qS H
     clear H
     go_wp2
     go_meet
     case rel => exact ⟨_, (true), (by first | rfl | (simp; done) | (simp [*]; done)), H', ⟨by first | omega | exact Nat.le_refl _⟩, ⟨by (with_reducible repeat (first | refine qN ?_ _ | refine qD ?_ | refine qA ?_ _)); exact BK164.out⟩, ⟨by repeat (first | (with_reducible first | exact HB.out | apply qpA | apply qpN | apply qp1 | refine qpS ?_ GE164.out) | exact HB.out)⟩⟩
   ·rw [if_neg c20] at H
    have c20b0 : decide (1048576 < a0) = false := decide_eq_false c20
    clear c20
    by_cases c21 : a1 < 0
    ·rw [if_pos c21] at H
     have c21b0 : decide (a1 < 0) = true := decide_eq_true c21
     clear c21
     as_aux_lemma =>
      have H' := qS H
      clear H
      go_wp2
      go_meet
      case rel => exact ⟨_, (true), (by first | rfl | (simp; done) | (simp [*]; done)), H', ⟨by first | omega | exact Nat.le_refl _⟩, ⟨by (with_reducible repeat (first | refine qN ?_ _ | refine qD ?_ | refine qA ?_ _)); exact BK164.out⟩, ⟨by repeat (first | (with_reducible first | exact HB.out | apply qpA | apply qpN | apply qp1 | refine qpS ?_ GE164.out) | exact HB.out)⟩⟩
    ·rw [if_neg c21] at H
     have c21b0 : decide (a1 < 0) = false := decide_eq_false c21
     clear c21
     as_aux_lemma =>
      have H' := qS H
      clear H
      go_wp2
      go_meet
      case rel => exact ⟨_, (decide (a1 > 1048576)), (by first | rfl | (simp; done) | (simp [*]; done)), H', ⟨by first | omega | exact Nat.le_refl _⟩, ⟨by (with_reducible repeat (first | refine qN ?_ _ | refine qD ?_ | refine qA ?_ _)); exact BK164.out⟩, ⟨by repeat (first | (with_reducible first | exact HB.out | apply qpA | apply qpN | apply qp1 | refine qpS ?_ GE164.out) | exact HB.out)⟩⟩
 case rest =>
  clear HC9
  try clear c1
  try clear c2
  try clear p2
  try clear c4
  try clear c10
  try clear c19
  try clear c19b0
  try clear c20
  try clear c20b0
  try clear c21
  try clear c21b0
  try clear hcz11_0
  try clear hcz11_1
  try clear hcz13_0
  try clear hcz13_1
  try clear hcz15_0
  try clear hcz15_1
  try clear hcz17_0
  try clear hcz17_1
  try clear hfz11_0
  try clear hfz11_1
  try clear hfz13_0
  try clear hfz13_1
  try clear hfz15_0
  try clear hfz15_1
  try clear hfz17_0
  try clear hfz17_1
  obtain ⟨kq, x68_8, rfl, HA, HJ8, BK164, HB⟩ := hcut
  cases kq with
  | zero => exact absurd HA.out (by simp [fuseelaw17_DriftGrows.j0])
  | succ kj8 =>
   have H := HA.out
   clear HA
   simp only [fuseelaw17_DriftGrows.j0] at H
   by_cases c22 : x68_8 = true
   ·subst c22
    have H1 : ((fuseelaw17_num.f t174).bind fun t175 => (if t175 = 1 then (fuseelaw17_DriftGrows.j1 kj8 t165 t166 t167 t168 t169 t170 t171 t172 (t173 != 0)) else (fuseelaw17_DriftGrows.j1 kj8 t165 t166 t167 t168 t169 t170 t171 t172 true))) = some r := by rw [if_pos rfl] at H; exact H
    clear H
    have H := H1
    clear H1
    have HC23 := qS H
    clear H
    go_upto_region 7 with (fail)
    go_cut [75] (fun v75 wc => ∃ (kq : Nat) (x75_22 : Bool), v75 = .bool x75_22 ∧ Aside0 (fuseelaw17_DriftGrows.j1 kq t165 t166 t167 t168 t169 t170 t171 t172 x75_22 = some r) ∧ Aside0 (kq ≤ kj8) ∧ Aside0 (wc.heap[gb164]? = some (.cells #[.int .i64 a2_0, .int .i64 a2_1] 38 (0, 0))) ∧ Aside0 (Below w.heap.size w wc))
    case first =>
     have H := HC23.out
     clear HC23
     replace H := Option.bind_eq_some_iff.mp H
     obtain ⟨t175, A240, H⟩ := H
     replace H : (if t175 = 1 then (fuseelaw17_DriftGrows.j1 kj8 t165 t166 t167 t168 t169 t170 t171 t172 (t173 != 0)) else (fuseelaw17_DriftGrows.j1 kj8 t165 t166 t167 t168 t169 t170 t171 t172 true)) = some r := H
     have A24 := qS A240
     clear A240
     by_cases c25 : t175 = 1
     ·rw [if_pos c25] at H
      have c25b0 : (t175 == 1) = true := beq_iff_eq.mpr c25
      have c25b1 : (t175 != 1) = false := bne_eq_false_iff_eq.mpr c25
      clear c25
      (first | rw [c25b0] | (simp only [i64_w, i32_w]; rw [c25b0]) | skip)
      as_aux_lemma =>
       have H' := qS H
       clear H
       have CA24 := fun W (hgW : HG W) => fuseelaw17_num.calls t174 t175 W hgW A24.out
       try simp only [errW_none, errW_some] at CA24
       go_wp2_with (first | (go_at_call 50; (with_reducible refine (CA24 _ (HG.below hgL (Nat.le_refl _) (by repeat (first | (with_reducible first | exact HB.out | apply qpA | apply qpN | apply qp1 | refine qpS ?_ GE164.out) | exact HB.out)))).mono ?_); rintro e w26 ⟨rfl, hb⟩; have n0_ := qS (qB (g := gb164) (o := .cells #[.int .i64 a2_0, .int .i64 a2_1] 38 (0, 0)) (by (with_reducible repeat (first | refine qN ?_ _ | refine qD ?_ | refine qA ?_ _)); exact BK164.out) hb); have n1_ := qS (below_step (by repeat (first | (with_reducible first | exact HB.out | apply qpA | apply qpN | apply qp1 | refine qpS ?_ GE164.out) | exact HB.out)) hb); clear BK164; clear HB; have BK164 := n0_; have HB := n1_; clear n0_ n1_; (try clear hb); (try clear hb2); (try clear hk); (try clear hi)))
       go_meet
       case rel => exact ⟨_, ((t173 != 0)), (by first | rfl | (simp; done) | (simp [*]; done)), H', ⟨by have := HJ8.out; first | omega | exact Nat.le_refl _⟩, ⟨by (with_reducible repeat (first | refine qN ?_ _ | refine qD ?_ | refine qA ?_ _)); exact BK164.out⟩, ⟨by repeat (first | (with_reducible first | exact HB.out | apply qpA | apply qpN | apply qp1 | refine qpS ?_ GE164.out) | exact HB.out)⟩⟩
     ·rw [if_neg c25] at H
      have c25b0 : (t175 == 1) = false := beq_eq_false_iff_ne.mpr c25
      have c25b1 : (t175 != 1) = true := bne_iff_ne.mpr c25
      (first | rw [c25b0] | (simp only [i64_w, i32_w]; rw [c25b0]) | skip)
      as_aux_lemma =>
       have H' := qS H
       clear H
       have CA24 := fun W (hgW : HG W) => fuseelaw17_num.calls t174 t175 W hgW A24.out
       try simp only [errW_none, errW_some] at CA24
       go_wp2_with (first | (go_at_call 50; (with_reducible refine (CA24 _ (HG.below hgL (Nat.le_refl _) (by repeat (first | (with_reducible first | exact HB.out | apply qpA | apply qpN | apply qp1 | refine qpS ?_ GE164.out) | exact HB.out)))).mono ?_); rintro e w27 ⟨rfl, hb⟩; have n0_ := qS (qB (g := gb164) (o := .cells #[.int .i64 a2_0, .int .i64 a2_1] 38 (0, 0)) (by (with_reducible repeat (first | refine qN ?_ _ | refine qD ?_ | refine qA ?_ _)); exact BK164.out) hb); have n1_ := qS (below_step (by repeat (first | (with_reducible first | exact HB.out | apply qpA | apply qpN | apply qp1 | refine qpS ?_ GE164.out) | exact HB.out)) hb); clear BK164; clear HB; have BK164 := n0_; have HB := n1_; clear n0_ n1_; (try clear hb); (try clear hb2); (try clear hk); (try clear hi)))
       go_meet
       case rel => exact ⟨_, (true), (by first | rfl | (simp; done) | (simp [*]; done)), H', ⟨by have := HJ8.out; first | omega | exact Nat.le_refl _⟩, ⟨by (with_reducible repeat (first | refine qN ?_ _ | refine qD ?_ | refine qA ?_ _)); exact BK164.out⟩, ⟨by repeat (first | (with_reducible first | exact HB.out | apply qpA | apply qpN | apply qp1 | refine qpS ?_ GE164.out) | exact HB.out)⟩⟩
    case rest =>
     clear HC23
     try clear c1
     try clear c2
     try clear p2
     try clear c4
     try clear c10
     try clear c19
     try clear c19b0
     try clear c20
     try clear c20b0
     try clear c21
     try clear c21b0
     try clear c22
     try clear c25
     try clear c25b0
     try clear c25b1
     try clear hcz11_0
     try clear hcz11_1
     try clear hcz13_0
     try clear hcz13_1
     try clear hcz15_0
     try clear hcz15_1
     try clear hcz17_0
     try clear hcz17_1
     try clear hfz11_0
     try clear hfz11_1
     try clear hfz13_0
     try clear hfz13_1
     try clear hfz15_0
     try clear hfz15_1
     try clear hfz17_0
     try clear hfz17_1
     try clear p2
     obtain ⟨kq, x75_22, rfl, HA, HJ22, BK164, HB⟩ := hcut
     cases kq with
     | zero => exact absurd HA.out (by simp [fuseelaw17_DriftGrows.j1])
     | succ kj22 =>
      have H := HA.out
      clear HA
      simp only [fuseelaw17_DriftGrows.j1] at H
      by_cases c28 : x75_22 = true
      ·subst c28
       have H1 : (none) = some r := by rw [if_pos rfl] at H; exact H
       clear H
       have H := H1
       clear H1
       exact absurd H (by simp)
      ·replace c28 := Bool.eq_false_iff.mpr c28
       subst c28
       have H1 : (if t165 = t167 then ((fuseelaw17_num.f t166).bind fun t176 => (if t176 = t168 then (if t169 = t171 then ((fuseelaw17_num.f t170).bind fun t177 => (if t177 = t172 then ((fuseelaw17_sure.f kj22).bind fun t178 => (some t178)) else (none))) else (none)) else (none))) else (none)) = some r := by rw [if_neg (show ¬ (false = true) by decide)] at H; exact H
       clear H
       have H := H1
       clear H1
       by_cases c29 : t165 = t167
       ·rw [if_pos c29] at H
        have c29b0 : (t165 == t167) = true := beq_iff_eq.mpr c29
        have c29b1 : (t165 != t167) = false := bne_eq_false_iff_eq.mpr c29
        clear c29
        replace H := Option.bind_eq_some_iff.mp H
        obtain ⟨t176, A300, H⟩ := H
        replace H : (if t176 = t168 then (if t169 = t171 then ((fuseelaw17_num.f t170).bind fun t177 => (if t177 = t172 then ((fuseelaw17_sure.f kj22).bind fun t178 => (some t178)) else (none))) else (none)) else (none)) = some r := H
        have A30 := qS A300
        clear A300
        by_cases c31 : t176 = t168
        ·rw [if_pos c31] at H
         have c31b0 : (t176 == t168) = true := beq_iff_eq.mpr c31
         have c31b1 : (t176 != t168) = false := bne_eq_false_iff_eq.mpr c31
         clear c31
         by_cases c32 : t169 = t171
         ·rw [if_pos c32] at H
          have c32b0 : (t169 == t171) = true := beq_iff_eq.mpr c32
          have c32b1 : (t169 != t171) = false := bne_eq_false_iff_eq.mpr c32
          clear c32
          replace H := Option.bind_eq_some_iff.mp H
          obtain ⟨t177, A330, H⟩ := H
          replace H : (if t177 = t172 then ((fuseelaw17_sure.f kj22).bind fun t178 => (some t178)) else (none)) = some r := H
          have A33 := qS A330
          clear A330
          by_cases c34 : t177 = t172
          ·rw [if_pos c34] at H
           have c34b0 : (t177 == t172) = true := beq_iff_eq.mpr c34
           have c34b1 : (t177 != t172) = false := bne_eq_false_iff_eq.mpr c34
           clear c34
           replace H := Option.bind_eq_some_iff.mp H
           obtain ⟨t178, A350, H⟩ := H
           replace H : (some t178) = some r := H
           have A35 := qS A350
           clear A350
           as_aux_lemma =>
            obtain rfl := Option.some.inj H
            have CA30 := fun W (hgW : HG W) => fuseelaw17_num.calls t166 t176 W hgW A30.out
            try simp only [errW_none, errW_some] at CA30
            go_wp2_with (first | (go_at_call 50; (with_reducible refine (CA30 _ (HG.below hgL (Nat.le_refl _) (by repeat (first | (with_reducible first | exact HB.out | apply qpA | apply qpN | apply qp1 | refine qpS ?_ GE164.out) | exact HB.out)))).mono ?_); rintro e w36 ⟨rfl, hb⟩; have n0_ := qS (qB (g := gb164) (o := .cells #[.int .i64 a2_0, .int .i64 a2_1] 38 (0, 0)) (by (with_reducible repeat (first | refine qN ?_ _ | refine qD ?_ | refine qA ?_ _)); exact BK164.out) hb); have n1_ := qS (below_step (by repeat (first | (with_reducible first | exact HB.out | apply qpA | apply qpN | apply qp1 | refine qpS ?_ GE164.out) | exact HB.out)) hb); clear BK164; clear HB; have BK164 := n0_; have HB := n1_; clear n0_ n1_; (try clear hb); (try clear hb2); (try clear hk); (try clear hi); have CA33 := fun W (hgW : HG W) => fuseelaw17_num.calls t170 t177 W hgW A33.out; try simp only [errW_none, errW_some] at CA33) | (go_at_call 50; (with_reducible refine (CA33 _ (HG.below hgL (Nat.le_refl _) (by repeat (first | (with_reducible first | exact HB.out | apply qpA | apply qpN | apply qp1 | refine qpS ?_ GE164.out) | exact HB.out)))).mono ?_); rintro e w37 ⟨rfl, hb⟩; have n0_ := qS (qB (g := gb164) (o := .cells #[.int .i64 a2_0, .int .i64 a2_1] 38 (0, 0)) (by (with_reducible repeat (first | refine qN ?_ _ | refine qD ?_ | refine qA ?_ _)); exact BK164.out) hb); have n1_ := qS (below_step (by repeat (first | (with_reducible first | exact HB.out | apply qpA | apply qpN | apply qp1 | refine qpS ?_ GE164.out) | exact HB.out)) hb); clear BK164; clear HB; have BK164 := n0_; have HB := n1_; clear n0_ n1_; (try clear hb); (try clear hb2); (try clear hk); (try clear hi)) | (go_at_call 51; (with_reducible refine (fuseelaw17_sure.calls kj22  t178 _ ?side1 A35.out).mono ?_); (case side1 => exact HG.below hgL (Nat.le_refl _) (by repeat (first | (with_reducible first | exact HB.out | apply qpA | apply qpN | apply qp1 | refine qpS ?_ GE164.out) | exact HB.out))); rintro e w38 ⟨rfl, hb⟩; have n0_ := qS (qB (g := gb164) (o := .cells #[.int .i64 a2_0, .int .i64 a2_1] 38 (0, 0)) (by (with_reducible repeat (first | refine qN ?_ _ | refine qD ?_ | refine qA ?_ _)); exact BK164.out) hb); have n1_ := qS (below_step (by repeat (first | (with_reducible first | exact HB.out | apply qpA | apply qpN | apply qp1 | refine qpS ?_ GE164.out) | exact HB.out)) hb); clear BK164; clear HB; have BK164 := n0_; have HB := n1_; clear n0_ n1_; (try clear hb); (try clear hb2); (try clear hk); (try clear hi)))
            go_ret
            exact ⟨by first | rfl | (simp [errW_none, errW_some] <;> rfl) | (simp [*, errW_none, errW_some] <;> rfl), by repeat (first | (with_reducible first | exact HB.out | apply qpA | apply qpN | apply qp1 | refine qpS ?_ GE164.out) | exact HB.out)⟩
          ·rw [if_neg c34] at H
           exact absurd H (by simp)
         ·rw [if_neg c32] at H
          exact absurd H (by simp)
        ·rw [if_neg c31] at H
         exact absurd H (by simp)
       ·rw [if_neg c29] at H
        exact absurd H (by simp)
   ·replace c22 := Bool.eq_false_iff.mpr c22
    subst c22
    have H1 : (if t174.isNone = true then (fuseelaw17_DriftGrows.j2 kj8 t165 t166 t167 t168 t169 t170 t171 t172 (t173 != (wrap64 (a0 + a1)))) else (fuseelaw17_DriftGrows.j2 kj8 t165 t166 t167 t168 t169 t170 t171 t172 true)) = some r := by rw [if_neg (show ¬ (false = true) by decide)] at H; exact H
    clear H
    have H := H1
    clear H1
    have HC39 := qS H
    clear H
    go_upto_region 9 with (fail)
    go_cut [84] (fun v84 wc => ∃ (kq : Nat) (x84_38 : Bool), v84 = .bool x84_38 ∧ Aside0 (fuseelaw17_DriftGrows.j2 kq t165 t166 t167 t168 t169 t170 t171 t172 x84_38 = some r) ∧ Aside0 (kq ≤ kj8) ∧ Aside0 (wc.heap[gb164]? = some (.cells #[.int .i64 a2_0, .int .i64 a2_1] 38 (0, 0))) ∧ Aside0 (Below w.heap.size w wc))
    case first =>
     have H := HC39.out
     clear HC39
     rcases t174 with _ | q179
     ·have H1 : (fuseelaw17_DriftGrows.j2 kj8 t165 t166 t167 t168 t169 t170 t171 t172 (t173 != (wrap64 (a0 + a1)))) = some r := by rw [if_pos (show (none : Option Int).isNone = true by rfl)] at H; exact H
      clear H
      have H := H1
      clear H1
      try simp only [errW_none, errW_some]
      as_aux_lemma =>
       have H' := qS H
       clear H
       go_wp2
       go_meet
       case rel => exact ⟨_, ((t173 != (wrap64 (a0 + a1)))), (by first | rfl | (simp; done) | (simp [*]; done)), H', ⟨by have := HJ8.out; first | omega | exact Nat.le_refl _⟩, ⟨by (with_reducible repeat (first | refine qN ?_ _ | refine qD ?_ | refine qA ?_ _)); exact BK164.out⟩, ⟨by repeat (first | (with_reducible first | exact HB.out | apply qpA | apply qpN | apply qp1 | refine qpS ?_ GE164.out) | exact HB.out)⟩⟩
     ·have H1 : (fuseelaw17_DriftGrows.j2 kj8 t165 t166 t167 t168 t169 t170 t171 t172 true) = some r := by rw [if_neg (show ¬ (some q179).isNone = true by simp)] at H; exact H
      clear H
      have H := H1
      clear H1
      try simp only [errW_none, errW_some]
      as_aux_lemma =>
       have H' := qS H
       clear H
       go_wp2
       go_meet
       case rel => exact ⟨_, (true), (by first | rfl | (simp; done) | (simp [*]; done)), H', ⟨by have := HJ8.out; first | omega | exact Nat.le_refl _⟩, ⟨by (with_reducible repeat (first | refine qN ?_ _ | refine qD ?_ | refine qA ?_ _)); exact BK164.out⟩, ⟨by repeat (first | (with_reducible first | exact HB.out | apply qpA | apply qpN | apply qp1 | refine qpS ?_ GE164.out) | exact HB.out)⟩⟩
    case rest =>
     clear HC39
     try clear c1
     try clear q1
     try clear c2
     try clear p2
     try clear c3
     try clear c4
     try clear p6
     try clear c10
     try clear q17
     try clear c19
     try clear c19b0
     try clear c20
     try clear c20b0
     try clear c21
     try clear c21b0
     try clear c22
     try clear c25
     try clear c25b0
     try clear c25b1
     try clear c28
     try clear c29
     try clear c29b0
     try clear c29b1
     try clear c31
     try clear c31b0
     try clear c31b1
     try clear c32
     try clear c32b0
     try clear c32b1
     try clear c34
     try clear c34b0
     try clear c34b1
     try clear hcz11_0
     try clear hcz11_1
     try clear hcz13_0
     try clear hcz13_1
     try clear hcz15_0
     try clear hcz15_1
     try clear hcz17_0
     try clear hcz17_1
     try clear hfz11_0
     try clear hfz11_1
     try clear hfz13_0
     try clear hfz13_1
     try clear hfz15_0
     try clear hfz15_1
     try clear hfz17_0
     try clear hfz17_1
     try clear p2
     try clear q179
     obtain ⟨kq, x84_38, rfl, HA, HJ38, BK164, HB⟩ := hcut
     cases kq with
     | zero => exact absurd HA.out (by simp [fuseelaw17_DriftGrows.j2])
     | succ kj38 =>
      have H := HA.out
      clear HA
      simp only [fuseelaw17_DriftGrows.j2] at H
      by_cases c40 : x84_38 = true
      ·subst c40
       have H1 : (none) = some r := by rw [if_pos rfl] at H; exact H
       clear H
       have H := H1
       clear H1
       exact absurd H (by simp)
      ·replace c40 := Bool.eq_false_iff.mpr c40
       subst c40
       have H1 : (if t165 = t167 then ((fuseelaw17_num.f t166).bind fun t180 => (if t180 = t168 then (if t169 = t171 then ((fuseelaw17_num.f t170).bind fun t181 => (if t181 = t172 then ((fuseelaw17_sure.f kj38).bind fun t182 => (some t182)) else (none))) else (none)) else (none))) else (none)) = some r := by rw [if_neg (show ¬ (false = true) by decide)] at H; exact H
       clear H
       have H := H1
       clear H1
       by_cases c41 : t165 = t167
       ·rw [if_pos c41] at H
        have c41b0 : (t165 == t167) = true := beq_iff_eq.mpr c41
        have c41b1 : (t165 != t167) = false := bne_eq_false_iff_eq.mpr c41
        clear c41
        replace H := Option.bind_eq_some_iff.mp H
        obtain ⟨t180, A420, H⟩ := H
        replace H : (if t180 = t168 then (if t169 = t171 then ((fuseelaw17_num.f t170).bind fun t181 => (if t181 = t172 then ((fuseelaw17_sure.f kj38).bind fun t182 => (some t182)) else (none))) else (none)) else (none)) = some r := H
        have A42 := qS A420
        clear A420
        by_cases c43 : t180 = t168
        ·rw [if_pos c43] at H
         have c43b0 : (t180 == t168) = true := beq_iff_eq.mpr c43
         have c43b1 : (t180 != t168) = false := bne_eq_false_iff_eq.mpr c43
         clear c43
         by_cases c44 : t169 = t171
         ·rw [if_pos c44] at H
          have c44b0 : (t169 == t171) = true := beq_iff_eq.mpr c44
          have c44b1 : (t169 != t171) = false := bne_eq_false_iff_eq.mpr c44
          clear c44
          replace H := Option.bind_eq_some_iff.mp H
          obtain ⟨t181, A450, H⟩ := H
          replace H : (if t181 = t172 then ((fuseelaw17_sure.f kj38).bind fun t182 => (some t182)) else (none)) = some r := H
          have A45 := qS A450
          clear A450
          by_cases c46 : t181 = t172
          ·rw [if_pos c46] at H
           have c46b0 : (t181 == t172) = true := beq_iff_eq.mpr c46
           have c46b1 : (t181 != t172) = false := bne_eq_false_iff_eq.mpr c46
           clear c46
           replace H := Option.bind_eq_some_iff.mp H
           obtain ⟨t182, A470, H⟩ := H
           replace H : (some t182) = some r := H
           have A47 := qS A470
           clear A470
           as_aux_lemma =>
            obtain rfl := Option.some.inj H
            have CA42 := fun W (hgW : HG W) => fuseelaw17_num.calls t166 t180 W hgW A42.out
            try simp only [errW_none, errW_some] at CA42
            go_wp2_with (first | (go_at_call 50; (with_reducible refine (CA42 _ (HG.below hgL (Nat.le_refl _) (by repeat (first | (with_reducible first | exact HB.out | apply qpA | apply qpN | apply qp1 | refine qpS ?_ GE164.out) | exact HB.out)))).mono ?_); rintro e w48 ⟨rfl, hb⟩; have n0_ := qS (qB (g := gb164) (o := .cells #[.int .i64 a2_0, .int .i64 a2_1] 38 (0, 0)) (by (with_reducible repeat (first | refine qN ?_ _ | refine qD ?_ | refine qA ?_ _)); exact BK164.out) hb); have n1_ := qS (below_step (by repeat (first | (with_reducible first | exact HB.out | apply qpA | apply qpN | apply qp1 | refine qpS ?_ GE164.out) | exact HB.out)) hb); clear BK164; clear HB; have BK164 := n0_; have HB := n1_; clear n0_ n1_; (try clear hb); (try clear hb2); (try clear hk); (try clear hi); have CA45 := fun W (hgW : HG W) => fuseelaw17_num.calls t170 t181 W hgW A45.out; try simp only [errW_none, errW_some] at CA45) | (go_at_call 50; (with_reducible refine (CA45 _ (HG.below hgL (Nat.le_refl _) (by repeat (first | (with_reducible first | exact HB.out | apply qpA | apply qpN | apply qp1 | refine qpS ?_ GE164.out) | exact HB.out)))).mono ?_); rintro e w49 ⟨rfl, hb⟩; have n0_ := qS (qB (g := gb164) (o := .cells #[.int .i64 a2_0, .int .i64 a2_1] 38 (0, 0)) (by (with_reducible repeat (first | refine qN ?_ _ | refine qD ?_ | refine qA ?_ _)); exact BK164.out) hb); have n1_ := qS (below_step (by repeat (first | (with_reducible first | exact HB.out | apply qpA | apply qpN | apply qp1 | refine qpS ?_ GE164.out) | exact HB.out)) hb); clear BK164; clear HB; have BK164 := n0_; have HB := n1_; clear n0_ n1_; (try clear hb); (try clear hb2); (try clear hk); (try clear hi)) | (go_at_call 51; (with_reducible refine (fuseelaw17_sure.calls kj38  t182 _ ?side1 A47.out).mono ?_); (case side1 => exact HG.below hgL (Nat.le_refl _) (by repeat (first | (with_reducible first | exact HB.out | apply qpA | apply qpN | apply qp1 | refine qpS ?_ GE164.out) | exact HB.out))); rintro e w50 ⟨rfl, hb⟩; have n0_ := qS (qB (g := gb164) (o := .cells #[.int .i64 a2_0, .int .i64 a2_1] 38 (0, 0)) (by (with_reducible repeat (first | refine qN ?_ _ | refine qD ?_ | refine qA ?_ _)); exact BK164.out) hb); have n1_ := qS (below_step (by repeat (first | (with_reducible first | exact HB.out | apply qpA | apply qpN | apply qp1 | refine qpS ?_ GE164.out) | exact HB.out)) hb); clear BK164; clear HB; have BK164 := n0_; have HB := n1_; clear n0_ n1_; (try clear hb); (try clear hb2); (try clear hk); (try clear hi)))
            go_ret
            exact ⟨by first | rfl | (simp [errW_none, errW_some] <;> rfl) | (simp [*, errW_none, errW_some] <;> rfl), by repeat (first | (with_reducible first | exact HB.out | apply qpA | apply qpN | apply qp1 | refine qpS ?_ GE164.out) | exact HB.out)⟩
          ·rw [if_neg c46] at H
           exact absurd H (by simp)
         ·rw [if_neg c44] at H
          exact absurd H (by simp)
        ·rw [if_neg c43] at H
         exact absurd H (by simp)
       ·rw [if_neg c41] at H
        exact absurd H (by simp)

end Go.Proofs.YtpihgdehgkclmaaDoor.MDriftGrows
