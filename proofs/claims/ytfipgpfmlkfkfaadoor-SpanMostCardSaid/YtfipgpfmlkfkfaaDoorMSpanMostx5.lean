/- Printed by wip/gen/mp.py: Go functions as plain Lean functions, and that the calls do what these say. -/
import Derived.Test.YtfipgpfmlkfkfaaDoorMSpanMostx0
import Derived.Test.YtfipgpfmlkfkfaaDoorMSpanMostx2
import Derived.Test.YtfipgpfmlkfkfaaDoorMSpanMostx3
import Derived.Test.YtfipgpfmlkfkfaaDoorMSpanMostx4
namespace Go.Proofs.YtfipgpfmlkfkfaaDoor.MSpanMost
open Go.RowKit Go.Proofs.YtfipgpfmlkfkfaaDoorW.PrintWords Go.Proofs.YtfipgpfmlkfkfaaDoorW.PrintLast Go.Proofs.YtfipgpfmlkfkfaaDoorW.PrintMore
attribute [local go_sem] max2_int min2_int max_two min_two max_three min_three max_four min_four   -- for this text's walks alone
set_option linter.unusedVariables false
set_option linter.unusedSimpArgs false

/-! ### fuseelaw13_SpanMost: function 9 -/
mutual
def fuseelaw13_SpanMost.j0 : Nat → List (S73) → Int → Int → List (S68) → Int → Option Int → Bool → Int → Int → Option (Bool)
 | 0, _, _, _, _, _, _, _, _, _ => none
 | k + 1, x0, x1, x2, x7, x9, x10, x29, x174000, x174001 => if x29 = true then (if (x0.length : Int) > 16 then ((fuseelaw13_sure.f k).bind fun t175 => (some t175)) else ((fuseelaw13_num.f x10).bind fun t176 => (if t176 = 1 then ((fuseelaw13_sure.f k).bind fun t177 => (some t177)) else ((fuseelaw13_num.f x10).bind fun t178 => (if t178 = 6 then ((fuseelaw13_sure.f k).bind fun t179 => (some t179)) else (none)))))) else (if (wrap64 (x2)) ≤ (wrap64 (x174001 - x174000)) then (fuseelaw13_SpanMost.j1 k x1 x2 x7 x9 0 0 x174000 (decide ((wrap64 (x174001 - x174000)) > 0)) x174000 x174001) else (fuseelaw13_SpanMost.j1 k x1 x2 x7 x9 0 0 x174000 false x174000 x174001))
def fuseelaw13_SpanMost.j1 : Nat → Int → Int → List (S68) → Int → Int → Int → Int → Bool → Int → Int → Option (Bool)
 | 0, _, _, _, _, _, _, _, _, _, _ => none
 | k + 1, x1, x2, x7, x9, x11, x12, x13, x63, x174000, x174001 => if x63 = true then (fuseelaw13_SpanMost.j2 k x1 x7 x9 x11 x12 (wrap64 (x174000 + (wrap64 (x2)))) x174000 x174001) else (fuseelaw13_SpanMost.j2 k x1 x7 x9 x11 x12 x13 x174000 x174001)
def fuseelaw13_SpanMost.j2 : Nat → Int → List (S68) → Int → Int → Int → Int → Int → Int → Option (Bool)
 | 0, _, _, _, _, _, _, _, _ => none
 | k + 1, x1, x7, x9, x11, x12, x13, x174000, x174001 => fuseelaw13_SpanMost.l0 k x1 x7 x9 x11 x12 x13 0 x174000 x174001
def fuseelaw13_SpanMost.l0 : Nat → Int → List (S68) → Int → Int → Int → Int → Int → Int → Int → Option (Bool)
 | 0, _, _, _, _, _, _, _, _, _ => none
 | k + 1, x1, x7, x9, x11, x12, x13, x14, x174000, x174001 => if x14 < (x7.length : Int) then (if 0 ≤ x14 then ((span_Has.f ((rd_T68 x7 x14).f0) ((rd_T68 x7 x14).f1) x174000).bind fun t183 => ((span_Has.f ((rd_T68 x7 x14).f0) ((rd_T68 x7 x14).f1) x13).bind fun t185 => (if (t183 != t185) = true then (fuseelaw13_SpanMost.j4 k x1 x7 x9 x11 x12 x13 x14 true x174000 x174001) else ((span_Has.f ((rd_T68 x7 x14).f0) ((rd_T68 x7 x14).f1) x174000).bind fun t187 => ((span_Has.f ((rd_T68 x7 x14).f0) ((rd_T68 x7 x14).f1) x174001).bind fun t189 => (fuseelaw13_SpanMost.j4 k x1 x7 x9 x11 x12 x13 x14 (t187 != t189) x174000 x174001)))))) else (none)) else (if x174000 ≤ x174001 then (if x11 = x9 then (if x12 ≤ x9 then (if x12 = x9 then (if x1 ≥ x174000 then ((fuseelaw13_sure.f k).bind fun t180 => (some t180)) else (none)) else ((fuseelaw13_sure.f k).bind fun t181 => (some t181))) else (none)) else (none)) else (none))
def fuseelaw13_SpanMost.j4 : Nat → Int → List (S68) → Int → Int → Int → Int → Int → Bool → Int → Int → Option (Bool)
 | 0, _, _, _, _, _, _, _, _, _, _ => none
 | k + 1, x1, x7, x9, x11, x12, x13, x14, x105, x174000, x174001 => if x105 = true then (none) else (if 0 ≤ x14 then (if x14 < (x7.length : Int) then ((span_Has.f ((rd_T68 x7 x14).f0) ((rd_T68 x7 x14).f1) x13).bind fun t191 => (if t191 = true then ((span_Has.f ((rd_T68 x7 x14).f0) ((rd_T68 x7 x14).f1) x1).bind fun t193 => (if t193 = true then (fuseelaw13_SpanMost.l0 k x1 x7 x9 (wrap64 (x11 + 1)) (wrap64 (x12 + 1)) x13 (wrap64 (x14 + 1)) x174000 x174001) else (fuseelaw13_SpanMost.l0 k x1 x7 x9 (wrap64 (x11 + 1)) x12 x13 (wrap64 (x14 + 1)) x174000 x174001))) else ((span_Has.f ((rd_T68 x7 x14).f0) ((rd_T68 x7 x14).f1) x1).bind fun t195 => (if t195 = true then (fuseelaw13_SpanMost.l0 k x1 x7 x9 x11 (wrap64 (x12 + 1)) x13 (wrap64 (x14 + 1)) x174000 x174001) else (fuseelaw13_SpanMost.l0 k x1 x7 x9 x11 x12 x13 (wrap64 (x14 + 1)) x174000 x174001))))) else (none)) else (none))
end
def fuseelaw13_SpanMost.f (k : Nat) (l0 : List (S73)) (a1 : Int) (a2 : Int) : Option (Bool) := (fuseelaw13_give.f k l0).bind fun t166 => ((span_Vote.f k t166).bind fun bt169 => (if (l0.length : Int) > 16 then (fuseelaw13_SpanMost.j0 k l0 a1 a2 t166 bt169.2.2.1 bt169.2.2.2 true bt169.1 bt169.2.1) else (if bt169.2.2.2.isNone = true then (fuseelaw13_SpanMost.j0 k l0 a1 a2 t166 bt169.2.2.1 none false bt169.1 bt169.2.1) else (fuseelaw13_SpanMost.j0 k l0 a1 a2 t166 bt169.2.2.1 (some (bt169.2.2.2.getD 0)) true bt169.1 bt169.2.1))))
theorem fuseelaw13_SpanMost.mono_l : ∀ k, (∀ y0 y1 y2 y3 y4 y5 y6 y7 y8, LeO (fuseelaw13_SpanMost.j0 k y0 y1 y2 y3 y4 y5 y6 y7 y8) (fuseelaw13_SpanMost.j0 (k + 1) y0 y1 y2 y3 y4 y5 y6 y7 y8)) ∧ (∀ y0 y1 y2 y3 y4 y5 y6 y7 y8 y9, LeO (fuseelaw13_SpanMost.j1 k y0 y1 y2 y3 y4 y5 y6 y7 y8 y9) (fuseelaw13_SpanMost.j1 (k + 1) y0 y1 y2 y3 y4 y5 y6 y7 y8 y9)) ∧ (∀ y0 y1 y2 y3 y4 y5 y6 y7, LeO (fuseelaw13_SpanMost.j2 k y0 y1 y2 y3 y4 y5 y6 y7) (fuseelaw13_SpanMost.j2 (k + 1) y0 y1 y2 y3 y4 y5 y6 y7)) ∧ (∀ y0 y1 y2 y3 y4 y5 y6 y7 y8, LeO (fuseelaw13_SpanMost.l0 k y0 y1 y2 y3 y4 y5 y6 y7 y8) (fuseelaw13_SpanMost.l0 (k + 1) y0 y1 y2 y3 y4 y5 y6 y7 y8)) ∧ (∀ y0 y1 y2 y3 y4 y5 y6 y7 y8 y9, LeO (fuseelaw13_SpanMost.j4 k y0 y1 y2 y3 y4 y5 y6 y7 y8 y9) (fuseelaw13_SpanMost.j4 (k + 1) y0 y1 y2 y3 y4 y5 y6 y7 y8 y9))
 | 0 => ⟨fun _ _ _ _ _ _ _ _ _ r h => by simp [fuseelaw13_SpanMost.j0] at h, fun _ _ _ _ _ _ _ _ _ _ r h => by simp [fuseelaw13_SpanMost.j1] at h, fun _ _ _ _ _ _ _ _ r h => by simp [fuseelaw13_SpanMost.j2] at h, fun _ _ _ _ _ _ _ _ _ r h => by simp [fuseelaw13_SpanMost.l0] at h, fun _ _ _ _ _ _ _ _ _ _ r h => by simp [fuseelaw13_SpanMost.j4] at h⟩
 | k + 1 => by
  obtain ⟨ih0, ih1, ih2, ih3, ih4⟩ := fuseelaw13_SpanMost.mono_l k
  refine ⟨?_, ?_, ?_, ?_, ?_⟩
  ·intro y0 y1 y2 y3 y4 y5 y6 y7 y8
   unfold fuseelaw13_SpanMost.j0
   repeat' first
   | (with_reducible exact ih0 _ _ _ _ _ _ _ _ _)
   | (with_reducible exact ih1 _ _ _ _ _ _ _ _ _ _)
   | (with_reducible exact ih2 _ _ _ _ _ _ _ _)
   | (with_reducible exact ih3 _ _ _ _ _ _ _ _ _)
   | (with_reducible exact ih4 _ _ _ _ _ _ _ _ _ _)
   | (with_reducible exact fuseelaw13_give.mono _ _)
   | (with_reducible exact fuseelaw13_sure.mono _)
   | (with_reducible exact span_Vote.mono _ _)
   | (with_reducible exact LeO.refl _)
   | (with_reducible exact LeO.none _)
   | (with_reducible refine LeO.ite ?_ ?_)
   | (with_reducible refine LeO.bind ?_ (fun _ => ?_))
   | exact ih0 _ _ _ _ _ _ _ _ _
   | exact ih1 _ _ _ _ _ _ _ _ _ _
   | exact ih2 _ _ _ _ _ _ _ _
   | exact ih3 _ _ _ _ _ _ _ _ _
   | exact ih4 _ _ _ _ _ _ _ _ _ _
   | exact fuseelaw13_give.mono _ _
   | exact fuseelaw13_sure.mono _
   | exact span_Vote.mono _ _
   | exact LeO.none _
   | refine LeO.ite ?_ ?_
   | refine LeO.bind ?_ (fun _ => ?_)
  ·intro y0 y1 y2 y3 y4 y5 y6 y7 y8 y9
   unfold fuseelaw13_SpanMost.j1
   repeat' first
   | (with_reducible exact ih0 _ _ _ _ _ _ _ _ _)
   | (with_reducible exact ih1 _ _ _ _ _ _ _ _ _ _)
   | (with_reducible exact ih2 _ _ _ _ _ _ _ _)
   | (with_reducible exact ih3 _ _ _ _ _ _ _ _ _)
   | (with_reducible exact ih4 _ _ _ _ _ _ _ _ _ _)
   | (with_reducible exact fuseelaw13_give.mono _ _)
   | (with_reducible exact fuseelaw13_sure.mono _)
   | (with_reducible exact span_Vote.mono _ _)
   | (with_reducible exact LeO.refl _)
   | (with_reducible exact LeO.none _)
   | (with_reducible refine LeO.ite ?_ ?_)
   | (with_reducible refine LeO.bind ?_ (fun _ => ?_))
   | exact ih0 _ _ _ _ _ _ _ _ _
   | exact ih1 _ _ _ _ _ _ _ _ _ _
   | exact ih2 _ _ _ _ _ _ _ _
   | exact ih3 _ _ _ _ _ _ _ _ _
   | exact ih4 _ _ _ _ _ _ _ _ _ _
   | exact fuseelaw13_give.mono _ _
   | exact fuseelaw13_sure.mono _
   | exact span_Vote.mono _ _
   | exact LeO.none _
   | refine LeO.ite ?_ ?_
   | refine LeO.bind ?_ (fun _ => ?_)
  ·intro y0 y1 y2 y3 y4 y5 y6 y7
   unfold fuseelaw13_SpanMost.j2
   repeat' first
   | (with_reducible exact ih0 _ _ _ _ _ _ _ _ _)
   | (with_reducible exact ih1 _ _ _ _ _ _ _ _ _ _)
   | (with_reducible exact ih2 _ _ _ _ _ _ _ _)
   | (with_reducible exact ih3 _ _ _ _ _ _ _ _ _)
   | (with_reducible exact ih4 _ _ _ _ _ _ _ _ _ _)
   | (with_reducible exact fuseelaw13_give.mono _ _)
   | (with_reducible exact fuseelaw13_sure.mono _)
   | (with_reducible exact span_Vote.mono _ _)
   | (with_reducible exact LeO.refl _)
   | (with_reducible exact LeO.none _)
   | (with_reducible refine LeO.ite ?_ ?_)
   | (with_reducible refine LeO.bind ?_ (fun _ => ?_))
   | exact ih0 _ _ _ _ _ _ _ _ _
   | exact ih1 _ _ _ _ _ _ _ _ _ _
   | exact ih2 _ _ _ _ _ _ _ _
   | exact ih3 _ _ _ _ _ _ _ _ _
   | exact ih4 _ _ _ _ _ _ _ _ _ _
   | exact fuseelaw13_give.mono _ _
   | exact fuseelaw13_sure.mono _
   | exact span_Vote.mono _ _
   | exact LeO.none _
   | refine LeO.ite ?_ ?_
   | refine LeO.bind ?_ (fun _ => ?_)
  ·intro y0 y1 y2 y3 y4 y5 y6 y7 y8
   unfold fuseelaw13_SpanMost.l0
   repeat' first
   | (with_reducible exact ih0 _ _ _ _ _ _ _ _ _)
   | (with_reducible exact ih1 _ _ _ _ _ _ _ _ _ _)
   | (with_reducible exact ih2 _ _ _ _ _ _ _ _)
   | (with_reducible exact ih3 _ _ _ _ _ _ _ _ _)
   | (with_reducible exact ih4 _ _ _ _ _ _ _ _ _ _)
   | (with_reducible exact fuseelaw13_give.mono _ _)
   | (with_reducible exact fuseelaw13_sure.mono _)
   | (with_reducible exact span_Vote.mono _ _)
   | (with_reducible exact LeO.refl _)
   | (with_reducible exact LeO.none _)
   | (with_reducible refine LeO.ite ?_ ?_)
   | (with_reducible refine LeO.bind ?_ (fun _ => ?_))
   | exact ih0 _ _ _ _ _ _ _ _ _
   | exact ih1 _ _ _ _ _ _ _ _ _ _
   | exact ih2 _ _ _ _ _ _ _ _
   | exact ih3 _ _ _ _ _ _ _ _ _
   | exact ih4 _ _ _ _ _ _ _ _ _ _
   | exact fuseelaw13_give.mono _ _
   | exact fuseelaw13_sure.mono _
   | exact span_Vote.mono _ _
   | exact LeO.none _
   | refine LeO.ite ?_ ?_
   | refine LeO.bind ?_ (fun _ => ?_)
  ·intro y0 y1 y2 y3 y4 y5 y6 y7 y8 y9
   unfold fuseelaw13_SpanMost.j4
   repeat' first
   | (with_reducible exact ih0 _ _ _ _ _ _ _ _ _)
   | (with_reducible exact ih1 _ _ _ _ _ _ _ _ _ _)
   | (with_reducible exact ih2 _ _ _ _ _ _ _ _)
   | (with_reducible exact ih3 _ _ _ _ _ _ _ _ _)
   | (with_reducible exact ih4 _ _ _ _ _ _ _ _ _ _)
   | (with_reducible exact fuseelaw13_give.mono _ _)
   | (with_reducible exact fuseelaw13_sure.mono _)
   | (with_reducible exact span_Vote.mono _ _)
   | (with_reducible exact LeO.refl _)
   | (with_reducible exact LeO.none _)
   | (with_reducible refine LeO.ite ?_ ?_)
   | (with_reducible refine LeO.bind ?_ (fun _ => ?_))
   | exact ih0 _ _ _ _ _ _ _ _ _
   | exact ih1 _ _ _ _ _ _ _ _ _ _
   | exact ih2 _ _ _ _ _ _ _ _
   | exact ih3 _ _ _ _ _ _ _ _ _
   | exact ih4 _ _ _ _ _ _ _ _ _ _
   | exact fuseelaw13_give.mono _ _
   | exact fuseelaw13_sure.mono _
   | exact span_Vote.mono _ _
   | exact LeO.none _
   | refine LeO.ite ?_ ?_
   | refine LeO.bind ?_ (fun _ => ?_)
theorem fuseelaw13_SpanMost.mono : ∀ a0 a1 a2 k, LeO (fuseelaw13_SpanMost.f k a0 a1 a2) (fuseelaw13_SpanMost.f (k + 1) a0 a1 a2) := by
 intro a0 a1 a2 k
 obtain ⟨ih0, ih1, ih2, ih3, ih4⟩ := fuseelaw13_SpanMost.mono_l k
 unfold fuseelaw13_SpanMost.f
 repeat' first
   | (with_reducible exact ih0 _ _ _ _ _ _ _ _ _)
   | (with_reducible exact ih1 _ _ _ _ _ _ _ _ _ _)
   | (with_reducible exact ih2 _ _ _ _ _ _ _ _)
   | (with_reducible exact ih3 _ _ _ _ _ _ _ _ _)
   | (with_reducible exact ih4 _ _ _ _ _ _ _ _ _ _)
   | (with_reducible exact fuseelaw13_give.mono _ _)
   | (with_reducible exact fuseelaw13_sure.mono _)
   | (with_reducible exact span_Vote.mono _ _)
   | (with_reducible exact LeO.refl _)
   | (with_reducible exact LeO.none _)
   | (with_reducible refine LeO.ite ?_ ?_)
   | (with_reducible refine LeO.bind ?_ (fun _ => ?_))
   | exact ih0 _ _ _ _ _ _ _ _ _
   | exact ih1 _ _ _ _ _ _ _ _ _ _
   | exact ih2 _ _ _ _ _ _ _ _
   | exact ih3 _ _ _ _ _ _ _ _ _
   | exact ih4 _ _ _ _ _ _ _ _ _ _
   | exact fuseelaw13_give.mono _ _
   | exact fuseelaw13_sure.mono _
   | exact span_Vote.mono _ _
   | exact LeO.none _
   | refine LeO.ite ?_ ?_
   | refine LeO.bind ?_ (fun _ => ?_)
def fuseelaw13_SpanMost.T12 : Bool × List (List Nat × List Nat) := (true, [([], []), ([], []), ([0, 1], [0, 1]), ([2], [2]), ([], []), ([4], [4]), ([3, 5], [3, 5]), ([], []), ([], []), ([7, 8], [7, 8]), ([9], [9]), ([], []), ([10, 11, 6], [10, 11]), ([6, 12], [6, 12]), ([13, 12], [13]), ([14], [14]), ([14], [14]), ([15, 16, 14], [14, 15, 16]), ([17, 14], [14, 17]), ([14], [14]), ([19, 14], [14, 19]), ([18, 20, 14, 14], [14, 18, 20]), ([14], [14]), ([14], [14]), ([22, 23, 14], [14, 22, 23]), ([24, 14], [14, 24]), ([14], [14]), ([26, 14], [14, 26]), ([25, 27, 21, 14], [14, 25, 27]), ([21, 28, 14], [14, 21, 28]), ([14, 29], [14, 29])])
def fuseelaw13_SpanMost.B12 : List Nat := [0, 0, 3, 7, 0, 16, 63, 0, 0, 384, 896, 0, 4095, 8191, 16383, 32767, 32767, 131071, 262143, 32767, 557055, 2097151, 32767, 32767, 12615679, 29392895, 32767, 67141631, 268435455, 536870911, 1073741823]
theorem fuseelaw13_SpanMost.tab12 : rtab .any (opsOf Tryd.f9 12) = fuseelaw13_SpanMost.T12 := by kernel_rfl
theorem fuseelaw13_SpanMost.bits12 : waitsOk fuseelaw13_SpanMost.T12.2 fuseelaw13_SpanMost.B12 = true := by kernel_rfl
set_option maxHeartbeats 8000000 in
set_option maxRecDepth 100000 in
theorem fuseelaw13_SpanMost.calls (k : Nat) (A0 : Option Addr) (c0 : Nat) (l0 : List (S73)) (a1 : Int) (a2 : Int) (r : Bool) (w : World) (hgL : HG w) (hr0 : Kd.C k73 w A0 l0.length l0) (hc0 : l0.length ≤ c0) (h : fuseelaw13_SpanMost.f k l0 a1 a2 = some r) :
  Calls Tryd.prog 9 #[.slice A0 l0.length c0, .int .i64 a1, .int .u16 a2] w fun e w' => e = .returned (.bool r) ∧ Below w.heap.size w w' := by
 have hu68 := Tryd.underlying68
 have hu29 := Tryd.underlying29
 have hu115 := Tryd.underlying115
 have HR0 := qS hr0
 have HC0 := qS hc0
 clear hr0 hc0
 have HB := qS (Below.refl w.heap.size w)
 have H : ((fuseelaw13_give.f k l0).bind fun t166 => ((span_Vote.f k t166).bind fun bt169 => (if (l0.length : Int) > 16 then (fuseelaw13_SpanMost.j0 k l0 a1 a2 t166 bt169.2.2.1 bt169.2.2.2 true bt169.1 bt169.2.1) else (if bt169.2.2.2.isNone = true then (fuseelaw13_SpanMost.j0 k l0 a1 a2 t166 bt169.2.2.1 none false bt169.1 bt169.2.1) else (fuseelaw13_SpanMost.j0 k l0 a1 a2 t166 bt169.2.2.1 (some (bt169.2.2.2.getD 0)) true bt169.1 bt169.2.1))))) = some r := h
 clear h
 replace H := Option.bind_eq_some_iff.mp H
 obtain ⟨t166, A40, H⟩ := H
 replace H : ((span_Vote.f k t166).bind fun bt169 => (if (l0.length : Int) > 16 then (fuseelaw13_SpanMost.j0 k l0 a1 a2 t166 bt169.2.2.1 bt169.2.2.2 true bt169.1 bt169.2.1) else (if bt169.2.2.2.isNone = true then (fuseelaw13_SpanMost.j0 k l0 a1 a2 t166 bt169.2.2.1 none false bt169.1 bt169.2.1) else (fuseelaw13_SpanMost.j0 k l0 a1 a2 t166 bt169.2.2.1 (some (bt169.2.2.2.getD 0)) true bt169.1 bt169.2.1)))) = some r := H
 have A4 := qS A40
 clear A40
 replace H := Option.bind_eq_some_iff.mp H
 obtain ⟨⟨t169, t170, t171, t172⟩, A50, H⟩ := H
 replace H : (if (l0.length : Int) > 16 then (fuseelaw13_SpanMost.j0 k l0 a1 a2 t166 t171 t172 true t169 t170) else (if t172.isNone = true then (fuseelaw13_SpanMost.j0 k l0 a1 a2 t166 t171 none false t169 t170) else (fuseelaw13_SpanMost.j0 k l0 a1 a2 t166 t171 (some (t172.getD 0)) true t169 t170))) = some r := H
 have A5 := qS A50
 clear A50
 have HC6 := qS H
 clear H
 go_enter Tryd.func9, Tryd.ntmps9
 go_upto_region 3 with (first | ((with_reducible refine gate_callee (f := 36) rfl ?_); refine goesL_ (some 16) rfl rfl Tryd.func36 (by kernel_rfl) rfl #[.slice A0 l0.length c0] rfl (by (try simp only [List.map_toArray, List.map_cons, List.map_nil]); first | done | rfl | (simp only [*]; done) | (simp only [List.length_drop, List.length_take]; rfl)) ?_; (with_reducible refine (fuseelaw13_give.calls k _ _ l0 t166 _ ?side1 ?side2 A4.out).mono ?_); (case side1 => repeat (first | exact HR0.out | (with_reducible refine Kd.C_alloc ?_ _) | (with_reducible refine Kd.C_drewN ?_ _) | (with_reducible refine Kd.C_drew ?_))); (case side2 => exact HC0.out); rintro e w7 ⟨v167, rfl, ho0, hb⟩; refine ⟨_, rfl, ?_⟩; have n0_ := qS (Kd.R_lower ho0 (below_size (by repeat (first | (with_reducible first | exact HB.out | apply qpA | apply qpN | apply qp1) | exact HB.out)))); have n1_ := qS (below_step (by repeat (first | (with_reducible first | exact HB.out | apply qpA | apply qpN | apply qp1) | exact HB.out)) hb); clear HB; have HO168 := n0_; have HB := n1_; clear n0_ n1_; (try clear hb); (try clear hb2); (try clear hk); (try clear hi); (try clear ho0); obtain ⟨Ao8, co8, eo8⟩ := Kd.R_slice HO168.out; subst eo8) | ((with_reducible refine gate_callee (f := 35) rfl ?_); refine goesL_ (some 19) rfl rfl Tryd.func35 (by kernel_rfl) rfl #[.slice Ao8 t166.length co8] rfl (by (try simp only [List.map_toArray, List.map_cons, List.map_nil]); first | done | rfl | (simp only [*]; done) | (simp only [List.length_drop, List.length_take]; rfl)) ?_; (with_reducible refine (span_Vote.calls k _ _ t166 t169 t170 t171 t172 _ ?side1 ?side2 A5.out).mono ?_); (case side1 => repeat (first | exact (Kd.R_reads' HO168.out).2.2 | (with_reducible refine Kd.C_alloc ?_ _) | (with_reducible refine Kd.C_drewN ?_ _) | (with_reducible refine Kd.C_drew ?_))); (case side2 => exact (Kd.R_reads' HO168.out).2.1); rintro e w9 ⟨rfl, hb⟩; refine ⟨_, rfl, ?_⟩; have n0_ := qS (Kd.R_below (by (with_reducible repeat (first | apply Kd.R_alloc | apply Kd.R_drewN | apply Kd.R_drew)); exact HO168.out) hb); have n1_ := qS (below_step (by repeat (first | (with_reducible first | exact HB.out | apply qpA | apply qpN | apply qp1) | exact HB.out)) hb); clear HO168; clear HB; have HO168 := n0_; have HB := n1_; clear n0_ n1_; (try clear hb); (try clear hb2); (try clear hk); (try clear hi); (try simp only [errW_none, errW_some])) | ((with_reducible refine gate_dst (N := 8) rfl ?_); refine box_event ?hg (N := 8) ?hd (cs := #[.int .i64 0, .int .i64 0]) (t := 68) ?hr ?_; (case hd => rfl); (case hg => rfl); (case hr => first | (go_simp; done) | (go_simp; rfl)); intro gb173 hg w10 hbox hb; have n0_ := qS (Kd.R_below (Kd.R_elderB (by (with_reducible repeat (first | apply Kd.R_alloc | apply Kd.R_drewN | apply Kd.R_drew)); exact HO168.out) gb173 (Nat.le_of_eq hg.symm)) hb); have n1_ := qS (below_step (by repeat (first | (with_reducible first | exact HB.out | apply qpA | apply qpN | apply qp1) | exact HB.out)) hb); have n2_ := qS (hbox); have n3_ := qS ((by rw [hg]; exact (below_size (by repeat (first | (with_reducible first | exact HB.out | apply qpA | apply qpN | apply qp1) | exact HB.out))) : w.heap.size ≤ gb173)); have n4_ := qS ((by rw [hg]; exact (below_size (by repeat (first | (with_reducible first | exact HB.out | apply qpA | apply qpN | apply qp1) | exact HB.out))) : w.heap.size ≤ gb173)); clear HO168; clear HB; have HO168 := n0_; have HB := n1_; have BK173 := n2_; have GW173 := n3_; have GE173 := n4_; clear n0_ n1_ n2_ n3_ n4_; clear hb hbox hg; have hcz11_0 : w10.cell? ⟨gb173, 0, none⟩ = some (.int .i64 0) := (qC BK173.out 0).trans rfl; have hcz11_1 : w10.cell? ⟨gb173, 1, none⟩ = some (.int .i64 0) := (qC BK173.out 1).trans rfl; have hfz11_0 := qF BK173.out 0; have hfz11_1 := qF BK173.out 1))
 (try simp only [Act.put, List.setIfInBounds_toArray, List.set_cons_zero, List.set_cons_succ])
 go_cut [29] (fun v29 wc => ∃ (kq : Nat) (x29_5 : Bool), v29 = .bool x29_5 ∧ Aside0 (fuseelaw13_SpanMost.j0 kq l0 a1 a2 t166 t171 t172 x29_5 t169 t170 = some r) ∧ Aside0 (kq ≤ k) ∧ Aside0 (Kd.R k68 68 wc w.heap.size (fun k_ => k_ ≠ gb173) (.slice Ao8 t166.length co8) t166) ∧ Aside0 (wc.heap[gb173]? = some (.cells #[.int .i64 t169, .int .i64 t170] 68 (0, 0))) ∧ Aside0 (Below w.heap.size w wc))
 case first =>
  have H := HC6.out
  clear HC6
  by_cases c12 : (l0.length : Int) > 16
  ·rw [if_pos c12] at H
   have c12b0 : decide (16 < (l0.length : Int)) = true := decide_eq_true c12
   have c12b1 : decide (16 < l0.length) = true := decide_eq_true (by omega)
   clear c12
   (first | rw [c12b0] | (simp only [i64_w, i32_w]; rw [c12b0]) | skip)
   have H' := qS H
   clear H
   go_wp2
   go_meet
   case rel => exact ⟨_, (true), (by first | rfl | (simp; done) | (simp [*]; done)), H', ⟨by first | omega | exact Nat.le_refl _⟩, ⟨by (with_reducible repeat (first | apply Kd.R_alloc | apply Kd.R_drewN | apply Kd.R_drew)); exact Kd.R_mono (Kd.R_far (p := ⟨gb173, 1, none⟩) (Kd.R_far (p := ⟨gb173, 0, none⟩) (Kd.R_mono HO168.out (fun k_ hk => (⟨hk, hk.2⟩ : _ ∧ k_ ≠ gb173))) (fun _ hk => hk.2) (.int .i64 t169)) (fun _ hk => hk.2) (.int .i64 t170)) (fun _ hk => hk.1.2)⟩, ⟨by (with_reducible repeat (first | refine qN ?_ _ | refine qD ?_ | refine qA ?_ _)); refine blk_put (cs := #[.int .i64 t169, .int .i64 0]) ?_ 1 _ rfl; (with_reducible repeat (first | refine qN ?_ _ | refine qD ?_ | refine qA ?_ _)); refine blk_put (cs := #[.int .i64 0, .int .i64 0]) ?_ 0 _ rfl; (with_reducible repeat (first | refine qN ?_ _ | refine qD ?_ | refine qA ?_ _)); exact BK173.out⟩, ⟨by repeat (first | (with_reducible first | exact HB.out | apply qpA | apply qpN | apply qp1 | refine qpS ?_ GE173.out) | exact HB.out)⟩⟩
  ·rw [if_neg c12] at H
   have c12b0 : decide (16 < (l0.length : Int)) = false := decide_eq_false c12
   have c12b1 : decide (16 < l0.length) = false := decide_eq_false (by omega)
   clear c12
   (first | rw [c12b0] | (simp only [i64_w, i32_w]; rw [c12b0]) | skip)
   rcases t172 with _ | q174
   ·have H1 : (fuseelaw13_SpanMost.j0 k l0 a1 a2 t166 t171 none false t169 t170) = some r := by rw [if_pos (show (none : Option Int).isNone = true by rfl)] at H; exact H
    clear H
    have H := H1
    clear H1
    try simp only [errW_none, errW_some]
    have H' := qS H
    clear H
    go_wp2
    go_meet
    case rel => exact ⟨_, (false), (by first | rfl | (simp; done) | (simp [*]; done)), H', ⟨by first | omega | exact Nat.le_refl _⟩, ⟨by (with_reducible repeat (first | apply Kd.R_alloc | apply Kd.R_drewN | apply Kd.R_drew)); exact Kd.R_mono (Kd.R_far (p := ⟨gb173, 1, none⟩) (Kd.R_far (p := ⟨gb173, 0, none⟩) (Kd.R_mono HO168.out (fun k_ hk => (⟨hk, hk.2⟩ : _ ∧ k_ ≠ gb173))) (fun _ hk => hk.2) (.int .i64 t169)) (fun _ hk => hk.2) (.int .i64 t170)) (fun _ hk => hk.1.2)⟩, ⟨by (with_reducible repeat (first | refine qN ?_ _ | refine qD ?_ | refine qA ?_ _)); refine blk_put (cs := #[.int .i64 t169, .int .i64 0]) ?_ 1 _ rfl; (with_reducible repeat (first | refine qN ?_ _ | refine qD ?_ | refine qA ?_ _)); refine blk_put (cs := #[.int .i64 0, .int .i64 0]) ?_ 0 _ rfl; (with_reducible repeat (first | refine qN ?_ _ | refine qD ?_ | refine qA ?_ _)); exact BK173.out⟩, ⟨by repeat (first | (with_reducible first | exact HB.out | apply qpA | apply qpN | apply qp1 | refine qpS ?_ GE173.out) | exact HB.out)⟩⟩
   ·have H1 : (fuseelaw13_SpanMost.j0 k l0 a1 a2 t166 t171 (some q174) true t169 t170) = some r := by rw [if_neg (show ¬ (some q174).isNone = true by simp)] at H; exact H
    clear H
    have H := H1
    clear H1
    try simp only [errW_none, errW_some]
    have H' := qS H
    clear H
    go_wp2
    go_meet
    case rel => exact ⟨_, (true), (by first | rfl | (simp; done) | (simp [*]; done)), H', ⟨by first | omega | exact Nat.le_refl _⟩, ⟨by (with_reducible repeat (first | apply Kd.R_alloc | apply Kd.R_drewN | apply Kd.R_drew)); exact Kd.R_mono (Kd.R_far (p := ⟨gb173, 1, none⟩) (Kd.R_far (p := ⟨gb173, 0, none⟩) (Kd.R_mono HO168.out (fun k_ hk => (⟨hk, hk.2⟩ : _ ∧ k_ ≠ gb173))) (fun _ hk => hk.2) (.int .i64 t169)) (fun _ hk => hk.2) (.int .i64 t170)) (fun _ hk => hk.1.2)⟩, ⟨by (with_reducible repeat (first | refine qN ?_ _ | refine qD ?_ | refine qA ?_ _)); refine blk_put (cs := #[.int .i64 t169, .int .i64 0]) ?_ 1 _ rfl; (with_reducible repeat (first | refine qN ?_ _ | refine qD ?_ | refine qA ?_ _)); refine blk_put (cs := #[.int .i64 0, .int .i64 0]) ?_ 0 _ rfl; (with_reducible repeat (first | refine qN ?_ _ | refine qD ?_ | refine qA ?_ _)); exact BK173.out⟩, ⟨by repeat (first | (with_reducible first | exact HB.out | apply qpA | apply qpN | apply qp1 | refine qpS ?_ GE173.out) | exact HB.out)⟩⟩
 case rest =>
  clear HC6
  try clear c1
  try clear q1
  try clear p2
  try clear c3
  try clear c9
  try clear c12
  try clear c12b0
  try clear c12b1
  try clear hcz11_0
  try clear hcz11_1
  try clear hfz11_0
  try clear hfz11_1
  try clear q174
  obtain ⟨kq, x29_5, rfl, HA, HJ5, HO_7, BK173, HB⟩ := hcut
  cases kq with
  | zero => exact absurd HA.out (by simp [fuseelaw13_SpanMost.j0])
  | succ kj5 =>
   have H := HA.out
   clear HA
   simp only [fuseelaw13_SpanMost.j0] at H
   by_cases c13 : x29_5 = true
   ·subst c13
    have H1 : (if (l0.length : Int) > 16 then ((fuseelaw13_sure.f kj5).bind fun t175 => (some t175)) else ((fuseelaw13_num.f t172).bind fun t176 => (if t176 = 1 then ((fuseelaw13_sure.f kj5).bind fun t177 => (some t177)) else ((fuseelaw13_num.f t172).bind fun t178 => (if t178 = 6 then ((fuseelaw13_sure.f kj5).bind fun t179 => (some t179)) else (none)))))) = some r := by rw [if_pos rfl] at H; exact H
    clear H
    have H := H1
    clear H1
    by_cases c14 : (l0.length : Int) > 16
    ·rw [if_pos c14] at H
     have c14b0 : decide (16 < (l0.length : Int)) = true := decide_eq_true c14
     have c14b1 : decide (16 < l0.length) = true := decide_eq_true (by omega)
     clear c14
     replace H := Option.bind_eq_some_iff.mp H
     obtain ⟨t175, A150, H⟩ := H
     replace H : (some t175) = some r := H
     have A15 := qS A150
     clear A150
     obtain rfl := Option.some.inj H
     go_wp2_with (first | (go_at_call 34; (with_reducible refine (fuseelaw13_sure.calls kj5  t175 _ ?side1 A15.out).mono ?_); (case side1 => exact HG.below hgL (Nat.le_refl _) (by repeat (first | (with_reducible first | exact HB.out | apply qpA | apply qpN | apply qp1 | refine qpS ?_ GE173.out) | exact HB.out))); rintro e w16 ⟨rfl, hb⟩; have n0_ := qS (Kd.R_below (by (with_reducible repeat (first | apply Kd.R_alloc | apply Kd.R_drewN | apply Kd.R_drew)); exact HO_7.out) hb); have n1_ := qS (qB (g := gb173) (o := .cells #[.int .i64 t169, .int .i64 t170] 68 (0, 0)) (by (with_reducible repeat (first | refine qN ?_ _ | refine qD ?_ | refine qA ?_ _)); exact BK173.out) hb); have n2_ := qS (below_step (by repeat (first | (with_reducible first | exact HB.out | apply qpA | apply qpN | apply qp1 | refine qpS ?_ GE173.out) | exact HB.out)) hb); clear HO_7; clear BK173; clear HB; have HO_7 := n0_; have BK173 := n1_; have HB := n2_; clear n0_ n1_ n2_; (try clear hb); (try clear hb2); (try clear hk); (try clear hi)))
     go_ret
     exact ⟨by first | rfl | (simp [errW_none, errW_some] <;> rfl) | (simp [*, errW_none, errW_some] <;> rfl), by repeat (first | (with_reducible first | exact HB.out | apply qpA | apply qpN | apply qp1 | refine qpS ?_ GE173.out) | exact HB.out)⟩
    ·rw [if_neg c14] at H
     have c14b0 : decide (16 < (l0.length : Int)) = false := decide_eq_false c14
     have c14b1 : decide (16 < l0.length) = false := decide_eq_false (by omega)
     clear c14
     replace H := Option.bind_eq_some_iff.mp H
     obtain ⟨t176, A170, H⟩ := H
     replace H : (if t176 = 1 then ((fuseelaw13_sure.f kj5).bind fun t177 => (some t177)) else ((fuseelaw13_num.f t172).bind fun t178 => (if t178 = 6 then ((fuseelaw13_sure.f kj5).bind fun t179 => (some t179)) else (none)))) = some r := H
     have A17 := qS A170
     clear A170
     by_cases c18 : t176 = 1
     ·rw [if_pos c18] at H
      have c18b0 : (t176 == 1) = true := beq_iff_eq.mpr c18
      have c18b1 : (t176 != 1) = false := bne_eq_false_iff_eq.mpr c18
      clear c18
      replace H := Option.bind_eq_some_iff.mp H
      obtain ⟨t177, A190, H⟩ := H
      replace H : (some t177) = some r := H
      have A19 := qS A190
      clear A190
      obtain rfl := Option.some.inj H
      have CA17 := fun W (hgW : HG W) => fuseelaw13_num.calls t172 t176 W hgW A17.out
      try simp only [errW_none, errW_some] at CA17
      go_wp2_with (first | (go_at_call 38; (with_reducible refine (CA17 _ (HG.below hgL (Nat.le_refl _) (by repeat (first | (with_reducible first | exact HB.out | apply qpA | apply qpN | apply qp1 | refine qpS ?_ GE173.out) | exact HB.out)))).mono ?_); rintro e w20 ⟨rfl, hb⟩; have n0_ := qS (Kd.R_below (by (with_reducible repeat (first | apply Kd.R_alloc | apply Kd.R_drewN | apply Kd.R_drew)); exact HO_7.out) hb); have n1_ := qS (qB (g := gb173) (o := .cells #[.int .i64 t169, .int .i64 t170] 68 (0, 0)) (by (with_reducible repeat (first | refine qN ?_ _ | refine qD ?_ | refine qA ?_ _)); exact BK173.out) hb); have n2_ := qS (below_step (by repeat (first | (with_reducible first | exact HB.out | apply qpA | apply qpN | apply qp1 | refine qpS ?_ GE173.out) | exact HB.out)) hb); clear HO_7; clear BK173; clear HB; have HO_7 := n0_; have BK173 := n1_; have HB := n2_; clear n0_ n1_ n2_; (try clear hb); (try clear hb2); (try clear hk); (try clear hi)) | (go_at_call 34; (with_reducible refine (fuseelaw13_sure.calls kj5  t177 _ ?side1 A19.out).mono ?_); (case side1 => exact HG.below hgL (Nat.le_refl _) (by repeat (first | (with_reducible first | exact HB.out | apply qpA | apply qpN | apply qp1 | refine qpS ?_ GE173.out) | exact HB.out))); rintro e w21 ⟨rfl, hb⟩; have n0_ := qS (Kd.R_below (by (with_reducible repeat (first | apply Kd.R_alloc | apply Kd.R_drewN | apply Kd.R_drew)); exact HO_7.out) hb); have n1_ := qS (qB (g := gb173) (o := .cells #[.int .i64 t169, .int .i64 t170] 68 (0, 0)) (by (with_reducible repeat (first | refine qN ?_ _ | refine qD ?_ | refine qA ?_ _)); exact BK173.out) hb); have n2_ := qS (below_step (by repeat (first | (with_reducible first | exact HB.out | apply qpA | apply qpN | apply qp1 | refine qpS ?_ GE173.out) | exact HB.out)) hb); clear HO_7; clear BK173; clear HB; have HO_7 := n0_; have BK173 := n1_; have HB := n2_; clear n0_ n1_ n2_; (try clear hb); (try clear hb2); (try clear hk); (try clear hi)))
      go_ret
      exact ⟨by first | rfl | (simp [errW_none, errW_some] <;> rfl) | (simp [*, errW_none, errW_some] <;> rfl), by repeat (first | (with_reducible first | exact HB.out | apply qpA | apply qpN | apply qp1 | refine qpS ?_ GE173.out) | exact HB.out)⟩
     ·rw [if_neg c18] at H
      have c18b0 : (t176 == 1) = false := beq_eq_false_iff_ne.mpr c18
      have c18b1 : (t176 != 1) = true := bne_iff_ne.mpr c18
      replace H := Option.bind_eq_some_iff.mp H
      obtain ⟨t178, A220, H⟩ := H
      replace H : (if t178 = 6 then ((fuseelaw13_sure.f kj5).bind fun t179 => (some t179)) else (none)) = some r := H
      have A22 := qS A220
      clear A220
      obtain rfl : t176 = t178 := Option.some.inj (A17.out.symm.trans A22.out)
      by_cases c23 : t176 = 6
      ·rw [if_pos c23] at H
       have c23b0 : (t176 == 6) = true := beq_iff_eq.mpr c23
       have c23b1 : (t176 != 6) = false := bne_eq_false_iff_eq.mpr c23
       clear c23
       replace H := Option.bind_eq_some_iff.mp H
       obtain ⟨t179, A240, H⟩ := H
       replace H : (some t179) = some r := H
       have A24 := qS A240
       clear A240
       obtain rfl := Option.some.inj H
       have CA17 := fun W (hgW : HG W) => fuseelaw13_num.calls t172 t176 W hgW A17.out
       try simp only [errW_none, errW_some] at CA17
       go_wp2_with (first | (go_at_call 38; (with_reducible refine (CA17 _ (HG.below hgL (Nat.le_refl _) (by repeat (first | (with_reducible first | exact HB.out | apply qpA | apply qpN | apply qp1 | refine qpS ?_ GE173.out) | exact HB.out)))).mono ?_); rintro e w25 ⟨rfl, hb⟩; have n0_ := qS (Kd.R_below (by (with_reducible repeat (first | apply Kd.R_alloc | apply Kd.R_drewN | apply Kd.R_drew)); exact HO_7.out) hb); have n1_ := qS (qB (g := gb173) (o := .cells #[.int .i64 t169, .int .i64 t170] 68 (0, 0)) (by (with_reducible repeat (first | refine qN ?_ _ | refine qD ?_ | refine qA ?_ _)); exact BK173.out) hb); have n2_ := qS (below_step (by repeat (first | (with_reducible first | exact HB.out | apply qpA | apply qpN | apply qp1 | refine qpS ?_ GE173.out) | exact HB.out)) hb); clear HO_7; clear BK173; clear HB; have HO_7 := n0_; have BK173 := n1_; have HB := n2_; clear n0_ n1_ n2_; (try clear hb); (try clear hb2); (try clear hk); (try clear hi); have CA22 := fun W (hgW : HG W) => fuseelaw13_num.calls t172 t176 W hgW A22.out; try simp only [errW_none, errW_some] at CA22) | (go_at_call 38; (with_reducible refine (CA22 _ (HG.below hgL (Nat.le_refl _) (by repeat (first | (with_reducible first | exact HB.out | apply qpA | apply qpN | apply qp1 | refine qpS ?_ GE173.out) | exact HB.out)))).mono ?_); rintro e w26 ⟨rfl, hb⟩; have n0_ := qS (Kd.R_below (by (with_reducible repeat (first | apply Kd.R_alloc | apply Kd.R_drewN | apply Kd.R_drew)); exact HO_7.out) hb); have n1_ := qS (qB (g := gb173) (o := .cells #[.int .i64 t169, .int .i64 t170] 68 (0, 0)) (by (with_reducible repeat (first | refine qN ?_ _ | refine qD ?_ | refine qA ?_ _)); exact BK173.out) hb); have n2_ := qS (below_step (by repeat (first | (with_reducible first | exact HB.out | apply qpA | apply qpN | apply qp1 | refine qpS ?_ GE173.out) | exact HB.out)) hb); clear HO_7; clear BK173; clear HB; have HO_7 := n0_; have BK173 := n1_; have HB := n2_; clear n0_ n1_ n2_; (try clear hb); (try clear hb2); (try clear hk); (try clear hi)) | (go_at_call 34; (with_reducible refine (fuseelaw13_sure.calls kj5  t179 _ ?side1 A24.out).mono ?_); (case side1 => exact HG.below hgL (Nat.le_refl _) (by repeat (first | (with_reducible first | exact HB.out | apply qpA | apply qpN | apply qp1 | refine qpS ?_ GE173.out) | exact HB.out))); rintro e w27 ⟨rfl, hb⟩; have n0_ := qS (Kd.R_below (by (with_reducible repeat (first | apply Kd.R_alloc | apply Kd.R_drewN | apply Kd.R_drew)); exact HO_7.out) hb); have n1_ := qS (qB (g := gb173) (o := .cells #[.int .i64 t169, .int .i64 t170] 68 (0, 0)) (by (with_reducible repeat (first | refine qN ?_ _ | refine qD ?_ | refine qA ?_ _)); exact BK173.out) hb); have n2_ := qS (below_step (by repeat (first | (with_reducible first | exact HB.out | apply qpA | apply qpN | apply qp1 | refine qpS ?_ GE173.out) | exact HB.out)) hb); clear HO_7; clear BK173; clear HB; have HO_7 := n0_; have BK173 := n1_; have HB := n2_; clear n0_ n1_ n2_; (try clear hb); (try clear hb2); (try clear hk); (try clear hi)))
       go_ret
       exact ⟨by first | rfl | (simp [errW_none, errW_some] <;> rfl) | (simp [*, errW_none, errW_some] <;> rfl), by repeat (first | (with_reducible first | exact HB.out | apply qpA | apply qpN | apply qp1 | refine qpS ?_ GE173.out) | exact HB.out)⟩
      ·rw [if_neg c23] at H
       exact absurd H (by simp)
   ·replace c13 := Bool.eq_false_iff.mpr c13
    subst c13
    have H1 : (if (wrap64 (a2)) ≤ (wrap64 (t170 - t169)) then (fuseelaw13_SpanMost.j1 kj5 a1 a2 t166 t171 0 0 t169 (decide ((wrap64 (t170 - t169)) > 0)) t169 t170) else (fuseelaw13_SpanMost.j1 kj5 a1 a2 t166 t171 0 0 t169 false t169 t170)) = some r := by rw [if_neg (show ¬ (false = true) by decide)] at H; exact H
    clear H
    have H := H1
    clear H1
    have HC28 := qS H
    clear H
    have hcz29_0 : wc.cell? ⟨gb173, 0, none⟩ = some (.int .i64 t169) := (qC BK173.out 0).trans rfl
    have hcz29_1 : wc.cell? ⟨gb173, 1, none⟩ = some (.int .i64 t170) := (qC BK173.out 1).trans rfl
    have hfz29_0 := qF BK173.out 0
    have hfz29_1 := qF BK173.out 1
    go_upto_region 7 with (fail)
    go_cut [63] (fun v63 wc => ∃ (kq : Nat) (x63_27 : Bool), v63 = .bool x63_27 ∧ Aside0 (fuseelaw13_SpanMost.j1 kq a1 a2 t166 t171 0 0 t169 x63_27 t169 t170 = some r) ∧ Aside0 (kq ≤ kj5) ∧ Aside0 (Kd.R k68 68 wc w.heap.size (fun k_ => k_ ≠ gb173) (.slice Ao8 t166.length co8) t166) ∧ Aside0 (wc.heap[gb173]? = some (.cells #[.int .i64 t169, .int .i64 t170] 68 (0, 0))) ∧ Aside0 (Below w.heap.size w wc))
    case first =>
     have H := HC28.out
     clear HC28
     by_cases c30 : (wrap64 (a2)) ≤ (wrap64 (t170 - t169))
     ·rw [if_pos c30] at H
      have c30b0 : decide ((wrap64 (a2)) ≤ (wrap64 (t170 - t169))) = true := decide_eq_true c30
      clear c30
      (first | rw [c30b0] | (simp only [i64_w, i32_w]; rw [c30b0]) | skip)
      have H' := qS H
      clear H
      have hcz31_0 : wc.cell? ⟨gb173, 0, none⟩ = some (.int .i64 t169) := (qC BK173.out 0).trans rfl
      have hcz31_1 : wc.cell? ⟨gb173, 1, none⟩ = some (.int .i64 t170) := (qC BK173.out 1).trans rfl
      have hfz31_0 := qF BK173.out 0
      have hfz31_1 := qF BK173.out 1
      go_wp2
      go_meet
      case rel => exact ⟨_, (decide ((wrap64 (t170 - t169)) > 0)), (by first | rfl | (simp; done) | (simp [*]; done)), H', ⟨by have := HJ5.out; first | omega | exact Nat.le_refl _⟩, ⟨by (with_reducible repeat (first | apply Kd.R_alloc | apply Kd.R_drewN | apply Kd.R_drew)); exact HO_7.out⟩, ⟨by (with_reducible repeat (first | refine qN ?_ _ | refine qD ?_ | refine qA ?_ _)); exact BK173.out⟩, ⟨by repeat (first | (with_reducible first | exact HB.out | apply qpA | apply qpN | apply qp1 | refine qpS ?_ GE173.out) | exact HB.out)⟩⟩
     ·rw [if_neg c30] at H
      have c30b0 : decide ((wrap64 (a2)) ≤ (wrap64 (t170 - t169))) = false := decide_eq_false c30
      clear c30
      (first | rw [c30b0] | (simp only [i64_w, i32_w]; rw [c30b0]) | skip)
      have H' := qS H
      clear H
      have hcz32_0 : wc.cell? ⟨gb173, 0, none⟩ = some (.int .i64 t169) := (qC BK173.out 0).trans rfl
      have hcz32_1 : wc.cell? ⟨gb173, 1, none⟩ = some (.int .i64 t170) := (qC BK173.out 1).trans rfl
      have hfz32_0 := qF BK173.out 0
      have hfz32_1 := qF BK173.out 1
      go_wp2
      go_meet
      case rel => exact ⟨_, (false), (by first | rfl | (simp; done) | (simp [*]; done)), H', ⟨by have := HJ5.out; first | omega | exact Nat.le_refl _⟩, ⟨by (with_reducible repeat (first | apply Kd.R_alloc | apply Kd.R_drewN | apply Kd.R_drew)); exact HO_7.out⟩, ⟨by (with_reducible repeat (first | refine qN ?_ _ | refine qD ?_ | refine qA ?_ _)); exact BK173.out⟩, ⟨by repeat (first | (with_reducible first | exact HB.out | apply qpA | apply qpN | apply qp1 | refine qpS ?_ GE173.out) | exact HB.out)⟩⟩
    case rest =>
     clear HC28
     try clear c1
     try clear q1
     try clear c2
     try clear p2
     try clear c3
     try clear p6
     try clear c9
     try clear c12
     try clear c12b0
     try clear c12b1
     try clear c13
     try clear c14
     try clear c14b0
     try clear c14b1
     try clear q17
     try clear c18
     try clear c18b0
     try clear c18b1
     try clear c23
     try clear c23b0
     try clear c23b1
     try clear c30
     try clear c30b0
     try clear hcz11_0
     try clear hcz11_1
     try clear hcz29_0
     try clear hcz29_1
     try clear hcz31_0
     try clear hcz31_1
     try clear hcz32_0
     try clear hcz32_1
     try clear hfz11_0
     try clear hfz11_1
     try clear hfz29_0
     try clear hfz29_1
     try clear hfz31_0
     try clear hfz31_1
     try clear hfz32_0
     try clear hfz32_1
     try clear p2
     try clear q1
     try clear q174
     obtain ⟨kq, x63_27, rfl, HA, HJ27, HO_7, BK173, HB⟩ := hcut
     cases kq with
     | zero => exact absurd HA.out (by simp [fuseelaw13_SpanMost.j1])
     | succ kj27 =>
      have H := HA.out
      clear HA
      simp only [fuseelaw13_SpanMost.j1] at H
      have HC33 := qS H
      clear H
      go_upto_if 63 with (fail)
      go_cut [13] (fun v13 wc => ∃ (kq : Nat) (x13_32 : Int), v13 = .int .i64 x13_32 ∧ Aside0 (fuseelaw13_SpanMost.j2 kq a1 t166 t171 0 0 x13_32 t169 t170 = some r) ∧ Aside0 (kq ≤ kj27) ∧ Aside0 (Kd.R k68 68 wc w.heap.size (fun k_ => k_ ≠ gb173) (.slice Ao8 t166.length co8) t166) ∧ Aside0 (wc.heap[gb173]? = some (.cells #[.int .i64 t169, .int .i64 t170] 68 (0, 0))) ∧ Aside0 (Below w.heap.size w wc))
      case first =>
       have H := HC33.out
       clear HC33
       by_cases c34 : x63_27 = true
       ·subst c34
        have H1 : (fuseelaw13_SpanMost.j2 kj27 a1 t166 t171 0 0 (wrap64 (t169 + (wrap64 (a2)))) t169 t170) = some r := by rw [if_pos rfl] at H; exact H
        clear H
        have H := H1
        clear H1
        have H' := qS H
        clear H
        have hcz35_0 : wc.cell? ⟨gb173, 0, none⟩ = some (.int .i64 t169) := (qC BK173.out 0).trans rfl
        have hcz35_1 : wc.cell? ⟨gb173, 1, none⟩ = some (.int .i64 t170) := (qC BK173.out 1).trans rfl
        have hfz35_0 := qF BK173.out 0
        have hfz35_1 := qF BK173.out 1
        go_wp2
        go_meet
        case rel => exact ⟨_, (wrap64 (t169 + (wrap64 (a2)))), (by first | rfl | (simp; done) | (simp [*]; done)), H', ⟨by have := HJ5.out; have := HJ27.out; first | omega | exact Nat.le_refl _⟩, ⟨by (with_reducible repeat (first | apply Kd.R_alloc | apply Kd.R_drewN | apply Kd.R_drew)); exact HO_7.out⟩, ⟨by (with_reducible repeat (first | refine qN ?_ _ | refine qD ?_ | refine qA ?_ _)); exact BK173.out⟩, ⟨by repeat (first | (with_reducible first | exact HB.out | apply qpA | apply qpN | apply qp1 | refine qpS ?_ GE173.out) | exact HB.out)⟩⟩
       ·replace c34 := Bool.eq_false_iff.mpr c34
        subst c34
        have H1 : (fuseelaw13_SpanMost.j2 kj27 a1 t166 t171 0 0 t169 t169 t170) = some r := by rw [if_neg (show ¬ (false = true) by decide)] at H; exact H
        clear H
        have H := H1
        clear H1
        have H' := qS H
        clear H
        go_wp2
        go_meet
        case rel => exact ⟨_, (t169), (by first | rfl | (simp; done) | (simp [*]; done)), H', ⟨by have := HJ5.out; have := HJ27.out; first | omega | exact Nat.le_refl _⟩, ⟨by (with_reducible repeat (first | apply Kd.R_alloc | apply Kd.R_drewN | apply Kd.R_drew)); exact HO_7.out⟩, ⟨by (with_reducible repeat (first | refine qN ?_ _ | refine qD ?_ | refine qA ?_ _)); exact BK173.out⟩, ⟨by repeat (first | (with_reducible first | exact HB.out | apply qpA | apply qpN | apply qp1 | refine qpS ?_ GE173.out) | exact HB.out)⟩⟩
      case rest =>
       clear HC33
       try clear c1
       try clear q1
       try clear c2
       try clear p2
       try clear c3
       try clear p6
       try clear c9
       try clear c12
       try clear c12b0
       try clear c12b1
       try clear c13
       try clear c14
       try clear c14b0
       try clear c14b1
       try clear q17
       try clear c18
       try clear c18b0
       try clear c18b1
       try clear c23
       try clear c23b0
       try clear c23b1
       try clear c30
       try clear c30b0
       try clear c34
       try clear c35
       try clear hcz11_0
       try clear hcz11_1
       try clear hcz29_0
       try clear hcz29_1
       try clear hcz31_0
       try clear hcz31_1
       try clear hcz32_0
       try clear hcz32_1
       try clear hcz35_0
       try clear hcz35_1
       try clear hfz11_0
       try clear hfz11_1
       try clear hfz29_0
       try clear hfz29_1
       try clear hfz31_0
       try clear hfz31_1
       try clear hfz32_0
       try clear hfz32_1
       try clear hfz35_0
       try clear hfz35_1
       try clear p2
       try clear p6
       try clear q1
       try clear q17
       try clear q174
       obtain ⟨kq, x13_32, rfl, HA, HJ32, HO_7, BK173, HB⟩ := hcut
       cases kq with
       | zero => exact absurd HA.out (by simp [fuseelaw13_SpanMost.j2])
       | succ kj32 =>
        have H := HA.out
        clear HA
        simp only [fuseelaw13_SpanMost.j2] at H
        have H' := qS H
        clear H
        go_wp2
        go_loopg [11, 12, 14] kj32 (fun kq v11 v12 v14 w' => ∃ (x11_4 : Int) (x12_4 : Int) (x14_4 : Int), v11 = .int .i64 x11_4 ∧ v12 = .int .i64 x12_4 ∧ v14 = .int .i64 x14_4 ∧ Aside0 (fuseelaw13_SpanMost.l0 kq a1 t166 t171 x11_4 x12_4 x13_32 x14_4 t169 t170 = some r) ∧ Aside0 (kq ≤ kj32) ∧ Aside0 (Kd.R k68 68 w' w.heap.size (fun k_ => k_ ≠ gb173) (.slice Ao8 t166.length co8) t166) ∧ Aside0 (w'.heap[gb173]? = some (.cells #[.int .i64 t169, .int .i64 t170] 68 (0, 0))) ∧ Aside0 (Below w.heap.size w w'))
        case atStart => exact ⟨(0), (0), (0), (by first | rfl | (simp; done) | (simp [*]; done)), (by first | rfl | (simp; done) | (simp [*]; done)), (by first | rfl | (simp; done) | (simp [*]; done)), H', ⟨Nat.le_refl _⟩, ⟨by (with_reducible repeat (first | apply Kd.R_alloc | apply Kd.R_drewN | apply Kd.R_drew)); exact HO_7.out⟩, ⟨by (with_reducible repeat (first | refine qN ?_ _ | refine qD ?_ | refine qA ?_ _)); exact BK173.out⟩, ⟨by repeat (first | (with_reducible first | exact HB.out | apply qpA | apply qpN | apply qp1 | refine qpS ?_ GE173.out) | exact HB.out)⟩⟩
        case round =>
         clear H'
         try clear c1
         try clear q1
         try clear c2
         try clear p2
         try clear c3
         try clear p6
         try clear c9
         try clear c12
         try clear c12b0
         try clear c12b1
         try clear c13
         try clear c14
         try clear c14b0
         try clear c14b1
         try clear q17
         try clear c18
         try clear c18b0
         try clear c18b1
         try clear c23
         try clear c23b0
         try clear c23b1
         try clear c30
         try clear c30b0
         try clear c34
         try clear c35
         try clear hcz11_0
         try clear hcz11_1
         try clear hcz29_0
         try clear hcz29_1
         try clear hcz31_0
         try clear hcz31_1
         try clear hcz32_0
         try clear hcz32_1
         try clear hcz35_0
         try clear hcz35_1
         try clear hfz11_0
         try clear hfz11_1
         try clear hfz29_0
         try clear hfz29_1
         try clear hfz31_0
         try clear hfz31_1
         try clear hfz32_0
         try clear hfz32_1
         try clear hfz35_0
         try clear hfz35_1
         try clear p2
         try clear p6
         try clear q1
         try clear q17
         try clear q174
         obtain ⟨x11_4, x12_4, x14_4, rfl, rfl, rfl, HA, HK4, HO_7, BK173, HB⟩ := hrel
         cases gk with
         | zero => exact absurd HA.out (by simp [fuseelaw13_SpanMost.l0])
         | succ k4 =>
          have H := HA.out
          clear HA
          simp only [fuseelaw13_SpanMost.l0] at H
          by_cases c36 : x14_4 < (t166.length : Int)
          ·rw [if_pos c36] at H
           have c36b0 : decide (x14_4 < (t166.length : Int)) = true := decide_eq_true c36
           clear c36
           have HC37 := qS H
           clear H
           go_upto_region 12 with (fail)
           go_cut [105] (fun v105 wc => ∃ (kq : Nat) (x105_36 : Bool), v105 = .bool x105_36 ∧ Aside0 (fuseelaw13_SpanMost.j4 kq a1 t166 t171 x11_4 x12_4 x13_32 x14_4 x105_36 t169 t170 = some r) ∧ Aside0 (kq ≤ k4) ∧ Aside0 (Kd.R k68 68 wc w.heap.size (fun k_ => k_ ≠ gb173) (.slice Ao8 t166.length co8) t166) ∧ Aside0 (wc.heap[gb173]? = some (.cells #[.int .i64 t169, .int .i64 t170] 68 (0, 0))) ∧ Aside0 (Below w.heap.size w wc))
           case first =>
            have H := HC37.out
            clear HC37
            by_cases c38 : 0 ≤ x14_4
            ·rw [if_pos c38] at H
             have c38b0 : decide (0 ≤ x14_4) = true := decide_eq_true c38
             clear c38
             (first | rw [c38b0] | (simp only [i64_w, i32_w]; rw [c38b0]) | skip)
             replace H := Option.bind_eq_some_iff.mp H
             obtain ⟨t183, A390, H⟩ := H
             replace H : ((span_Has.f ((rd_T68 t166 x14_4).f0) ((rd_T68 t166 x14_4).f1) x13_32).bind fun t185 => (if (t183 != t185) = true then (fuseelaw13_SpanMost.j4 k4 a1 t166 t171 x11_4 x12_4 x13_32 x14_4 true t169 t170) else ((span_Has.f ((rd_T68 t166 x14_4).f0) ((rd_T68 t166 x14_4).f1) t169).bind fun t187 => ((span_Has.f ((rd_T68 t166 x14_4).f0) ((rd_T68 t166 x14_4).f1) t170).bind fun t189 => (fuseelaw13_SpanMost.j4 k4 a1 t166 t171 x11_4 x12_4 x13_32 x14_4 (t187 != t189) t169 t170))))) = some r := H
             have A39 := qS A390
             clear A390
             replace H := Option.bind_eq_some_iff.mp H
             obtain ⟨t185, A400, H⟩ := H
             replace H : (if (t183 != t185) = true then (fuseelaw13_SpanMost.j4 k4 a1 t166 t171 x11_4 x12_4 x13_32 x14_4 true t169 t170) else ((span_Has.f ((rd_T68 t166 x14_4).f0) ((rd_T68 t166 x14_4).f1) t169).bind fun t187 => ((span_Has.f ((rd_T68 t166 x14_4).f0) ((rd_T68 t166 x14_4).f1) t170).bind fun t189 => (fuseelaw13_SpanMost.j4 k4 a1 t166 t171 x11_4 x12_4 x13_32 x14_4 (t187 != t189) t169 t170)))) = some r := H
             have A40 := qS A400
             clear A400
             by_cases c41 : (t183 != t185) = true
             ·rw [if_pos c41] at H
              have c41b0 : (t183 != t185) = true := c41
              (try (have c41b1 : decide (t183 = t185) = false := by simpa using c41))
              (try (have c41b2 : (t183 == t185) = false := by simpa using c41))
              (try (have c41b3 : ¬ (t183 = t185) := by simpa using c41))
              clear c41
              have H' := qS H
              clear H
              try go_wp2
              have n0_ := qS (Kd.R_drew HO_7.out)
              have n1_ := qS (qD BK173.out)
              have n2_ := qS (qp1 HB.out)
              clear HO_7
              clear BK173
              clear HB
              have HO_7 := n0_
              have BK173 := n1_
              have HB := n2_
              clear n0_ n1_ n2_
              have p182 : 0 ≤ (x14_4 : Int) := of_decide_eq_true (by first | (with_reducible assumption) | assumption)
              have q182 : x14_4 < (t166.length : Int) := of_decide_eq_true (by first | (with_reducible assumption) | assumption)
              obtain ⟨ad182, e182, hx182_0, hx182_1⟩ := at_T68 (Kd.R_reads' HO_7.out).2.2 x14_4 p182 q182
              cases e182
              replace p182 := eq_true p182
              replace q182 := eq_true q182
              have p184 : 0 ≤ (x14_4 : Int) := of_decide_eq_true (by first | (with_reducible assumption) | assumption)
              have q184 : x14_4 < (t166.length : Int) := of_decide_eq_true (by first | (with_reducible assumption) | assumption)
              obtain ⟨ad184, e184, hx184_0, hx184_1⟩ := at_T68 (Kd.R_reads' HO_7.out).2.2 x14_4 p184 q184
              obtain rfl : ad182 = ad184 := (by injection e184)
              replace p184 := eq_true p184
              replace q184 := eq_true q184
              refine start_ (n := 31) (S := fun w' => w'.cell? ⟨gb173, 0, none⟩ = some (.int .i64 t169) ∧ w'.cell? ⟨gb173, 1, none⟩ = some (.int .i64 t170) ∧ w'.cell? (ad182.add ((x14_4).toNat * 2)) = some (.int .i64 ((rd_T68 t166 x14_4).f0)) ∧ w'.cell? ⟨(ad182.add ((x14_4).toNat * 2)).block, (ad182.add ((x14_4).toNat * 2)).off + 1, none⟩ = some (.int .i64 ((rd_T68 t166 x14_4).f1)) ∧ w'.cell? (ad182.add ((x14_4).toNat * 2)) = some (.int .i64 ((rd_T68 t166 x14_4).f0)) ∧ w'.cell? ⟨(ad182.add ((x14_4).toNat * 2)).block, (ad182.add ((x14_4).toNat * 2)).off + 1, none⟩ = some (.int .i64 ((rd_T68 t166 x14_4).f1))) (ds := []) #[false, false, false, false, false, false, false, false, false, false, false, false, false, false, false, false, false, false, false, false, false, false, false, false, false, false, false, false, false, false, false] (by kernel_rfl) rfl rfl ⟨(qC BK173.out 0).trans rfl, (qC BK173.out 1).trans rfl, hx182_0, hx182_1, hx184_0, hx184_1⟩ (fun hHeld => ?_); refine with_tabW fuseelaw13_SpanMost.tab12 fuseelaw13_SpanMost.bits12 (fun HT_ HW_ => ?_)
              generalize wr.drew = w42 at HO_7 BK173 HB hx182_0 hx182_1 hx184_0 hx184_1 hHeld ⊢
              refine pure_ (i := 0) (N := some 75) (v := ?_) (a' := ?_) #[true, false, false, false, false, false, false, false, false, false, false, false, false, false, false, false, false, false, false, false, false, false, false, false, false, false, false, false, false, false, false] rfl rfl (any_of HT_.out (by kernel_rfl)) (fun _ _ _ h => h) (Or.inl ⟨by rfl, ?_⟩) ?_ ?_
              rotate_left
              ·intro w'
               go_simp
               with_reducible rfl
              rotate_left
              ·simp only [Act.put, List.setIfInBounds_toArray, List.set_cons_zero, List.set_cons_succ, i64_w, i32_w]
               rfl
              refine pure_ (i := 1) (N := some 76) (v := ?_) (a' := ?_) #[true, true, false, false, false, false, false, false, false, false, false, false, false, false, false, false, false, false, false, false, false, false, false, false, false, false, false, false, false, false, false] rfl rfl (any_of HT_.out (by kernel_rfl)) (fun _ _ _ h => h) (Or.inl ⟨by rfl, ?_⟩) ?_ ?_
              rotate_left
              ·intro w'
               go_simp
               with_reducible rfl
              rotate_left
              ·simp only [Act.put, List.setIfInBounds_toArray, List.set_cons_zero, List.set_cons_succ, i64_w, i32_w]
               rfl
              refine pure_ (i := 2) (N := some 77) (v := ?_) (a' := ?_) #[true, true, true, false, false, false, false, false, false, false, false, false, false, false, false, false, false, false, false, false, false, false, false, false, false, false, false, false, false, false, false] rfl rfl (any_of HT_.out (by kernel_rfl)) (fun _ _ _ h => h) (Or.inl ⟨by rfl, ?_⟩) ?_ ?_
              rotate_left
              ·intro w'
               go_simp
               with_reducible rfl
              rotate_left
              ·simp only [Act.put, List.setIfInBounds_toArray, List.set_cons_zero, List.set_cons_succ, i64_w, i32_w]
               rfl
              refine pure_ (i := 4) (N := some 79) (v := ?_) (a' := ?_) #[true, true, true, false, true, false, false, false, false, false, false, false, false, false, false, false, false, false, false, false, false, false, false, false, false, false, false, false, false, false, false] rfl rfl (any_of HT_.out (by kernel_rfl)) (fun _ _ _ h => h) (Or.inl ⟨by rfl, ?_⟩) ?_ ?_
              rotate_left
              ·intro w'
               go_simp
               with_reducible rfl
              rotate_left
              ·simp only [Act.put, List.setIfInBounds_toArray, List.set_cons_zero, List.set_cons_succ, i64_w, i32_w]
               rfl
              refine pure_ (i := 7) (N := some 82) (v := ?_) (a' := ?_) #[true, true, true, false, true, false, false, true, false, false, false, false, false, false, false, false, false, false, false, false, false, false, false, false, false, false, false, false, false, false, false] rfl rfl (any_of HT_.out (by kernel_rfl)) (fun _ _ _ h => h) (Or.inl ⟨by rfl, ?_⟩) ?_ ?_
              rotate_left
              ·intro w'
               go_simp
               with_reducible rfl
              rotate_left
              ·simp only [Act.put, List.setIfInBounds_toArray, List.set_cons_zero, List.set_cons_succ, i64_w, i32_w]
               rfl
              refine pure_ (i := 8) (N := some 83) (v := ?_) (a' := ?_) #[true, true, true, false, true, false, false, true, true, false, false, false, false, false, false, false, false, false, false, false, false, false, false, false, false, false, false, false, false, false, false] rfl rfl (any_of HT_.out (by kernel_rfl)) (fun _ _ _ h => h) (Or.inl ⟨by rfl, ?_⟩) ?_ ?_
              rotate_left
              ·intro w'
               go_simp
               with_reducible rfl
              rotate_left
              ·simp only [Act.put, List.setIfInBounds_toArray, List.set_cons_zero, List.set_cons_succ, i64_w, i32_w]
               rfl
              refine pure_ (i := 9) (N := some 84) (v := ?_) (a' := ?_) #[true, true, true, false, true, false, false, true, true, true, false, false, false, false, false, false, false, false, false, false, false, false, false, false, false, false, false, false, false, false, false] rfl rfl (any_of HT_.out (by kernel_rfl)) (fun _ _ _ h => h) (Or.inl ⟨by rfl, ?_⟩) ?_ ?_
              rotate_left
              ·intro w'
               go_simp
               with_reducible rfl
              rotate_left
              ·simp only [Act.put, List.setIfInBounds_toArray, List.set_cons_zero, List.set_cons_succ, i64_w, i32_w]
               rfl
              refine pure_ (i := 11) (N := some 86) (v := ?_) (a' := ?_) #[true, true, true, false, true, false, false, true, true, true, false, true, false, false, false, false, false, false, false, false, false, false, false, false, false, false, false, false, false, false, false] rfl rfl (any_of HT_.out (by kernel_rfl)) (fun _ _ _ h => h) (Or.inl ⟨by rfl, ?_⟩) ?_ ?_
              rotate_left
              ·intro w'
               go_simp
               with_reducible rfl
              rotate_left
              ·simp only [Act.put, List.setIfInBounds_toArray, List.set_cons_zero, List.set_cons_succ, i64_w, i32_w]
               rfl
              refine take_ (i := 3) (N := some 78) (v := ?_) (a' := ?_) #[true, true, true, true, true, false, false, true, true, true, false, true, false, false, false, false, false, false, false, false, false, false, false, false, false, false, false, false, false, false, false] rfl rfl (take_ofW HT_.out HW_.out (by kernel_rfl)) (fun _ _ _ h => h) (Or.inl ⟨by rfl, ?_⟩) hHeld ?_ ?_
              rotate_left
              ·rintro w' ⟨s0, s1, s2, s3, s4, s5⟩
               go_simp
               with_reducible rfl
              rotate_left
              ·simp only [Act.put, List.setIfInBounds_toArray, List.set_cons_zero, List.set_cons_succ, i64_w, i32_w]
               rfl
              refine take_ (i := 5) (N := some 80) (v := ?_) (a' := ?_) #[true, true, true, true, true, true, false, true, true, true, false, true, false, false, false, false, false, false, false, false, false, false, false, false, false, false, false, false, false, false, false] rfl rfl (take_ofW HT_.out HW_.out (by kernel_rfl)) (fun _ _ _ h => h) (Or.inl ⟨by rfl, ?_⟩) hHeld ?_ ?_
              rotate_left
              ·rintro w' ⟨s0, s1, s2, s3, s4, s5⟩
               go_simp
               with_reducible rfl
              rotate_left
              ·simp only [Act.put, List.setIfInBounds_toArray, List.set_cons_zero, List.set_cons_succ, i64_w, i32_w]
               rfl
              refine take_ (i := 10) (N := some 85) (v := ?_) (a' := ?_) #[true, true, true, true, true, true, false, true, true, true, true, true, false, false, false, false, false, false, false, false, false, false, false, false, false, false, false, false, false, false, false] rfl rfl (take_ofW HT_.out HW_.out (by kernel_rfl)) (fun _ _ _ h => h) (Or.inl ⟨by rfl, ?_⟩) hHeld ?_ ?_
              rotate_left
              ·rintro w' ⟨s0, s1, s2, s3, s4, s5⟩
               go_simp
               with_reducible rfl
              rotate_left
              ·simp only [Act.put, List.setIfInBounds_toArray, List.set_cons_zero, List.set_cons_succ, i64_w, i32_w]
               rfl
              refine one_ (i := 6) (N := some 81) #[true, true, true, true, true, true, true, true, true, true, true, true, false, false, false, false, false, false, false, false, false, false, false, false, false, false, false, false, false, false, false] rfl rfl (one_of HT_.out (by kernel_rfl)) (by decide) (fun K hK => ?_)
              refine goes_ Tryd.func39 (by kernel_rfl) rfl #[.agg #[.int .i64 ((rd_T68 t166 x14_4).f0), .int .i64 ((rd_T68 t166 x14_4).f1)], .int .i64 t169] (by rfl) rfl rfl (by (try simp only [List.map_toArray, List.map_cons, List.map_nil]); first | done | rfl | (simp only [*]; done) | (simp only [List.length_drop, List.length_take]; rfl)) ?_
              with_reducible refine (span_Has.calls ((rd_T68 t166 x14_4).f0) ((rd_T68 t166 x14_4).f1) t169 t183 _ A39.out).mono ?_
              rintro e w43 ⟨rfl, hb⟩
              have HS2_ := (hb.cell (World.block_lt_of_cell? _ _ (hHeld.2.2.1))).trans (hHeld.2.2.1)
              have HS3_ := (hb.cell (World.block_lt_of_cell? _ _ (hHeld.2.2.2.1))).trans (hHeld.2.2.2.1)
              have HS4_ := (hb.cell (World.block_lt_of_cell? _ _ (hHeld.2.2.2.2.1))).trans (hHeld.2.2.2.2.1)
              have HS5_ := (hb.cell (World.block_lt_of_cell? _ _ (hHeld.2.2.2.2.2))).trans (hHeld.2.2.2.2.2)
              refine ⟨_, rfl, ?_⟩
              have n0_ := qS (Kd.R_below (by (with_reducible repeat (first | apply Kd.R_alloc | apply Kd.R_drewN | apply Kd.R_drew)); exact HO_7.out) hb)
              have n1_ := qS (qB (g := gb173) (o := .cells #[.int .i64 t169, .int .i64 t170] 68 (0, 0)) (by (with_reducible repeat (first | refine qN ?_ _ | refine qD ?_ | refine qA ?_ _)); exact BK173.out) hb)
              have n2_ := qS (below_step (by repeat (first | (with_reducible first | exact HB.out | apply qpA | apply qpN | apply qp1 | refine qpS ?_ GE173.out) | exact HB.out)) hb)
              clear HO_7
              clear BK173
              clear HB
              have HO_7 := n0_
              have BK173 := n1_
              have HB := n2_
              clear n0_ n1_ n2_
              (try clear hb)
              (try clear hb2)
              (try clear hk)
              (try clear hi)
              refine hK.out _ _ ⟨(qC BK173.out 0).trans rfl, (qC BK173.out 1).trans rfl, HS2_, HS3_, HS4_, HS5_⟩ (fun hHeld => ?_)
              clear hK K
              refine norm_ (a' := ?_) ?_ ?_
              rotate_left
              ·show Act.put _ (some 81) _ = _
               simp only [Act.put, List.setIfInBounds_toArray, List.set_cons_zero, List.set_cons_succ, i64_w, i32_w]
               rfl
              refine one_ (i := 12) (N := some 87) #[true, true, true, true, true, true, true, true, true, true, true, true, true, false, false, false, false, false, false, false, false, false, false, false, false, false, false, false, false, false, false] rfl rfl (one_of HT_.out (by kernel_rfl)) (by decide) (fun K hK => ?_)
              refine goes_ Tryd.func39 (by kernel_rfl) rfl #[.agg #[.int .i64 ((rd_T68 t166 x14_4).f0), .int .i64 ((rd_T68 t166 x14_4).f1)], .int .i64 x13_32] (by rfl) rfl rfl (by (try simp only [List.map_toArray, List.map_cons, List.map_nil]); first | done | rfl | (simp only [*]; done) | (simp only [List.length_drop, List.length_take]; rfl)) ?_
              with_reducible refine (span_Has.calls ((rd_T68 t166 x14_4).f0) ((rd_T68 t166 x14_4).f1) x13_32 t185 _ A40.out).mono ?_
              rintro e w44 ⟨rfl, hb⟩
              have HS2_ := (hb.cell (World.block_lt_of_cell? _ _ (hHeld.2.2.1))).trans (hHeld.2.2.1)
              have HS3_ := (hb.cell (World.block_lt_of_cell? _ _ (hHeld.2.2.2.1))).trans (hHeld.2.2.2.1)
              have HS4_ := (hb.cell (World.block_lt_of_cell? _ _ (hHeld.2.2.2.2.1))).trans (hHeld.2.2.2.2.1)
              have HS5_ := (hb.cell (World.block_lt_of_cell? _ _ (hHeld.2.2.2.2.2))).trans (hHeld.2.2.2.2.2)
              refine ⟨_, rfl, ?_⟩
              have n0_ := qS (Kd.R_below (by (with_reducible repeat (first | apply Kd.R_alloc | apply Kd.R_drewN | apply Kd.R_drew)); exact HO_7.out) hb)
              have n1_ := qS (qB (g := gb173) (o := .cells #[.int .i64 t169, .int .i64 t170] 68 (0, 0)) (by (with_reducible repeat (first | refine qN ?_ _ | refine qD ?_ | refine qA ?_ _)); exact BK173.out) hb)
              have n2_ := qS (below_step (by repeat (first | (with_reducible first | exact HB.out | apply qpA | apply qpN | apply qp1 | refine qpS ?_ GE173.out) | exact HB.out)) hb)
              clear HO_7
              clear BK173
              clear HB
              have HO_7 := n0_
              have BK173 := n1_
              have HB := n2_
              clear n0_ n1_ n2_
              (try clear hb)
              (try clear hb2)
              (try clear hk)
              (try clear hi)
              refine hK.out _ _ ⟨(qC BK173.out 0).trans rfl, (qC BK173.out 1).trans rfl, HS2_, HS3_, HS4_, HS5_⟩ (fun hHeld => ?_)
              clear hK K
              refine norm_ (a' := ?_) ?_ ?_
              rotate_left
              ·show Act.put _ (some 87) _ = _
               simp only [Act.put, List.setIfInBounds_toArray, List.set_cons_zero, List.set_cons_succ, i64_w, i32_w]
               rfl
              refine pure_ (i := 13) (N := some 88) (v := ?_) (a' := ?_) #[true, true, true, true, true, true, true, true, true, true, true, true, true, true, false, false, false, false, false, false, false, false, false, false, false, false, false, false, false, false, false] rfl rfl (any_of HT_.out (by kernel_rfl)) (fun _ _ _ h => h) (Or.inl ⟨by rfl, ?_⟩) ?_ ?_
              rotate_left
              ·intro w'
               go_simp
               with_reducible rfl
              rotate_left
              ·simp only [Act.put, List.setIfInBounds_toArray, List.set_cons_zero, List.set_cons_succ, i64_w, i32_w]
               rfl
              refine pure_ (i := 14) (N := some 89) (v := ?_) (a' := ?_) #[true, true, true, true, true, true, true, true, true, true, true, true, true, true, true, false, false, false, false, false, false, false, false, false, false, false, false, false, false, false, false] rfl rfl (any_of HT_.out (by kernel_rfl)) (fun _ _ _ h => h) (Or.inl ⟨by rfl, ?_⟩) ?_ ?_
              rotate_left
              ·intro w'
               go_simp
               with_reducible rfl
              rotate_left
              ·simp only [Act.put, List.setIfInBounds_toArray, List.set_cons_zero, List.set_cons_succ, i64_w, i32_w]
               rfl
              refine pure_ (i := 15) (N := some 90) (v := undef) (a' := ?_) #[true, true, true, true, true, true, true, true, true, true, true, true, true, true, true, true, false, false, false, false, false, false, false, false, false, false, false, false, false, false, false] rfl rfl (any_of HT_.out (by kernel_rfl)) (fun _ _ _ h => h) (Or.inr ⟨by rfl, rfl⟩) ?_ ?_
              rotate_left
              ·simp only [Act.put, List.setIfInBounds_toArray, List.set_cons_zero, List.set_cons_succ, i64_w, i32_w]
               rfl
              refine pure_ (i := 16) (N := some 91) (v := undef) (a' := ?_) #[true, true, true, true, true, true, true, true, true, true, true, true, true, true, true, true, true, false, false, false, false, false, false, false, false, false, false, false, false, false, false] rfl rfl (any_of HT_.out (by kernel_rfl)) (fun _ _ _ h => h) (Or.inr ⟨by rfl, rfl⟩) ?_ ?_
              rotate_left
              ·simp only [Act.put, List.setIfInBounds_toArray, List.set_cons_zero, List.set_cons_succ, i64_w, i32_w]
               rfl
              refine pure_ (i := 17) (N := some 92) (v := undef) (a' := ?_) #[true, true, true, true, true, true, true, true, true, true, true, true, true, true, true, true, true, true, false, false, false, false, false, false, false, false, false, false, false, false, false] rfl rfl (any_of HT_.out (by kernel_rfl)) (fun _ _ _ h => h) (Or.inr ⟨by rfl, rfl⟩) ?_ ?_
              rotate_left
              ·simp only [Act.put, List.setIfInBounds_toArray, List.set_cons_zero, List.set_cons_succ, i64_w, i32_w]
               rfl
              refine pure_ (i := 18) (N := some 93) (v := undef) (a' := ?_) #[true, true, true, true, true, true, true, true, true, true, true, true, true, true, true, true, true, true, true, false, false, false, false, false, false, false, false, false, false, false, false] rfl rfl (any_of HT_.out (by kernel_rfl)) (fun _ _ _ h => h) (Or.inr ⟨by rfl, rfl⟩) ?_ ?_
              rotate_left
              ·simp only [Act.put, List.setIfInBounds_toArray, List.set_cons_zero, List.set_cons_succ, i64_w, i32_w]
               rfl
              refine pure_ (i := 19) (N := some 94) (v := undef) (a' := ?_) #[true, true, true, true, true, true, true, true, true, true, true, true, true, true, true, true, true, true, true, true, false, false, false, false, false, false, false, false, false, false, false] rfl rfl (any_of HT_.out (by kernel_rfl)) (fun _ _ _ h => h) (Or.inr ⟨by rfl, rfl⟩) ?_ ?_
              rotate_left
              ·simp only [Act.put, List.setIfInBounds_toArray, List.set_cons_zero, List.set_cons_succ, i64_w, i32_w]
               rfl
              refine pure_ (i := 20) (N := some 95) (v := undef) (a' := ?_) #[true, true, true, true, true, true, true, true, true, true, true, true, true, true, true, true, true, true, true, true, true, false, false, false, false, false, false, false, false, false, false] rfl rfl (any_of HT_.out (by kernel_rfl)) (fun _ _ _ h => h) (Or.inr ⟨by rfl, rfl⟩) ?_ ?_
              rotate_left
              ·simp only [Act.put, List.setIfInBounds_toArray, List.set_cons_zero, List.set_cons_succ, i64_w, i32_w]
               rfl
              refine pure_ (i := 21) (N := some 96) (v := undef) (a' := ?_) #[true, true, true, true, true, true, true, true, true, true, true, true, true, true, true, true, true, true, true, true, true, true, false, false, false, false, false, false, false, false, false] rfl rfl (any_of HT_.out (by kernel_rfl)) (fun _ _ _ h => h) (Or.inr ⟨by rfl, rfl⟩) ?_ ?_
              rotate_left
              ·simp only [Act.put, List.setIfInBounds_toArray, List.set_cons_zero, List.set_cons_succ, i64_w, i32_w]
               rfl
              refine pure_ (i := 22) (N := some 97) (v := undef) (a' := ?_) #[true, true, true, true, true, true, true, true, true, true, true, true, true, true, true, true, true, true, true, true, true, true, true, false, false, false, false, false, false, false, false] rfl rfl (any_of HT_.out (by kernel_rfl)) (fun _ _ _ h => h) (Or.inr ⟨by rfl, rfl⟩) ?_ ?_
              rotate_left
              ·simp only [Act.put, List.setIfInBounds_toArray, List.set_cons_zero, List.set_cons_succ, i64_w, i32_w]
               rfl
              refine pure_ (i := 23) (N := some 98) (v := undef) (a' := ?_) #[true, true, true, true, true, true, true, true, true, true, true, true, true, true, true, true, true, true, true, true, true, true, true, true, false, false, false, false, false, false, false] rfl rfl (any_of HT_.out (by kernel_rfl)) (fun _ _ _ h => h) (Or.inr ⟨by rfl, rfl⟩) ?_ ?_
              rotate_left
              ·simp only [Act.put, List.setIfInBounds_toArray, List.set_cons_zero, List.set_cons_succ, i64_w, i32_w]
               rfl
              refine pure_ (i := 24) (N := some 99) (v := undef) (a' := ?_) #[true, true, true, true, true, true, true, true, true, true, true, true, true, true, true, true, true, true, true, true, true, true, true, true, true, false, false, false, false, false, false] rfl rfl (any_of HT_.out (by kernel_rfl)) (fun _ _ _ h => h) (Or.inr ⟨by rfl, rfl⟩) ?_ ?_
              rotate_left
              ·simp only [Act.put, List.setIfInBounds_toArray, List.set_cons_zero, List.set_cons_succ, i64_w, i32_w]
               rfl
              refine pure_ (i := 25) (N := some 100) (v := undef) (a' := ?_) #[true, true, true, true, true, true, true, true, true, true, true, true, true, true, true, true, true, true, true, true, true, true, true, true, true, true, false, false, false, false, false] rfl rfl (any_of HT_.out (by kernel_rfl)) (fun _ _ _ h => h) (Or.inr ⟨by rfl, rfl⟩) ?_ ?_
              rotate_left
              ·simp only [Act.put, List.setIfInBounds_toArray, List.set_cons_zero, List.set_cons_succ, i64_w, i32_w]
               rfl
              refine pure_ (i := 26) (N := some 101) (v := undef) (a' := ?_) #[true, true, true, true, true, true, true, true, true, true, true, true, true, true, true, true, true, true, true, true, true, true, true, true, true, true, true, false, false, false, false] rfl rfl (any_of HT_.out (by kernel_rfl)) (fun _ _ _ h => h) (Or.inr ⟨by rfl, rfl⟩) ?_ ?_
              rotate_left
              ·simp only [Act.put, List.setIfInBounds_toArray, List.set_cons_zero, List.set_cons_succ, i64_w, i32_w]
               rfl
              refine pure_ (i := 27) (N := some 102) (v := undef) (a' := ?_) #[true, true, true, true, true, true, true, true, true, true, true, true, true, true, true, true, true, true, true, true, true, true, true, true, true, true, true, true, false, false, false] rfl rfl (any_of HT_.out (by kernel_rfl)) (fun _ _ _ h => h) (Or.inr ⟨by rfl, rfl⟩) ?_ ?_
              rotate_left
              ·simp only [Act.put, List.setIfInBounds_toArray, List.set_cons_zero, List.set_cons_succ, i64_w, i32_w]
               rfl
              refine pure_ (i := 28) (N := some 103) (v := undef) (a' := ?_) #[true, true, true, true, true, true, true, true, true, true, true, true, true, true, true, true, true, true, true, true, true, true, true, true, true, true, true, true, true, false, false] rfl rfl (any_of HT_.out (by kernel_rfl)) (fun _ _ _ h => h) (Or.inr ⟨by rfl, rfl⟩) ?_ ?_
              rotate_left
              ·simp only [Act.put, List.setIfInBounds_toArray, List.set_cons_zero, List.set_cons_succ, i64_w, i32_w]
               rfl
              refine pure_ (i := 29) (N := some 104) (v := undef) (a' := ?_) #[true, true, true, true, true, true, true, true, true, true, true, true, true, true, true, true, true, true, true, true, true, true, true, true, true, true, true, true, true, true, false] rfl rfl (any_of HT_.out (by kernel_rfl)) (fun _ _ _ h => h) (Or.inr ⟨by rfl, rfl⟩) ?_ ?_
              rotate_left
              ·simp only [Act.put, List.setIfInBounds_toArray, List.set_cons_zero, List.set_cons_succ, i64_w, i32_w]
               rfl
              refine pure_ (i := 30) (N := some 105) (v := ?_) (a' := ?_) #[true, true, true, true, true, true, true, true, true, true, true, true, true, true, true, true, true, true, true, true, true, true, true, true, true, true, true, true, true, true, true] rfl rfl (any_of HT_.out (by kernel_rfl)) (fun _ _ _ h => h) (Or.inl ⟨by rfl, ?_⟩) ?_ ?_
              rotate_left
              ·intro w'
               go_simp
               with_reducible rfl
              rotate_left
              ·simp only [Act.put, List.setIfInBounds_toArray, List.set_cons_zero, List.set_cons_succ, i64_w, i32_w]
               rfl
              refine done_ (done_of HT_.out (by kernel_rfl)) ?_
              try go_wp2
              go_meet
              case rel => exact ⟨_, (true), (by first | rfl | (simp; done) | (simp [*]; done)), H', ⟨by have := HJ5.out; have := HJ27.out; have := HJ32.out; have := HK4.out; first | omega | exact Nat.le_refl _⟩, ⟨by (with_reducible repeat (first | apply Kd.R_alloc | apply Kd.R_drewN | apply Kd.R_drew)); exact HO_7.out⟩, ⟨by (with_reducible repeat (first | refine qN ?_ _ | refine qD ?_ | refine qA ?_ _)); exact BK173.out⟩, ⟨by repeat (first | (with_reducible first | exact HB.out | apply qpA | apply qpN | apply qp1 | refine qpS ?_ GE173.out) | exact HB.out)⟩⟩
             ·rw [if_neg c41] at H
              have c41b0 : (t183 != t185) = false := by simpa using c41
              (try (have c41b1 : decide (t183 = t185) = true := by simpa using c41))
              (try (have c41b2 : (t183 == t185) = true := by simpa using c41))
              clear c41
              replace H := Option.bind_eq_some_iff.mp H
              obtain ⟨t187, A450, H⟩ := H
              replace H : ((span_Has.f ((rd_T68 t166 x14_4).f0) ((rd_T68 t166 x14_4).f1) t170).bind fun t189 => (fuseelaw13_SpanMost.j4 k4 a1 t166 t171 x11_4 x12_4 x13_32 x14_4 (t187 != t189) t169 t170)) = some r := H
              have A45 := qS A450
              clear A450
              replace H := Option.bind_eq_some_iff.mp H
              obtain ⟨t189, A460, H⟩ := H
              replace H : (fuseelaw13_SpanMost.j4 k4 a1 t166 t171 x11_4 x12_4 x13_32 x14_4 (t187 != t189) t169 t170) = some r := H
              have A46 := qS A460
              clear A460
              have H' := qS H
              clear H
              try go_wp2
              have n0_ := qS (Kd.R_drew HO_7.out)
              have n1_ := qS (qD BK173.out)
              have n2_ := qS (qp1 HB.out)
              clear HO_7
              clear BK173
              clear HB
              have HO_7 := n0_
              have BK173 := n1_
              have HB := n2_
              clear n0_ n1_ n2_
              have p182 : 0 ≤ (x14_4 : Int) := of_decide_eq_true (by first | (with_reducible assumption) | assumption)
              have q182 : x14_4 < (t166.length : Int) := of_decide_eq_true (by first | (with_reducible assumption) | assumption)
              obtain ⟨ad182, e182, hx182_0, hx182_1⟩ := at_T68 (Kd.R_reads' HO_7.out).2.2 x14_4 p182 q182
              cases e182
              replace p182 := eq_true p182
              replace q182 := eq_true q182
              have p184 : 0 ≤ (x14_4 : Int) := of_decide_eq_true (by first | (with_reducible assumption) | assumption)
              have q184 : x14_4 < (t166.length : Int) := of_decide_eq_true (by first | (with_reducible assumption) | assumption)
              obtain ⟨ad184, e184, hx184_0, hx184_1⟩ := at_T68 (Kd.R_reads' HO_7.out).2.2 x14_4 p184 q184
              obtain rfl : ad182 = ad184 := (by injection e184)
              replace p184 := eq_true p184
              replace q184 := eq_true q184
              have p186 : 0 ≤ (x14_4 : Int) := of_decide_eq_true (by first | (with_reducible assumption) | assumption)
              have q186 : x14_4 < (t166.length : Int) := of_decide_eq_true (by first | (with_reducible assumption) | assumption)
              obtain ⟨ad186, e186, hx186_0, hx186_1⟩ := at_T68 (Kd.R_reads' HO_7.out).2.2 x14_4 p186 q186
              obtain rfl : ad182 = ad186 := (by injection e186)
              replace p186 := eq_true p186
              replace q186 := eq_true q186
              have p188 : 0 ≤ (x14_4 : Int) := of_decide_eq_true (by first | (with_reducible assumption) | assumption)
              have q188 : x14_4 < (t166.length : Int) := of_decide_eq_true (by first | (with_reducible assumption) | assumption)
              obtain ⟨ad188, e188, hx188_0, hx188_1⟩ := at_T68 (Kd.R_reads' HO_7.out).2.2 x14_4 p188 q188
              obtain rfl : ad182 = ad188 := (by injection e188)
              replace p188 := eq_true p188
              replace q188 := eq_true q188
              refine start_ (n := 31) (S := fun w' => w'.cell? ⟨gb173, 0, none⟩ = some (.int .i64 t169) ∧ w'.cell? ⟨gb173, 1, none⟩ = some (.int .i64 t170) ∧ w'.cell? (ad182.add ((x14_4).toNat * 2)) = some (.int .i64 ((rd_T68 t166 x14_4).f0)) ∧ w'.cell? ⟨(ad182.add ((x14_4).toNat * 2)).block, (ad182.add ((x14_4).toNat * 2)).off + 1, none⟩ = some (.int .i64 ((rd_T68 t166 x14_4).f1)) ∧ w'.cell? (ad182.add ((x14_4).toNat * 2)) = some (.int .i64 ((rd_T68 t166 x14_4).f0)) ∧ w'.cell? ⟨(ad182.add ((x14_4).toNat * 2)).block, (ad182.add ((x14_4).toNat * 2)).off + 1, none⟩ = some (.int .i64 ((rd_T68 t166 x14_4).f1)) ∧ w'.cell? (ad182.add ((x14_4).toNat * 2)) = some (.int .i64 ((rd_T68 t166 x14_4).f0)) ∧ w'.cell? ⟨(ad182.add ((x14_4).toNat * 2)).block, (ad182.add ((x14_4).toNat * 2)).off + 1, none⟩ = some (.int .i64 ((rd_T68 t166 x14_4).f1)) ∧ w'.cell? (ad182.add ((x14_4).toNat * 2)) = some (.int .i64 ((rd_T68 t166 x14_4).f0)) ∧ w'.cell? ⟨(ad182.add ((x14_4).toNat * 2)).block, (ad182.add ((x14_4).toNat * 2)).off + 1, none⟩ = some (.int .i64 ((rd_T68 t166 x14_4).f1))) (ds := []) #[false, false, false, false, false, false, false, false, false, false, false, false, false, false, false, false, false, false, false, false, false, false, false, false, false, false, false, false, false, false, false] (by kernel_rfl) rfl rfl ⟨(qC BK173.out 0).trans rfl, (qC BK173.out 1).trans rfl, hx182_0, hx182_1, hx184_0, hx184_1, hx186_0, hx186_1, hx188_0, hx188_1⟩ (fun hHeld => ?_); refine with_tabW fuseelaw13_SpanMost.tab12 fuseelaw13_SpanMost.bits12 (fun HT_ HW_ => ?_)
              generalize wr.drew = w47 at HO_7 BK173 HB hx182_0 hx182_1 hx184_0 hx184_1 hx186_0 hx186_1 hx188_0 hx188_1 hHeld ⊢
              refine pure_ (i := 0) (N := some 75) (v := ?_) (a' := ?_) #[true, false, false, false, false, false, false, false, false, false, false, false, false, false, false, false, false, false, false, false, false, false, false, false, false, false, false, false, false, false, false] rfl rfl (any_of HT_.out (by kernel_rfl)) (fun _ _ _ h => h) (Or.inl ⟨by rfl, ?_⟩) ?_ ?_
              rotate_left
              ·intro w'
               go_simp
               with_reducible rfl
              rotate_left
              ·simp only [Act.put, List.setIfInBounds_toArray, List.set_cons_zero, List.set_cons_succ, i64_w, i32_w]
               rfl
              refine pure_ (i := 1) (N := some 76) (v := ?_) (a' := ?_) #[true, true, false, false, false, false, false, false, false, false, false, false, false, false, false, false, false, false, false, false, false, false, false, false, false, false, false, false, false, false, false] rfl rfl (any_of HT_.out (by kernel_rfl)) (fun _ _ _ h => h) (Or.inl ⟨by rfl, ?_⟩) ?_ ?_
              rotate_left
              ·intro w'
               go_simp
               with_reducible rfl
              rotate_left
              ·simp only [Act.put, List.setIfInBounds_toArray, List.set_cons_zero, List.set_cons_succ, i64_w, i32_w]
               rfl
              refine pure_ (i := 2) (N := some 77) (v := ?_) (a' := ?_) #[true, true, true, false, false, false, false, false, false, false, false, false, false, false, false, false, false, false, false, false, false, false, false, false, false, false, false, false, false, false, false] rfl rfl (any_of HT_.out (by kernel_rfl)) (fun _ _ _ h => h) (Or.inl ⟨by rfl, ?_⟩) ?_ ?_
              rotate_left
              ·intro w'
               go_simp
               with_reducible rfl
              rotate_left
              ·simp only [Act.put, List.setIfInBounds_toArray, List.set_cons_zero, List.set_cons_succ, i64_w, i32_w]
               rfl
              refine pure_ (i := 4) (N := some 79) (v := ?_) (a' := ?_) #[true, true, true, false, true, false, false, false, false, false, false, false, false, false, false, false, false, false, false, false, false, false, false, false, false, false, false, false, false, false, false] rfl rfl (any_of HT_.out (by kernel_rfl)) (fun _ _ _ h => h) (Or.inl ⟨by rfl, ?_⟩) ?_ ?_
              rotate_left
              ·intro w'
               go_simp
               with_reducible rfl
              rotate_left
              ·simp only [Act.put, List.setIfInBounds_toArray, List.set_cons_zero, List.set_cons_succ, i64_w, i32_w]
               rfl
              refine pure_ (i := 7) (N := some 82) (v := ?_) (a' := ?_) #[true, true, true, false, true, false, false, true, false, false, false, false, false, false, false, false, false, false, false, false, false, false, false, false, false, false, false, false, false, false, false] rfl rfl (any_of HT_.out (by kernel_rfl)) (fun _ _ _ h => h) (Or.inl ⟨by rfl, ?_⟩) ?_ ?_
              rotate_left
              ·intro w'
               go_simp
               with_reducible rfl
              rotate_left
              ·simp only [Act.put, List.setIfInBounds_toArray, List.set_cons_zero, List.set_cons_succ, i64_w, i32_w]
               rfl
              refine pure_ (i := 8) (N := some 83) (v := ?_) (a' := ?_) #[true, true, true, false, true, false, false, true, true, false, false, false, false, false, false, false, false, false, false, false, false, false, false, false, false, false, false, false, false, false, false] rfl rfl (any_of HT_.out (by kernel_rfl)) (fun _ _ _ h => h) (Or.inl ⟨by rfl, ?_⟩) ?_ ?_
              rotate_left
              ·intro w'
               go_simp
               with_reducible rfl
              rotate_left
              ·simp only [Act.put, List.setIfInBounds_toArray, List.set_cons_zero, List.set_cons_succ, i64_w, i32_w]
               rfl
              refine pure_ (i := 9) (N := some 84) (v := ?_) (a' := ?_) #[true, true, true, false, true, false, false, true, true, true, false, false, false, false, false, false, false, false, false, false, false, false, false, false, false, false, false, false, false, false, false] rfl rfl (any_of HT_.out (by kernel_rfl)) (fun _ _ _ h => h) (Or.inl ⟨by rfl, ?_⟩) ?_ ?_
              rotate_left
              ·intro w'
               go_simp
               with_reducible rfl
              rotate_left
              ·simp only [Act.put, List.setIfInBounds_toArray, List.set_cons_zero, List.set_cons_succ, i64_w, i32_w]
               rfl
              refine pure_ (i := 11) (N := some 86) (v := ?_) (a' := ?_) #[true, true, true, false, true, false, false, true, true, true, false, true, false, false, false, false, false, false, false, false, false, false, false, false, false, false, false, false, false, false, false] rfl rfl (any_of HT_.out (by kernel_rfl)) (fun _ _ _ h => h) (Or.inl ⟨by rfl, ?_⟩) ?_ ?_
              rotate_left
              ·intro w'
               go_simp
               with_reducible rfl
              rotate_left
              ·simp only [Act.put, List.setIfInBounds_toArray, List.set_cons_zero, List.set_cons_succ, i64_w, i32_w]
               rfl
              refine take_ (i := 3) (N := some 78) (v := ?_) (a' := ?_) #[true, true, true, true, true, false, false, true, true, true, false, true, false, false, false, false, false, false, false, false, false, false, false, false, false, false, false, false, false, false, false] rfl rfl (take_ofW HT_.out HW_.out (by kernel_rfl)) (fun _ _ _ h => h) (Or.inl ⟨by rfl, ?_⟩) hHeld ?_ ?_
              rotate_left
              ·rintro w' ⟨s0, s1, s2, s3, s4, s5, s6, s7, s8, s9⟩
               go_simp
               with_reducible rfl
              rotate_left
              ·simp only [Act.put, List.setIfInBounds_toArray, List.set_cons_zero, List.set_cons_succ, i64_w, i32_w]
               rfl
              refine take_ (i := 5) (N := some 80) (v := ?_) (a' := ?_) #[true, true, true, true, true, true, false, true, true, true, false, true, false, false, false, false, false, false, false, false, false, false, false, false, false, false, false, false, false, false, false] rfl rfl (take_ofW HT_.out HW_.out (by kernel_rfl)) (fun _ _ _ h => h) (Or.inl ⟨by rfl, ?_⟩) hHeld ?_ ?_
              rotate_left
              ·rintro w' ⟨s0, s1, s2, s3, s4, s5, s6, s7, s8, s9⟩
               go_simp
               with_reducible rfl
              rotate_left
              ·simp only [Act.put, List.setIfInBounds_toArray, List.set_cons_zero, List.set_cons_succ, i64_w, i32_w]
               rfl
              refine take_ (i := 10) (N := some 85) (v := ?_) (a' := ?_) #[true, true, true, true, true, true, false, true, true, true, true, true, false, false, false, false, false, false, false, false, false, false, false, false, false, false, false, false, false, false, false] rfl rfl (take_ofW HT_.out HW_.out (by kernel_rfl)) (fun _ _ _ h => h) (Or.inl ⟨by rfl, ?_⟩) hHeld ?_ ?_
              rotate_left
              ·rintro w' ⟨s0, s1, s2, s3, s4, s5, s6, s7, s8, s9⟩
               go_simp
               with_reducible rfl
              rotate_left
              ·simp only [Act.put, List.setIfInBounds_toArray, List.set_cons_zero, List.set_cons_succ, i64_w, i32_w]
               rfl
              refine one_ (i := 6) (N := some 81) #[true, true, true, true, true, true, true, true, true, true, true, true, false, false, false, false, false, false, false, false, false, false, false, false, false, false, false, false, false, false, false] rfl rfl (one_of HT_.out (by kernel_rfl)) (by decide) (fun K hK => ?_)
              refine goes_ Tryd.func39 (by kernel_rfl) rfl #[.agg #[.int .i64 ((rd_T68 t166 x14_4).f0), .int .i64 ((rd_T68 t166 x14_4).f1)], .int .i64 t169] (by rfl) rfl rfl (by (try simp only [List.map_toArray, List.map_cons, List.map_nil]); first | done | rfl | (simp only [*]; done) | (simp only [List.length_drop, List.length_take]; rfl)) ?_
              with_reducible refine (span_Has.calls ((rd_T68 t166 x14_4).f0) ((rd_T68 t166 x14_4).f1) t169 t183 _ A39.out).mono ?_
              rintro e w48 ⟨rfl, hb⟩
              have HS2_ := (hb.cell (World.block_lt_of_cell? _ _ (hHeld.2.2.1))).trans (hHeld.2.2.1)
              have HS3_ := (hb.cell (World.block_lt_of_cell? _ _ (hHeld.2.2.2.1))).trans (hHeld.2.2.2.1)
              have HS4_ := (hb.cell (World.block_lt_of_cell? _ _ (hHeld.2.2.2.2.1))).trans (hHeld.2.2.2.2.1)
              have HS5_ := (hb.cell (World.block_lt_of_cell? _ _ (hHeld.2.2.2.2.2.1))).trans (hHeld.2.2.2.2.2.1)
              have HS6_ := (hb.cell (World.block_lt_of_cell? _ _ (hHeld.2.2.2.2.2.2.1))).trans (hHeld.2.2.2.2.2.2.1)
              have HS7_ := (hb.cell (World.block_lt_of_cell? _ _ (hHeld.2.2.2.2.2.2.2.1))).trans (hHeld.2.2.2.2.2.2.2.1)
              have HS8_ := (hb.cell (World.block_lt_of_cell? _ _ (hHeld.2.2.2.2.2.2.2.2.1))).trans (hHeld.2.2.2.2.2.2.2.2.1)
              have HS9_ := (hb.cell (World.block_lt_of_cell? _ _ (hHeld.2.2.2.2.2.2.2.2.2))).trans (hHeld.2.2.2.2.2.2.2.2.2)
              refine ⟨_, rfl, ?_⟩
              have n0_ := qS (Kd.R_below (by (with_reducible repeat (first | apply Kd.R_alloc | apply Kd.R_drewN | apply Kd.R_drew)); exact HO_7.out) hb)
              have n1_ := qS (qB (g := gb173) (o := .cells #[.int .i64 t169, .int .i64 t170] 68 (0, 0)) (by (with_reducible repeat (first | refine qN ?_ _ | refine qD ?_ | refine qA ?_ _)); exact BK173.out) hb)
              have n2_ := qS (below_step (by repeat (first | (with_reducible first | exact HB.out | apply qpA | apply qpN | apply qp1 | refine qpS ?_ GE173.out) | exact HB.out)) hb)
              clear HO_7
              clear BK173
              clear HB
              have HO_7 := n0_
              have BK173 := n1_
              have HB := n2_
              clear n0_ n1_ n2_
              (try clear hb)
              (try clear hb2)
              (try clear hk)
              (try clear hi)
              refine hK.out _ _ ⟨(qC BK173.out 0).trans rfl, (qC BK173.out 1).trans rfl, HS2_, HS3_, HS4_, HS5_, HS6_, HS7_, HS8_, HS9_⟩ (fun hHeld => ?_)
              clear hK K
              refine norm_ (a' := ?_) ?_ ?_
              rotate_left
              ·show Act.put _ (some 81) _ = _
               simp only [Act.put, List.setIfInBounds_toArray, List.set_cons_zero, List.set_cons_succ, i64_w, i32_w]
               rfl
              refine one_ (i := 12) (N := some 87) #[true, true, true, true, true, true, true, true, true, true, true, true, true, false, false, false, false, false, false, false, false, false, false, false, false, false, false, false, false, false, false] rfl rfl (one_of HT_.out (by kernel_rfl)) (by decide) (fun K hK => ?_)
              refine goes_ Tryd.func39 (by kernel_rfl) rfl #[.agg #[.int .i64 ((rd_T68 t166 x14_4).f0), .int .i64 ((rd_T68 t166 x14_4).f1)], .int .i64 x13_32] (by rfl) rfl rfl (by (try simp only [List.map_toArray, List.map_cons, List.map_nil]); first | done | rfl | (simp only [*]; done) | (simp only [List.length_drop, List.length_take]; rfl)) ?_
              with_reducible refine (span_Has.calls ((rd_T68 t166 x14_4).f0) ((rd_T68 t166 x14_4).f1) x13_32 t185 _ A40.out).mono ?_
              rintro e w49 ⟨rfl, hb⟩
              have HS2_ := (hb.cell (World.block_lt_of_cell? _ _ (hHeld.2.2.1))).trans (hHeld.2.2.1)
              have HS3_ := (hb.cell (World.block_lt_of_cell? _ _ (hHeld.2.2.2.1))).trans (hHeld.2.2.2.1)
              have HS4_ := (hb.cell (World.block_lt_of_cell? _ _ (hHeld.2.2.2.2.1))).trans (hHeld.2.2.2.2.1)
              have HS5_ := (hb.cell (World.block_lt_of_cell? _ _ (hHeld.2.2.2.2.2.1))).trans (hHeld.2.2.2.2.2.1)
              have HS6_ := (hb.cell (World.block_lt_of_cell? _ _ (hHeld.2.2.2.2.2.2.1))).trans (hHeld.2.2.2.2.2.2.1)
              have HS7_ := (hb.cell (World.block_lt_of_cell? _ _ (hHeld.2.2.2.2.2.2.2.1))).trans (hHeld.2.2.2.2.2.2.2.1)
              have HS8_ := (hb.cell (World.block_lt_of_cell? _ _ (hHeld.2.2.2.2.2.2.2.2.1))).trans (hHeld.2.2.2.2.2.2.2.2.1)
              have HS9_ := (hb.cell (World.block_lt_of_cell? _ _ (hHeld.2.2.2.2.2.2.2.2.2))).trans (hHeld.2.2.2.2.2.2.2.2.2)
              refine ⟨_, rfl, ?_⟩
              have n0_ := qS (Kd.R_below (by (with_reducible repeat (first | apply Kd.R_alloc | apply Kd.R_drewN | apply Kd.R_drew)); exact HO_7.out) hb)
              have n1_ := qS (qB (g := gb173) (o := .cells #[.int .i64 t169, .int .i64 t170] 68 (0, 0)) (by (with_reducible repeat (first | refine qN ?_ _ | refine qD ?_ | refine qA ?_ _)); exact BK173.out) hb)
              have n2_ := qS (below_step (by repeat (first | (with_reducible first | exact HB.out | apply qpA | apply qpN | apply qp1 | refine qpS ?_ GE173.out) | exact HB.out)) hb)
              clear HO_7
              clear BK173
              clear HB
              have HO_7 := n0_
              have BK173 := n1_
              have HB := n2_
              clear n0_ n1_ n2_
              (try clear hb)
              (try clear hb2)
              (try clear hk)
              (try clear hi)
              refine hK.out _ _ ⟨(qC BK173.out 0).trans rfl, (qC BK173.out 1).trans rfl, HS2_, HS3_, HS4_, HS5_, HS6_, HS7_, HS8_, HS9_⟩ (fun hHeld => ?_)
              clear hK K
              refine norm_ (a' := ?_) ?_ ?_
              rotate_left
              ·show Act.put _ (some 87) _ = _
               simp only [Act.put, List.setIfInBounds_toArray, List.set_cons_zero, List.set_cons_succ, i64_w, i32_w]
               rfl
              refine pure_ (i := 13) (N := some 88) (v := ?_) (a' := ?_) #[true, true, true, true, true, true, true, true, true, true, true, true, true, true, false, false, false, false, false, false, false, false, false, false, false, false, false, false, false, false, false] rfl rfl (any_of HT_.out (by kernel_rfl)) (fun _ _ _ h => h) (Or.inl ⟨by rfl, ?_⟩) ?_ ?_
              rotate_left
              ·intro w'
               go_simp
               with_reducible rfl
              rotate_left
              ·simp only [Act.put, List.setIfInBounds_toArray, List.set_cons_zero, List.set_cons_succ, i64_w, i32_w]
               rfl
              refine pure_ (i := 14) (N := some 89) (v := ?_) (a' := ?_) #[true, true, true, true, true, true, true, true, true, true, true, true, true, true, true, false, false, false, false, false, false, false, false, false, false, false, false, false, false, false, false] rfl rfl (any_of HT_.out (by kernel_rfl)) (fun _ _ _ h => h) (Or.inl ⟨by rfl, ?_⟩) ?_ ?_
              rotate_left
              ·intro w'
               go_simp
               with_reducible rfl
              rotate_left
              ·simp only [Act.put, List.setIfInBounds_toArray, List.set_cons_zero, List.set_cons_succ, i64_w, i32_w]
               rfl
              refine pure_ (i := 15) (N := some 90) (v := ?_) (a' := ?_) #[true, true, true, true, true, true, true, true, true, true, true, true, true, true, true, true, false, false, false, false, false, false, false, false, false, false, false, false, false, false, false] rfl rfl (any_of HT_.out (by kernel_rfl)) (fun _ _ _ h => h) (Or.inl ⟨by rfl, ?_⟩) ?_ ?_
              rotate_left
              ·intro w'
               go_simp
               with_reducible rfl
              rotate_left
              ·simp only [Act.put, List.setIfInBounds_toArray, List.set_cons_zero, List.set_cons_succ, i64_w, i32_w]
               rfl
              refine pure_ (i := 16) (N := some 91) (v := ?_) (a' := ?_) #[true, true, true, true, true, true, true, true, true, true, true, true, true, true, true, true, true, false, false, false, false, false, false, false, false, false, false, false, false, false, false] rfl rfl (any_of HT_.out (by kernel_rfl)) (fun _ _ _ h => h) (Or.inl ⟨by rfl, ?_⟩) ?_ ?_
              rotate_left
              ·intro w'
               go_simp
               with_reducible rfl
              rotate_left
              ·simp only [Act.put, List.setIfInBounds_toArray, List.set_cons_zero, List.set_cons_succ, i64_w, i32_w]
               rfl
              refine pure_ (i := 17) (N := some 92) (v := ?_) (a' := ?_) #[true, true, true, true, true, true, true, true, true, true, true, true, true, true, true, true, true, true, false, false, false, false, false, false, false, false, false, false, false, false, false] rfl rfl (any_of HT_.out (by kernel_rfl)) (fun _ _ _ h => h) (Or.inl ⟨by rfl, ?_⟩) ?_ ?_
              rotate_left
              ·intro w'
               go_simp
               with_reducible rfl
              rotate_left
              ·simp only [Act.put, List.setIfInBounds_toArray, List.set_cons_zero, List.set_cons_succ, i64_w, i32_w]
               rfl
              refine pure_ (i := 19) (N := some 94) (v := ?_) (a' := ?_) #[true, true, true, true, true, true, true, true, true, true, true, true, true, true, true, true, true, true, false, true, false, false, false, false, false, false, false, false, false, false, false] rfl rfl (any_of HT_.out (by kernel_rfl)) (fun _ _ _ h => h) (Or.inl ⟨by rfl, ?_⟩) ?_ ?_
              rotate_left
              ·intro w'
               go_simp
               with_reducible rfl
              rotate_left
              ·simp only [Act.put, List.setIfInBounds_toArray, List.set_cons_zero, List.set_cons_succ, i64_w, i32_w]
               rfl
              refine pure_ (i := 22) (N := some 97) (v := ?_) (a' := ?_) #[true, true, true, true, true, true, true, true, true, true, true, true, true, true, true, true, true, true, false, true, false, false, true, false, false, false, false, false, false, false, false] rfl rfl (any_of HT_.out (by kernel_rfl)) (fun _ _ _ h => h) (Or.inl ⟨by rfl, ?_⟩) ?_ ?_
              rotate_left
              ·intro w'
               go_simp
               with_reducible rfl
              rotate_left
              ·simp only [Act.put, List.setIfInBounds_toArray, List.set_cons_zero, List.set_cons_succ, i64_w, i32_w]
               rfl
              refine pure_ (i := 23) (N := some 98) (v := ?_) (a' := ?_) #[true, true, true, true, true, true, true, true, true, true, true, true, true, true, true, true, true, true, false, true, false, false, true, true, false, false, false, false, false, false, false] rfl rfl (any_of HT_.out (by kernel_rfl)) (fun _ _ _ h => h) (Or.inl ⟨by rfl, ?_⟩) ?_ ?_
              rotate_left
              ·intro w'
               go_simp
               with_reducible rfl
              rotate_left
              ·simp only [Act.put, List.setIfInBounds_toArray, List.set_cons_zero, List.set_cons_succ, i64_w, i32_w]
               rfl
              refine pure_ (i := 24) (N := some 99) (v := ?_) (a' := ?_) #[true, true, true, true, true, true, true, true, true, true, true, true, true, true, true, true, true, true, false, true, false, false, true, true, true, false, false, false, false, false, false] rfl rfl (any_of HT_.out (by kernel_rfl)) (fun _ _ _ h => h) (Or.inl ⟨by rfl, ?_⟩) ?_ ?_
              rotate_left
              ·intro w'
               go_simp
               with_reducible rfl
              rotate_left
              ·simp only [Act.put, List.setIfInBounds_toArray, List.set_cons_zero, List.set_cons_succ, i64_w, i32_w]
               rfl
              refine pure_ (i := 26) (N := some 101) (v := ?_) (a' := ?_) #[true, true, true, true, true, true, true, true, true, true, true, true, true, true, true, true, true, true, false, true, false, false, true, true, true, false, true, false, false, false, false] rfl rfl (any_of HT_.out (by kernel_rfl)) (fun _ _ _ h => h) (Or.inl ⟨by rfl, ?_⟩) ?_ ?_
              rotate_left
              ·intro w'
               go_simp
               with_reducible rfl
              rotate_left
              ·simp only [Act.put, List.setIfInBounds_toArray, List.set_cons_zero, List.set_cons_succ, i64_w, i32_w]
               rfl
              refine take_ (i := 18) (N := some 93) (v := ?_) (a' := ?_) #[true, true, true, true, true, true, true, true, true, true, true, true, true, true, true, true, true, true, true, true, false, false, true, true, true, false, true, false, false, false, false] rfl rfl (take_ofW HT_.out HW_.out (by kernel_rfl)) (fun _ _ _ h => h) (Or.inl ⟨by rfl, ?_⟩) hHeld ?_ ?_
              rotate_left
              ·rintro w' ⟨s0, s1, s2, s3, s4, s5, s6, s7, s8, s9⟩
               go_simp
               with_reducible rfl
              rotate_left
              ·simp only [Act.put, List.setIfInBounds_toArray, List.set_cons_zero, List.set_cons_succ, i64_w, i32_w]
               rfl
              refine take_ (i := 20) (N := some 95) (v := ?_) (a' := ?_) #[true, true, true, true, true, true, true, true, true, true, true, true, true, true, true, true, true, true, true, true, true, false, true, true, true, false, true, false, false, false, false] rfl rfl (take_ofW HT_.out HW_.out (by kernel_rfl)) (fun _ _ _ h => h) (Or.inl ⟨by rfl, ?_⟩) hHeld ?_ ?_
              rotate_left
              ·rintro w' ⟨s0, s1, s2, s3, s4, s5, s6, s7, s8, s9⟩
               go_simp
               with_reducible rfl
              rotate_left
              ·simp only [Act.put, List.setIfInBounds_toArray, List.set_cons_zero, List.set_cons_succ, i64_w, i32_w]
               rfl
              refine take_ (i := 25) (N := some 100) (v := ?_) (a' := ?_) #[true, true, true, true, true, true, true, true, true, true, true, true, true, true, true, true, true, true, true, true, true, false, true, true, true, true, true, false, false, false, false] rfl rfl (take_ofW HT_.out HW_.out (by kernel_rfl)) (fun _ _ _ h => h) (Or.inl ⟨by rfl, ?_⟩) hHeld ?_ ?_
              rotate_left
              ·rintro w' ⟨s0, s1, s2, s3, s4, s5, s6, s7, s8, s9⟩
               go_simp
               with_reducible rfl
              rotate_left
              ·simp only [Act.put, List.setIfInBounds_toArray, List.set_cons_zero, List.set_cons_succ, i64_w, i32_w]
               rfl
              refine take_ (i := 27) (N := some 102) (v := ?_) (a' := ?_) #[true, true, true, true, true, true, true, true, true, true, true, true, true, true, true, true, true, true, true, true, true, false, true, true, true, true, true, true, false, false, false] rfl rfl (take_ofW HT_.out HW_.out (by kernel_rfl)) (fun _ _ _ h => h) (Or.inl ⟨by rfl, ?_⟩) hHeld ?_ ?_
              rotate_left
              ·rintro w' ⟨s0, s1, s2, s3, s4, s5, s6, s7, s8, s9⟩
               go_simp
               with_reducible rfl
              rotate_left
              ·simp only [Act.put, List.setIfInBounds_toArray, List.set_cons_zero, List.set_cons_succ, i64_w, i32_w]
               rfl
              refine one_ (i := 21) (N := some 96) #[true, true, true, true, true, true, true, true, true, true, true, true, true, true, true, true, true, true, true, true, true, true, true, true, true, true, true, true, false, false, false] rfl rfl (one_of HT_.out (by kernel_rfl)) (by decide) (fun K hK => ?_)
              refine goes_ Tryd.func39 (by kernel_rfl) rfl #[.agg #[.int .i64 ((rd_T68 t166 x14_4).f0), .int .i64 ((rd_T68 t166 x14_4).f1)], .int .i64 t169] (by rfl) rfl rfl (by (try simp only [List.map_toArray, List.map_cons, List.map_nil]); first | done | rfl | (simp only [*]; done) | (simp only [List.length_drop, List.length_take]; rfl)) ?_
              with_reducible refine (span_Has.calls ((rd_T68 t166 x14_4).f0) ((rd_T68 t166 x14_4).f1) t169 t187 _ A45.out).mono ?_
              rintro e w50 ⟨rfl, hb⟩
              have HS2_ := (hb.cell (World.block_lt_of_cell? _ _ (hHeld.2.2.1))).trans (hHeld.2.2.1)
              have HS3_ := (hb.cell (World.block_lt_of_cell? _ _ (hHeld.2.2.2.1))).trans (hHeld.2.2.2.1)
              have HS4_ := (hb.cell (World.block_lt_of_cell? _ _ (hHeld.2.2.2.2.1))).trans (hHeld.2.2.2.2.1)
              have HS5_ := (hb.cell (World.block_lt_of_cell? _ _ (hHeld.2.2.2.2.2.1))).trans (hHeld.2.2.2.2.2.1)
              have HS6_ := (hb.cell (World.block_lt_of_cell? _ _ (hHeld.2.2.2.2.2.2.1))).trans (hHeld.2.2.2.2.2.2.1)
              have HS7_ := (hb.cell (World.block_lt_of_cell? _ _ (hHeld.2.2.2.2.2.2.2.1))).trans (hHeld.2.2.2.2.2.2.2.1)
              have HS8_ := (hb.cell (World.block_lt_of_cell? _ _ (hHeld.2.2.2.2.2.2.2.2.1))).trans (hHeld.2.2.2.2.2.2.2.2.1)
              have HS9_ := (hb.cell (World.block_lt_of_cell? _ _ (hHeld.2.2.2.2.2.2.2.2.2))).trans (hHeld.2.2.2.2.2.2.2.2.2)
              refine ⟨_, rfl, ?_⟩
              have n0_ := qS (Kd.R_below (by (with_reducible repeat (first | apply Kd.R_alloc | apply Kd.R_drewN | apply Kd.R_drew)); exact HO_7.out) hb)
              have n1_ := qS (qB (g := gb173) (o := .cells #[.int .i64 t169, .int .i64 t170] 68 (0, 0)) (by (with_reducible repeat (first | refine qN ?_ _ | refine qD ?_ | refine qA ?_ _)); exact BK173.out) hb)
              have n2_ := qS (below_step (by repeat (first | (with_reducible first | exact HB.out | apply qpA | apply qpN | apply qp1 | refine qpS ?_ GE173.out) | exact HB.out)) hb)
              clear HO_7
              clear BK173
              clear HB
              have HO_7 := n0_
              have BK173 := n1_
              have HB := n2_
              clear n0_ n1_ n2_
              (try clear hb)
              (try clear hb2)
              (try clear hk)
              (try clear hi)
              refine hK.out _ _ ⟨(qC BK173.out 0).trans rfl, (qC BK173.out 1).trans rfl, HS2_, HS3_, HS4_, HS5_, HS6_, HS7_, HS8_, HS9_⟩ (fun hHeld => ?_)
              clear hK K
              refine norm_ (a' := ?_) ?_ ?_
              rotate_left
              ·show Act.put _ (some 96) _ = _
               simp only [Act.put, List.setIfInBounds_toArray, List.set_cons_zero, List.set_cons_succ, i64_w, i32_w]
               rfl
              refine one_ (i := 28) (N := some 103) #[true, true, true, true, true, true, true, true, true, true, true, true, true, true, true, true, true, true, true, true, true, true, true, true, true, true, true, true, true, false, false] rfl rfl (one_of HT_.out (by kernel_rfl)) (by decide) (fun K hK => ?_)
              refine goes_ Tryd.func39 (by kernel_rfl) rfl #[.agg #[.int .i64 ((rd_T68 t166 x14_4).f0), .int .i64 ((rd_T68 t166 x14_4).f1)], .int .i64 t170] (by rfl) rfl rfl (by (try simp only [List.map_toArray, List.map_cons, List.map_nil]); first | done | rfl | (simp only [*]; done) | (simp only [List.length_drop, List.length_take]; rfl)) ?_
              with_reducible refine (span_Has.calls ((rd_T68 t166 x14_4).f0) ((rd_T68 t166 x14_4).f1) t170 t189 _ A46.out).mono ?_
              rintro e w51 ⟨rfl, hb⟩
              have HS2_ := (hb.cell (World.block_lt_of_cell? _ _ (hHeld.2.2.1))).trans (hHeld.2.2.1)
              have HS3_ := (hb.cell (World.block_lt_of_cell? _ _ (hHeld.2.2.2.1))).trans (hHeld.2.2.2.1)
              have HS4_ := (hb.cell (World.block_lt_of_cell? _ _ (hHeld.2.2.2.2.1))).trans (hHeld.2.2.2.2.1)
              have HS5_ := (hb.cell (World.block_lt_of_cell? _ _ (hHeld.2.2.2.2.2.1))).trans (hHeld.2.2.2.2.2.1)
              have HS6_ := (hb.cell (World.block_lt_of_cell? _ _ (hHeld.2.2.2.2.2.2.1))).trans (hHeld.2.2.2.2.2.2.1)
              have HS7_ := (hb.cell (World.block_lt_of_cell? _ _ (hHeld.2.2.2.2.2.2.2.1))).trans (hHeld.2.2.2.2.2.2.2.1)
              have HS8_ := (hb.cell (World.block_lt_of_cell? _ _ (hHeld.2.2.2.2.2.2.2.2.1))).trans (hHeld.2.2.2.2.2.2.2.2.1)
              have HS9_ := (hb.cell (World.block_lt_of_cell? _ _ (hHeld.2.2.2.2.2.2.2.2.2))).trans (hHeld.2.2.2.2.2.2.2.2.2)
              refine ⟨_, rfl, ?_⟩
              have n0_ := qS (Kd.R_below (by (with_reducible repeat (first | apply Kd.R_alloc | apply Kd.R_drewN | apply Kd.R_drew)); exact HO_7.out) hb)
              have n1_ := qS (qB (g := gb173) (o := .cells #[.int .i64 t169, .int .i64 t170] 68 (0, 0)) (by (with_reducible repeat (first | refine qN ?_ _ | refine qD ?_ | refine qA ?_ _)); exact BK173.out) hb)
              have n2_ := qS (below_step (by repeat (first | (with_reducible first | exact HB.out | apply qpA | apply qpN | apply qp1 | refine qpS ?_ GE173.out) | exact HB.out)) hb)
              clear HO_7
              clear BK173
              clear HB
              have HO_7 := n0_
              have BK173 := n1_
              have HB := n2_
              clear n0_ n1_ n2_
              (try clear hb)
              (try clear hb2)
              (try clear hk)
              (try clear hi)
              refine hK.out _ _ ⟨(qC BK173.out 0).trans rfl, (qC BK173.out 1).trans rfl, HS2_, HS3_, HS4_, HS5_, HS6_, HS7_, HS8_, HS9_⟩ (fun hHeld => ?_)
              clear hK K
              refine norm_ (a' := ?_) ?_ ?_
              rotate_left
              ·show Act.put _ (some 103) _ = _
               simp only [Act.put, List.setIfInBounds_toArray, List.set_cons_zero, List.set_cons_succ, i64_w, i32_w]
               rfl
              refine pure_ (i := 29) (N := some 104) (v := ?_) (a' := ?_) #[true, true, true, true, true, true, true, true, true, true, true, true, true, true, true, true, true, true, true, true, true, true, true, true, true, true, true, true, true, true, false] rfl rfl (any_of HT_.out (by kernel_rfl)) (fun _ _ _ h => h) (Or.inl ⟨by rfl, ?_⟩) ?_ ?_
              rotate_left
              ·intro w'
               go_simp
               with_reducible rfl
              rotate_left
              ·simp only [Act.put, List.setIfInBounds_toArray, List.set_cons_zero, List.set_cons_succ, i64_w, i32_w]
               rfl
              refine pure_ (i := 30) (N := some 105) (v := ?_) (a' := ?_) #[true, true, true, true, true, true, true, true, true, true, true, true, true, true, true, true, true, true, true, true, true, true, true, true, true, true, true, true, true, true, true] rfl rfl (any_of HT_.out (by kernel_rfl)) (fun _ _ _ h => h) (Or.inl ⟨by rfl, ?_⟩) ?_ ?_
              rotate_left
              ·intro w'
               go_simp
               with_reducible rfl
              rotate_left
              ·simp only [Act.put, List.setIfInBounds_toArray, List.set_cons_zero, List.set_cons_succ, i64_w, i32_w]
               rfl
              refine done_ (done_of HT_.out (by kernel_rfl)) ?_
              try go_wp2
              go_meet
              case rel => exact ⟨_, ((t187 != t189)), (by first | rfl | (simp; done) | (simp [*]; done)), H', ⟨by have := HJ5.out; have := HJ27.out; have := HJ32.out; have := HK4.out; first | omega | exact Nat.le_refl _⟩, ⟨by (with_reducible repeat (first | apply Kd.R_alloc | apply Kd.R_drewN | apply Kd.R_drew)); exact HO_7.out⟩, ⟨by (with_reducible repeat (first | refine qN ?_ _ | refine qD ?_ | refine qA ?_ _)); exact BK173.out⟩, ⟨by repeat (first | (with_reducible first | exact HB.out | apply qpA | apply qpN | apply qp1 | refine qpS ?_ GE173.out) | exact HB.out)⟩⟩
            ·rw [if_neg c38] at H
             exact absurd H (by simp)
           case rest =>
            clear HC37
            try clear p1
            try clear q1
            try clear hx1
            try clear p2
            try clear c3
            try clear c4
            try clear p18
            try clear q18
            try clear hx18
            try clear c38
            try clear c39
            try clear c41
            try clear c41b0
            try clear c41b1
            try clear c41b2
            try clear hx182_0
            try clear hx182_1
            try clear hx184_0
            try clear hx184_1
            try clear hx186_0
            try clear hx186_1
            try clear hx188_0
            try clear hx188_1
            try clear p182
            try clear p184
            try clear p186
            try clear p188
            try clear q182
            try clear q184
            try clear q186
            try clear q188
            obtain ⟨kq, x105_36, rfl, HA, HJ36, HO_7, BK173, HB⟩ := hcut
            cases kq with
            | zero => exact absurd HA.out (by simp [fuseelaw13_SpanMost.j4])
            | succ kj36 =>
             have H := HA.out
             clear HA
             simp only [fuseelaw13_SpanMost.j4] at H
             by_cases c52 : x105_36 = true
             ·subst c52
              have H1 : (none) = some r := by rw [if_pos rfl] at H; exact H
              clear H
              have H := H1
              clear H1
              exact absurd H (by simp)
             ·replace c52 := Bool.eq_false_iff.mpr c52
              subst c52
              have H1 : (if 0 ≤ x14_4 then (if x14_4 < (t166.length : Int) then ((span_Has.f ((rd_T68 t166 x14_4).f0) ((rd_T68 t166 x14_4).f1) x13_32).bind fun t191 => (if t191 = true then ((span_Has.f ((rd_T68 t166 x14_4).f0) ((rd_T68 t166 x14_4).f1) a1).bind fun t193 => (if t193 = true then (fuseelaw13_SpanMost.l0 kj36 a1 t166 t171 (wrap64 (x11_4 + 1)) (wrap64 (x12_4 + 1)) x13_32 (wrap64 (x14_4 + 1)) t169 t170) else (fuseelaw13_SpanMost.l0 kj36 a1 t166 t171 (wrap64 (x11_4 + 1)) x12_4 x13_32 (wrap64 (x14_4 + 1)) t169 t170))) else ((span_Has.f ((rd_T68 t166 x14_4).f0) ((rd_T68 t166 x14_4).f1) a1).bind fun t195 => (if t195 = true then (fuseelaw13_SpanMost.l0 kj36 a1 t166 t171 x11_4 (wrap64 (x12_4 + 1)) x13_32 (wrap64 (x14_4 + 1)) t169 t170) else (fuseelaw13_SpanMost.l0 kj36 a1 t166 t171 x11_4 x12_4 x13_32 (wrap64 (x14_4 + 1)) t169 t170))))) else (none)) else (none)) = some r := by rw [if_neg (show ¬ (false = true) by decide)] at H; exact H
              clear H
              have H := H1
              clear H1
              by_cases c53 : 0 ≤ x14_4
              ·rw [if_pos c53] at H
               have c53b0 : decide (0 ≤ x14_4) = true := decide_eq_true c53
               clear c53
               by_cases c54 : x14_4 < (t166.length : Int)
               ·rw [if_pos c54] at H
                have c54b0 : decide (x14_4 < (t166.length : Int)) = true := decide_eq_true c54
                clear c54
                replace H := Option.bind_eq_some_iff.mp H
                obtain ⟨t191, A550, H⟩ := H
                replace H : (if t191 = true then ((span_Has.f ((rd_T68 t166 x14_4).f0) ((rd_T68 t166 x14_4).f1) a1).bind fun t193 => (if t193 = true then (fuseelaw13_SpanMost.l0 kj36 a1 t166 t171 (wrap64 (x11_4 + 1)) (wrap64 (x12_4 + 1)) x13_32 (wrap64 (x14_4 + 1)) t169 t170) else (fuseelaw13_SpanMost.l0 kj36 a1 t166 t171 (wrap64 (x11_4 + 1)) x12_4 x13_32 (wrap64 (x14_4 + 1)) t169 t170))) else ((span_Has.f ((rd_T68 t166 x14_4).f0) ((rd_T68 t166 x14_4).f1) a1).bind fun t195 => (if t195 = true then (fuseelaw13_SpanMost.l0 kj36 a1 t166 t171 x11_4 (wrap64 (x12_4 + 1)) x13_32 (wrap64 (x14_4 + 1)) t169 t170) else (fuseelaw13_SpanMost.l0 kj36 a1 t166 t171 x11_4 x12_4 x13_32 (wrap64 (x14_4 + 1)) t169 t170)))) = some r := H
                have A55 := qS A550
                clear A550
                by_cases c56 : t191 = true
                ·subst c56
                 have H1 : ((span_Has.f ((rd_T68 t166 x14_4).f0) ((rd_T68 t166 x14_4).f1) a1).bind fun t193 => (if t193 = true then (fuseelaw13_SpanMost.l0 kj36 a1 t166 t171 (wrap64 (x11_4 + 1)) (wrap64 (x12_4 + 1)) x13_32 (wrap64 (x14_4 + 1)) t169 t170) else (fuseelaw13_SpanMost.l0 kj36 a1 t166 t171 (wrap64 (x11_4 + 1)) x12_4 x13_32 (wrap64 (x14_4 + 1)) t169 t170))) = some r := by rw [if_pos rfl] at H; exact H
                 clear H
                 have H := H1
                 clear H1
                 replace H := Option.bind_eq_some_iff.mp H
                 obtain ⟨t193, A570, H⟩ := H
                 replace H : (if t193 = true then (fuseelaw13_SpanMost.l0 kj36 a1 t166 t171 (wrap64 (x11_4 + 1)) (wrap64 (x12_4 + 1)) x13_32 (wrap64 (x14_4 + 1)) t169 t170) else (fuseelaw13_SpanMost.l0 kj36 a1 t166 t171 (wrap64 (x11_4 + 1)) x12_4 x13_32 (wrap64 (x14_4 + 1)) t169 t170)) = some r := H
                 have A57 := qS A570
                 clear A570
                 by_cases c58 : t193 = true
                 ·subst c58
                  have H1 : (fuseelaw13_SpanMost.l0 kj36 a1 t166 t171 (wrap64 (x11_4 + 1)) (wrap64 (x12_4 + 1)) x13_32 (wrap64 (x14_4 + 1)) t169 t170) = some r := by rw [if_pos rfl] at H; exact H
                  clear H
                  have H := H1
                  clear H1
                  have H' := qS H
                  clear H
                  have p190 : 0 ≤ (x14_4 : Int) := of_decide_eq_true (by first | (with_reducible assumption) | assumption)
                  have q190 : x14_4 < (t166.length : Int) := of_decide_eq_true (by first | (with_reducible assumption) | assumption)
                  obtain ⟨ad190, e190, hx190_0, hx190_1⟩ := at_T68 (Kd.R_reads' HO_7.out).2.2 x14_4 p190 q190
                  cases e190
                  replace p190 := eq_true p190
                  replace q190 := eq_true q190
                  go_wp2_with (first | ((with_reducible refine gate_callee (f := 39) rfl ?_); refine goesL_ (some 111) rfl rfl Tryd.func39 (by kernel_rfl) rfl #[.agg #[.int .i64 ((rd_T68 t166 x14_4).f0), .int .i64 ((rd_T68 t166 x14_4).f1)], .int .i64 x13_32] rfl (by (try simp only [List.map_toArray, List.map_cons, List.map_nil]); first | done | rfl | (simp only [*]; done) | (simp only [List.length_drop, List.length_take]; rfl)) ?_; (with_reducible refine (span_Has.calls ((rd_T68 t166 x14_4).f0) ((rd_T68 t166 x14_4).f1) x13_32 true _ A55.out).mono ?_); rintro e w59 ⟨rfl, hb⟩; refine ⟨_, rfl, ?_⟩; have n0_ := qS (Kd.R_below (by (with_reducible repeat (first | apply Kd.R_alloc | apply Kd.R_drewN | apply Kd.R_drew)); exact HO_7.out) hb); have n1_ := qS (qB (g := gb173) (o := .cells #[.int .i64 t169, .int .i64 t170] 68 (0, 0)) (by (with_reducible repeat (first | refine qN ?_ _ | refine qD ?_ | refine qA ?_ _)); exact BK173.out) hb); have n2_ := qS (below_step (by repeat (first | (with_reducible first | exact HB.out | apply qpA | apply qpN | apply qp1 | refine qpS ?_ GE173.out) | exact HB.out)) hb); clear HO_7; clear BK173; clear HB; have HO_7 := n0_; have BK173 := n1_; have HB := n2_; clear n0_ n1_ n2_; (try clear hb); (try clear hb2); (try clear hk); (try clear hi); have p192 : 0 ≤ (x14_4 : Int) := of_decide_eq_true (by first | (with_reducible assumption) | assumption); have q192 : x14_4 < (t166.length : Int) := of_decide_eq_true (by first | (with_reducible assumption) | assumption); obtain ⟨ad192, e192, hx192_0, hx192_1⟩ := at_T68 (Kd.R_reads' HO_7.out).2.2 x14_4 p192 q192; obtain rfl : ad190 = ad192 := (by injection e192); replace p192 := eq_true p192; replace q192 := eq_true q192) | ((with_reducible refine gate_callee (f := 39) rfl ?_); refine goesL_ (some 119) rfl rfl Tryd.func39 (by kernel_rfl) rfl #[.agg #[.int .i64 ((rd_T68 t166 x14_4).f0), .int .i64 ((rd_T68 t166 x14_4).f1)], .int .i64 a1] rfl (by (try simp only [List.map_toArray, List.map_cons, List.map_nil]); first | done | rfl | (simp only [*]; done) | (simp only [List.length_drop, List.length_take]; rfl)) ?_; (with_reducible refine (span_Has.calls ((rd_T68 t166 x14_4).f0) ((rd_T68 t166 x14_4).f1) a1 true _ A57.out).mono ?_); rintro e w60 ⟨rfl, hb⟩; refine ⟨_, rfl, ?_⟩; have n0_ := qS (Kd.R_below (by (with_reducible repeat (first | apply Kd.R_alloc | apply Kd.R_drewN | apply Kd.R_drew)); exact HO_7.out) hb); have n1_ := qS (qB (g := gb173) (o := .cells #[.int .i64 t169, .int .i64 t170] 68 (0, 0)) (by (with_reducible repeat (first | refine qN ?_ _ | refine qD ?_ | refine qA ?_ _)); exact BK173.out) hb); have n2_ := qS (below_step (by repeat (first | (with_reducible first | exact HB.out | apply qpA | apply qpN | apply qp1 | refine qpS ?_ GE173.out) | exact HB.out)) hb); clear HO_7; clear BK173; clear HB; have HO_7 := n0_; have BK173 := n1_; have HB := n2_; clear n0_ n1_ n2_; (try clear hb); (try clear hb2); (try clear hk); (try clear hi)))
                  go_roundg kj36
                  case measure => have := HJ5.out; have := HJ27.out; have := HJ32.out; have := HK4.out; have := HJ36.out; omega
                  case rel => exact ⟨(wrap64 (x11_4 + 1)), (wrap64 (x12_4 + 1)), (wrap64 (x14_4 + 1)), (by first | rfl | (simp; done) | (simp [*]; done)), (by first | rfl | (simp; done) | (simp [*]; done)), (by first | rfl | (simp; done) | (simp [*]; done)), H', ⟨by have := HJ5.out; have := HJ27.out; have := HJ32.out; have := HK4.out; have := HJ36.out; omega⟩, ⟨by (with_reducible repeat (first | apply Kd.R_alloc | apply Kd.R_drewN | apply Kd.R_drew)); exact HO_7.out⟩, ⟨by (with_reducible repeat (first | refine qN ?_ _ | refine qD ?_ | refine qA ?_ _)); exact BK173.out⟩, ⟨by repeat (first | (with_reducible first | exact HB.out | apply qpA | apply qpN | apply qp1 | refine qpS ?_ GE173.out) | exact HB.out)⟩⟩
                 ·replace c58 := Bool.eq_false_iff.mpr c58
                  subst c58
                  have H1 : (fuseelaw13_SpanMost.l0 kj36 a1 t166 t171 (wrap64 (x11_4 + 1)) x12_4 x13_32 (wrap64 (x14_4 + 1)) t169 t170) = some r := by rw [if_neg (show ¬ (false = true) by decide)] at H; exact H
                  clear H
                  have H := H1
                  clear H1
                  have H' := qS H
                  clear H
                  have p190 : 0 ≤ (x14_4 : Int) := of_decide_eq_true (by first | (with_reducible assumption) | assumption)
                  have q190 : x14_4 < (t166.length : Int) := of_decide_eq_true (by first | (with_reducible assumption) | assumption)
                  obtain ⟨ad190, e190, hx190_0, hx190_1⟩ := at_T68 (Kd.R_reads' HO_7.out).2.2 x14_4 p190 q190
                  cases e190
                  replace p190 := eq_true p190
                  replace q190 := eq_true q190
                  go_wp2_with (first | ((with_reducible refine gate_callee (f := 39) rfl ?_); refine goesL_ (some 111) rfl rfl Tryd.func39 (by kernel_rfl) rfl #[.agg #[.int .i64 ((rd_T68 t166 x14_4).f0), .int .i64 ((rd_T68 t166 x14_4).f1)], .int .i64 x13_32] rfl (by (try simp only [List.map_toArray, List.map_cons, List.map_nil]); first | done | rfl | (simp only [*]; done) | (simp only [List.length_drop, List.length_take]; rfl)) ?_; (with_reducible refine (span_Has.calls ((rd_T68 t166 x14_4).f0) ((rd_T68 t166 x14_4).f1) x13_32 true _ A55.out).mono ?_); rintro e w61 ⟨rfl, hb⟩; refine ⟨_, rfl, ?_⟩; have n0_ := qS (Kd.R_below (by (with_reducible repeat (first | apply Kd.R_alloc | apply Kd.R_drewN | apply Kd.R_drew)); exact HO_7.out) hb); have n1_ := qS (qB (g := gb173) (o := .cells #[.int .i64 t169, .int .i64 t170] 68 (0, 0)) (by (with_reducible repeat (first | refine qN ?_ _ | refine qD ?_ | refine qA ?_ _)); exact BK173.out) hb); have n2_ := qS (below_step (by repeat (first | (with_reducible first | exact HB.out | apply qpA | apply qpN | apply qp1 | refine qpS ?_ GE173.out) | exact HB.out)) hb); clear HO_7; clear BK173; clear HB; have HO_7 := n0_; have BK173 := n1_; have HB := n2_; clear n0_ n1_ n2_; (try clear hb); (try clear hb2); (try clear hk); (try clear hi); have p192 : 0 ≤ (x14_4 : Int) := of_decide_eq_true (by first | (with_reducible assumption) | assumption); have q192 : x14_4 < (t166.length : Int) := of_decide_eq_true (by first | (with_reducible assumption) | assumption); obtain ⟨ad192, e192, hx192_0, hx192_1⟩ := at_T68 (Kd.R_reads' HO_7.out).2.2 x14_4 p192 q192; obtain rfl : ad190 = ad192 := (by injection e192); replace p192 := eq_true p192; replace q192 := eq_true q192) | ((with_reducible refine gate_callee (f := 39) rfl ?_); refine goesL_ (some 119) rfl rfl Tryd.func39 (by kernel_rfl) rfl #[.agg #[.int .i64 ((rd_T68 t166 x14_4).f0), .int .i64 ((rd_T68 t166 x14_4).f1)], .int .i64 a1] rfl (by (try simp only [List.map_toArray, List.map_cons, List.map_nil]); first | done | rfl | (simp only [*]; done) | (simp only [List.length_drop, List.length_take]; rfl)) ?_; (with_reducible refine (span_Has.calls ((rd_T68 t166 x14_4).f0) ((rd_T68 t166 x14_4).f1) a1 false _ A57.out).mono ?_); rintro e w62 ⟨rfl, hb⟩; refine ⟨_, rfl, ?_⟩; have n0_ := qS (Kd.R_below (by (with_reducible repeat (first | apply Kd.R_alloc | apply Kd.R_drewN | apply Kd.R_drew)); exact HO_7.out) hb); have n1_ := qS (qB (g := gb173) (o := .cells #[.int .i64 t169, .int .i64 t170] 68 (0, 0)) (by (with_reducible repeat (first | refine qN ?_ _ | refine qD ?_ | refine qA ?_ _)); exact BK173.out) hb); have n2_ := qS (below_step (by repeat (first | (with_reducible first | exact HB.out | apply qpA | apply qpN | apply qp1 | refine qpS ?_ GE173.out) | exact HB.out)) hb); clear HO_7; clear BK173; clear HB; have HO_7 := n0_; have BK173 := n1_; have HB := n2_; clear n0_ n1_ n2_; (try clear hb); (try clear hb2); (try clear hk); (try clear hi)))
                  go_roundg kj36
                  case measure => have := HJ5.out; have := HJ27.out; have := HJ32.out; have := HK4.out; have := HJ36.out; omega
                  case rel => exact ⟨(wrap64 (x11_4 + 1)), (x12_4), (wrap64 (x14_4 + 1)), (by first | rfl | (simp; done) | (simp [*]; done)), (by first | rfl | (simp; done) | (simp [*]; done)), (by first | rfl | (simp; done) | (simp [*]; done)), H', ⟨by have := HJ5.out; have := HJ27.out; have := HJ32.out; have := HK4.out; have := HJ36.out; omega⟩, ⟨by (with_reducible repeat (first | apply Kd.R_alloc | apply Kd.R_drewN | apply Kd.R_drew)); exact HO_7.out⟩, ⟨by (with_reducible repeat (first | refine qN ?_ _ | refine qD ?_ | refine qA ?_ _)); exact BK173.out⟩, ⟨by repeat (first | (with_reducible first | exact HB.out | apply qpA | apply qpN | apply qp1 | refine qpS ?_ GE173.out) | exact HB.out)⟩⟩
                ·replace c56 := Bool.eq_false_iff.mpr c56
                 subst c56
                 have H1 : ((span_Has.f ((rd_T68 t166 x14_4).f0) ((rd_T68 t166 x14_4).f1) a1).bind fun t195 => (if t195 = true then (fuseelaw13_SpanMost.l0 kj36 a1 t166 t171 x11_4 (wrap64 (x12_4 + 1)) x13_32 (wrap64 (x14_4 + 1)) t169 t170) else (fuseelaw13_SpanMost.l0 kj36 a1 t166 t171 x11_4 x12_4 x13_32 (wrap64 (x14_4 + 1)) t169 t170))) = some r := by rw [if_neg (show ¬ (false = true) by decide)] at H; exact H
                 clear H
                 have H := H1
                 clear H1
                 replace H := Option.bind_eq_some_iff.mp H
                 obtain ⟨t195, A630, H⟩ := H
                 replace H : (if t195 = true then (fuseelaw13_SpanMost.l0 kj36 a1 t166 t171 x11_4 (wrap64 (x12_4 + 1)) x13_32 (wrap64 (x14_4 + 1)) t169 t170) else (fuseelaw13_SpanMost.l0 kj36 a1 t166 t171 x11_4 x12_4 x13_32 (wrap64 (x14_4 + 1)) t169 t170)) = some r := H
                 have A63 := qS A630
                 clear A630
                 by_cases c64 : t195 = true
                 ·subst c64
                  have H1 : (fuseelaw13_SpanMost.l0 kj36 a1 t166 t171 x11_4 (wrap64 (x12_4 + 1)) x13_32 (wrap64 (x14_4 + 1)) t169 t170) = some r := by rw [if_pos rfl] at H; exact H
                  clear H
                  have H := H1
                  clear H1
                  have H' := qS H
                  clear H
                  have p190 : 0 ≤ (x14_4 : Int) := of_decide_eq_true (by first | (with_reducible assumption) | assumption)
                  have q190 : x14_4 < (t166.length : Int) := of_decide_eq_true (by first | (with_reducible assumption) | assumption)
                  obtain ⟨ad190, e190, hx190_0, hx190_1⟩ := at_T68 (Kd.R_reads' HO_7.out).2.2 x14_4 p190 q190
                  cases e190
                  replace p190 := eq_true p190
                  replace q190 := eq_true q190
                  go_wp2_with (first | ((with_reducible refine gate_callee (f := 39) rfl ?_); refine goesL_ (some 111) rfl rfl Tryd.func39 (by kernel_rfl) rfl #[.agg #[.int .i64 ((rd_T68 t166 x14_4).f0), .int .i64 ((rd_T68 t166 x14_4).f1)], .int .i64 x13_32] rfl (by (try simp only [List.map_toArray, List.map_cons, List.map_nil]); first | done | rfl | (simp only [*]; done) | (simp only [List.length_drop, List.length_take]; rfl)) ?_; (with_reducible refine (span_Has.calls ((rd_T68 t166 x14_4).f0) ((rd_T68 t166 x14_4).f1) x13_32 false _ A55.out).mono ?_); rintro e w65 ⟨rfl, hb⟩; refine ⟨_, rfl, ?_⟩; have n0_ := qS (Kd.R_below (by (with_reducible repeat (first | apply Kd.R_alloc | apply Kd.R_drewN | apply Kd.R_drew)); exact HO_7.out) hb); have n1_ := qS (qB (g := gb173) (o := .cells #[.int .i64 t169, .int .i64 t170] 68 (0, 0)) (by (with_reducible repeat (first | refine qN ?_ _ | refine qD ?_ | refine qA ?_ _)); exact BK173.out) hb); have n2_ := qS (below_step (by repeat (first | (with_reducible first | exact HB.out | apply qpA | apply qpN | apply qp1 | refine qpS ?_ GE173.out) | exact HB.out)) hb); clear HO_7; clear BK173; clear HB; have HO_7 := n0_; have BK173 := n1_; have HB := n2_; clear n0_ n1_ n2_; (try clear hb); (try clear hb2); (try clear hk); (try clear hi); have p194 : 0 ≤ (x14_4 : Int) := of_decide_eq_true (by first | (with_reducible assumption) | assumption); have q194 : x14_4 < (t166.length : Int) := of_decide_eq_true (by first | (with_reducible assumption) | assumption); obtain ⟨ad194, e194, hx194_0, hx194_1⟩ := at_T68 (Kd.R_reads' HO_7.out).2.2 x14_4 p194 q194; obtain rfl : ad190 = ad194 := (by injection e194); replace p194 := eq_true p194; replace q194 := eq_true q194) | ((with_reducible refine gate_callee (f := 39) rfl ?_); refine goesL_ (some 119) rfl rfl Tryd.func39 (by kernel_rfl) rfl #[.agg #[.int .i64 ((rd_T68 t166 x14_4).f0), .int .i64 ((rd_T68 t166 x14_4).f1)], .int .i64 a1] rfl (by (try simp only [List.map_toArray, List.map_cons, List.map_nil]); first | done | rfl | (simp only [*]; done) | (simp only [List.length_drop, List.length_take]; rfl)) ?_; (with_reducible refine (span_Has.calls ((rd_T68 t166 x14_4).f0) ((rd_T68 t166 x14_4).f1) a1 true _ A63.out).mono ?_); rintro e w66 ⟨rfl, hb⟩; refine ⟨_, rfl, ?_⟩; have n0_ := qS (Kd.R_below (by (with_reducible repeat (first | apply Kd.R_alloc | apply Kd.R_drewN | apply Kd.R_drew)); exact HO_7.out) hb); have n1_ := qS (qB (g := gb173) (o := .cells #[.int .i64 t169, .int .i64 t170] 68 (0, 0)) (by (with_reducible repeat (first | refine qN ?_ _ | refine qD ?_ | refine qA ?_ _)); exact BK173.out) hb); have n2_ := qS (below_step (by repeat (first | (with_reducible first | exact HB.out | apply qpA | apply qpN | apply qp1 | refine qpS ?_ GE173.out) | exact HB.out)) hb); clear HO_7; clear BK173; clear HB; have HO_7 := n0_; have BK173 := n1_; have HB := n2_; clear n0_ n1_ n2_; (try clear hb); (try clear hb2); (try clear hk); (try clear hi)))
                  go_roundg kj36
                  case measure => have := HJ5.out; have := HJ27.out; have := HJ32.out; have := HK4.out; have := HJ36.out; omega
                  case rel => exact ⟨(x11_4), (wrap64 (x12_4 + 1)), (wrap64 (x14_4 + 1)), (by first | rfl | (simp; done) | (simp [*]; done)), (by first | rfl | (simp; done) | (simp [*]; done)), (by first | rfl | (simp; done) | (simp [*]; done)), H', ⟨by have := HJ5.out; have := HJ27.out; have := HJ32.out; have := HK4.out; have := HJ36.out; omega⟩, ⟨by (with_reducible repeat (first | apply Kd.R_alloc | apply Kd.R_drewN | apply Kd.R_drew)); exact HO_7.out⟩, ⟨by (with_reducible repeat (first | refine qN ?_ _ | refine qD ?_ | refine qA ?_ _)); exact BK173.out⟩, ⟨by repeat (first | (with_reducible first | exact HB.out | apply qpA | apply qpN | apply qp1 | refine qpS ?_ GE173.out) | exact HB.out)⟩⟩
                 ·replace c64 := Bool.eq_false_iff.mpr c64
                  subst c64
                  have H1 : (fuseelaw13_SpanMost.l0 kj36 a1 t166 t171 x11_4 x12_4 x13_32 (wrap64 (x14_4 + 1)) t169 t170) = some r := by rw [if_neg (show ¬ (false = true) by decide)] at H; exact H
                  clear H
                  have H := H1
                  clear H1
                  have H' := qS H
                  clear H
                  have p190 : 0 ≤ (x14_4 : Int) := of_decide_eq_true (by first | (with_reducible assumption) | assumption)
                  have q190 : x14_4 < (t166.length : Int) := of_decide_eq_true (by first | (with_reducible assumption) | assumption)
                  obtain ⟨ad190, e190, hx190_0, hx190_1⟩ := at_T68 (Kd.R_reads' HO_7.out).2.2 x14_4 p190 q190
                  cases e190
                  replace p190 := eq_true p190
                  replace q190 := eq_true q190
                  go_wp2_with (first | ((with_reducible refine gate_callee (f := 39) rfl ?_); refine goesL_ (some 111) rfl rfl Tryd.func39 (by kernel_rfl) rfl #[.agg #[.int .i64 ((rd_T68 t166 x14_4).f0), .int .i64 ((rd_T68 t166 x14_4).f1)], .int .i64 x13_32] rfl (by (try simp only [List.map_toArray, List.map_cons, List.map_nil]); first | done | rfl | (simp only [*]; done) | (simp only [List.length_drop, List.length_take]; rfl)) ?_; (with_reducible refine (span_Has.calls ((rd_T68 t166 x14_4).f0) ((rd_T68 t166 x14_4).f1) x13_32 false _ A55.out).mono ?_); rintro e w67 ⟨rfl, hb⟩; refine ⟨_, rfl, ?_⟩; have n0_ := qS (Kd.R_below (by (with_reducible repeat (first | apply Kd.R_alloc | apply Kd.R_drewN | apply Kd.R_drew)); exact HO_7.out) hb); have n1_ := qS (qB (g := gb173) (o := .cells #[.int .i64 t169, .int .i64 t170] 68 (0, 0)) (by (with_reducible repeat (first | refine qN ?_ _ | refine qD ?_ | refine qA ?_ _)); exact BK173.out) hb); have n2_ := qS (below_step (by repeat (first | (with_reducible first | exact HB.out | apply qpA | apply qpN | apply qp1 | refine qpS ?_ GE173.out) | exact HB.out)) hb); clear HO_7; clear BK173; clear HB; have HO_7 := n0_; have BK173 := n1_; have HB := n2_; clear n0_ n1_ n2_; (try clear hb); (try clear hb2); (try clear hk); (try clear hi); have p194 : 0 ≤ (x14_4 : Int) := of_decide_eq_true (by first | (with_reducible assumption) | assumption); have q194 : x14_4 < (t166.length : Int) := of_decide_eq_true (by first | (with_reducible assumption) | assumption); obtain ⟨ad194, e194, hx194_0, hx194_1⟩ := at_T68 (Kd.R_reads' HO_7.out).2.2 x14_4 p194 q194; obtain rfl : ad190 = ad194 := (by injection e194); replace p194 := eq_true p194; replace q194 := eq_true q194) | ((with_reducible refine gate_callee (f := 39) rfl ?_); refine goesL_ (some 119) rfl rfl Tryd.func39 (by kernel_rfl) rfl #[.agg #[.int .i64 ((rd_T68 t166 x14_4).f0), .int .i64 ((rd_T68 t166 x14_4).f1)], .int .i64 a1] rfl (by (try simp only [List.map_toArray, List.map_cons, List.map_nil]); first | done | rfl | (simp only [*]; done) | (simp only [List.length_drop, List.length_take]; rfl)) ?_; (with_reducible refine (span_Has.calls ((rd_T68 t166 x14_4).f0) ((rd_T68 t166 x14_4).f1) a1 false _ A63.out).mono ?_); rintro e w68 ⟨rfl, hb⟩; refine ⟨_, rfl, ?_⟩; have n0_ := qS (Kd.R_below (by (with_reducible repeat (first | apply Kd.R_alloc | apply Kd.R_drewN | apply Kd.R_drew)); exact HO_7.out) hb); have n1_ := qS (qB (g := gb173) (o := .cells #[.int .i64 t169, .int .i64 t170] 68 (0, 0)) (by (with_reducible repeat (first | refine qN ?_ _ | refine qD ?_ | refine qA ?_ _)); exact BK173.out) hb); have n2_ := qS (below_step (by repeat (first | (with_reducible first | exact HB.out | apply qpA | apply qpN | apply qp1 | refine qpS ?_ GE173.out) | exact HB.out)) hb); clear HO_7; clear BK173; clear HB; have HO_7 := n0_; have BK173 := n1_; have HB := n2_; clear n0_ n1_ n2_; (try clear hb); (try clear hb2); (try clear hk); (try clear hi)))
                  go_roundg kj36
                  case measure => have := HJ5.out; have := HJ27.out; have := HJ32.out; have := HK4.out; have := HJ36.out; omega
                  case rel => exact ⟨(x11_4), (x12_4), (wrap64 (x14_4 + 1)), (by first | rfl | (simp; done) | (simp [*]; done)), (by first | rfl | (simp; done) | (simp [*]; done)), (by first | rfl | (simp; done) | (simp [*]; done)), H', ⟨by have := HJ5.out; have := HJ27.out; have := HJ32.out; have := HK4.out; have := HJ36.out; omega⟩, ⟨by (with_reducible repeat (first | apply Kd.R_alloc | apply Kd.R_drewN | apply Kd.R_drew)); exact HO_7.out⟩, ⟨by (with_reducible repeat (first | refine qN ?_ _ | refine qD ?_ | refine qA ?_ _)); exact BK173.out⟩, ⟨by repeat (first | (with_reducible first | exact HB.out | apply qpA | apply qpN | apply qp1 | refine qpS ?_ GE173.out) | exact HB.out)⟩⟩
               ·rw [if_neg c54] at H
                exact absurd H (by simp)
              ·rw [if_neg c53] at H
               exact absurd H (by simp)
          ·rw [if_neg c36] at H
           have c36b0 : decide (x14_4 < (t166.length : Int)) = false := decide_eq_false c36
           clear c36
           by_cases c69 : t169 ≤ t170
           ·rw [if_pos c69] at H
            have c69b0 : decide (t169 ≤ t170) = true := decide_eq_true c69
            clear c69
            by_cases c70 : x11_4 = t171
            ·rw [if_pos c70] at H
             have c70b0 : (x11_4 == t171) = true := beq_iff_eq.mpr c70
             have c70b1 : (x11_4 != t171) = false := bne_eq_false_iff_eq.mpr c70
             clear c70
             by_cases c71 : x12_4 ≤ t171
             ·rw [if_pos c71] at H
              have c71b0 : decide (x12_4 ≤ t171) = true := decide_eq_true c71
              clear c71
              by_cases c72 : x12_4 = t171
              ·rw [if_pos c72] at H
               have c72b0 : (x12_4 == t171) = true := beq_iff_eq.mpr c72
               have c72b1 : (x12_4 != t171) = false := bne_eq_false_iff_eq.mpr c72
               clear c72
               by_cases c73 : a1 ≥ t169
               ·rw [if_pos c73] at H
                have c73b0 : decide (t169 ≤ a1) = true := decide_eq_true c73
                clear c73
                replace H := Option.bind_eq_some_iff.mp H
                obtain ⟨t180, A740, H⟩ := H
                replace H : (some t180) = some r := H
                have A74 := qS A740
                clear A740
                obtain rfl := Option.some.inj H
                have hcz75_0 : wr.cell? ⟨gb173, 0, none⟩ = some (.int .i64 t169) := (qC BK173.out 0).trans rfl
                have hcz75_1 : wr.cell? ⟨gb173, 1, none⟩ = some (.int .i64 t170) := (qC BK173.out 1).trans rfl
                have hfz75_0 := qF BK173.out 0
                have hfz75_1 := qF BK173.out 1
                go_wp2_with (first | (go_at_call 34; (with_reducible refine (fuseelaw13_sure.calls k4  t180 _ ?side1 A74.out).mono ?_); (case side1 => exact HG.below hgL (Nat.le_refl _) (by repeat (first | (with_reducible first | exact HB.out | apply qpA | apply qpN | apply qp1 | refine qpS ?_ GE173.out) | exact HB.out))); rintro e w76 ⟨rfl, hb⟩; have n0_ := qS (Kd.R_below (by (with_reducible repeat (first | apply Kd.R_alloc | apply Kd.R_drewN | apply Kd.R_drew)); exact HO_7.out) hb); have n1_ := qS (qB (g := gb173) (o := .cells #[.int .i64 t169, .int .i64 t170] 68 (0, 0)) (by (with_reducible repeat (first | refine qN ?_ _ | refine qD ?_ | refine qA ?_ _)); exact BK173.out) hb); have n2_ := qS (below_step (by repeat (first | (with_reducible first | exact HB.out | apply qpA | apply qpN | apply qp1 | refine qpS ?_ GE173.out) | exact HB.out)) hb); clear HO_7; clear BK173; clear HB; have HO_7 := n0_; have BK173 := n1_; have HB := n2_; clear n0_ n1_ n2_; (try clear hb); (try clear hb2); (try clear hk); (try clear hi)))
                go_ret
                exact ⟨by first | rfl | (simp [errW_none, errW_some] <;> rfl) | (simp [*, errW_none, errW_some] <;> rfl), by repeat (first | (with_reducible first | exact HB.out | apply qpA | apply qpN | apply qp1 | refine qpS ?_ GE173.out) | exact HB.out)⟩
               ·rw [if_neg c73] at H
                exact absurd H (by simp)
              ·rw [if_neg c72] at H
               have c72b0 : (x12_4 == t171) = false := beq_eq_false_iff_ne.mpr c72
               have c72b1 : (x12_4 != t171) = true := bne_iff_ne.mpr c72
               replace H := Option.bind_eq_some_iff.mp H
               obtain ⟨t181, A770, H⟩ := H
               replace H : (some t181) = some r := H
               have A77 := qS A770
               clear A770
               obtain rfl := Option.some.inj H
               have hcz78_0 : wr.cell? ⟨gb173, 0, none⟩ = some (.int .i64 t169) := (qC BK173.out 0).trans rfl
               have hcz78_1 : wr.cell? ⟨gb173, 1, none⟩ = some (.int .i64 t170) := (qC BK173.out 1).trans rfl
               have hfz78_0 := qF BK173.out 0
               have hfz78_1 := qF BK173.out 1
               go_wp2_with (first | (go_at_call 34; (with_reducible refine (fuseelaw13_sure.calls k4  t181 _ ?side1 A77.out).mono ?_); (case side1 => exact HG.below hgL (Nat.le_refl _) (by repeat (first | (with_reducible first | exact HB.out | apply qpA | apply qpN | apply qp1 | refine qpS ?_ GE173.out) | exact HB.out))); rintro e w79 ⟨rfl, hb⟩; have n0_ := qS (Kd.R_below (by (with_reducible repeat (first | apply Kd.R_alloc | apply Kd.R_drewN | apply Kd.R_drew)); exact HO_7.out) hb); have n1_ := qS (qB (g := gb173) (o := .cells #[.int .i64 t169, .int .i64 t170] 68 (0, 0)) (by (with_reducible repeat (first | refine qN ?_ _ | refine qD ?_ | refine qA ?_ _)); exact BK173.out) hb); have n2_ := qS (below_step (by repeat (first | (with_reducible first | exact HB.out | apply qpA | apply qpN | apply qp1 | refine qpS ?_ GE173.out) | exact HB.out)) hb); clear HO_7; clear BK173; clear HB; have HO_7 := n0_; have BK173 := n1_; have HB := n2_; clear n0_ n1_ n2_; (try clear hb); (try clear hb2); (try clear hk); (try clear hi)))
               go_ret
               exact ⟨by first | rfl | (simp [errW_none, errW_some] <;> rfl) | (simp [*, errW_none, errW_some] <;> rfl), by repeat (first | (with_reducible first | exact HB.out | apply qpA | apply qpN | apply qp1 | refine qpS ?_ GE173.out) | exact HB.out)⟩
             ·rw [if_neg c71] at H
              exact absurd H (by simp)
            ·rw [if_neg c70] at H
             exact absurd H (by simp)
           ·rw [if_neg c69] at H
            exact absurd H (by simp)

end Go.Proofs.YtfipgpfmlkfkfaaDoor.MSpanMost
