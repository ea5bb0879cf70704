/- Printed by wip/gen/mp.py: Go functions as plain Lean functions, and that the calls do what these say. -/
import Derived.Test.YtnlaiiophongmaaDoorMSux0
import Derived.Test.YtnlaiiophongmaaDoorMSux1
import Derived.Test.YtnlaiiophongmaaDoorMSux2
import Derived.Test.YtnlaiiophongmaaDoorMSux3
namespace Go.Proofs.YtnlaiiophongmaaDoor.MSu
open Go.RowKit Go.Proofs.YtnlaiiophongmaaDoorW.PrintWords Go.Proofs.YtnlaiiophongmaaDoorW.PrintLast Go.Proofs.YtnlaiiophongmaaDoorW.PrintMore Go.Proofs.YtnlaiiophongmaaDoor.MCb
attribute [local go_sem] max2_int min2_int max_two min_two max_three min_three max_four min_four   -- for this text's walks alone
set_option linter.unusedVariables false
set_option linter.unusedSimpArgs false

attribute [local go_sem high] eqA105
/-! ### leap_UTC: function 57 -/
mutual
def leap_UTC.j0 : Nat → Int → Int → Bool → Int → Int → List Int → Option (Int × Int × Int × Option Int)
 | 0, _, _, _, _, _, _ => none
 | k + 1, x7, x8, x39, x134000, x134001, x134002 => if x39 = true then (some (0, 0, 0, some 2)) else ((leap_begin.f k x134000 x134001 x134002 x134001).bind fun t142 => (if x7 ≥ t142 then (some (0, 0, 0, some 10)) else ((num_Div.f x7 86400).bind fun bt143 => (if bt143.2.2.isNone = true then (leap_UTC.l0 k x7 x8 bt143.1 x134000 x134001 x134002) else (some (0, 0, 0, some (bt143.2.2.getD 0)))))))
def leap_UTC.l0 : Nat → Int → Int → Int → Int → Int → List Int → Option (Int × Int × Int × Option Int)
 | 0, _, _, _, _, _, _ => none
 | k + 1, x7, x8, x10, x134000, x134001, x134002 => (leap_begin.f k x134000 x134001 x134002 x10).bind fun t147 => (if x7 < t147 then (leap_UTC.l0 k x7 x8 (wrap64 (x10 - 1)) x134000 x134001 x134002) else ((leap_begin.f k x134000 x134001 x134002 x10).bind fun t148 => (some (x10, wrap64 (x7 - t148), x8, none))))
end
def leap_UTC.f (k : Nat) (a0_0 : Int) (a0_1 : Int) (l0_2 : List Int) (a1 : Int) : Option (Int × Int × Int × Option Int) := (leap_Check.f k a0_0 a0_1 l0_2).bind fun t135 => (if t135.isNone = true then ((num_Div.f a1 1000000000).bind fun bt137 => (if bt137.2.2.isNone = true then (if a1 ≤ (-4611686018427387904) then (leap_UTC.j0 k bt137.1 bt137.2.1 true a0_0 a0_1 l0_2) else (if a1 ≥ 4611686018427387904 then (leap_UTC.j0 k bt137.1 bt137.2.1 true a0_0 a0_1 l0_2) else ((leap_begin.f k a0_0 a0_1 l0_2 (-50000)).bind fun t141 => (leap_UTC.j0 k bt137.1 bt137.2.1 (decide (bt137.1 < t141)) a0_0 a0_1 l0_2)))) else (leap_UTC.j0 k bt137.1 bt137.2.1 true a0_0 a0_1 l0_2))) else (some (0, 0, 0, some (t135.getD 0))))
theorem leap_UTC.mono_l : ∀ k, (∀ y0 y1 y2 y3 y4 y5, LeO (leap_UTC.j0 k y0 y1 y2 y3 y4 y5) (leap_UTC.j0 (k + 1) y0 y1 y2 y3 y4 y5)) ∧ (∀ y0 y1 y2 y3 y4 y5, LeO (leap_UTC.l0 k y0 y1 y2 y3 y4 y5) (leap_UTC.l0 (k + 1) y0 y1 y2 y3 y4 y5))
 | 0 => ⟨fun _ _ _ _ _ _ r h => by simp [leap_UTC.j0] at h, fun _ _ _ _ _ _ r h => by simp [leap_UTC.l0] at h⟩
 | k + 1 => by
  obtain ⟨ih0, ih1⟩ := leap_UTC.mono_l k
  refine ⟨?_, ?_⟩
  ·intro y0 y1 y2 y3 y4 y5
   unfold leap_UTC.j0
   repeat' first
   | (with_reducible exact ih0 _ _ _ _ _ _)
   | (with_reducible exact ih1 _ _ _ _ _ _)
   | (with_reducible exact leap_Check.mono _ _ _ _)
   | (with_reducible exact leap_begin.mono _ _ _ _ _)
   | (with_reducible exact LeO.refl _)
   | (with_reducible exact LeO.none _)
   | (with_reducible refine LeO.ite ?_ ?_)
   | (with_reducible refine LeO.bind ?_ (fun _ => ?_))
   | exact ih0 _ _ _ _ _ _
   | exact ih1 _ _ _ _ _ _
   | exact leap_Check.mono _ _ _ _
   | exact leap_begin.mono _ _ _ _ _
   | exact LeO.none _
   | refine LeO.ite ?_ ?_
   | refine LeO.bind ?_ (fun _ => ?_)
  ·intro y0 y1 y2 y3 y4 y5
   unfold leap_UTC.l0
   repeat' first
   | (with_reducible exact ih0 _ _ _ _ _ _)
   | (with_reducible exact ih1 _ _ _ _ _ _)
   | (with_reducible exact leap_Check.mono _ _ _ _)
   | (with_reducible exact leap_begin.mono _ _ _ _ _)
   | (with_reducible exact LeO.refl _)
   | (with_reducible exact LeO.none _)
   | (with_reducible refine LeO.ite ?_ ?_)
   | (with_reducible refine LeO.bind ?_ (fun _ => ?_))
   | exact ih0 _ _ _ _ _ _
   | exact ih1 _ _ _ _ _ _
   | exact leap_Check.mono _ _ _ _
   | exact leap_begin.mono _ _ _ _ _
   | exact LeO.none _
   | refine LeO.ite ?_ ?_
   | refine LeO.bind ?_ (fun _ => ?_)
theorem leap_UTC.mono : ∀ a0 a1 a2 a3 k, LeO (leap_UTC.f k a0 a1 a2 a3) (leap_UTC.f (k + 1) a0 a1 a2 a3) := by
 intro a0 a1 a2 a3 k
 obtain ⟨ih0, ih1⟩ := leap_UTC.mono_l k
 unfold leap_UTC.f
 repeat' first
   | (with_reducible exact ih0 _ _ _ _ _ _)
   | (with_reducible exact ih1 _ _ _ _ _ _)
   | (with_reducible exact leap_Check.mono _ _ _ _)
   | (with_reducible exact leap_begin.mono _ _ _ _ _)
   | (with_reducible exact LeO.refl _)
   | (with_reducible exact LeO.none _)
   | (with_reducible refine LeO.ite ?_ ?_)
   | (with_reducible refine LeO.bind ?_ (fun _ => ?_))
   | exact ih0 _ _ _ _ _ _
   | exact ih1 _ _ _ _ _ _
   | exact leap_Check.mono _ _ _ _
   | exact leap_begin.mono _ _ _ _ _
   | exact LeO.none _
   | refine LeO.ite ?_ ?_
   | refine LeO.bind ?_ (fun _ => ?_)
set_option maxHeartbeats 8000000 in
set_option maxRecDepth 100000 in
theorem leap_UTC.calls (k : Nat) (a0_0 : Int) (a0_1 : Int) (A0_2 : Option Addr) (c0_2 : Nat) (l0_2 : List Int) (a1 : Int) (r1 : Int) (r2 : Int) (r3 : Int) (r4 : Option Int) (w : World) (hr0_2 : Kd.C (Kd.int .i64) w A0_2 l0_2.length l0_2) (hc0_2 : l0_2.length ≤ c0_2) (h : leap_UTC.f k a0_0 a0_1 l0_2 a1 = some (r1, r2, r3, r4)) :
  Calls Tryd.prog 57 #[.agg #[.int .i64 a0_0, .int .i64 a0_1, .slice A0_2 l0_2.length c0_2], .int .i64 a1] w fun e w' => e = .returned (.tuple #[.agg #[.int .i64 r1, .int .i64 r2, .int .i64 r3], errW r4]) ∧ Below w.heap.size w w' := by
 have hu96 := Tryd.underlying96
 have hu105 := Tryd.underlying105
 have hu28 := Tryd.underlying28
 have hu128 := Tryd.underlying128
 have HR0_2 := qS hr0_2
 have HC0_2 := qS hc0_2
 clear hr0_2 hc0_2
 have HB := qS (Below.refl w.heap.size w)
 have H : ((leap_Check.f k a0_0 a0_1 l0_2).bind fun t135 => (if t135.isNone = true then ((num_Div.f a1 1000000000).bind fun bt137 => (if bt137.2.2.isNone = true then (if a1 ≤ (-4611686018427387904) then (leap_UTC.j0 k bt137.1 bt137.2.1 true a0_0 a0_1 l0_2) else (if a1 ≥ 4611686018427387904 then (leap_UTC.j0 k bt137.1 bt137.2.1 true a0_0 a0_1 l0_2) else ((leap_begin.f k a0_0 a0_1 l0_2 (-50000)).bind fun t141 => (leap_UTC.j0 k bt137.1 bt137.2.1 (decide (bt137.1 < t141)) a0_0 a0_1 l0_2)))) else (leap_UTC.j0 k bt137.1 bt137.2.1 true a0_0 a0_1 l0_2))) else (some (0, 0, 0, some (t135.getD 0))))) = some (r1, r2, r3, r4) := h
 clear h
 replace H := Option.bind_eq_some_iff.mp H
 obtain ⟨t135, A30, H⟩ := H
 replace H : (if t135.isNone = true then ((num_Div.f a1 1000000000).bind fun bt137 => (if bt137.2.2.isNone = true then (if a1 ≤ (-4611686018427387904) then (leap_UTC.j0 k bt137.1 bt137.2.1 true a0_0 a0_1 l0_2) else (if a1 ≥ 4611686018427387904 then (leap_UTC.j0 k bt137.1 bt137.2.1 true a0_0 a0_1 l0_2) else ((leap_begin.f k a0_0 a0_1 l0_2 (-50000)).bind fun t141 => (leap_UTC.j0 k bt137.1 bt137.2.1 (decide (bt137.1 < t141)) a0_0 a0_1 l0_2)))) else (leap_UTC.j0 k bt137.1 bt137.2.1 true a0_0 a0_1 l0_2))) else (some (0, 0, 0, some (t135.getD 0)))) = some (r1, r2, r3, r4) := H
 have A3 := qS A30
 clear A30
 rcases t135 with _ | q136
 ·have H1 : ((num_Div.f a1 1000000000).bind fun bt137 => (if bt137.2.2.isNone = true then (if a1 ≤ (-4611686018427387904) then (leap_UTC.j0 k bt137.1 bt137.2.1 true a0_0 a0_1 l0_2) else (if a1 ≥ 4611686018427387904 then (leap_UTC.j0 k bt137.1 bt137.2.1 true a0_0 a0_1 l0_2) else ((leap_begin.f k a0_0 a0_1 l0_2 (-50000)).bind fun t141 => (leap_UTC.j0 k bt137.1 bt137.2.1 (decide (bt137.1 < t141)) a0_0 a0_1 l0_2)))) else (leap_UTC.j0 k bt137.1 bt137.2.1 true a0_0 a0_1 l0_2))) = some (r1, r2, r3, r4) := by rw [if_pos (show (none : Option Int).isNone = true by rfl)] at H; exact H
  clear H
  have H := H1
  clear H1
  try simp only [errW_none, errW_some]
  replace H := Option.bind_eq_some_iff.mp H
  obtain ⟨⟨t137, t138, t139⟩, A40, H⟩ := H
  replace H : (if t139.isNone = true then (if a1 ≤ (-4611686018427387904) then (leap_UTC.j0 k t137 t138 true a0_0 a0_1 l0_2) else (if a1 ≥ 4611686018427387904 then (leap_UTC.j0 k t137 t138 true a0_0 a0_1 l0_2) else ((leap_begin.f k a0_0 a0_1 l0_2 (-50000)).bind fun t141 => (leap_UTC.j0 k t137 t138 (decide (t137 < t141)) a0_0 a0_1 l0_2)))) else (leap_UTC.j0 k t137 t138 true a0_0 a0_1 l0_2)) = some (r1, r2, r3, r4) := H
  have A4 := qS A40
  clear A40
  have HC5 := qS H
  clear H
  go_enter Tryd.func57, Tryd.ntmps57
  go_upto_region 5 with (first | ((with_reducible refine gate_dst (N := 2) rfl ?_); refine box_event ?hg (N := 2) ?hd (cs := #[.int .i64 a0_0, .int .i64 a0_1, .slice A0_2 l0_2.length c0_2]) (t := 96) ?hr ?_; (case hd => rfl); (case hg => rfl); (case hr => first | (go_simp; done) | (go_simp; rfl)); intro gb133 hg w6 hbox hb; have n0_ := qS (below_step (by repeat (first | (with_reducible first | exact HB.out | apply qpA | apply qpN | apply qp1) | exact HB.out)) hb); have n1_ := qS (hbox); have n2_ := qS ((by rw [hg]; exact (below_size (by repeat (first | (with_reducible first | exact HB.out | apply qpA | apply qpN | apply qp1) | exact HB.out))) : w.heap.size ≤ gb133)); have n3_ := qS ((by rw [hg]; exact (below_size (by repeat (first | (with_reducible first | exact HB.out | apply qpA | apply qpN | apply qp1) | exact HB.out))) : w.heap.size ≤ gb133)); clear HB; have HB := n0_; have BK133 := n1_; have GW133 := n2_; have GE133 := n3_; clear n0_ n1_ n2_ n3_; clear hb hbox hg) | ((with_reducible refine gate_dst (N := 4) rfl ?_); refine box_event ?hg (N := 4) ?hd (cs := #[.int .i64 0, .int .i64 0, .int .i64 0]) (t := 105) ?hr ?_; (case hd => rfl); (case hg => rfl); (case hr => first | (go_simp; done) | (go_simp; rfl)); intro gb134 hg w7 hbox hb; have n0_ := qS (qB (g := gb133) (o := .cells #[.int .i64 a0_0, .int .i64 a0_1, .slice A0_2 l0_2.length c0_2] 96 (0, 0)) (by (with_reducible repeat (first | refine qN ?_ _ | refine qD ?_ | refine qA ?_ _)); exact BK133.out) hb); have n1_ := qS (below_step (by repeat (first | (with_reducible first | exact HB.out | apply qpA | apply qpN | apply qp1 | refine qpS ?_ GE133.out) | exact HB.out)) hb); have n2_ := qS (hbox); have n3_ := qS ((by rw [hg]; exact (below_size (by repeat (first | (with_reducible first | exact HB.out | apply qpA | apply qpN | apply qp1 | refine qpS ?_ GE133.out) | exact HB.out))) : w.heap.size ≤ gb134)); have n4_ := qS ((by rw [hg]; exact (below_size (by repeat (first | (with_reducible first | exact HB.out | apply qpA | apply qpN | apply qp1 | refine qpS ?_ GE133.out) | exact HB.out))) : w.heap.size ≤ gb134)); have n5_ := qS ((by rw [hg]; exact Nat.ne_of_lt (blk_lt (g := gb133) (o := .cells #[.int .i64 a0_0, .int .i64 a0_1, .slice A0_2 l0_2.length c0_2] 96 (0, 0)) (by (with_reducible repeat (first | refine qN ?_ _ | refine qD ?_ | refine qA ?_ _)); exact BK133.out)) : gb133 ≠ gb134)); have n6_ := qS ((by rw [hg]; exact Nat.ne_of_gt (blk_lt (g := gb133) (o := .cells #[.int .i64 a0_0, .int .i64 a0_1, .slice A0_2 l0_2.length c0_2] 96 (0, 0)) (by (with_reducible repeat (first | refine qN ?_ _ | refine qD ?_ | refine qA ?_ _)); exact BK133.out)) : gb134 ≠ gb133)); clear BK133; clear HB; have BK133 := n0_; have HB := n1_; have BK134 := n2_; have GW134 := n3_; have GE134 := n4_; have NB133_134 := n5_; have NB134_133 := n6_; clear n0_ n1_ n2_ n3_ n4_ n5_ n6_; clear hb hbox hg; have hnb8 := NB133_134.out; have hnc8 := NB134_133.out; have hcz9_0 : w7.cell? ⟨gb133, 0, none⟩ = some (.int .i64 a0_0) := (qC BK133.out 0).trans rfl; have hcz9_1 : w7.cell? ⟨gb133, 1, none⟩ = some (.int .i64 a0_1) := (qC BK133.out 1).trans rfl; have hcz9_2 : w7.cell? ⟨gb133, 2, none⟩ = some (.slice A0_2 l0_2.length c0_2) := (qC BK133.out 2).trans rfl; have hfz9_0 := qF BK133.out 0; have hfz9_1 := qF BK133.out 1; have hfz9_2 := qF BK133.out 2) | ((with_reducible refine gate_callee (f := 52) rfl ?_); refine goesL_ (some 13) rfl rfl Tryd.func52 (by kernel_rfl) rfl #[.agg #[.int .i64 a0_0, .int .i64 a0_1, .slice A0_2 l0_2.length c0_2]] rfl (by (try simp only [List.map_toArray, List.map_cons, List.map_nil]); first | done | rfl | (simp only [*]; done) | (simp only [List.length_drop, List.length_take]; rfl) | (simp only [Act.eval, Array.getD_eq_getD_getElem?, Option.getD_some, *])) ?_; (with_reducible refine (leap_Check.calls k a0_0 a0_1 _ _ l0_2 none _ ?side1 ?side2 A3.out).mono ?_); (case side1 => repeat (first | exact (Kd.C_below HR0_2.out HB.out) | (with_reducible refine Kd.C_alloc ?_ _) | (with_reducible refine Kd.C_drewN ?_ _) | (with_reducible refine Kd.C_drew ?_))); (case side2 => exact HC0_2.out); rintro e w10 ⟨rfl, hb⟩; refine ⟨_, rfl, ?_⟩; have n0_ := qS (qB (g := gb133) (o := .cells #[.int .i64 a0_0, .int .i64 a0_1, .slice A0_2 l0_2.length c0_2] 96 (0, 0)) (by (with_reducible repeat (first | refine qN ?_ _ | refine qD ?_ | refine qA ?_ _)); exact BK133.out) hb); have n1_ := qS (qB (g := gb134) (o := .cells #[.int .i64 0, .int .i64 0, .int .i64 0] 105 (0, 0)) (by (with_reducible repeat (first | refine qN ?_ _ | refine qD ?_ | refine qA ?_ _)); exact BK134.out) hb); have n2_ := qS (below_step (by repeat (first | (with_reducible first | exact HB.out | apply qpA | apply qpN | apply qp1 | refine qpS ?_ GE133.out | refine qpS ?_ GE134.out) | exact HB.out)) hb); clear BK133; clear BK134; clear HB; have BK133 := n0_; have BK134 := n1_; have HB := n2_; clear n0_ n1_ n2_; (try clear hb); (try clear hb2); (try clear hk); (try clear hi); (try simp only [errW_none, errW_some])) | ((with_reducible refine gate_callee (f := 90) rfl ?_); refine goesL_ (some 20) rfl rfl Tryd.func90 (by kernel_rfl) rfl #[.int .i64 a1, .int .i64 1000000000] rfl (by (try simp only [List.map_toArray, List.map_cons, List.map_nil]); first | done | rfl | (simp only [*]; done) | (simp only [List.length_drop, List.length_take]; rfl) | (simp only [Act.eval, Array.getD_eq_getD_getElem?, Option.getD_some, *])) ?_; (with_reducible refine (num_Div.calls a1 1000000000 t137 t138 t139 _ A4.out).mono ?_); rintro e w' ⟨rfl, ⟨nd, rfl⟩⟩; refine ⟨_, rfl, ?_⟩; (try simp only [errW_none, errW_some])))
  (try simp only [Act.put, List.setIfInBounds_toArray, List.set_cons_zero, List.set_cons_succ])
  go_cut [39] (fun v39 wc => ∃ (kq : Nat) (x39_4 : Bool), v39 = .bool x39_4 ∧ Aside0 (leap_UTC.j0 kq t137 t138 x39_4 a0_0 a0_1 l0_2 = some (r1, r2, r3, r4)) ∧ Aside0 (kq ≤ k) ∧ Aside0 (wc.heap[gb133]? = some (.cells #[.int .i64 a0_0, .int .i64 a0_1, (.slice A0_2 l0_2.length c0_2)] 96 (0, 0))) ∧ Aside0 (wc.heap[gb134]? = some (.cells #[.int .i64 0, .int .i64 0, .int .i64 0] 105 (0, 0))) ∧ Aside0 (Below w.heap.size w wc))
  case first =>
   have H := HC5.out
   clear HC5
   rcases t139 with _ | q140
   ·have H1 : (if a1 ≤ (-4611686018427387904) then (leap_UTC.j0 k t137 t138 true a0_0 a0_1 l0_2) else (if a1 ≥ 4611686018427387904 then (leap_UTC.j0 k t137 t138 true a0_0 a0_1 l0_2) else ((leap_begin.f k a0_0 a0_1 l0_2 (-50000)).bind fun t141 => (leap_UTC.j0 k t137 t138 (decide (t137 < t141)) a0_0 a0_1 l0_2)))) = some (r1, r2, r3, r4) := by rw [if_pos (show (none : Option Int).isNone = true by rfl)] at H; exact H
    clear H
    have H := H1
    clear H1
    try simp only [errW_none, errW_some]
    by_cases c11 : a1 ≤ (-4611686018427387904)
    ·rw [if_pos c11] at H
     have c11b0 : decide (a1 ≤ (-4611686018427387904)) = true := decide_eq_true c11
     clear c11
     (first | rw [c11b0] | (simp only [i64_w, i32_w]; rw [c11b0]) | skip)
     as_aux_lemma =>
      have H' := qS H
      clear H
      go_wp2
      go_meet
      case rel => exact ⟨_, (true), (by first | rfl | (simp; done) | (simp [*]; done)), H', ⟨by first | omega | exact Nat.le_refl _⟩, ⟨by (with_reducible repeat (first | refine qN ?_ _ | refine qD ?_ | refine qA ?_ _)); exact BK133.out⟩, ⟨by (with_reducible repeat (first | refine qN ?_ _ | refine qD ?_ | refine qA ?_ _)); exact BK134.out⟩, ⟨by repeat (first | (with_reducible first | exact HB.out | apply qpA | apply qpN | apply qp1 | refine qpS ?_ GE133.out | refine qpS ?_ GE134.out) | exact HB.out)⟩⟩
    ·rw [if_neg c11] at H
     have c11b0 : decide (a1 ≤ (-4611686018427387904)) = false := decide_eq_false c11
     clear c11
     (first | rw [c11b0] | (simp only [i64_w, i32_w]; rw [c11b0]) | skip)
     by_cases c12 : a1 ≥ 4611686018427387904
     ·rw [if_pos c12] at H
      have c12b0 : decide (4611686018427387904 ≤ a1) = true := decide_eq_true c12
      clear c12
      as_aux_lemma =>
       have H' := qS H
       clear H
       go_wp2
       go_meet
       case rel => exact ⟨_, (true), (by first | rfl | (simp; done) | (simp [*]; done)), H', ⟨by first | omega | exact Nat.le_refl _⟩, ⟨by (with_reducible repeat (first | refine qN ?_ _ | refine qD ?_ | refine qA ?_ _)); exact BK133.out⟩, ⟨by (with_reducible repeat (first | refine qN ?_ _ | refine qD ?_ | refine qA ?_ _)); exact BK134.out⟩, ⟨by repeat (first | (with_reducible first | exact HB.out | apply qpA | apply qpN | apply qp1 | refine qpS ?_ GE133.out | refine qpS ?_ GE134.out) | exact HB.out)⟩⟩
     ·rw [if_neg c12] at H
      have c12b0 : decide (4611686018427387904 ≤ a1) = false := decide_eq_false c12
      clear c12
      replace H := Option.bind_eq_some_iff.mp H
      obtain ⟨t141, A130, H⟩ := H
      replace H : (leap_UTC.j0 k t137 t138 (decide (t137 < t141)) a0_0 a0_1 l0_2) = some (r1, r2, r3, r4) := H
      have A13 := qS A130
      clear A130
      as_aux_lemma =>
       have H' := qS H
       clear H
       have hnb14 := NB133_134.out
       have hnc14 := NB134_133.out
       have hcz15_0 : w10.cell? ⟨gb133, 0, none⟩ = some (.int .i64 a0_0) := (qC BK133.out 0).trans rfl
       have hcz15_1 : w10.cell? ⟨gb133, 1, none⟩ = some (.int .i64 a0_1) := (qC BK133.out 1).trans rfl
       have hcz15_2 : w10.cell? ⟨gb133, 2, none⟩ = some (.slice A0_2 l0_2.length c0_2) := (qC BK133.out 2).trans rfl
       have hfz15_0 := qF BK133.out 0
       have hfz15_1 := qF BK133.out 1
       have hfz15_2 := qF BK133.out 2
       go_wp2_with (first | (go_at_call 89; (with_reducible refine (leap_begin.calls k a0_0 a0_1 _ _ l0_2 (-50000) t141 _ ?side1 ?side2 A13.out).mono ?_); (case side1 => repeat (first | exact (Kd.C_below HR0_2.out HB.out) | (with_reducible refine Kd.C_alloc ?_ _) | (with_reducible refine Kd.C_drewN ?_ _) | (with_reducible refine Kd.C_drew ?_))); (case side2 => exact HC0_2.out); rintro e w16 ⟨rfl, hb⟩; have n0_ := qS (qB (g := gb133) (o := .cells #[.int .i64 a0_0, .int .i64 a0_1, .slice A0_2 l0_2.length c0_2] 96 (0, 0)) (by (with_reducible repeat (first | refine qN ?_ _ | refine qD ?_ | refine qA ?_ _)); exact BK133.out) hb); have n1_ := qS (qB (g := gb134) (o := .cells #[.int .i64 0, .int .i64 0, .int .i64 0] 105 (0, 0)) (by (with_reducible repeat (first | refine qN ?_ _ | refine qD ?_ | refine qA ?_ _)); exact BK134.out) hb); have n2_ := qS (below_step (by repeat (first | (with_reducible first | exact HB.out | apply qpA | apply qpN | apply qp1 | refine qpS ?_ GE133.out | refine qpS ?_ GE134.out) | exact HB.out)) hb); clear BK133; clear BK134; clear HB; have BK133 := n0_; have BK134 := n1_; have HB := n2_; clear n0_ n1_ n2_; (try clear hb); (try clear hb2); (try clear hk); (try clear hi)))
       go_meet
       case rel => exact ⟨_, (decide (t137 < t141)), (by first | rfl | (simp; done) | (simp [*]; done)), H', ⟨by first | omega | exact Nat.le_refl _⟩, ⟨by (with_reducible repeat (first | refine qN ?_ _ | refine qD ?_ | refine qA ?_ _)); exact BK133.out⟩, ⟨by (with_reducible repeat (first | refine qN ?_ _ | refine qD ?_ | refine qA ?_ _)); exact BK134.out⟩, ⟨by repeat (first | (with_reducible first | exact HB.out | apply qpA | apply qpN | apply qp1 | refine qpS ?_ GE133.out | refine qpS ?_ GE134.out) | exact HB.out)⟩⟩
   ·have H1 : (leap_UTC.j0 k t137 t138 true a0_0 a0_1 l0_2) = some (r1, r2, r3, r4) := by rw [if_neg (show ¬ (some q140).isNone = true by simp)] at H; exact H
    clear H
    have H := H1
    clear H1
    try simp only [errW_none, errW_some]
    as_aux_lemma =>
     have H' := qS H
     clear H
     go_wp2
     go_meet
     case rel => exact ⟨_, (true), (by first | rfl | (simp; done) | (simp [*]; done)), H', ⟨by first | omega | exact Nat.le_refl _⟩, ⟨by (with_reducible repeat (first | refine qN ?_ _ | refine qD ?_ | refine qA ?_ _)); exact BK133.out⟩, ⟨by (with_reducible repeat (first | refine qN ?_ _ | refine qD ?_ | refine qA ?_ _)); exact BK134.out⟩, ⟨by repeat (first | (with_reducible first | exact HB.out | apply qpA | apply qpN | apply qp1 | refine qpS ?_ GE133.out | refine qpS ?_ GE134.out) | exact HB.out)⟩⟩
  case rest =>
   clear HC5
   try clear c1
   try clear q1
   try clear p2
   try clear c5
   try clear c8
   try clear c9
   try clear c11
   try clear c11b0
   try clear c12
   try clear c12b0
   try clear q13
   try clear c14
   try clear q14
   try clear hcz15_0
   try clear hcz15_1
   try clear hcz15_2
   try clear hcz9_0
   try clear hcz9_1
   try clear hcz9_2
   try clear hfz15_0
   try clear hfz15_1
   try clear hfz15_2
   try clear hfz9_0
   try clear hfz9_1
   try clear hfz9_2
   try clear q136
   try clear q140
   obtain ⟨kq, x39_4, rfl, HA, HJ4, BK133, BK134, HB⟩ := hcut
   cases kq with
   | zero => exact absurd HA.out (by simp [leap_UTC.j0])
   | succ kj4 =>
    have H := HA.out
    clear HA
    simp only [leap_UTC.j0] at H
    by_cases c17 : x39_4 = true
    ·subst c17
     have H1 : (some (0, 0, 0, some 2)) = some (r1, r2, r3, r4) := by rw [if_pos rfl] at H; exact H
     clear H
     have H := H1
     clear H1
     as_aux_lemma =>
      simp only [Option.some.injEq, Prod.mk.injEq] at H
      obtain ⟨rfl, rfl, rfl, rfl⟩ := H
      have hnb18 := NB134_133.out
      have hnc18 := NB133_134.out
      have hcz19_0 : wc.cell? ⟨gb134, 0, none⟩ = some (.int .i64 0) := (qC BK134.out 0).trans rfl
      have hcz19_1 : wc.cell? ⟨gb134, 1, none⟩ = some (.int .i64 0) := (qC BK134.out 1).trans rfl
      have hcz19_2 : wc.cell? ⟨gb134, 2, none⟩ = some (.int .i64 0) := (qC BK134.out 2).trans rfl
      have hfz19_0 := qF BK134.out 0
      have hfz19_1 := qF BK134.out 1
      have hfz19_2 := qF BK134.out 2
      go_wp2
      refine bodyPost_ret (results_ct rfl _ _ gb134 105 #[.int .i64 0, .int .i64 0, .int .i64 0] (0, 0) _ rfl (by (with_reducible repeat (first | refine qN ?_ _ | refine qD ?_ | refine qA ?_ _)); refine blk_put (cs := #[.int .i64 0, .int .i64 0, .int .i64 0]) ?_ 2 _ rfl; (with_reducible repeat (first | refine qN ?_ _ | refine qD ?_ | refine qA ?_ _)); refine blk_put (cs := #[.int .i64 0, .int .i64 0, .int .i64 0]) ?_ 1 _ rfl; (with_reducible repeat (first | refine qN ?_ _ | refine qD ?_ | refine qA ?_ _)); refine blk_put (cs := #[.int .i64 0, .int .i64 0, .int .i64 0]) ?_ 0 _ rfl; (with_reducible repeat (first | refine qN ?_ _ | refine qD ?_ | refine qA ?_ _)); exact BK134.out) Tryd.underlying105 rfl (by kernel_rfl)) rfl ?_
      exact ⟨by first | rfl | (simp [errW_none, errW_some] <;> rfl) | (simp [*, errW_none, errW_some] <;> rfl), by repeat (first | (with_reducible first | exact HB.out | apply qpA | apply qpN | apply qp1 | refine qpS ?_ GE133.out | refine qpS ?_ GE134.out) | exact HB.out)⟩
    ·replace c17 := Bool.eq_false_iff.mpr c17
     subst c17
     have H1 : ((leap_begin.f kj4 a0_0 a0_1 l0_2 a0_1).bind fun t142 => (if t137 ≥ t142 then (some (0, 0, 0, some 10)) else ((num_Div.f t137 86400).bind fun bt143 => (if bt143.2.2.isNone = true then (leap_UTC.l0 kj4 t137 t138 bt143.1 a0_0 a0_1 l0_2) else (some (0, 0, 0, some (bt143.2.2.getD 0))))))) = some (r1, r2, r3, r4) := by rw [if_neg (show ¬ (false = true) by decide)] at H; exact H
     clear H
     have H := H1
     clear H1
     replace H := Option.bind_eq_some_iff.mp H
     obtain ⟨t142, A200, H⟩ := H
     replace H : (if t137 ≥ t142 then (some (0, 0, 0, some 10)) else ((num_Div.f t137 86400).bind fun bt143 => (if bt143.2.2.isNone = true then (leap_UTC.l0 kj4 t137 t138 bt143.1 a0_0 a0_1 l0_2) else (some (0, 0, 0, some (bt143.2.2.getD 0)))))) = some (r1, r2, r3, r4) := H
     have A20 := qS A200
     clear A200
     by_cases c21 : t137 ≥ t142
     ·rw [if_pos c21] at H
      have c21b0 : decide (t142 ≤ t137) = true := decide_eq_true c21
      clear c21
      as_aux_lemma =>
       simp only [Option.some.injEq, Prod.mk.injEq] at H
       obtain ⟨rfl, rfl, rfl, rfl⟩ := H
       have hnb22 := NB133_134.out
       have hnc22 := NB134_133.out
       have hcz23_0 : wc.cell? ⟨gb133, 0, none⟩ = some (.int .i64 a0_0) := (qC BK133.out 0).trans rfl
       have hcz23_1 : wc.cell? ⟨gb133, 1, none⟩ = some (.int .i64 a0_1) := (qC BK133.out 1).trans rfl
       have hcz23_2 : wc.cell? ⟨gb133, 2, none⟩ = some (.slice A0_2 l0_2.length c0_2) := (qC BK133.out 2).trans rfl
       have hfz23_0 := qF BK133.out 0
       have hfz23_1 := qF BK133.out 1
       have hfz23_2 := qF BK133.out 2
       go_wp2_with (first | ((with_reducible refine gate_callee (f := 89) rfl ?_); refine goesL_ (some 46) rfl rfl Tryd.func89 (by kernel_rfl) rfl #[.agg #[.int .i64 a0_0, .int .i64 a0_1, .slice A0_2 l0_2.length c0_2], .int .i64 a0_1] rfl (by (try simp only [List.map_toArray, List.map_cons, List.map_nil]); first | done | rfl | (simp only [*]; done) | (simp only [List.length_drop, List.length_take]; rfl) | (simp only [Act.eval, Array.getD_eq_getD_getElem?, Option.getD_some, *])) ?_; (with_reducible refine (leap_begin.calls kj4 a0_0 a0_1 _ _ l0_2 a0_1 t142 _ ?side1 ?side2 A20.out).mono ?_); (case side1 => repeat (first | exact (Kd.C_below HR0_2.out HB.out) | (with_reducible refine Kd.C_alloc ?_ _) | (with_reducible refine Kd.C_drewN ?_ _) | (with_reducible refine Kd.C_drew ?_))); (case side2 => exact HC0_2.out); rintro e w24 ⟨rfl, hb⟩; refine ⟨_, rfl, ?_⟩; have n0_ := qS (qB (g := gb133) (o := .cells #[.int .i64 a0_0, .int .i64 a0_1, .slice A0_2 l0_2.length c0_2] 96 (0, 0)) (by (with_reducible repeat (first | refine qN ?_ _ | refine qD ?_ | refine qA ?_ _)); exact BK133.out) hb); have n1_ := qS (qB (g := gb134) (o := .cells #[.int .i64 0, .int .i64 0, .int .i64 0] 105 (0, 0)) (by (with_reducible repeat (first | refine qN ?_ _ | refine qD ?_ | refine qA ?_ _)); exact BK134.out) hb); have n2_ := qS (below_step (by repeat (first | (with_reducible first | exact HB.out | apply qpA | apply qpN | apply qp1 | refine qpS ?_ GE133.out | refine qpS ?_ GE134.out) | exact HB.out)) hb); clear BK133; clear BK134; clear HB; have BK133 := n0_; have BK134 := n1_; have HB := n2_; clear n0_ n1_ n2_; (try clear hb); (try clear hb2); (try clear hk); (try clear hi); have hcz25_0 : w24.cell? ⟨gb134, 0, none⟩ = some (.int .i64 0) := (qC BK134.out 0).trans rfl; have hcz25_1 : w24.cell? ⟨gb134, 1, none⟩ = some (.int .i64 0) := (qC BK134.out 1).trans rfl; have hcz25_2 : w24.cell? ⟨gb134, 2, none⟩ = some (.int .i64 0) := (qC BK134.out 2).trans rfl; have hfz25_0 := qF BK134.out 0; have hfz25_1 := qF BK134.out 1; have hfz25_2 := qF BK134.out 2))
       refine bodyPost_ret (results_ct rfl _ _ gb134 105 #[.int .i64 0, .int .i64 0, .int .i64 0] (0, 0) _ rfl (by (with_reducible repeat (first | refine qN ?_ _ | refine qD ?_ | refine qA ?_ _)); refine blk_put (cs := #[.int .i64 0, .int .i64 0, .int .i64 0]) ?_ 2 _ rfl; (with_reducible repeat (first | refine qN ?_ _ | refine qD ?_ | refine qA ?_ _)); refine blk_put (cs := #[.int .i64 0, .int .i64 0, .int .i64 0]) ?_ 1 _ rfl; (with_reducible repeat (first | refine qN ?_ _ | refine qD ?_ | refine qA ?_ _)); refine blk_put (cs := #[.int .i64 0, .int .i64 0, .int .i64 0]) ?_ 0 _ rfl; (with_reducible repeat (first | refine qN ?_ _ | refine qD ?_ | refine qA ?_ _)); exact BK134.out) Tryd.underlying105 rfl (by kernel_rfl)) rfl ?_
       exact ⟨by first | rfl | (simp [errW_none, errW_some] <;> rfl) | (simp [*, errW_none, errW_some] <;> rfl), by repeat (first | (with_reducible first | exact HB.out | apply qpA | apply qpN | apply qp1 | refine qpS ?_ GE133.out | refine qpS ?_ GE134.out) | exact HB.out)⟩
     ·rw [if_neg c21] at H
      have c21b0 : decide (t142 ≤ t137) = false := decide_eq_false c21
      clear c21
      replace H := Option.bind_eq_some_iff.mp H
      obtain ⟨⟨t143, t144, t145⟩, A260, H⟩ := H
      replace H : (if t145.isNone = true then (leap_UTC.l0 kj4 t137 t138 t143 a0_0 a0_1 l0_2) else (some (0, 0, 0, some (t145.getD 0)))) = some (r1, r2, r3, r4) := H
      have A26 := qS A260
      clear A260
      rcases t145 with _ | q146
      ·have H1 : (leap_UTC.l0 kj4 t137 t138 t143 a0_0 a0_1 l0_2) = some (r1, r2, r3, r4) := by rw [if_pos (show (none : Option Int).isNone = true by rfl)] at H; exact H
       clear H
       have H := H1
       clear H1
       try simp only [errW_none, errW_some]
       have H' := qS H
       clear H
       have hnb27 := NB133_134.out
       have hnc27 := NB134_133.out
       have hcz28_0 : wc.cell? ⟨gb133, 0, none⟩ = some (.int .i64 a0_0) := (qC BK133.out 0).trans rfl
       have hcz28_1 : wc.cell? ⟨gb133, 1, none⟩ = some (.int .i64 a0_1) := (qC BK133.out 1).trans rfl
       have hcz28_2 : wc.cell? ⟨gb133, 2, none⟩ = some (.slice A0_2 l0_2.length c0_2) := (qC BK133.out 2).trans rfl
       have hfz28_0 := qF BK133.out 0
       have hfz28_1 := qF BK133.out 1
       have hfz28_2 := qF BK133.out 2
       go_wp2_with (first | ((with_reducible refine gate_callee (f := 89) rfl ?_); refine goesL_ (some 46) rfl rfl Tryd.func89 (by kernel_rfl) rfl #[.agg #[.int .i64 a0_0, .int .i64 a0_1, .slice A0_2 l0_2.length c0_2], .int .i64 a0_1] rfl (by (try simp only [List.map_toArray, List.map_cons, List.map_nil]); first | done | rfl | (simp only [*]; done) | (simp only [List.length_drop, List.length_take]; rfl) | (simp only [Act.eval, Array.getD_eq_getD_getElem?, Option.getD_some, *])) ?_; (with_reducible refine (leap_begin.calls kj4 a0_0 a0_1 _ _ l0_2 a0_1 t142 _ ?side1 ?side2 A20.out).mono ?_); (case side1 => repeat (first | exact (Kd.C_below HR0_2.out HB.out) | (with_reducible refine Kd.C_alloc ?_ _) | (with_reducible refine Kd.C_drewN ?_ _) | (with_reducible refine Kd.C_drew ?_))); (case side2 => exact HC0_2.out); rintro e w29 ⟨rfl, hb⟩; refine ⟨_, rfl, ?_⟩; have n0_ := qS (qB (g := gb133) (o := .cells #[.int .i64 a0_0, .int .i64 a0_1, .slice A0_2 l0_2.length c0_2] 96 (0, 0)) (by (with_reducible repeat (first | refine qN ?_ _ | refine qD ?_ | refine qA ?_ _)); exact BK133.out) hb); have n1_ := qS (qB (g := gb134) (o := .cells #[.int .i64 0, .int .i64 0, .int .i64 0] 105 (0, 0)) (by (with_reducible repeat (first | refine qN ?_ _ | refine qD ?_ | refine qA ?_ _)); exact BK134.out) hb); have n2_ := qS (below_step (by repeat (first | (with_reducible first | exact HB.out | apply qpA | apply qpN | apply qp1 | refine qpS ?_ GE133.out | refine qpS ?_ GE134.out) | exact HB.out)) hb); clear BK133; clear BK134; clear HB; have BK133 := n0_; have BK134 := n1_; have HB := n2_; clear n0_ n1_ n2_; (try clear hb); (try clear hb2); (try clear hk); (try clear hi)) | ((with_reducible refine gate_callee (f := 90) rfl ?_); refine goesL_ (some 52) rfl rfl Tryd.func90 (by kernel_rfl) rfl #[.int .i64 t137, .int .i64 86400] rfl (by (try simp only [List.map_toArray, List.map_cons, List.map_nil]); first | done | rfl | (simp only [*]; done) | (simp only [List.length_drop, List.length_take]; rfl) | (simp only [Act.eval, Array.getD_eq_getD_getElem?, Option.getD_some, *])) ?_; (with_reducible refine (num_Div.calls t137 86400 t143 t144 none _ A26.out).mono ?_); rintro e w' ⟨rfl, ⟨nd, rfl⟩⟩; refine ⟨_, rfl, ?_⟩; (try simp only [errW_none, errW_some])))
       go_loopg [10] kj4 (fun kq v10 w' => ∃ (x10_2 : Int), v10 = .int .i64 x10_2 ∧ Aside0 (leap_UTC.l0 kq t137 t138 x10_2 a0_0 a0_1 l0_2 = some (r1, r2, r3, r4)) ∧ Aside0 (kq ≤ kj4) ∧ Aside0 (w'.heap[gb133]? = some (.cells #[.int .i64 a0_0, .int .i64 a0_1, (.slice A0_2 l0_2.length c0_2)] 96 (0, 0))) ∧ Aside0 (w'.heap[gb134]? = some (.cells #[.int .i64 0, .int .i64 0, .int .i64 0] 105 (0, 0))) ∧ Aside0 (Below w.heap.size w w'))
       case atStart => exact ⟨(t143), (by first | rfl | (simp; done) | (simp [*]; done)), H', ⟨Nat.le_refl _⟩, ⟨by (with_reducible repeat (first | refine qN ?_ _ | refine qD ?_ | refine qA ?_ _)); exact BK133.out⟩, ⟨by (with_reducible repeat (first | refine qN ?_ _ | refine qD ?_ | refine qA ?_ _)); exact BK134.out⟩, ⟨by repeat (first | (with_reducible first | exact HB.out | apply qpA | apply qpN | apply qp1 | refine qpS ?_ GE133.out | refine qpS ?_ GE134.out) | exact HB.out)⟩⟩
       case round =>
        clear H'
        try clear c1
        try clear q1
        try clear c2
        try clear p2
        try clear c5
        try clear c8
        try clear c9
        try clear c11
        try clear c11b0
        try clear c12
        try clear c12b0
        try clear q13
        try clear c14
        try clear q14
        try clear c17
        try clear c18
        try clear c21
        try clear c21b0
        try clear c22
        try clear c27
        try clear hcz15_0
        try clear hcz15_1
        try clear hcz15_2
        try clear hcz19_0
        try clear hcz19_1
        try clear hcz19_2
        try clear hcz23_0
        try clear hcz23_1
        try clear hcz23_2
        try clear hcz25_0
        try clear hcz25_1
        try clear hcz25_2
        try clear hcz28_0
        try clear hcz28_1
        try clear hcz28_2
        try clear hcz9_0
        try clear hcz9_1
        try clear hcz9_2
        try clear hfz15_0
        try clear hfz15_1
        try clear hfz15_2
        try clear hfz19_0
        try clear hfz19_1
        try clear hfz19_2
        try clear hfz23_0
        try clear hfz23_1
        try clear hfz23_2
        try clear hfz25_0
        try clear hfz25_1
        try clear hfz25_2
        try clear hfz28_0
        try clear hfz28_1
        try clear hfz28_2
        try clear hfz9_0
        try clear hfz9_1
        try clear hfz9_2
        try clear p2
        try clear q1
        try clear q13
        try clear q136
        try clear q14
        try clear q140
        try clear q146
        obtain ⟨x10_2, rfl, HA, HK2, BK133, BK134, HB⟩ := hrel
        cases gk with
        | zero => exact absurd HA.out (by simp [leap_UTC.l0])
        | succ k2 =>
         have H := HA.out
         clear HA
         simp only [leap_UTC.l0] at H
         replace H := Option.bind_eq_some_iff.mp H
         obtain ⟨t147, A300, H⟩ := H
         replace H : (if t137 < t147 then (leap_UTC.l0 k2 t137 t138 (wrap64 (x10_2 - 1)) a0_0 a0_1 l0_2) else ((leap_begin.f k2 a0_0 a0_1 l0_2 x10_2).bind fun t148 => (some (x10_2, wrap64 (t137 - t148), t138, none)))) = some (r1, r2, r3, r4) := H
         have A30 := qS A300
         clear A300
         by_cases c31 : t137 < t147
         ·rw [if_pos c31] at H
          have c31b0 : decide (t137 < t147) = true := decide_eq_true c31
          clear c31
          as_aux_lemma =>
           have H' := qS H
           clear H
           have hnb32 := NB133_134.out
           have hnc32 := NB134_133.out
           have hcz33_0 : wr.cell? ⟨gb133, 0, none⟩ = some (.int .i64 a0_0) := (qC BK133.out 0).trans rfl
           have hcz33_1 : wr.cell? ⟨gb133, 1, none⟩ = some (.int .i64 a0_1) := (qC BK133.out 1).trans rfl
           have hcz33_2 : wr.cell? ⟨gb133, 2, none⟩ = some (.slice A0_2 l0_2.length c0_2) := (qC BK133.out 2).trans rfl
           have hfz33_0 := qF BK133.out 0
           have hfz33_1 := qF BK133.out 1
           have hfz33_2 := qF BK133.out 2
           go_wp2_with (first | ((with_reducible refine gate_callee (f := 89) rfl ?_); refine goesL_ (some 63) rfl rfl Tryd.func89 (by kernel_rfl) rfl #[.agg #[.int .i64 a0_0, .int .i64 a0_1, .slice A0_2 l0_2.length c0_2], .int .i64 x10_2] rfl (by (try simp only [List.map_toArray, List.map_cons, List.map_nil]); first | done | rfl | (simp only [*]; done) | (simp only [List.length_drop, List.length_take]; rfl) | (simp only [Act.eval, Array.getD_eq_getD_getElem?, Option.getD_some, *])) ?_; (with_reducible refine (leap_begin.calls k2 a0_0 a0_1 _ _ l0_2 x10_2 t147 _ ?side1 ?side2 A30.out).mono ?_); (case side1 => repeat (first | exact (Kd.C_below HR0_2.out HB.out) | (with_reducible refine Kd.C_alloc ?_ _) | (with_reducible refine Kd.C_drewN ?_ _) | (with_reducible refine Kd.C_drew ?_))); (case side2 => exact HC0_2.out); rintro e w34 ⟨rfl, hb⟩; refine ⟨_, rfl, ?_⟩; have n0_ := qS (qB (g := gb133) (o := .cells #[.int .i64 a0_0, .int .i64 a0_1, .slice A0_2 l0_2.length c0_2] 96 (0, 0)) (by (with_reducible repeat (first | refine qN ?_ _ | refine qD ?_ | refine qA ?_ _)); exact BK133.out) hb); have n1_ := qS (qB (g := gb134) (o := .cells #[.int .i64 0, .int .i64 0, .int .i64 0] 105 (0, 0)) (by (with_reducible repeat (first | refine qN ?_ _ | refine qD ?_ | refine qA ?_ _)); exact BK134.out) hb); have n2_ := qS (below_step (by repeat (first | (with_reducible first | exact HB.out | apply qpA | apply qpN | apply qp1 | refine qpS ?_ GE133.out | refine qpS ?_ GE134.out) | exact HB.out)) hb); clear BK133; clear BK134; clear HB; have BK133 := n0_; have BK134 := n1_; have HB := n2_; clear n0_ n1_ n2_; (try clear hb); (try clear hb2); (try clear hk); (try clear hi)))
           go_roundg k2
           case measure => have := HJ4.out; have := HK2.out; omega
           case rel => exact ⟨(wrap64 (x10_2 - 1)), (by first | rfl | (simp; done) | (simp [*]; done)), H', ⟨by have := HJ4.out; have := HK2.out; omega⟩, ⟨by (with_reducible repeat (first | refine qN ?_ _ | refine qD ?_ | refine qA ?_ _)); exact BK133.out⟩, ⟨by (with_reducible repeat (first | refine qN ?_ _ | refine qD ?_ | refine qA ?_ _)); exact BK134.out⟩, ⟨by repeat (first | (with_reducible first | exact HB.out | apply qpA | apply qpN | apply qp1 | refine qpS ?_ GE133.out | refine qpS ?_ GE134.out) | exact HB.out)⟩⟩
         ·rw [if_neg c31] at H
          have c31b0 : decide (t137 < t147) = false := decide_eq_false c31
          clear c31
          replace H := Option.bind_eq_some_iff.mp H
          obtain ⟨t148, A350, H⟩ := H
          replace H : (some (x10_2, wrap64 (t137 - t148), t138, none)) = some (r1, r2, r3, r4) := H
          have A35 := qS A350
          clear A350
          as_aux_lemma =>
           simp only [Option.some.injEq, Prod.mk.injEq] at H
           obtain ⟨rfl, rfl, rfl, rfl⟩ := H
           have hnb36 := NB133_134.out
           have hnc36 := NB134_133.out
           have hcz37_0 : wr.cell? ⟨gb133, 0, none⟩ = some (.int .i64 a0_0) := (qC BK133.out 0).trans rfl
           have hcz37_1 : wr.cell? ⟨gb133, 1, none⟩ = some (.int .i64 a0_1) := (qC BK133.out 1).trans rfl
           have hcz37_2 : wr.cell? ⟨gb133, 2, none⟩ = some (.slice A0_2 l0_2.length c0_2) := (qC BK133.out 2).trans rfl
           have hfz37_0 := qF BK133.out 0
           have hfz37_1 := qF BK133.out 1
           have hfz37_2 := qF BK133.out 2
           go_wp2_with (first | ((with_reducible refine gate_callee (f := 89) rfl ?_); refine goesL_ (some 63) rfl rfl Tryd.func89 (by kernel_rfl) rfl #[.agg #[.int .i64 a0_0, .int .i64 a0_1, .slice A0_2 l0_2.length c0_2], .int .i64 x10_2] rfl (by (try simp only [List.map_toArray, List.map_cons, List.map_nil]); first | done | rfl | (simp only [*]; done) | (simp only [List.length_drop, List.length_take]; rfl) | (simp only [Act.eval, Array.getD_eq_getD_getElem?, Option.getD_some, *])) ?_; (with_reducible refine (leap_begin.calls k2 a0_0 a0_1 _ _ l0_2 x10_2 t147 _ ?side1 ?side2 A30.out).mono ?_); (case side1 => repeat (first | exact (Kd.C_below HR0_2.out HB.out) | (with_reducible refine Kd.C_alloc ?_ _) | (with_reducible refine Kd.C_drewN ?_ _) | (with_reducible refine Kd.C_drew ?_))); (case side2 => exact HC0_2.out); rintro e w38 ⟨rfl, hb⟩; refine ⟨_, rfl, ?_⟩; have n0_ := qS (qB (g := gb133) (o := .cells #[.int .i64 a0_0, .int .i64 a0_1, .slice A0_2 l0_2.length c0_2] 96 (0, 0)) (by (with_reducible repeat (first | refine qN ?_ _ | refine qD ?_ | refine qA ?_ _)); exact BK133.out) hb); have n1_ := qS (qB (g := gb134) (o := .cells #[.int .i64 0, .int .i64 0, .int .i64 0] 105 (0, 0)) (by (with_reducible repeat (first | refine qN ?_ _ | refine qD ?_ | refine qA ?_ _)); exact BK134.out) hb); have n2_ := qS (below_step (by repeat (first | (with_reducible first | exact HB.out | apply qpA | apply qpN | apply qp1 | refine qpS ?_ GE133.out | refine qpS ?_ GE134.out) | exact HB.out)) hb); clear BK133; clear BK134; clear HB; have BK133 := n0_; have BK134 := n1_; have HB := n2_; clear n0_ n1_ n2_; (try clear hb); (try clear hb2); (try clear hk); (try clear hi); have hcz39_0 : w38.cell? ⟨gb133, 0, none⟩ = some (.int .i64 a0_0) := (qC BK133.out 0).trans rfl; have hcz39_1 : w38.cell? ⟨gb133, 1, none⟩ = some (.int .i64 a0_1) := (qC BK133.out 1).trans rfl; have hcz39_2 : w38.cell? ⟨gb133, 2, none⟩ = some (.slice A0_2 l0_2.length c0_2) := (qC BK133.out 2).trans rfl; have hfz39_0 := qF BK133.out 0; have hfz39_1 := qF BK133.out 1; have hfz39_2 := qF BK133.out 2) | ((with_reducible refine gate_callee (f := 89) rfl ?_); refine goesL_ (some 71) rfl rfl Tryd.func89 (by kernel_rfl) rfl #[.agg #[.int .i64 a0_0, .int .i64 a0_1, .slice A0_2 l0_2.length c0_2], .int .i64 x10_2] rfl (by (try simp only [List.map_toArray, List.map_cons, List.map_nil]); first | done | rfl | (simp only [*]; done) | (simp only [List.length_drop, List.length_take]; rfl) | (simp only [Act.eval, Array.getD_eq_getD_getElem?, Option.getD_some, *])) ?_; (with_reducible refine (leap_begin.calls k2 a0_0 a0_1 _ _ l0_2 x10_2 t148 _ ?side1 ?side2 A35.out).mono ?_); (case side1 => repeat (first | exact (Kd.C_below HR0_2.out HB.out) | (with_reducible refine Kd.C_alloc ?_ _) | (with_reducible refine Kd.C_drewN ?_ _) | (with_reducible refine Kd.C_drew ?_))); (case side2 => exact HC0_2.out); rintro e w40 ⟨rfl, hb⟩; refine ⟨_, rfl, ?_⟩; have n0_ := qS (qB (g := gb133) (o := .cells #[.int .i64 a0_0, .int .i64 a0_1, .slice A0_2 l0_2.length c0_2] 96 (0, 0)) (by (with_reducible repeat (first | refine qN ?_ _ | refine qD ?_ | refine qA ?_ _)); exact BK133.out) hb); have n1_ := qS (qB (g := gb134) (o := .cells #[.int .i64 0, .int .i64 0, .int .i64 0] 105 (0, 0)) (by (with_reducible repeat (first | refine qN ?_ _ | refine qD ?_ | refine qA ?_ _)); exact BK134.out) hb); have n2_ := qS (below_step (by repeat (first | (with_reducible first | exact HB.out | apply qpA | apply qpN | apply qp1 | refine qpS ?_ GE133.out | refine qpS ?_ GE134.out) | exact HB.out)) hb); clear BK133; clear BK134; clear HB; have BK133 := n0_; have BK134 := n1_; have HB := n2_; clear n0_ n1_ n2_; (try clear hb); (try clear hb2); (try clear hk); (try clear hi); have hcz41_0 : w40.cell? ⟨gb134, 0, none⟩ = some (.int .i64 0) := (qC BK134.out 0).trans rfl; have hcz41_1 : w40.cell? ⟨gb134, 1, none⟩ = some (.int .i64 0) := (qC BK134.out 1).trans rfl; have hcz41_2 : w40.cell? ⟨gb134, 2, none⟩ = some (.int .i64 0) := (qC BK134.out 2).trans rfl; have hfz41_0 := qF BK134.out 0; have hfz41_1 := qF BK134.out 1; have hfz41_2 := qF BK134.out 2))
           refine bodyPost_ret (results_ct rfl _ _ gb134 105 #[.int .i64 x10_2, .int .i64 (wrap64 (t137 - t148)), .int .i64 t138] (0, 0) _ rfl (by (with_reducible repeat (first | refine qN ?_ _ | refine qD ?_ | refine qA ?_ _)); refine blk_put (cs := #[.int .i64 x10_2, .int .i64 (wrap64 (t137 - t148)), .int .i64 0]) ?_ 2 _ rfl; (with_reducible repeat (first | refine qN ?_ _ | refine qD ?_ | refine qA ?_ _)); refine blk_put (cs := #[.int .i64 x10_2, .int .i64 0, .int .i64 0]) ?_ 1 _ rfl; (with_reducible repeat (first | refine qN ?_ _ | refine qD ?_ | refine qA ?_ _)); refine blk_put (cs := #[.int .i64 0, .int .i64 0, .int .i64 0]) ?_ 0 _ rfl; (with_reducible repeat (first | refine qN ?_ _ | refine qD ?_ | refine qA ?_ _)); exact BK134.out) Tryd.underlying105 rfl (by kernel_rfl)) rfl ?_
           exact ⟨by first | rfl | (simp [errW_none, errW_some] <;> rfl) | (simp [*, errW_none, errW_some] <;> rfl), by repeat (first | (with_reducible first | exact HB.out | apply qpA | apply qpN | apply qp1 | refine qpS ?_ GE133.out | refine qpS ?_ GE134.out) | exact HB.out)⟩
      ·have H1 : (some (0, 0, 0, some q146)) = some (r1, r2, r3, r4) := by rw [if_neg (show ¬ (some q146).isNone = true by simp)] at H; exact H
       clear H
       have H := H1
       clear H1
       try simp only [errW_none, errW_some]
       as_aux_lemma =>
        simp only [Option.some.injEq, Prod.mk.injEq] at H
        obtain ⟨rfl, rfl, rfl, rfl⟩ := H
        have hnb42 := NB133_134.out
        have hnc42 := NB134_133.out
        have hcz43_0 : wc.cell? ⟨gb133, 0, none⟩ = some (.int .i64 a0_0) := (qC BK133.out 0).trans rfl
        have hcz43_1 : wc.cell? ⟨gb133, 1, none⟩ = some (.int .i64 a0_1) := (qC BK133.out 1).trans rfl
        have hcz43_2 : wc.cell? ⟨gb133, 2, none⟩ = some (.slice A0_2 l0_2.length c0_2) := (qC BK133.out 2).trans rfl
        have hfz43_0 := qF BK133.out 0
        have hfz43_1 := qF BK133.out 1
        have hfz43_2 := qF BK133.out 2
        go_wp2_with (first | ((with_reducible refine gate_callee (f := 89) rfl ?_); refine goesL_ (some 46) rfl rfl Tryd.func89 (by kernel_rfl) rfl #[.agg #[.int .i64 a0_0, .int .i64 a0_1, .slice A0_2 l0_2.length c0_2], .int .i64 a0_1] rfl (by (try simp only [List.map_toArray, List.map_cons, List.map_nil]); first | done | rfl | (simp only [*]; done) | (simp only [List.length_drop, List.length_take]; rfl) | (simp only [Act.eval, Array.getD_eq_getD_getElem?, Option.getD_some, *])) ?_; (with_reducible refine (leap_begin.calls kj4 a0_0 a0_1 _ _ l0_2 a0_1 t142 _ ?side1 ?side2 A20.out).mono ?_); (case side1 => repeat (first | exact (Kd.C_below HR0_2.out HB.out) | (with_reducible refine Kd.C_alloc ?_ _) | (with_reducible refine Kd.C_drewN ?_ _) | (with_reducible refine Kd.C_drew ?_))); (case side2 => exact HC0_2.out); rintro e w44 ⟨rfl, hb⟩; refine ⟨_, rfl, ?_⟩; have n0_ := qS (qB (g := gb133) (o := .cells #[.int .i64 a0_0, .int .i64 a0_1, .slice A0_2 l0_2.length c0_2] 96 (0, 0)) (by (with_reducible repeat (first | refine qN ?_ _ | refine qD ?_ | refine qA ?_ _)); exact BK133.out) hb); have n1_ := qS (qB (g := gb134) (o := .cells #[.int .i64 0, .int .i64 0, .int .i64 0] 105 (0, 0)) (by (with_reducible repeat (first | refine qN ?_ _ | refine qD ?_ | refine qA ?_ _)); exact BK134.out) hb); have n2_ := qS (below_step (by repeat (first | (with_reducible first | exact HB.out | apply qpA | apply qpN | apply qp1 | refine qpS ?_ GE133.out | refine qpS ?_ GE134.out) | exact HB.out)) hb); clear BK133; clear BK134; clear HB; have BK133 := n0_; have BK134 := n1_; have HB := n2_; clear n0_ n1_ n2_; (try clear hb); (try clear hb2); (try clear hk); (try clear hi)) | ((with_reducible refine gate_callee (f := 90) rfl ?_); refine goesL_ (some 52) rfl rfl Tryd.func90 (by kernel_rfl) rfl #[.int .i64 t137, .int .i64 86400] rfl (by (try simp only [List.map_toArray, List.map_cons, List.map_nil]); first | done | rfl | (simp only [*]; done) | (simp only [List.length_drop, List.length_take]; rfl) | (simp only [Act.eval, Array.getD_eq_getD_getElem?, Option.getD_some, *])) ?_; (with_reducible refine (num_Div.calls t137 86400 t143 t144 (some q146) _ A26.out).mono ?_); rintro e w' ⟨rfl, ⟨nd, rfl⟩⟩; refine ⟨_, rfl, ?_⟩; (try simp only [errW_none, errW_some]); (try (rw [drewN_self w44]; generalize hq_ : World.drewN w44 _ = w44; have n0_ : Aside0 (w44.heap[gb133]? = some (.cells #[.int .i64 a0_0, .int .i64 a0_1, .slice A0_2 l0_2.length c0_2] 96 (0, 0))) := ⟨by rw [← hq_]; exact (by (with_reducible repeat (first | refine qN ?_ _ | refine qD ?_ | refine qA ?_ _)); exact BK133.out)⟩; have n1_ : Aside0 (w44.heap[gb134]? = some (.cells #[.int .i64 0, .int .i64 0, .int .i64 0] 105 (0, 0))) := ⟨by rw [← hq_]; exact (by (with_reducible repeat (first | refine qN ?_ _ | refine qD ?_ | refine qA ?_ _)); exact BK134.out)⟩; have n2_ : Aside0 (Below w.heap.size w w44) := ⟨by rw [← hq_]; exact (by repeat (first | (with_reducible first | exact HB.out | apply qpA | apply qpN | apply qp1 | refine qpS ?_ GE133.out | refine qpS ?_ GE134.out) | exact HB.out))⟩; clear BK133 BK134 HB hq_; have BK133 := n0_; have BK134 := n1_; have HB := n2_; clear n0_ n1_ n2_)); have hcz45_0 : w44.cell? ⟨gb134, 0, none⟩ = some (.int .i64 0) := (qC BK134.out 0).trans rfl; have hcz45_1 : w44.cell? ⟨gb134, 1, none⟩ = some (.int .i64 0) := (qC BK134.out 1).trans rfl; have hcz45_2 : w44.cell? ⟨gb134, 2, none⟩ = some (.int .i64 0) := (qC BK134.out 2).trans rfl; have hfz45_0 := qF BK134.out 0; have hfz45_1 := qF BK134.out 1; have hfz45_2 := qF BK134.out 2))
        refine bodyPost_ret (results_ct rfl _ _ gb134 105 #[.int .i64 0, .int .i64 0, .int .i64 0] (0, 0) _ rfl (by (with_reducible repeat (first | refine qN ?_ _ | refine qD ?_ | refine qA ?_ _)); refine blk_put (cs := #[.int .i64 0, .int .i64 0, .int .i64 0]) ?_ 2 _ rfl; (with_reducible repeat (first | refine qN ?_ _ | refine qD ?_ | refine qA ?_ _)); refine blk_put (cs := #[.int .i64 0, .int .i64 0, .int .i64 0]) ?_ 1 _ rfl; (with_reducible repeat (first | refine qN ?_ _ | refine qD ?_ | refine qA ?_ _)); refine blk_put (cs := #[.int .i64 0, .int .i64 0, .int .i64 0]) ?_ 0 _ rfl; (with_reducible repeat (first | refine qN ?_ _ | refine qD ?_ | refine qA ?_ _)); exact BK134.out) Tryd.underlying105 rfl (by kernel_rfl)) rfl ?_
        exact ⟨by first | rfl | (simp [errW_none, errW_some] <;> rfl) | (simp [*, errW_none, errW_some] <;> rfl), by repeat (first | (with_reducible first | exact HB.out | apply qpA | apply qpN | apply qp1 | refine qpS ?_ GE133.out | refine qpS ?_ GE134.out) | exact HB.out)⟩
 ·have H1 : (some (0, 0, 0, some q136)) = some (r1, r2, r3, r4) := by rw [if_neg (show ¬ (some q136).isNone = true by simp)] at H; exact H
  clear H
  have H := H1
  clear H1
  try simp only [errW_none, errW_some]
  as_aux_lemma =>
   simp only [Option.some.injEq, Prod.mk.injEq] at H
   obtain ⟨rfl, rfl, rfl, rfl⟩ := H
   go_enter Tryd.func57, Tryd.ntmps57
   go_wp2_with (first | ((with_reducible refine gate_dst (N := 2) rfl ?_); refine box_event ?hg (N := 2) ?hd (cs := #[.int .i64 a0_0, .int .i64 a0_1, .slice A0_2 l0_2.length c0_2]) (t := 96) ?hr ?_; (case hd => rfl); (case hg => rfl); (case hr => first | (go_simp; done) | (go_simp; rfl)); intro gb133 hg w46 hbox hb; have n0_ := qS (below_step (by repeat (first | (with_reducible first | exact HB.out | apply qpA | apply qpN | apply qp1) | exact HB.out)) hb); have n1_ := qS (hbox); have n2_ := qS ((by rw [hg]; exact (below_size (by repeat (first | (with_reducible first | exact HB.out | apply qpA | apply qpN | apply qp1) | exact HB.out))) : w.heap.size ≤ gb133)); have n3_ := qS ((by rw [hg]; exact (below_size (by repeat (first | (with_reducible first | exact HB.out | apply qpA | apply qpN | apply qp1) | exact HB.out))) : w.heap.size ≤ gb133)); clear HB; have HB := n0_; have BK133 := n1_; have GW133 := n2_; have GE133 := n3_; clear n0_ n1_ n2_ n3_; clear hb hbox hg) | ((with_reducible refine gate_dst (N := 4) rfl ?_); refine box_event ?hg (N := 4) ?hd (cs := #[.int .i64 0, .int .i64 0, .int .i64 0]) (t := 105) ?hr ?_; (case hd => rfl); (case hg => rfl); (case hr => first | (go_simp; done) | (go_simp; rfl)); intro gb134 hg w47 hbox hb; have n0_ := qS (qB (g := gb133) (o := .cells #[.int .i64 a0_0, .int .i64 a0_1, .slice A0_2 l0_2.length c0_2] 96 (0, 0)) (by (with_reducible repeat (first | refine qN ?_ _ | refine qD ?_ | refine qA ?_ _)); exact BK133.out) hb); have n1_ := qS (below_step (by repeat (first | (with_reducible first | exact HB.out | apply qpA | apply qpN | apply qp1 | refine qpS ?_ GE133.out) | exact HB.out)) hb); have n2_ := qS (hbox); have n3_ := qS ((by rw [hg]; exact (below_size (by repeat (first | (with_reducible first | exact HB.out | apply qpA | apply qpN | apply qp1 | refine qpS ?_ GE133.out) | exact HB.out))) : w.heap.size ≤ gb134)); have n4_ := qS ((by rw [hg]; exact (below_size (by repeat (first | (with_reducible first | exact HB.out | apply qpA | apply qpN | apply qp1 | refine qpS ?_ GE133.out) | exact HB.out))) : w.heap.size ≤ gb134)); have n5_ := qS ((by rw [hg]; exact Nat.ne_of_lt (blk_lt (g := gb133) (o := .cells #[.int .i64 a0_0, .int .i64 a0_1, .slice A0_2 l0_2.length c0_2] 96 (0, 0)) (by (with_reducible repeat (first | refine qN ?_ _ | refine qD ?_ | refine qA ?_ _)); exact BK133.out)) : gb133 ≠ gb134)); have n6_ := qS ((by rw [hg]; exact Nat.ne_of_gt (blk_lt (g := gb133) (o := .cells #[.int .i64 a0_0, .int .i64 a0_1, .slice A0_2 l0_2.length c0_2] 96 (0, 0)) (by (with_reducible repeat (first | refine qN ?_ _ | refine qD ?_ | refine qA ?_ _)); exact BK133.out)) : gb134 ≠ gb133)); clear BK133; clear HB; have BK133 := n0_; have HB := n1_; have BK134 := n2_; have GW134 := n3_; have GE134 := n4_; have NB133_134 := n5_; have NB134_133 := n6_; clear n0_ n1_ n2_ n3_ n4_ n5_ n6_; clear hb hbox hg; have hnb48 := NB133_134.out; have hnc48 := NB134_133.out; have hcz49_0 : w47.cell? ⟨gb133, 0, none⟩ = some (.int .i64 a0_0) := (qC BK133.out 0).trans rfl; have hcz49_1 : w47.cell? ⟨gb133, 1, none⟩ = some (.int .i64 a0_1) := (qC BK133.out 1).trans rfl; have hcz49_2 : w47.cell? ⟨gb133, 2, none⟩ = some (.slice A0_2 l0_2.length c0_2) := (qC BK133.out 2).trans rfl; have hfz49_0 := qF BK133.out 0; have hfz49_1 := qF BK133.out 1; have hfz49_2 := qF BK133.out 2) | ((with_reducible refine gate_callee (f := 52) rfl ?_); refine goesL_ (some 13) rfl rfl Tryd.func52 (by kernel_rfl) rfl #[.agg #[.int .i64 a0_0, .int .i64 a0_1, .slice A0_2 l0_2.length c0_2]] rfl (by (try simp only [List.map_toArray, List.map_cons, List.map_nil]); first | done | rfl | (simp only [*]; done) | (simp only [List.length_drop, List.length_take]; rfl) | (simp only [Act.eval, Array.getD_eq_getD_getElem?, Option.getD_some, *])) ?_; (with_reducible refine (leap_Check.calls k a0_0 a0_1 _ _ l0_2 (some q136) _ ?side1 ?side2 A3.out).mono ?_); (case side1 => repeat (first | exact (Kd.C_below HR0_2.out HB.out) | (with_reducible refine Kd.C_alloc ?_ _) | (with_reducible refine Kd.C_drewN ?_ _) | (with_reducible refine Kd.C_drew ?_))); (case side2 => exact HC0_2.out); rintro e w50 ⟨rfl, hb⟩; refine ⟨_, rfl, ?_⟩; have n0_ := qS (qB (g := gb133) (o := .cells #[.int .i64 a0_0, .int .i64 a0_1, .slice A0_2 l0_2.length c0_2] 96 (0, 0)) (by (with_reducible repeat (first | refine qN ?_ _ | refine qD ?_ | refine qA ?_ _)); exact BK133.out) hb); have n1_ := qS (qB (g := gb134) (o := .cells #[.int .i64 0, .int .i64 0, .int .i64 0] 105 (0, 0)) (by (with_reducible repeat (first | refine qN ?_ _ | refine qD ?_ | refine qA ?_ _)); exact BK134.out) hb); have n2_ := qS (below_step (by repeat (first | (with_reducible first | exact HB.out | apply qpA | apply qpN | apply qp1 | refine qpS ?_ GE133.out | refine qpS ?_ GE134.out) | exact HB.out)) hb); clear BK133; clear BK134; clear HB; have BK133 := n0_; have BK134 := n1_; have HB := n2_; clear n0_ n1_ n2_; (try clear hb); (try clear hb2); (try clear hk); (try clear hi); (try simp only [errW_none, errW_some]); have hcz51_0 : w50.cell? ⟨gb134, 0, none⟩ = some (.int .i64 0) := (qC BK134.out 0).trans rfl; have hcz51_1 : w50.cell? ⟨gb134, 1, none⟩ = some (.int .i64 0) := (qC BK134.out 1).trans rfl; have hcz51_2 : w50.cell? ⟨gb134, 2, none⟩ = some (.int .i64 0) := (qC BK134.out 2).trans rfl; have hfz51_0 := qF BK134.out 0; have hfz51_1 := qF BK134.out 1; have hfz51_2 := qF BK134.out 2))
   refine bodyPost_ret (results_ct rfl _ _ gb134 105 #[.int .i64 0, .int .i64 0, .int .i64 0] (0, 0) _ rfl (by (with_reducible repeat (first | refine qN ?_ _ | refine qD ?_ | refine qA ?_ _)); refine blk_put (cs := #[.int .i64 0, .int .i64 0, .int .i64 0]) ?_ 2 _ rfl; (with_reducible repeat (first | refine qN ?_ _ | refine qD ?_ | refine qA ?_ _)); refine blk_put (cs := #[.int .i64 0, .int .i64 0, .int .i64 0]) ?_ 1 _ rfl; (with_reducible repeat (first | refine qN ?_ _ | refine qD ?_ | refine qA ?_ _)); refine blk_put (cs := #[.int .i64 0, .int .i64 0, .int .i64 0]) ?_ 0 _ rfl; (with_reducible repeat (first | refine qN ?_ _ | refine qD ?_ | refine qA ?_ _)); exact BK134.out) Tryd.underlying105 rfl (by kernel_rfl)) rfl ?_
   exact ⟨by first | rfl | (simp [errW_none, errW_some] <;> rfl) | (simp [*, errW_none, errW_some] <;> rfl), by repeat (first | (with_reducible first | exact HB.out | apply qpA | apply qpN | apply qp1 | refine qpS ?_ GE133.out | refine qpS ?_ GE134.out) | exact HB.out)⟩

/-! ### fuseelaw09_sure: function 47 -/
def fuseelaw09_sure.f (k : Nat)  : Option (Bool) := (some (([911] : List Int) : List Int)).bind fun y149 => ((leap_Begin.f k 10 20000 y149 912).bind fun bt153 => ((leap_UTC.f k 10 20000 y149 (wrap64 (bt153.1 - 1))).bind fun bt155 => ((leap_Ahead.f k 10 20000 y149 20000).bind fun bt160 => ((leap_Length.f k 10 20000 y149 911).bind fun bt162 => (if bt153.2.isNone = true then (if bt155.2.2.2.isNone = true then (if bt162.2.isNone = true then (if bt153.1 = 78796811000000000 then (if (bt155.1 == 911 && (bt155.2.1 == 86400 && (bt155.2.2.1 == 999999999))) = true then ((fuseelaw09_num.f bt160.2).bind fun t167 => (if t167 = 10 then (some (bt162.1 == 86401)) else (none))) else (none)) else (none)) else (none)) else (none)) else (none))))))
theorem fuseelaw09_sure.mono : ∀ k, LeO (fuseelaw09_sure.f k ) (fuseelaw09_sure.f (k + 1) ) := by
 intro  k
 unfold fuseelaw09_sure.f
 repeat' first
   | (with_reducible exact leap_Ahead.mono _ _ _ _ _)
   | (with_reducible exact leap_Begin.mono _ _ _ _ _)
   | (with_reducible exact leap_Length.mono _ _ _ _ _)
   | (with_reducible exact leap_UTC.mono _ _ _ _ _)
   | (with_reducible exact LeO.refl _)
   | (with_reducible exact LeO.none _)
   | (with_reducible refine LeO.ite ?_ ?_)
   | (with_reducible refine LeO.bind ?_ (fun _ => ?_))
   | exact leap_Ahead.mono _ _ _ _ _
   | exact leap_Begin.mono _ _ _ _ _
   | exact leap_Length.mono _ _ _ _ _
   | exact leap_UTC.mono _ _ _ _ _
   | exact LeO.none _
   | refine LeO.ite ?_ ?_
   | refine LeO.bind ?_ (fun _ => ?_)
set_option maxHeartbeats 8000000 in
set_option maxRecDepth 100000 in
theorem fuseelaw09_sure.calls (k : Nat)  (r : Bool) (w : World) (hgL : HG w) (h : fuseelaw09_sure.f k  = some r) :
  Calls Tryd.prog 47 #[] w fun e w' => e = .returned (.bool r) ∧ Below w.heap.size w w' := by
 have hu96 := Tryd.underlying96
 have hu105 := Tryd.underlying105
 have hu28 := Tryd.underlying28
 have hu128 := Tryd.underlying128
 have HB := qS (Below.refl w.heap.size w)
 have H : ((some (([911] : List Int) : List Int)).bind fun y149 => ((leap_Begin.f k 10 20000 y149 912).bind fun bt153 => ((leap_UTC.f k 10 20000 y149 (wrap64 (bt153.1 - 1))).bind fun bt155 => ((leap_Ahead.f k 10 20000 y149 20000).bind fun bt160 => ((leap_Length.f k 10 20000 y149 911).bind fun bt162 => (if bt153.2.isNone = true then (if bt155.2.2.2.isNone = true then (if bt162.2.isNone = true then (if bt153.1 = 78796811000000000 then (if (bt155.1 == 911 && (bt155.2.1 == 86400 && (bt155.2.2.1 == 999999999))) = true then ((fuseelaw09_num.f bt160.2).bind fun t167 => (if t167 = 10 then (some (bt162.1 == 86401)) else (none))) else (none)) else (none)) else (none)) else (none)) else (none))))))) = some r := h
 clear h
 obtain ⟨y149, hy149⟩ : ∃ y_ : List Int, y_ = (([911] : List Int)) := ⟨_, rfl⟩
 replace H : ((leap_Begin.f k 10 20000 y149 912).bind fun bt153 => ((leap_UTC.f k 10 20000 y149 (wrap64 (bt153.1 - 1))).bind fun bt155 => ((leap_Ahead.f k 10 20000 y149 20000).bind fun bt160 => ((leap_Length.f k 10 20000 y149 911).bind fun bt162 => (if bt153.2.isNone = true then (if bt155.2.2.2.isNone = true then (if bt162.2.isNone = true then (if bt153.1 = 78796811000000000 then (if (bt155.1 == 911 && (bt155.2.1 == 86400 && (bt155.2.2.1 == 999999999))) = true then ((fuseelaw09_num.f bt160.2).bind fun t167 => (if t167 = 10 then (some (bt162.1 == 86401)) else (none))) else (none)) else (none)) else (none)) else (none)) else (none)))))) = some r := by first | (rw [hy149]; with_reducible exact H) | (have H2_ := (Option.bind_some _ _).symm.trans H; rw [hy149]; with_reducible exact H2_) | (have H2_ := (Option.bind_some _ _).symm.trans H; with_reducible exact H2_) | with_reducible exact H | (rw [hy149]; exact H) | exact H
 have Ny149 := qS hy149
 clear hy149
 replace H := Option.bind_eq_some_iff.mp H
 obtain ⟨⟨t153, t154⟩, A10, H⟩ := H
 replace H : ((leap_UTC.f k 10 20000 y149 (wrap64 (t153 - 1))).bind fun bt155 => ((leap_Ahead.f k 10 20000 y149 20000).bind fun bt160 => ((leap_Length.f k 10 20000 y149 911).bind fun bt162 => (if t154.isNone = true then (if bt155.2.2.2.isNone = true then (if bt162.2.isNone = true then (if t153 = 78796811000000000 then (if (bt155.1 == 911 && (bt155.2.1 == 86400 && (bt155.2.2.1 == 999999999))) = true then ((fuseelaw09_num.f bt160.2).bind fun t167 => (if t167 = 10 then (some (bt162.1 == 86401)) else (none))) else (none)) else (none)) else (none)) else (none)) else (none))))) = some r := H
 have A1 := qS A10
 clear A10
 replace H := Option.bind_eq_some_iff.mp H
 obtain ⟨⟨t155, t156, t157, t158⟩, A20, H⟩ := H
 replace H : ((leap_Ahead.f k 10 20000 y149 20000).bind fun bt160 => ((leap_Length.f k 10 20000 y149 911).bind fun bt162 => (if t154.isNone = true then (if t158.isNone = true then (if bt162.2.isNone = true then (if t153 = 78796811000000000 then (if (t155 == 911 && (t156 == 86400 && (t157 == 999999999))) = true then ((fuseelaw09_num.f bt160.2).bind fun t167 => (if t167 = 10 then (some (bt162.1 == 86401)) else (none))) else (none)) else (none)) else (none)) else (none)) else (none)))) = some r := H
 have A2 := qS A20
 clear A20
 replace H := Option.bind_eq_some_iff.mp H
 obtain ⟨⟨t160, t161⟩, A30, H⟩ := H
 replace H : ((leap_Length.f k 10 20000 y149 911).bind fun bt162 => (if t154.isNone = true then (if t158.isNone = true then (if bt162.2.isNone = true then (if t153 = 78796811000000000 then (if (t155 == 911 && (t156 == 86400 && (t157 == 999999999))) = true then ((fuseelaw09_num.f t161).bind fun t167 => (if t167 = 10 then (some (bt162.1 == 86401)) else (none))) else (none)) else (none)) else (none)) else (none)) else (none))) = some r := H
 have A3 := qS A30
 clear A30
 replace H := Option.bind_eq_some_iff.mp H
 obtain ⟨⟨t162, t163⟩, A40, H⟩ := H
 replace H : (if t154.isNone = true then (if t158.isNone = true then (if t163.isNone = true then (if t153 = 78796811000000000 then (if (t155 == 911 && (t156 == 86400 && (t157 == 999999999))) = true then ((fuseelaw09_num.f t161).bind fun t167 => (if t167 = 10 then (some (t162 == 86401)) else (none))) else (none)) else (none)) else (none)) else (none)) else (none)) = some r := H
 have A4 := qS A40
 clear A40
 rcases t154 with _ | q164
 ·have H1 : (if t158.isNone = true then (if t163.isNone = true then (if t153 = 78796811000000000 then (if (t155 == 911 && (t156 == 86400 && (t157 == 999999999))) = true then ((fuseelaw09_num.f t161).bind fun t167 => (if t167 = 10 then (some (t162 == 86401)) else (none))) else (none)) else (none)) else (none)) else (none)) = some r := by rw [if_pos (show (none : Option Int).isNone = true by rfl)] at H; exact H
  clear H
  have H := H1
  clear H1
  try simp only [errW_none, errW_some]
  rcases t158 with _ | q165
  ·have H1 : (if t163.isNone = true then (if t153 = 78796811000000000 then (if (t155 == 911 && (t156 == 86400 && (t157 == 999999999))) = true then ((fuseelaw09_num.f t161).bind fun t167 => (if t167 = 10 then (some (t162 == 86401)) else (none))) else (none)) else (none)) else (none)) = some r := by rw [if_pos (show (none : Option Int).isNone = true by rfl)] at H; exact H
   clear H
   have H := H1
   clear H1
   try simp only [errW_none, errW_some]
   rcases t163 with _ | q166
   ·have H1 : (if t153 = 78796811000000000 then (if (t155 == 911 && (t156 == 86400 && (t157 == 999999999))) = true then ((fuseelaw09_num.f t161).bind fun t167 => (if t167 = 10 then (some (t162 == 86401)) else (none))) else (none)) else (none)) = some r := by rw [if_pos (show (none : Option Int).isNone = true by rfl)] at H; exact H
    clear H
    have H := H1
    clear H1
    try simp only [errW_none, errW_some]
    by_cases c5 : t153 = 78796811000000000
    ·rw [if_pos c5] at H
     have c5b0 : (t153 == 78796811000000000) = true := beq_iff_eq.mpr c5
     have c5b1 : (t153 != 78796811000000000) = false := bne_eq_false_iff_eq.mpr c5
     clear c5
     by_cases c6 : (t155 == 911 && (t156 == 86400 && (t157 == 999999999))) = true
     ·rw [if_pos c6] at H
      have c6b0 : (t155 == 911 && (t156 == 86400 && (t157 == 999999999))) = true := c6
      (try (have c6b1 : decide (t155 = 911 && (t156 == 86400 && (t157 == 999999999))) = true := by simpa using c6))
      (try (have c6b2 : (t155 == 911 && (t156 == 86400 && (t157 == 999999999))) = true := by simpa using c6))
      clear c6
      replace H := Option.bind_eq_some_iff.mp H
      obtain ⟨t167, A70, H⟩ := H
      replace H : (if t167 = 10 then (some (t162 == 86401)) else (none)) = some r := H
      have A7 := qS A70
      clear A70
      by_cases c8 : t167 = 10
      ·rw [if_pos c8] at H
       have c8b0 : (t167 == 10) = true := beq_iff_eq.mpr c8
       have c8b1 : (t167 != 10) = false := bne_eq_false_iff_eq.mpr c8
       clear c8
       obtain rfl := Option.some.inj H
       go_enter Tryd.func47, Tryd.ntmps47
       go_wp2_with (first | ((with_reducible refine gate_dst (N := 10) rfl ?_); refine Kd.R_lit (Kd.int .i64) _ 2 ?hg (N := 10) ?hd (xs := ([911] : List Int)) (inner := [.int .i64 911]) (ok := fun _ => True) (okp := fun _ => True) ?hr ?hp (fun _ hk => hk) trivial (Below.refl _ _) (Nat.le_refl _) (by simp) ?_; (case hd => rfl); (case hg => rfl); (case hr => first | (go_simp; done) | (go_simp; rfl)); (case hp => exact (Reps.one (show Kd.M (Kd.int .i64) _ _ _ 911 [.int .i64 911] from rfl) (Reps.none _ _))); intro v150 w9 ho10 hb hg_ hnew_; clear hg_ hnew_; (first | rw [← Ny149.out] at ho10 | (simp only [Int.reduceToNat] at ho10; rw [← Ny149.out] at ho10)); have n0_ := qS (Kd.R_lower ho10 (below_size (by repeat (first | (with_reducible first | exact HB.out | apply qpA | apply qpN | apply qp1) | exact HB.out)))); have n1_ := qS (below_step (by repeat (first | (with_reducible first | exact HB.out | apply qpA | apply qpN | apply qp1) | exact HB.out)) hb); clear HB; have HO151 := n0_; have HB := n1_; clear n0_ n1_; clear hb ho10; obtain ⟨Ao11, co11, eo11⟩ := Kd.R_slice HO151.out; subst eo11) | ((with_reducible refine gate_dst (N := 1) rfl ?_); refine box_event ?hg (N := 1) ?hd (cs := #[.int .i64 0, .int .i64 0, .slice none 0 0]) (t := 96) ?hr ?_; (case hd => rfl); (case hg => rfl); (case hr => first | (go_simp; done) | (go_simp; rfl)); intro gb152 hg w12 hbox hb; have n0_ := qS (Kd.R_below (by (with_reducible repeat (first | apply Kd.R_alloc | apply Kd.R_drewN | apply Kd.R_drew)); exact HO151.out) hb); have n1_ := qS (below_step (by repeat (first | (with_reducible first | exact HB.out | apply qpA | apply qpN | apply qp1) | exact HB.out)) hb); have n2_ := qS (hbox); have n3_ := qS ((by rw [hg]; exact (below_size (by repeat (first | (with_reducible first | exact HB.out | apply qpA | apply qpN | apply qp1) | exact HB.out))) : w.heap.size ≤ gb152)); have n4_ := qS ((by rw [hg]; exact (below_size (by repeat (first | (with_reducible first | exact HB.out | apply qpA | apply qpN | apply qp1) | exact HB.out))) : w.heap.size ≤ gb152)); clear HO151; clear HB; have HO151 := n0_; have HB := n1_; have BK152 := n2_; have GW152 := n3_; have GE152 := n4_; clear n0_ n1_ n2_ n3_ n4_; clear hb hbox hg; have hcz13_0 : w12.cell? ⟨gb152, 0, none⟩ = some (.int .i64 0) := (qC BK152.out 0).trans rfl; have hcz13_1 : w12.cell? ⟨gb152, 1, none⟩ = some (.int .i64 0) := (qC BK152.out 1).trans rfl; have hcz13_2 : w12.cell? ⟨gb152, 2, none⟩ = some (.slice none 0 0) := (qC BK152.out 2).trans rfl; have hfz13_0 := qF BK152.out 0; have hfz13_1 := qF BK152.out 1; have hfz13_2 := qF BK152.out 2) | ((with_reducible refine gate_callee (f := 50) rfl ?_); refine goesL_ (some 14) rfl rfl Tryd.func50 (by kernel_rfl) rfl #[.agg #[.int .i64 10, .int .i64 20000, .slice Ao11 y149.length co11], .int .i64 912] rfl (by (try simp only [List.map_toArray, List.map_cons, List.map_nil]); first | done | rfl | (simp only [*]; done) | (simp only [List.length_drop, List.length_take]; rfl) | (simp only [Act.eval, Array.getD_eq_getD_getElem?, Option.getD_some, *])) ?_; (with_reducible refine (leap_Begin.calls k 10 20000 _ _ y149 912 t153 none _ ?side1 ?side2 A1.out).mono ?_); (case side1 => refine (Kd.R_reads' (e := 2) (base := w.heap.size) (ok := fun k_ => True) (n := y149.length) (c := co11) ?_).2.2; exact (by (with_reducible repeat (first | apply Kd.R_alloc | apply Kd.R_drewN | apply Kd.R_drew)); exact (Kd.R_mono (Kd.R_far (p := ⟨gb152, 2, none⟩) (Kd.R_far (p := ⟨gb152, 1, none⟩) (Kd.R_far (p := ⟨gb152, 0, none⟩) (Kd.R_types HO151.out BK152.out (by decide)) (fun _ hk => hk.2) (.int .i64 10)) (fun _ hk => hk.2) (.int .i64 20000)) (fun _ hk => hk.2) (.slice Ao11 y149.length co11)) (fun _ h_ => h_.1)))); (case side2 => exact (Kd.R_reads' HO151.out).2.1); rintro e w14 ⟨rfl, hb⟩; refine ⟨_, rfl, ?_⟩; have n0_ := qS (Kd.R_below (by (with_reducible repeat (first | apply Kd.R_alloc | apply Kd.R_drewN | apply Kd.R_drew)); exact (Kd.R_mono (Kd.R_far (p := ⟨gb152, 2, none⟩) (Kd.R_far (p := ⟨gb152, 1, none⟩) (Kd.R_far (p := ⟨gb152, 0, none⟩) (Kd.R_types HO151.out BK152.out (by decide)) (fun _ hk => hk.2) (.int .i64 10)) (fun _ hk => hk.2) (.int .i64 20000)) (fun _ hk => hk.2) (.slice Ao11 y149.length co11)) (fun _ h_ => h_.1))) hb); have n1_ := qS (qB (g := gb152) (o := .cells #[.int .i64 10, .int .i64 20000, .slice Ao11 y149.length co11] 96 (0, 0)) (by (with_reducible repeat (first | refine qN ?_ _ | refine qD ?_ | refine qA ?_ _)); refine blk_put (cs := #[.int .i64 10, .int .i64 20000, .slice none 0 0]) ?_ 2 _ rfl; (with_reducible repeat (first | refine qN ?_ _ | refine qD ?_ | refine qA ?_ _)); refine blk_put (cs := #[.int .i64 10, .int .i64 0, .slice none 0 0]) ?_ 1 _ rfl; (with_reducible repeat (first | refine qN ?_ _ | refine qD ?_ | refine qA ?_ _)); refine blk_put (cs := #[.int .i64 0, .int .i64 0, .slice none 0 0]) ?_ 0 _ rfl; (with_reducible repeat (first | refine qN ?_ _ | refine qD ?_ | refine qA ?_ _)); exact BK152.out) hb); have n2_ := qS (below_step (by repeat (first | (with_reducible first | exact HB.out | apply qpA | apply qpN | apply qp1 | refine qpS ?_ GE152.out) | exact HB.out)) hb); clear HO151; clear BK152; clear HB; have HO151 := n0_; have BK152 := n1_; have HB := n2_; clear n0_ n1_ n2_; (try clear hb); (try clear hb2); (try clear hk); (try clear hi); (try simp only [errW_none, errW_some]); have hcz15_0 : w14.cell? ⟨gb152, 0, none⟩ = some (.int .i64 10) := (qC BK152.out 0).trans rfl; have hcz15_1 : w14.cell? ⟨gb152, 1, none⟩ = some (.int .i64 20000) := (qC BK152.out 1).trans rfl; have hcz15_2 : w14.cell? ⟨gb152, 2, none⟩ = some (.slice Ao11 y149.length co11) := (qC BK152.out 2).trans rfl; have hfz15_0 := qF BK152.out 0; have hfz15_1 := qF BK152.out 1; have hfz15_2 := qF BK152.out 2) | ((with_reducible refine gate_callee (f := 57) rfl ?_); refine goesL_ (some 21) rfl rfl Tryd.func57 (by kernel_rfl) rfl #[.agg #[.int .i64 10, .int .i64 20000, .slice Ao11 y149.length co11], .int .i64 (wrap64 (t153 - 1))] rfl (by (try simp only [List.map_toArray, List.map_cons, List.map_nil]); first | done | rfl | (simp only [*]; done) | (simp only [List.length_drop, List.length_take]; rfl) | (simp only [Act.eval, Array.getD_eq_getD_getElem?, Option.getD_some, *])) ?_; (with_reducible refine (leap_UTC.calls k 10 20000 _ _ y149 (wrap64 (t153 - 1)) t155 t156 t157 none _ ?side1 ?side2 A2.out).mono ?_); (case side1 => repeat (first | exact (Kd.R_reads' HO151.out).2.2 | (with_reducible refine Kd.C_alloc ?_ _) | (with_reducible refine Kd.C_drewN ?_ _) | (with_reducible refine Kd.C_drew ?_))); (case side2 => exact (Kd.R_reads' HO151.out).2.1); rintro e w16 ⟨rfl, hb⟩; refine ⟨_, rfl, ?_⟩; have n0_ := qS (Kd.R_below (by (with_reducible repeat (first | apply Kd.R_alloc | apply Kd.R_drewN | apply Kd.R_drew)); exact HO151.out) hb); have n1_ := qS (qB (g := gb152) (o := .cells #[.int .i64 10, .int .i64 20000, .slice Ao11 y149.length co11] 96 (0, 0)) (by (with_reducible repeat (first | refine qN ?_ _ | refine qD ?_ | refine qA ?_ _)); exact BK152.out) hb); have n2_ := qS (below_step (by repeat (first | (with_reducible first | exact HB.out | apply qpA | apply qpN | apply qp1 | refine qpS ?_ GE152.out) | exact HB.out)) hb); clear HO151; clear BK152; clear HB; have HO151 := n0_; have BK152 := n1_; have HB := n2_; clear n0_ n1_ n2_; (try clear hb); (try clear hb2); (try clear hk); (try clear hi); (try simp only [errW_none, errW_some])) | ((with_reducible refine gate_dst (N := 4) rfl ?_); refine box_event ?hg (N := 4) ?hd (cs := #[.int .i64 0, .int .i64 0, .int .i64 0]) (t := 105) ?hr ?_; (case hd => rfl); (case hg => rfl); (case hr => first | (go_simp; done) | (go_simp; rfl)); intro gb159 hg w17 hbox hb; have n0_ := qS (Kd.R_below (by (with_reducible repeat (first | apply Kd.R_alloc | apply Kd.R_drewN | apply Kd.R_drew)); exact HO151.out) hb); have n1_ := qS (qB (g := gb152) (o := .cells #[.int .i64 10, .int .i64 20000, .slice Ao11 y149.length co11] 96 (0, 0)) (by (with_reducible repeat (first | refine qN ?_ _ | refine qD ?_ | refine qA ?_ _)); exact BK152.out) hb); have n2_ := qS (below_step (by repeat (first | (with_reducible first | exact HB.out | apply qpA | apply qpN | apply qp1 | refine qpS ?_ GE152.out) | exact HB.out)) hb); have n3_ := qS (hbox); have n4_ := qS ((by rw [hg]; exact (below_size (by repeat (first | (with_reducible first | exact HB.out | apply qpA | apply qpN | apply qp1 | refine qpS ?_ GE152.out) | exact HB.out))) : w.heap.size ≤ gb159)); have n5_ := qS ((by rw [hg]; exact (below_size (by repeat (first | (with_reducible first | exact HB.out | apply qpA | apply qpN | apply qp1 | refine qpS ?_ GE152.out) | exact HB.out))) : w.heap.size ≤ gb159)); have n6_ := qS ((by rw [hg]; exact Nat.ne_of_lt (blk_lt (g := gb152) (o := .cells #[.int .i64 10, .int .i64 20000, .slice Ao11 y149.length co11] 96 (0, 0)) (by (with_reducible repeat (first | refine qN ?_ _ | refine qD ?_ | refine qA ?_ _)); exact BK152.out)) : gb152 ≠ gb159)); have n7_ := qS ((by rw [hg]; exact Nat.ne_of_gt (blk_lt (g := gb152) (o := .cells #[.int .i64 10, .int .i64 20000, .slice Ao11 y149.length co11] 96 (0, 0)) (by (with_reducible repeat (first | refine qN ?_ _ | refine qD ?_ | refine qA ?_ _)); exact BK152.out)) : gb159 ≠ gb152)); clear HO151; clear BK152; clear HB; have HO151 := n0_; have BK152 := n1_; have HB := n2_; have BK159 := n3_; have GW159 := n4_; have GE159 := n5_; have NB152_159 := n6_; have NB159_152 := n7_; clear n0_ n1_ n2_ n3_ n4_ n5_ n6_ n7_; clear hb hbox hg; have hnb18 := NB159_152.out; have hnc18 := NB152_159.out; have hcz19_0 : w17.cell? ⟨gb159, 0, none⟩ = some (.int .i64 0) := (qC BK159.out 0).trans rfl; have hcz19_1 : w17.cell? ⟨gb159, 1, none⟩ = some (.int .i64 0) := (qC BK159.out 1).trans rfl; have hcz19_2 : w17.cell? ⟨gb159, 2, none⟩ = some (.int .i64 0) := (qC BK159.out 2).trans rfl; have hfz19_0 := qF BK159.out 0; have hfz19_1 := qF BK159.out 1; have hfz19_2 := qF BK159.out 2; have hcz20_0 : w17.cell? ⟨gb152, 0, none⟩ = some (.int .i64 10) := (qC BK152.out 0).trans rfl; have hcz20_1 : w17.cell? ⟨gb152, 1, none⟩ = some (.int .i64 20000) := (qC BK152.out 1).trans rfl; have hcz20_2 : w17.cell? ⟨gb152, 2, none⟩ = some (.slice Ao11 y149.length co11) := (qC BK152.out 2).trans rfl; have hfz20_0 := qF BK152.out 0; have hfz20_1 := qF BK152.out 1; have hfz20_2 := qF BK152.out 2) | ((with_reducible refine gate_callee (f := 48) rfl ?_); refine goesL_ (some 26) rfl rfl Tryd.func48 (by kernel_rfl) rfl #[.agg #[.int .i64 10, .int .i64 20000, .slice Ao11 y149.length co11], .int .i64 20000] rfl (by (try simp only [List.map_toArray, List.map_cons, List.map_nil]); first | done | rfl | (simp only [*]; done) | (simp only [List.length_drop, List.length_take]; rfl) | (simp only [Act.eval, Array.getD_eq_getD_getElem?, Option.getD_some, *])) ?_; (with_reducible refine (leap_Ahead.calls k 10 20000 _ _ y149 20000 t160 t161 _ ?side1 ?side2 A3.out).mono ?_); (case side1 => refine (Kd.R_reads' (e := 2) (base := w.heap.size) (ok := fun k_ => True) (n := y149.length) (c := co11) ?_).2.2; exact (by (with_reducible repeat (first | apply Kd.R_alloc | apply Kd.R_drewN | apply Kd.R_drew)); exact (Kd.R_mono (Kd.R_far (p := ⟨gb159, 2, none⟩) (Kd.R_far (p := ⟨gb159, 1, none⟩) (Kd.R_far (p := ⟨gb159, 0, none⟩) (Kd.R_types HO151.out BK159.out (by decide)) (fun _ hk => hk.2) (.int .i64 t155)) (fun _ hk => hk.2) (.int .i64 t156)) (fun _ hk => hk.2) (.int .i64 t157)) (fun _ h_ => h_.1)))); (case side2 => exact (Kd.R_reads' HO151.out).2.1); rintro e w21 ⟨rfl, hb⟩; refine ⟨_, rfl, ?_⟩; have n0_ := qS (Kd.R_below (by (with_reducible repeat (first | apply Kd.R_alloc | apply Kd.R_drewN | apply Kd.R_drew)); exact (Kd.R_mono (Kd.R_far (p := ⟨gb159, 2, none⟩) (Kd.R_far (p := ⟨gb159, 1, none⟩) (Kd.R_far (p := ⟨gb159, 0, none⟩) (Kd.R_types HO151.out BK159.out (by decide)) (fun _ hk => hk.2) (.int .i64 t155)) (fun _ hk => hk.2) (.int .i64 t156)) (fun _ hk => hk.2) (.int .i64 t157)) (fun _ h_ => h_.1))) hb); have n1_ := qS (qB (g := gb152) (o := .cells #[.int .i64 10, .int .i64 20000, .slice Ao11 y149.length co11] 96 (0, 0)) (by (with_reducible repeat (first | refine qN ?_ _ | refine qD ?_ | refine qA ?_ _)); refine blk_far ?_ NB152_159.out _; (with_reducible repeat (first | refine qN ?_ _ | refine qD ?_ | refine qA ?_ _)); refine blk_far ?_ NB152_159.out _; (with_reducible repeat (first | refine qN ?_ _ | refine qD ?_ | refine qA ?_ _)); refine blk_far ?_ NB152_159.out _; (with_reducible repeat (first | refine qN ?_ _ | refine qD ?_ | refine qA ?_ _)); exact BK152.out) hb); have n2_ := qS (qB (g := gb159) (o := .cells #[.int .i64 t155, .int .i64 t156, .int .i64 t157] 105 (0, 0)) (by (with_reducible repeat (first | refine qN ?_ _ | refine qD ?_ | refine qA ?_ _)); refine blk_put (cs := #[.int .i64 t155, .int .i64 t156, .int .i64 0]) ?_ 2 _ rfl; (with_reducible repeat (first | refine qN ?_ _ | refine qD ?_ | refine qA ?_ _)); refine blk_put (cs := #[.int .i64 t155, .int .i64 0, .int .i64 0]) ?_ 1 _ rfl; (with_reducible repeat (first | refine qN ?_ _ | refine qD ?_ | refine qA ?_ _)); refine blk_put (cs := #[.int .i64 0, .int .i64 0, .int .i64 0]) ?_ 0 _ rfl; (with_reducible repeat (first | refine qN ?_ _ | refine qD ?_ | refine qA ?_ _)); exact BK159.out) hb); have n3_ := qS (below_step (by repeat (first | (with_reducible first | exact HB.out | apply qpA | apply qpN | apply qp1 | refine qpS ?_ GE152.out | refine qpS ?_ GE159.out) | exact HB.out)) hb); clear HO151; clear BK152; clear BK159; clear HB; have HO151 := n0_; have BK152 := n1_; have BK159 := n2_; have HB := n3_; clear n0_ n1_ n2_ n3_; (try clear hb); (try clear hb2); (try clear hk); (try clear hi); (try simp only [errW_none, errW_some]); have hcz22_0 : w21.cell? ⟨gb152, 0, none⟩ = some (.int .i64 10) := (qC BK152.out 0).trans rfl; have hcz22_1 : w21.cell? ⟨gb152, 1, none⟩ = some (.int .i64 20000) := (qC BK152.out 1).trans rfl; have hcz22_2 : w21.cell? ⟨gb152, 2, none⟩ = some (.slice Ao11 y149.length co11) := (qC BK152.out 2).trans rfl; have hfz22_0 := qF BK152.out 0; have hfz22_1 := qF BK152.out 1; have hfz22_2 := qF BK152.out 2) | ((with_reducible refine gate_callee (f := 49) rfl ?_); refine goesL_ (some 31) rfl rfl Tryd.func49 (by kernel_rfl) rfl #[.agg #[.int .i64 10, .int .i64 20000, .slice Ao11 y149.length co11], .int .i64 911] rfl (by (try simp only [List.map_toArray, List.map_cons, List.map_nil]); first | done | rfl | (simp only [*]; done) | (simp only [List.length_drop, List.length_take]; rfl) | (simp only [Act.eval, Array.getD_eq_getD_getElem?, Option.getD_some, *])) ?_; (with_reducible refine (leap_Length.calls k 10 20000 _ _ y149 911 t162 none _ ?side1 ?side2 A4.out).mono ?_); (case side1 => repeat (first | exact (Kd.R_reads' HO151.out).2.2 | (with_reducible refine Kd.C_alloc ?_ _) | (with_reducible refine Kd.C_drewN ?_ _) | (with_reducible refine Kd.C_drew ?_))); (case side2 => exact (Kd.R_reads' HO151.out).2.1); rintro e w23 ⟨rfl, hb⟩; refine ⟨_, rfl, ?_⟩; have n0_ := qS (Kd.R_below (by (with_reducible repeat (first | apply Kd.R_alloc | apply Kd.R_drewN | apply Kd.R_drew)); exact HO151.out) hb); have n1_ := qS (qB (g := gb152) (o := .cells #[.int .i64 10, .int .i64 20000, .slice Ao11 y149.length co11] 96 (0, 0)) (by (with_reducible repeat (first | refine qN ?_ _ | refine qD ?_ | refine qA ?_ _)); exact BK152.out) hb); have n2_ := qS (qB (g := gb159) (o := .cells #[.int .i64 t155, .int .i64 t156, .int .i64 t157] 105 (0, 0)) (by (with_reducible repeat (first | refine qN ?_ _ | refine qD ?_ | refine qA ?_ _)); exact BK159.out) hb); have n3_ := qS (below_step (by repeat (first | (with_reducible first | exact HB.out | apply qpA | apply qpN | apply qp1 | refine qpS ?_ GE152.out | refine qpS ?_ GE159.out) | exact HB.out)) hb); clear HO151; clear BK152; clear BK159; clear HB; have HO151 := n0_; have BK152 := n1_; have BK159 := n2_; have HB := n3_; clear n0_ n1_ n2_ n3_; (try clear hb); (try clear hb2); (try clear hk); (try clear hi); (try simp only [errW_none, errW_some]); have hcz24_0 : w23.cell? ⟨gb159, 0, none⟩ = some (.int .i64 t155) := (qC BK159.out 0).trans rfl; have hcz24_1 : w23.cell? ⟨gb159, 1, none⟩ = some (.int .i64 t156) := (qC BK159.out 1).trans rfl; have hcz24_2 : w23.cell? ⟨gb159, 2, none⟩ = some (.int .i64 t157) := (qC BK159.out 2).trans rfl; have hfz24_0 := qF BK159.out 0; have hfz24_1 := qF BK159.out 1; have hfz24_2 := qF BK159.out 2; have CA7 := fun W (hgW : HG W) => fuseelaw09_num.calls t161 t167 W hgW A7.out; try simp only [errW_none, errW_some] at CA7) | (go_at_call 54; (with_reducible refine (CA7 _ (HG.below hgL (Nat.le_refl _) (by repeat (first | (with_reducible first | exact HB.out | apply qpA | apply qpN | apply qp1 | refine qpS ?_ GE152.out | refine qpS ?_ GE159.out) | exact HB.out)))).mono ?_); rintro e w25 ⟨rfl, hb⟩; have n0_ := qS (Kd.R_below (by (with_reducible repeat (first | apply Kd.R_alloc | apply Kd.R_drewN | apply Kd.R_drew)); exact HO151.out) hb); have n1_ := qS (qB (g := gb152) (o := .cells #[.int .i64 10, .int .i64 20000, .slice Ao11 y149.length co11] 96 (0, 0)) (by (with_reducible repeat (first | refine qN ?_ _ | refine qD ?_ | refine qA ?_ _)); exact BK152.out) hb); have n2_ := qS (qB (g := gb159) (o := .cells #[.int .i64 t155, .int .i64 t156, .int .i64 t157] 105 (0, 0)) (by (with_reducible repeat (first | refine qN ?_ _ | refine qD ?_ | refine qA ?_ _)); exact BK159.out) hb); have n3_ := qS (below_step (by repeat (first | (with_reducible first | exact HB.out | apply qpA | apply qpN | apply qp1 | refine qpS ?_ GE152.out | refine qpS ?_ GE159.out) | exact HB.out)) hb); clear HO151; clear BK152; clear BK159; clear HB; have HO151 := n0_; have BK152 := n1_; have BK159 := n2_; have HB := n3_; clear n0_ n1_ n2_ n3_; (try clear hb); (try clear hb2); (try clear hk); (try clear hi)))
       go_ret
       exact ⟨by first | rfl | (simp [errW_none, errW_some] <;> rfl) | (simp [*, errW_none, errW_some] <;> rfl), by repeat (first | (with_reducible first | exact HB.out | apply qpA | apply qpN | apply qp1 | refine qpS ?_ GE152.out | refine qpS ?_ GE159.out) | exact HB.out)⟩
      ·rw [if_neg c8] at H
       exact absurd H (by simp)
     ·rw [if_neg c6] at H
      exact absurd H (by simp)
    ·rw [if_neg c5] at H
     exact absurd H (by simp)
   ·have H1 : (none) = some r := by rw [if_neg (show ¬ (some q166).isNone = true by simp)] at H; exact H
    clear H
    have H := H1
    clear H1
    try simp only [errW_none, errW_some]
    exact absurd H (by simp)
  ·have H1 : (none) = some r := by rw [if_neg (show ¬ (some q165).isNone = true by simp)] at H; exact H
   clear H
   have H := H1
   clear H1
   try simp only [errW_none, errW_some]
   exact absurd H (by simp)
 ·have H1 : (none) = some r := by rw [if_neg (show ¬ (some q164).isNone = true by simp)] at H; exact H
  clear H
  have H := H1
  clear H1
  try simp only [errW_none, errW_some]
  exact absurd H (by simp)

end Go.Proofs.YtnlaiiophongmaaDoor.MSu
