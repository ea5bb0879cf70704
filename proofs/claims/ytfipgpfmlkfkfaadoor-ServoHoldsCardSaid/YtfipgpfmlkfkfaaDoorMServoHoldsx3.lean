/- Printed by wip/gen/mp.py: Go functions as plain Lean functions, and that the calls do what these say. -/
import Derived.Test.YtfipgpfmlkfkfaaDoorMServoHoldsx0
import Derived.Test.YtfipgpfmlkfkfaaDoorMServoHoldsx1
import Derived.Test.YtfipgpfmlkfkfaaDoorMServoHoldsx2
namespace Go.Proofs.YtfipgpfmlkfkfaaDoor.MServoHolds
open Go.RowKit Go.Proofs.YtfipgpfmlkfkfaaDoorW.PrintWords Go.Proofs.YtfipgpfmlkfkfaaDoorW.PrintLast Go.Proofs.YtfipgpfmlkfkfaaDoorW.PrintMore
attribute [local go_sem] conv_fl eq_fl eq_fl2 max2_int min2_int max_two min_two max_three min_three max_four min_four   -- for this text's walks alone
set_option linter.unusedVariables false
set_option linter.unusedSimpArgs false

attribute [local go_sem high] eqA27
/-! ### fuseelaw16_ServoHolds: function 4 -/
mutual
def fuseelaw16_ServoHolds.j0 : Nat → Int → List Int → Bool → Int → Int → Option (Bool)
 | 0, _, _, _, _, _ => none
 | k + 1, x1, x2, x26, x144000, x144001 => if x26 = true then ((fuseelaw16_sure.f).bind fun t146 => (some t146)) else (fuseelaw16_ServoHolds.l0 k x1 x2 0 x144000 x144001 0 0 0 0 0 0)
def fuseelaw16_ServoHolds.l0 : Nat → Int → List Int → Int → Int → Int → Int → Int → Int → Int → Int → Int → Option (Bool)
 | 0, _, _, _, _, _, _, _, _, _, _, _ => none
 | k + 1, x1, x2, x10, x144000, x144001, x148000, x148001, x149000, x149001, x150000, x150001 => if x10 < (x2.length : Int) then (if 0 ≤ x10 then ((servo_Step.f x148000 x148001 x144000 x144001 x1 (wrap64 ((wrap64 (rd x2 x10)) * 1024))).bind fun bt152 => ((servo_Step.f x149000 x149001 x144000 x144001 x1 (wrap64 (-(wrap64 ((wrap64 (rd x2 x10)) * 1024))))).bind fun bt156 => ((servo_Step.f x150000 x150001 x144000 x144001 x1 0).bind fun bt160 => (if bt152.2.2.isNone = true then (if bt156.2.2.isNone = true then (if bt160.2.2.isNone = true then (if (!(bt160.1 == x150000) || (!(bt160.2.1 == x150001))) = true then (none) else (if bt152.2.1 = (wrap64 (-bt156.2.1)) then (if bt152.1 < (wrap64 (-x1)) then (none) else (if bt152.1 > x1 then (none) else (if (wrap64 (bt152.1 + bt156.1)) < (-1) then (none) else (if (wrap64 (bt152.1 + bt156.1)) > 0 then (none) else (fuseelaw16_ServoHolds.l0 k x1 x2 (wrap64 (x10 + 1)) x144000 x144001 bt152.1 bt152.2.1 bt156.1 bt156.2.1 bt160.1 bt160.2.1))))) else (none))) else (none)) else (none)) else (none))))) else (none)) else ((fuseelaw16_sure.f).bind fun t150 => (some t150))
end
def fuseelaw16_ServoHolds.f (k : Nat) (a0_0 : Int) (a0_1 : Int) (a1 : Int) (l2 : List Int) : Option (Bool) := if (l2.length : Int) > 40 then (fuseelaw16_ServoHolds.j0 k a1 l2 true a0_0 a0_1) else ((servo_Check.f a0_0 a0_1 a1).bind fun t144 => (if t144.isNone = true then (fuseelaw16_ServoHolds.j0 k a1 l2 false a0_0 a0_1) else (fuseelaw16_ServoHolds.j0 k a1 l2 true a0_0 a0_1)))
theorem fuseelaw16_ServoHolds.mono_l : ∀ k, (∀ y0 y1 y2 y3 y4, LeO (fuseelaw16_ServoHolds.j0 k y0 y1 y2 y3 y4) (fuseelaw16_ServoHolds.j0 (k + 1) y0 y1 y2 y3 y4)) ∧ (∀ y0 y1 y2 y3 y4 y5 y6 y7 y8 y9 y10, LeO (fuseelaw16_ServoHolds.l0 k y0 y1 y2 y3 y4 y5 y6 y7 y8 y9 y10) (fuseelaw16_ServoHolds.l0 (k + 1) y0 y1 y2 y3 y4 y5 y6 y7 y8 y9 y10))
 | 0 => ⟨fun _ _ _ _ _ r h => by simp [fuseelaw16_ServoHolds.j0] at h, fun _ _ _ _ _ _ _ _ _ _ _ r h => by simp [fuseelaw16_ServoHolds.l0] at h⟩
 | k + 1 => by
  obtain ⟨ih0, ih1⟩ := fuseelaw16_ServoHolds.mono_l k
  refine ⟨?_, ?_⟩
  ·intro y0 y1 y2 y3 y4
   unfold fuseelaw16_ServoHolds.j0
   repeat' first
   | (with_reducible exact ih0 _ _ _ _ _)
   | (with_reducible exact ih1 _ _ _ _ _ _ _ _ _ _ _)
   | (with_reducible exact LeO.refl _)
   | (with_reducible exact LeO.none _)
   | (with_reducible refine LeO.ite ?_ ?_)
   | (with_reducible refine LeO.bind ?_ (fun _ => ?_))
   | exact ih0 _ _ _ _ _
   | exact ih1 _ _ _ _ _ _ _ _ _ _ _
   | exact LeO.none _
   | refine LeO.ite ?_ ?_
   | refine LeO.bind ?_ (fun _ => ?_)
  ·intro y0 y1 y2 y3 y4 y5 y6 y7 y8 y9 y10
   unfold fuseelaw16_ServoHolds.l0
   repeat' first
   | (with_reducible exact ih0 _ _ _ _ _)
   | (with_reducible exact ih1 _ _ _ _ _ _ _ _ _ _ _)
   | (with_reducible exact LeO.refl _)
   | (with_reducible exact LeO.none _)
   | (with_reducible refine LeO.ite ?_ ?_)
   | (with_reducible refine LeO.bind ?_ (fun _ => ?_))
   | exact ih0 _ _ _ _ _
   | exact ih1 _ _ _ _ _ _ _ _ _ _ _
   | exact LeO.none _
   | refine LeO.ite ?_ ?_
   | refine LeO.bind ?_ (fun _ => ?_)
theorem fuseelaw16_ServoHolds.mono : ∀ a0 a1 a2 a3 k, LeO (fuseelaw16_ServoHolds.f k a0 a1 a2 a3) (fuseelaw16_ServoHolds.f (k + 1) a0 a1 a2 a3) := by
 intro a0 a1 a2 a3 k
 obtain ⟨ih0, ih1⟩ := fuseelaw16_ServoHolds.mono_l k
 unfold fuseelaw16_ServoHolds.f
 repeat' first
   | (with_reducible exact ih0 _ _ _ _ _)
   | (with_reducible exact ih1 _ _ _ _ _ _ _ _ _ _ _)
   | (with_reducible exact LeO.refl _)
   | (with_reducible exact LeO.none _)
   | (with_reducible refine LeO.ite ?_ ?_)
   | (with_reducible refine LeO.bind ?_ (fun _ => ?_))
   | exact ih0 _ _ _ _ _
   | exact ih1 _ _ _ _ _ _ _ _ _ _ _
   | exact LeO.none _
   | refine LeO.ite ?_ ?_
   | refine LeO.bind ?_ (fun _ => ?_)
set_option maxHeartbeats 8000000 in
set_option maxRecDepth 100000 in
theorem fuseelaw16_ServoHolds.calls (k : Nat) (a0_0 : Int) (a0_1 : Int) (a1 : Int) (A2 : Option Addr) (c2 : Nat) (l2 : List Int) (r : Bool) (w : World) (hgL : HG w) (hr2 : Kd.C (Kd.int .i16) w A2 l2.length l2) (hc2 : l2.length ≤ c2) (h : fuseelaw16_ServoHolds.f k a0_0 a0_1 a1 l2 = some r) :
  Calls Tryd.prog 4 #[.agg #[.int .i64 a0_0, .int .i64 a0_1], .int .i64 a1, .slice A2 l2.length c2] w fun e w' => e = .returned (.bool r) ∧ Below w.heap.size w w' := by
 have hu25 := Tryd.underlying25
 have hu27 := Tryd.underlying27
 have hu29 := Tryd.underlying29
 have hu115 := Tryd.underlying115
 have HR2 := qS hr2
 have HC2 := qS hc2
 clear hr2 hc2
 have HB := qS (Below.refl w.heap.size w)
 have H : (if (l2.length : Int) > 40 then (fuseelaw16_ServoHolds.j0 k a1 l2 true a0_0 a0_1) else ((servo_Check.f a0_0 a0_1 a1).bind fun t144 => (if t144.isNone = true then (fuseelaw16_ServoHolds.j0 k a1 l2 false a0_0 a0_1) else (fuseelaw16_ServoHolds.j0 k a1 l2 true a0_0 a0_1)))) = some r := h
 clear h
 have HC4 := qS H
 clear H
 go_enter Tryd.func4, Tryd.ntmps4
 go_upto_region 1 with (first | ((with_reducible refine gate_dst (N := 3) rfl ?_); refine box_event ?hg (N := 3) ?hd (cs := #[.int .i64 a0_0, .int .i64 a0_1]) (t := 25) ?hr ?_; (case hd => rfl); (case hg => rfl); (case hr => first | (go_simp; done) | (go_simp; rfl)); intro gb143 hg w5 hbox hb; have n0_ := qS (below_step (by repeat (first | (with_reducible first | exact HB.out | apply qpA | apply qpN | apply qp1) | exact HB.out)) hb); have n1_ := qS (hbox); have n2_ := qS ((by rw [hg]; exact (below_size (by repeat (first | (with_reducible first | exact HB.out | apply qpA | apply qpN | apply qp1) | exact HB.out))) : w.heap.size ≤ gb143)); have n3_ := qS ((by rw [hg]; exact (below_size (by repeat (first | (with_reducible first | exact HB.out | apply qpA | apply qpN | apply qp1) | exact HB.out))) : w.heap.size ≤ gb143)); clear HB; have HB := n0_; have BK143 := n1_; have GW143 := n2_; have GE143 := n3_; clear n0_ n1_ n2_ n3_; clear hb hbox hg))
 (try simp only [Act.put, List.setIfInBounds_toArray, List.set_cons_zero, List.set_cons_succ])
 go_cut [26] (fun v26 wc => ∃ (kq : Nat) (x26_3 : Bool), v26 = .bool x26_3 ∧ Aside0 (fuseelaw16_ServoHolds.j0 kq a1 l2 x26_3 a0_0 a0_1 = some r) ∧ Aside0 (kq ≤ k) ∧ Aside0 (wc.heap[gb143]? = some (.cells #[.int .i64 a0_0, .int .i64 a0_1] 25 (0, 0))) ∧ Aside0 (Below w.heap.size w wc))
 case first =>
  have H := HC4.out
  clear HC4
  by_cases c6 : (l2.length : Int) > 40
  ·rw [if_pos c6] at H
   have c6b0 : decide (40 < (l2.length : Int)) = true := decide_eq_true c6
   have c6b1 : decide (40 < l2.length) = true := decide_eq_true (by omega)
   clear c6
   (first | rw [c6b0] | (simp only [i64_w, i32_w]; rw [c6b0]) | skip)
   as_aux_lemma =>
    have H' := qS H
    clear H
    go_wp2
    go_meet
    case rel => exact ⟨_, (true), (by first | rfl | (simp; done) | (simp [*]; done)), H', ⟨by first | omega | exact Nat.le_refl _⟩, ⟨by (with_reducible repeat (first | refine qN ?_ _ | refine qD ?_ | refine qA ?_ _)); exact BK143.out⟩, ⟨by repeat (first | (with_reducible first | exact HB.out | apply qpA | apply qpN | apply qp1 | refine qpS ?_ GE143.out) | exact HB.out)⟩⟩
  ·rw [if_neg c6] at H
   have c6b0 : decide (40 < (l2.length : Int)) = false := decide_eq_false c6
   have c6b1 : decide (40 < l2.length) = false := decide_eq_false (by omega)
   clear c6
   (first | rw [c6b0] | (simp only [i64_w, i32_w]; rw [c6b0]) | skip)
   replace H := Option.bind_eq_some_iff.mp H
   obtain ⟨t144, A70, H⟩ := H
   replace H : (if t144.isNone = true then (fuseelaw16_ServoHolds.j0 k a1 l2 false a0_0 a0_1) else (fuseelaw16_ServoHolds.j0 k a1 l2 true a0_0 a0_1)) = some r := H
   have A7 := qS A70
   clear A70
   rcases t144 with _ | q145
   ·have H1 : (fuseelaw16_ServoHolds.j0 k a1 l2 false a0_0 a0_1) = some r := by rw [if_pos (show (none : Option Int).isNone = true by rfl)] at H; exact H
    clear H
    have H := H1
    clear H1
    try simp only [errW_none, errW_some]
    as_aux_lemma =>
     have H' := qS H
     clear H
     have hcz8_0 : w5.cell? ⟨gb143, 0, none⟩ = some (.int .i64 a0_0) := (qC BK143.out 0).trans rfl
     have hcz8_1 : w5.cell? ⟨gb143, 1, none⟩ = some (.int .i64 a0_1) := (qC BK143.out 1).trans rfl
     have hfz8_0 := qF BK143.out 0
     have hfz8_1 := qF BK143.out 1
     go_wp2_with (first | (go_at_call 22; (with_reducible refine (servo_Check.calls a0_0 a0_1 a1 none _ A7.out).mono ?_); rintro e w9 ⟨rfl, hb⟩; have n0_ := qS (qB (g := gb143) (o := .cells #[.int .i64 a0_0, .int .i64 a0_1] 25 (0, 0)) (by (with_reducible repeat (first | refine qN ?_ _ | refine qD ?_ | refine qA ?_ _)); exact BK143.out) hb); have n1_ := qS (below_step (by repeat (first | (with_reducible first | exact HB.out | apply qpA | apply qpN | apply qp1 | refine qpS ?_ GE143.out) | exact HB.out)) hb); clear BK143; clear HB; have BK143 := n0_; have HB := n1_; clear n0_ n1_; (try clear hb); (try clear hb2); (try clear hk); (try clear hi); (try simp only [errW_none, errW_some])))
     go_meet
     case rel => exact ⟨_, (false), (by first | rfl | (simp; done) | (simp [*]; done)), H', ⟨by first | omega | exact Nat.le_refl _⟩, ⟨by (with_reducible repeat (first | refine qN ?_ _ | refine qD ?_ | refine qA ?_ _)); exact BK143.out⟩, ⟨by repeat (first | (with_reducible first | exact HB.out | apply qpA | apply qpN | apply qp1 | refine qpS ?_ GE143.out) | exact HB.out)⟩⟩
   ·have H1 : (fuseelaw16_ServoHolds.j0 k a1 l2 true a0_0 a0_1) = some r := by rw [if_neg (show ¬ (some q145).isNone = true by simp)] at H; exact H
    clear H
    have H := H1
    clear H1
    try simp only [errW_none, errW_some]
    as_aux_lemma =>
     have H' := qS H
     clear H
     have hcz10_0 : w5.cell? ⟨gb143, 0, none⟩ = some (.int .i64 a0_0) := (qC BK143.out 0).trans rfl
     have hcz10_1 : w5.cell? ⟨gb143, 1, none⟩ = some (.int .i64 a0_1) := (qC BK143.out 1).trans rfl
     have hfz10_0 := qF BK143.out 0
     have hfz10_1 := qF BK143.out 1
     go_wp2_with (first | (go_at_call 22; (with_reducible refine (servo_Check.calls a0_0 a0_1 a1 (some q145) _ A7.out).mono ?_); rintro e w11 ⟨rfl, hb⟩; have n0_ := qS (qB (g := gb143) (o := .cells #[.int .i64 a0_0, .int .i64 a0_1] 25 (0, 0)) (by (with_reducible repeat (first | refine qN ?_ _ | refine qD ?_ | refine qA ?_ _)); exact BK143.out) hb); have n1_ := qS (below_step (by repeat (first | (with_reducible first | exact HB.out | apply qpA | apply qpN | apply qp1 | refine qpS ?_ GE143.out) | exact HB.out)) hb); clear BK143; clear HB; have BK143 := n0_; have HB := n1_; clear n0_ n1_; (try clear hb); (try clear hb2); (try clear hk); (try clear hi); (try simp only [errW_none, errW_some])))
     go_meet
     case rel => exact ⟨_, (true), (by first | rfl | (simp; done) | (simp [*]; done)), H', ⟨by first | omega | exact Nat.le_refl _⟩, ⟨by (with_reducible repeat (first | refine qN ?_ _ | refine qD ?_ | refine qA ?_ _)); exact BK143.out⟩, ⟨by repeat (first | (with_reducible first | exact HB.out | apply qpA | apply qpN | apply qp1 | refine qpS ?_ GE143.out) | exact HB.out)⟩⟩
 case rest =>
  clear HC4
  try clear q1
  try clear c2
  try clear p2
  try clear c4
  try clear c6
  try clear c6b0
  try clear c6b1
  try clear hcz10_0
  try clear hcz10_1
  try clear hcz8_0
  try clear hcz8_1
  try clear hfz10_0
  try clear hfz10_1
  try clear hfz8_0
  try clear hfz8_1
  try clear q145
  obtain ⟨kq, x26_3, rfl, HA, HJ3, BK143, HB⟩ := hcut
  cases kq with
  | zero => exact absurd HA.out (by simp [fuseelaw16_ServoHolds.j0])
  | succ kj3 =>
   have H := HA.out
   clear HA
   simp only [fuseelaw16_ServoHolds.j0] at H
   by_cases c12 : x26_3 = true
   ·subst c12
    have H1 : ((fuseelaw16_sure.f).bind fun t146 => (some t146)) = some r := by rw [if_pos rfl] at H; exact H
    clear H
    have H := H1
    clear H1
    replace H := Option.bind_eq_some_iff.mp H
    obtain ⟨t146, A130, H⟩ := H
    replace H : (some t146) = some r := H
    have A13 := qS A130
    clear A130
    as_aux_lemma =>
     obtain rfl := Option.some.inj H
     go_wp2_with (first | ((with_reducible refine gate_callee (f := 24) rfl ?_); refine goesL_ (some 27) rfl rfl Tryd.func24 (by kernel_rfl) rfl #[] rfl (by (try simp only [List.map_toArray, List.map_cons, List.map_nil]); first | done | rfl | (simp only [*]; done) | (simp only [List.length_drop, List.length_take]; rfl) | (simp only [Act.eval, Array.getD_eq_getD_getElem?, Option.getD_some, *])) ?_; (with_reducible refine (fuseelaw16_sure.calls  t146 _ ?side1 A13.out).mono ?_); (case side1 => exact HG.below hgL (Nat.le_refl _) (by repeat (first | (with_reducible first | exact HB.out | apply qpA | apply qpN | apply qp1 | refine qpS ?_ GE143.out) | exact HB.out))); rintro e w14 ⟨rfl, hb⟩; refine ⟨_, rfl, ?_⟩; have n0_ := qS (qB (g := gb143) (o := .cells #[.int .i64 a0_0, .int .i64 a0_1] 25 (0, 0)) (by (with_reducible repeat (first | refine qN ?_ _ | refine qD ?_ | refine qA ?_ _)); exact BK143.out) hb); have n1_ := qS (below_step (by repeat (first | (with_reducible first | exact HB.out | apply qpA | apply qpN | apply qp1 | refine qpS ?_ GE143.out) | exact HB.out)) hb); clear BK143; clear HB; have BK143 := n0_; have HB := n1_; clear n0_ n1_; (try clear hb); (try clear hb2); (try clear hk); (try clear hi)))
     go_ret
     exact ⟨by first | rfl | (simp [errW_none, errW_some] <;> rfl) | (simp [*, errW_none, errW_some] <;> rfl), by repeat (first | (with_reducible first | exact HB.out | apply qpA | apply qpN | apply qp1 | refine qpS ?_ GE143.out) | exact HB.out)⟩
   ·replace c12 := Bool.eq_false_iff.mpr c12
    subst c12
    have H1 : (fuseelaw16_ServoHolds.l0 kj3 a1 l2 0 a0_0 a0_1 0 0 0 0 0 0) = some r := by rw [if_neg (show ¬ (false = true) by decide)] at H; exact H
    clear H
    have H := H1
    clear H1
    have H' := qS H
    clear H
    go_wp2_with (first | ((with_reducible refine gate_dst (N := 7) rfl ?_); refine box_event ?hg (N := 7) ?hd (cs := #[.int .i64 0, .int .i64 0]) (t := 27) ?hr ?_; (case hd => rfl); (case hg => rfl); (case hr => first | (go_simp; done) | (go_simp; rfl)); intro gb147 hg w15 hbox hb; have n0_ := qS (qB (g := gb143) (o := .cells #[.int .i64 a0_0, .int .i64 a0_1] 25 (0, 0)) (by (with_reducible repeat (first | refine qN ?_ _ | refine qD ?_ | refine qA ?_ _)); exact BK143.out) hb); have n1_ := qS (below_step (by repeat (first | (with_reducible first | exact HB.out | apply qpA | apply qpN | apply qp1 | refine qpS ?_ GE143.out) | exact HB.out)) hb); have n2_ := qS (hbox); have n3_ := qS ((by rw [hg]; exact (below_size (by repeat (first | (with_reducible first | exact HB.out | apply qpA | apply qpN | apply qp1 | refine qpS ?_ GE143.out) | exact HB.out))) : w.heap.size ≤ gb147)); have n4_ := qS ((by rw [hg]; exact (below_size (by repeat (first | (with_reducible first | exact HB.out | apply qpA | apply qpN | apply qp1 | refine qpS ?_ GE143.out) | exact HB.out))) : w.heap.size ≤ gb147)); have n5_ := qS ((by rw [hg]; exact Nat.ne_of_lt (blk_lt (g := gb143) (o := .cells #[.int .i64 a0_0, .int .i64 a0_1] 25 (0, 0)) (by (with_reducible repeat (first | refine qN ?_ _ | refine qD ?_ | refine qA ?_ _)); exact BK143.out)) : gb143 ≠ gb147)); have n6_ := qS ((by rw [hg]; exact Nat.ne_of_gt (blk_lt (g := gb143) (o := .cells #[.int .i64 a0_0, .int .i64 a0_1] 25 (0, 0)) (by (with_reducible repeat (first | refine qN ?_ _ | refine qD ?_ | refine qA ?_ _)); exact BK143.out)) : gb147 ≠ gb143)); clear BK143; clear HB; have BK143 := n0_; have HB := n1_; have BK147 := n2_; have GW147 := n3_; have GE147 := n4_; have NB143_147 := n5_; have NB147_143 := n6_; clear n0_ n1_ n2_ n3_ n4_ n5_ n6_; clear hb hbox hg) | ((with_reducible refine gate_dst (N := 8) rfl ?_); refine box_event ?hg (N := 8) ?hd (cs := #[.int .i64 0, .int .i64 0]) (t := 27) ?hr ?_; (case hd => rfl); (case hg => rfl); (case hr => first | (go_simp; done) | (go_simp; rfl)); intro gb148 hg w16 hbox hb; have n0_ := qS (qB (g := gb143) (o := .cells #[.int .i64 a0_0, .int .i64 a0_1] 25 (0, 0)) (by (with_reducible repeat (first | refine qN ?_ _ | refine qD ?_ | refine qA ?_ _)); exact BK143.out) hb); have n1_ := qS (qB (g := gb147) (o := .cells #[.int .i64 0, .int .i64 0] 27 (0, 0)) (by (with_reducible repeat (first | refine qN ?_ _ | refine qD ?_ | refine qA ?_ _)); exact BK147.out) hb); have n2_ := qS (below_step (by repeat (first | (with_reducible first | exact HB.out | apply qpA | apply qpN | apply qp1 | refine qpS ?_ GE143.out | refine qpS ?_ GE147.out) | exact HB.out)) hb); have n3_ := qS (hbox); have n4_ := qS ((by rw [hg]; exact (below_size (by repeat (first | (with_reducible first | exact HB.out | apply qpA | apply qpN | apply qp1 | refine qpS ?_ GE143.out | refine qpS ?_ GE147.out) | exact HB.out))) : w.heap.size ≤ gb148)); have n5_ := qS ((by rw [hg]; exact (below_size (by repeat (first | (with_reducible first | exact HB.out | apply qpA | apply qpN | apply qp1 | refine qpS ?_ GE143.out | refine qpS ?_ GE147.out) | exact HB.out))) : w.heap.size ≤ gb148)); have n6_ := qS ((by rw [hg]; exact Nat.ne_of_lt (blk_lt (g := gb143) (o := .cells #[.int .i64 a0_0, .int .i64 a0_1] 25 (0, 0)) (by (with_reducible repeat (first | refine qN ?_ _ | refine qD ?_ | refine qA ?_ _)); exact BK143.out)) : gb143 ≠ gb148)); have n7_ := qS ((by rw [hg]; exact Nat.ne_of_gt (blk_lt (g := gb143) (o := .cells #[.int .i64 a0_0, .int .i64 a0_1] 25 (0, 0)) (by (with_reducible repeat (first | refine qN ?_ _ | refine qD ?_ | refine qA ?_ _)); exact BK143.out)) : gb148 ≠ gb143)); have n8_ := qS ((by rw [hg]; exact Nat.ne_of_lt (blk_lt (g := gb147) (o := .cells #[.int .i64 0, .int .i64 0] 27 (0, 0)) (by (with_reducible repeat (first | refine qN ?_ _ | refine qD ?_ | refine qA ?_ _)); exact BK147.out)) : gb147 ≠ gb148)); have n9_ := qS ((by rw [hg]; exact Nat.ne_of_gt (blk_lt (g := gb147) (o := .cells #[.int .i64 0, .int .i64 0] 27 (0, 0)) (by (with_reducible repeat (first | refine qN ?_ _ | refine qD ?_ | refine qA ?_ _)); exact BK147.out)) : gb148 ≠ gb147)); clear BK143; clear BK147; clear HB; have BK143 := n0_; have BK147 := n1_; have HB := n2_; have BK148 := n3_; have GW148 := n4_; have GE148 := n5_; have NB143_148 := n6_; have NB148_143 := n7_; have NB147_148 := n8_; have NB148_147 := n9_; clear n0_ n1_ n2_ n3_ n4_ n5_ n6_ n7_ n8_ n9_; clear hb hbox hg) | ((with_reducible refine gate_dst (N := 9) rfl ?_); refine box_event ?hg (N := 9) ?hd (cs := #[.int .i64 0, .int .i64 0]) (t := 27) ?hr ?_; (case hd => rfl); (case hg => rfl); (case hr => first | (go_simp; done) | (go_simp; rfl)); intro gb149 hg w17 hbox hb; have n0_ := qS (qB (g := gb143) (o := .cells #[.int .i64 a0_0, .int .i64 a0_1] 25 (0, 0)) (by (with_reducible repeat (first | refine qN ?_ _ | refine qD ?_ | refine qA ?_ _)); exact BK143.out) hb); have n1_ := qS (qB (g := gb147) (o := .cells #[.int .i64 0, .int .i64 0] 27 (0, 0)) (by (with_reducible repeat (first | refine qN ?_ _ | refine qD ?_ | refine qA ?_ _)); exact BK147.out) hb); have n2_ := qS (qB (g := gb148) (o := .cells #[.int .i64 0, .int .i64 0] 27 (0, 0)) (by (with_reducible repeat (first | refine qN ?_ _ | refine qD ?_ | refine qA ?_ _)); exact BK148.out) hb); have n3_ := qS (below_step (by repeat (first | (with_reducible first | exact HB.out | apply qpA | apply qpN | apply qp1 | refine qpS ?_ GE143.out | refine qpS ?_ GE147.out | refine qpS ?_ GE148.out) | exact HB.out)) hb); have n4_ := qS (hbox); have n5_ := qS ((by rw [hg]; exact (below_size (by repeat (first | (with_reducible first | exact HB.out | apply qpA | apply qpN | apply qp1 | refine qpS ?_ GE143.out | refine qpS ?_ GE147.out | refine qpS ?_ GE148.out) | exact HB.out))) : w.heap.size ≤ gb149)); have n6_ := qS ((by rw [hg]; exact (below_size (by repeat (first | (with_reducible first | exact HB.out | apply qpA | apply qpN | apply qp1 | refine qpS ?_ GE143.out | refine qpS ?_ GE147.out | refine qpS ?_ GE148.out) | exact HB.out))) : w.heap.size ≤ gb149)); have n7_ := qS ((by rw [hg]; exact Nat.ne_of_lt (blk_lt (g := gb143) (o := .cells #[.int .i64 a0_0, .int .i64 a0_1] 25 (0, 0)) (by (with_reducible repeat (first | refine qN ?_ _ | refine qD ?_ | refine qA ?_ _)); exact BK143.out)) : gb143 ≠ gb149)); have n8_ := qS ((by rw [hg]; exact Nat.ne_of_gt (blk_lt (g := gb143) (o := .cells #[.int .i64 a0_0, .int .i64 a0_1] 25 (0, 0)) (by (with_reducible repeat (first | refine qN ?_ _ | refine qD ?_ | refine qA ?_ _)); exact BK143.out)) : gb149 ≠ gb143)); have n9_ := qS ((by rw [hg]; exact Nat.ne_of_lt (blk_lt (g := gb147) (o := .cells #[.int .i64 0, .int .i64 0] 27 (0, 0)) (by (with_reducible repeat (first | refine qN ?_ _ | refine qD ?_ | refine qA ?_ _)); exact BK147.out)) : gb147 ≠ gb149)); have n10_ := qS ((by rw [hg]; exact Nat.ne_of_gt (blk_lt (g := gb147) (o := .cells #[.int .i64 0, .int .i64 0] 27 (0, 0)) (by (with_reducible repeat (first | refine qN ?_ _ | refine qD ?_ | refine qA ?_ _)); exact BK147.out)) : gb149 ≠ gb147)); have n11_ := qS ((by rw [hg]; exact Nat.ne_of_lt (blk_lt (g := gb148) (o := .cells #[.int .i64 0, .int .i64 0] 27 (0, 0)) (by (with_reducible repeat (first | refine qN ?_ _ | refine qD ?_ | refine qA ?_ _)); exact BK148.out)) : gb148 ≠ gb149)); have n12_ := qS ((by rw [hg]; exact Nat.ne_of_gt (blk_lt (g := gb148) (o := .cells #[.int .i64 0, .int .i64 0] 27 (0, 0)) (by (with_reducible repeat (first | refine qN ?_ _ | refine qD ?_ | refine qA ?_ _)); exact BK148.out)) : gb149 ≠ gb148)); clear BK143; clear BK147; clear BK148; clear HB; have BK143 := n0_; have BK147 := n1_; have BK148 := n2_; have HB := n3_; have BK149 := n4_; have GW149 := n5_; have GE149 := n6_; have NB143_149 := n7_; have NB149_143 := n8_; have NB147_149 := n9_; have NB149_147 := n10_; have NB148_149 := n11_; have NB149_148 := n12_; clear n0_ n1_ n2_ n3_ n4_ n5_ n6_ n7_ n8_ n9_ n10_ n11_ n12_; clear hb hbox hg))
    go_loopg [10] kj3 (fun kq v10 w' => ∃ (x10_2 : Int) (x148000_2 : Int) (x148001_2 : Int) (x149000_2 : Int) (x149001_2 : Int) (x150000_2 : Int) (x150001_2 : Int), v10 = .int .i64 x10_2 ∧ Aside0 (fuseelaw16_ServoHolds.l0 kq a1 l2 x10_2 a0_0 a0_1 x148000_2 x148001_2 x149000_2 x149001_2 x150000_2 x150001_2 = some r) ∧ Aside0 (kq ≤ kj3) ∧ Aside0 (w'.heap[gb143]? = some (.cells #[.int .i64 a0_0, .int .i64 a0_1] 25 (0, 0))) ∧ Aside0 (w'.heap[gb147]? = some (.cells #[.int .i64 x148000_2, .int .i64 x148001_2] 27 (0, 0))) ∧ Aside0 (w'.heap[gb148]? = some (.cells #[.int .i64 x149000_2, .int .i64 x149001_2] 27 (0, 0))) ∧ Aside0 (w'.heap[gb149]? = some (.cells #[.int .i64 x150000_2, .int .i64 x150001_2] 27 (0, 0))) ∧ Aside0 (Below w.heap.size w w'))
    case atStart => exact ⟨(0), (0), (0), (0), (0), (0), (0), (by first | rfl | (simp; done) | (simp [*]; done)), H', ⟨Nat.le_refl _⟩, ⟨by (with_reducible repeat (first | refine qN ?_ _ | refine qD ?_ | refine qA ?_ _)); exact BK143.out⟩, ⟨by (with_reducible repeat (first | refine qN ?_ _ | refine qD ?_ | refine qA ?_ _)); exact BK147.out⟩, ⟨by (with_reducible repeat (first | refine qN ?_ _ | refine qD ?_ | refine qA ?_ _)); exact BK148.out⟩, ⟨by (with_reducible repeat (first | refine qN ?_ _ | refine qD ?_ | refine qA ?_ _)); exact BK149.out⟩, ⟨by repeat (first | (with_reducible first | exact HB.out | apply qpA | apply qpN | apply qp1 | refine qpS ?_ GE143.out | refine qpS ?_ GE147.out | refine qpS ?_ GE148.out | refine qpS ?_ GE149.out) | exact HB.out)⟩⟩
    case round =>
     clear H'
     try clear c1
     try clear q1
     try clear c2
     try clear p2
     try clear c4
     try clear c6
     try clear c6b0
     try clear c6b1
     try clear c12
     try clear q14
     try clear hcz10_0
     try clear hcz10_1
     try clear hcz8_0
     try clear hcz8_1
     try clear hfz10_0
     try clear hfz10_1
     try clear hfz8_0
     try clear hfz8_1
     try clear p2
     try clear q1
     try clear q145
     obtain ⟨x10_2, x148000_2, x148001_2, x149000_2, x149001_2, x150000_2, x150001_2, rfl, HA, HK2, BK143, BK147, BK148, BK149, HB⟩ := hrel
     cases gk with
     | zero => exact absurd HA.out (by simp [fuseelaw16_ServoHolds.l0])
     | succ k2 =>
      have H := HA.out
      clear HA
      simp only [fuseelaw16_ServoHolds.l0] at H
      by_cases c18 : x10_2 < (l2.length : Int)
      ·rw [if_pos c18] at H
       have c18b0 : decide (x10_2 < (l2.length : Int)) = true := decide_eq_true c18
       clear c18
       by_cases c19 : 0 ≤ x10_2
       ·rw [if_pos c19] at H
        have c19b0 : decide (0 ≤ x10_2) = true := decide_eq_true c19
        clear c19
        replace H := Option.bind_eq_some_iff.mp H
        obtain ⟨⟨t152, t153, t154⟩, A200, H⟩ := H
        replace H : ((servo_Step.f x149000_2 x149001_2 a0_0 a0_1 a1 (wrap64 (-(wrap64 ((wrap64 (rd l2 x10_2)) * 1024))))).bind fun bt156 => ((servo_Step.f x150000_2 x150001_2 a0_0 a0_1 a1 0).bind fun bt160 => (if t154.isNone = true then (if bt156.2.2.isNone = true then (if bt160.2.2.isNone = true then (if (!(bt160.1 == x150000_2) || (!(bt160.2.1 == x150001_2))) = true then (none) else (if t153 = (wrap64 (-bt156.2.1)) then (if t152 < (wrap64 (-a1)) then (none) else (if t152 > a1 then (none) else (if (wrap64 (t152 + bt156.1)) < (-1) then (none) else (if (wrap64 (t152 + bt156.1)) > 0 then (none) else (fuseelaw16_ServoHolds.l0 k2 a1 l2 (wrap64 (x10_2 + 1)) a0_0 a0_1 t152 t153 bt156.1 bt156.2.1 bt160.1 bt160.2.1))))) else (none))) else (none)) else (none)) else (none)))) = some r := H
        have A20 := qS A200
        clear A200
        replace H := Option.bind_eq_some_iff.mp H
        obtain ⟨⟨t156, t157, t158⟩, A210, H⟩ := H
        replace H : ((servo_Step.f x150000_2 x150001_2 a0_0 a0_1 a1 0).bind fun bt160 => (if t154.isNone = true then (if t158.isNone = true then (if bt160.2.2.isNone = true then (if (!(bt160.1 == x150000_2) || (!(bt160.2.1 == x150001_2))) = true then (none) else (if t153 = (wrap64 (-t157)) then (if t152 < (wrap64 (-a1)) then (none) else (if t152 > a1 then (none) else (if (wrap64 (t152 + t156)) < (-1) then (none) else (if (wrap64 (t152 + t156)) > 0 then (none) else (fuseelaw16_ServoHolds.l0 k2 a1 l2 (wrap64 (x10_2 + 1)) a0_0 a0_1 t152 t153 t156 t157 bt160.1 bt160.2.1))))) else (none))) else (none)) else (none)) else (none))) = some r := H
        have A21 := qS A210
        clear A210
        replace H := Option.bind_eq_some_iff.mp H
        obtain ⟨⟨t160, t161, t162⟩, A220, H⟩ := H
        replace H : (if t154.isNone = true then (if t158.isNone = true then (if t162.isNone = true then (if (!(t160 == x150000_2) || (!(t161 == x150001_2))) = true then (none) else (if t153 = (wrap64 (-t157)) then (if t152 < (wrap64 (-a1)) then (none) else (if t152 > a1 then (none) else (if (wrap64 (t152 + t156)) < (-1) then (none) else (if (wrap64 (t152 + t156)) > 0 then (none) else (fuseelaw16_ServoHolds.l0 k2 a1 l2 (wrap64 (x10_2 + 1)) a0_0 a0_1 t152 t153 t156 t157 t160 t161))))) else (none))) else (none)) else (none)) else (none)) = some r := H
        have A22 := qS A220
        clear A220
        rcases t154 with _ | q164
        ·have H1 : (if t158.isNone = true then (if t162.isNone = true then (if (!(t160 == x150000_2) || (!(t161 == x150001_2))) = true then (none) else (if t153 = (wrap64 (-t157)) then (if t152 < (wrap64 (-a1)) then (none) else (if t152 > a1 then (none) else (if (wrap64 (t152 + t156)) < (-1) then (none) else (if (wrap64 (t152 + t156)) > 0 then (none) else (fuseelaw16_ServoHolds.l0 k2 a1 l2 (wrap64 (x10_2 + 1)) a0_0 a0_1 t152 t153 t156 t157 t160 t161))))) else (none))) else (none)) else (none)) = some r := by rw [if_pos (show (none : Option Int).isNone = true by rfl)] at H; exact H
         clear H
         have H := H1
         clear H1
         try simp only [errW_none, errW_some]
         rcases t158 with _ | q165
         ·have H1 : (if t162.isNone = true then (if (!(t160 == x150000_2) || (!(t161 == x150001_2))) = true then (none) else (if t153 = (wrap64 (-t157)) then (if t152 < (wrap64 (-a1)) then (none) else (if t152 > a1 then (none) else (if (wrap64 (t152 + t156)) < (-1) then (none) else (if (wrap64 (t152 + t156)) > 0 then (none) else (fuseelaw16_ServoHolds.l0 k2 a1 l2 (wrap64 (x10_2 + 1)) a0_0 a0_1 t152 t153 t156 t157 t160 t161))))) else (none))) else (none)) = some r := by rw [if_pos (show (none : Option Int).isNone = true by rfl)] at H; exact H
          clear H
          have H := H1
          clear H1
          try simp only [errW_none, errW_some]
          rcases t162 with _ | q166
          ·have H1 : (if (!(t160 == x150000_2) || (!(t161 == x150001_2))) = true then (none) else (if t153 = (wrap64 (-t157)) then (if t152 < (wrap64 (-a1)) then (none) else (if t152 > a1 then (none) else (if (wrap64 (t152 + t156)) < (-1) then (none) else (if (wrap64 (t152 + t156)) > 0 then (none) else (fuseelaw16_ServoHolds.l0 k2 a1 l2 (wrap64 (x10_2 + 1)) a0_0 a0_1 t152 t153 t156 t157 t160 t161))))) else (none))) = some r := by rw [if_pos (show (none : Option Int).isNone = true by rfl)] at H; exact H
           clear H
           have H := H1
           clear H1
           try simp only [errW_none, errW_some]
           by_cases c23 : (!(t160 == x150000_2) || (!(t161 == x150001_2))) = true
           ·rw [if_pos c23] at H
            exact absurd H (by simp)
           ·rw [if_neg c23] at H
            have c23b0 : (!(t160 == x150000_2) || (!(t161 == x150001_2))) = false := by simpa using c23
            clear c23
            by_cases c24 : t153 = (wrap64 (-t157))
            ·rw [if_pos c24] at H
             have c24b0 : (t153 == (wrap64 (-t157))) = true := beq_iff_eq.mpr c24
             have c24b1 : (t153 != (wrap64 (-t157))) = false := bne_eq_false_iff_eq.mpr c24
             clear c24
             by_cases c25 : t152 < (wrap64 (-a1))
             ·rw [if_pos c25] at H
              exact absurd H (by simp)
             ·rw [if_neg c25] at H
              have c25b0 : decide (t152 < (wrap64 (-a1))) = false := decide_eq_false c25
              clear c25
              by_cases c26 : t152 > a1
              ·rw [if_pos c26] at H
               exact absurd H (by simp)
              ·rw [if_neg c26] at H
               have c26b0 : decide (a1 < t152) = false := decide_eq_false c26
               clear c26
               by_cases c27 : (wrap64 (t152 + t156)) < (-1)
               ·rw [if_pos c27] at H
                exact absurd H (by simp)
               ·rw [if_neg c27] at H
                have c27b0 : decide ((wrap64 (t152 + t156)) < (-1)) = false := decide_eq_false c27
                clear c27
                by_cases c28 : (wrap64 (t152 + t156)) > 0
                ·rw [if_pos c28] at H
                 exact absurd H (by simp)
                ·rw [if_neg c28] at H
                 have c28b0 : decide (0 < (wrap64 (t152 + t156))) = false := decide_eq_false c28
                 clear c28
                 as_aux_lemma =>
                  have H' := qS H
                  clear H
                  have p151 : 0 ≤ (x10_2 : Int) := of_decide_eq_true (by first | (with_reducible assumption) | assumption)
                  have q151 : x10_2 < (l2.length : Int) := of_decide_eq_true (by first | (with_reducible assumption) | assumption)
                  obtain ⟨ad151, e151, hx151_0⟩ := Kd.at_int HR2.out x10_2 p151 q151
                  cases e151
                  replace hx151_0 := (HB.out.cell (World.block_lt_of_cell? w _ hx151_0)).trans hx151_0
                  replace p151 := eq_true p151
                  replace q151 := eq_true q151
                  have hnb29 := NB147_143.out
                  have hnc29 := NB143_147.out
                  have hnb30 := NB147_148.out
                  have hnc30 := NB148_147.out
                  have hnb31 := NB147_149.out
                  have hnc31 := NB149_147.out
                  have hcz32_0 : wr.cell? ⟨gb147, 0, none⟩ = some (.int .i64 x148000_2) := (qC BK147.out 0).trans rfl
                  have hcz32_1 : wr.cell? ⟨gb147, 1, none⟩ = some (.int .i64 x148001_2) := (qC BK147.out 1).trans rfl
                  have hfz32_0 := qF BK147.out 0
                  have hfz32_1 := qF BK147.out 1
                  have hnb33 := NB143_148.out
                  have hnc33 := NB148_143.out
                  have hnb34 := NB143_149.out
                  have hnc34 := NB149_143.out
                  have hcz35_0 : wr.cell? ⟨gb143, 0, none⟩ = some (.int .i64 a0_0) := (qC BK143.out 0).trans rfl
                  have hcz35_1 : wr.cell? ⟨gb143, 1, none⟩ = some (.int .i64 a0_1) := (qC BK143.out 1).trans rfl
                  have hfz35_0 := qF BK143.out 0
                  have hfz35_1 := qF BK143.out 1
                  try go_wp2_with (first | ((with_reducible refine gate_callee (f := 15) rfl ?_); refine goesL_ (some 45) rfl rfl Tryd.func15 (by kernel_rfl) rfl #[.agg #[.int .i64 x148000_2, .int .i64 x148001_2], .agg #[.int .i64 a0_0, .int .i64 a0_1], .int .i64 a1, .int .i64 (wrap64 ((wrap64 (rd l2 x10_2)) * 1024))] rfl (by (try simp only [List.map_toArray, List.map_cons, List.map_nil]); first | done | rfl | (simp only [*]; done) | (simp only [List.length_drop, List.length_take]; rfl) | (simp only [Act.eval, Array.getD_eq_getD_getElem?, Option.getD_some, *])) ?_; (with_reducible refine (servo_Step.calls x148000_2 x148001_2 a0_0 a0_1 a1 (wrap64 ((wrap64 (rd l2 x10_2)) * 1024)) t152 t153 none _ A20.out).mono ?_); rintro e w36 ⟨rfl, hb⟩; refine ⟨_, rfl, ?_⟩; have n0_ := qS (qB (g := gb143) (o := .cells #[.int .i64 a0_0, .int .i64 a0_1] 25 (0, 0)) (by (with_reducible repeat (first | refine qN ?_ _ | refine qD ?_ | refine qA ?_ _)); exact BK143.out) hb); have n1_ := qS (qB (g := gb147) (o := .cells #[.int .i64 x148000_2, .int .i64 x148001_2] 27 (0, 0)) (by (with_reducible repeat (first | refine qN ?_ _ | refine qD ?_ | refine qA ?_ _)); exact BK147.out) hb); have n2_ := qS (qB (g := gb148) (o := .cells #[.int .i64 x149000_2, .int .i64 x149001_2] 27 (0, 0)) (by (with_reducible repeat (first | refine qN ?_ _ | refine qD ?_ | refine qA ?_ _)); exact BK148.out) hb); have n3_ := qS (qB (g := gb149) (o := .cells #[.int .i64 x150000_2, .int .i64 x150001_2] 27 (0, 0)) (by (with_reducible repeat (first | refine qN ?_ _ | refine qD ?_ | refine qA ?_ _)); exact BK149.out) hb); have n4_ := qS (below_step (by repeat (first | (with_reducible first | exact HB.out | apply qpA | apply qpN | apply qp1 | refine qpS ?_ GE143.out | refine qpS ?_ GE147.out | refine qpS ?_ GE148.out | refine qpS ?_ GE149.out) | exact HB.out)) hb); clear BK143; clear BK147; clear BK148; clear BK149; clear HB; have BK143 := n0_; have BK147 := n1_; have BK148 := n2_; have BK149 := n3_; have HB := n4_; clear n0_ n1_ n2_ n3_ n4_; (try clear hb); (try clear hb2); (try clear hk); (try clear hi); (try simp only [errW_none, errW_some])) | ((with_reducible refine gate_dst (N := 12) rfl ?_); refine box_event ?hg (N := 12) ?hd (cs := #[.int .i64 0, .int .i64 0]) (t := 27) ?hr ?_; (case hd => rfl); (case hg => rfl); (case hr => first | (go_simp; done) | (go_simp; rfl)); intro gb155 hg w37 hbox hb; have n0_ := qS (qB (g := gb143) (o := .cells #[.int .i64 a0_0, .int .i64 a0_1] 25 (0, 0)) (by (with_reducible repeat (first | refine qN ?_ _ | refine qD ?_ | refine qA ?_ _)); exact BK143.out) hb); have n1_ := qS (qB (g := gb147) (o := .cells #[.int .i64 x148000_2, .int .i64 x148001_2] 27 (0, 0)) (by (with_reducible repeat (first | refine qN ?_ _ | refine qD ?_ | refine qA ?_ _)); exact BK147.out) hb); have n2_ := qS (qB (g := gb148) (o := .cells #[.int .i64 x149000_2, .int .i64 x149001_2] 27 (0, 0)) (by (with_reducible repeat (first | refine qN ?_ _ | refine qD ?_ | refine qA ?_ _)); exact BK148.out) hb); have n3_ := qS (qB (g := gb149) (o := .cells #[.int .i64 x150000_2, .int .i64 x150001_2] 27 (0, 0)) (by (with_reducible repeat (first | refine qN ?_ _ | refine qD ?_ | refine qA ?_ _)); exact BK149.out) hb); have n4_ := qS (below_step (by repeat (first | (with_reducible first | exact HB.out | apply qpA | apply qpN | apply qp1 | refine qpS ?_ GE143.out | refine qpS ?_ GE147.out | refine qpS ?_ GE148.out | refine qpS ?_ GE149.out) | exact HB.out)) hb); have n5_ := qS (hbox); have n6_ := qS ((by rw [hg]; exact (below_size (by repeat (first | (with_reducible first | exact HB.out | apply qpA | apply qpN | apply qp1 | refine qpS ?_ GE143.out | refine qpS ?_ GE147.out | refine qpS ?_ GE148.out | refine qpS ?_ GE149.out) | exact HB.out))) : w.heap.size ≤ gb155)); have n7_ := qS ((by rw [hg]; exact (below_size (by repeat (first | (with_reducible first | exact HB.out | apply qpA | apply qpN | apply qp1 | refine qpS ?_ GE143.out | refine qpS ?_ GE147.out | refine qpS ?_ GE148.out | refine qpS ?_ GE149.out) | exact HB.out))) : w.heap.size ≤ gb155)); have n8_ := qS ((by rw [hg]; exact Nat.ne_of_lt (blk_lt (g := gb143) (o := .cells #[.int .i64 a0_0, .int .i64 a0_1] 25 (0, 0)) (by (with_reducible repeat (first | refine qN ?_ _ | refine qD ?_ | refine qA ?_ _)); exact BK143.out)) : gb143 ≠ gb155)); have n9_ := qS ((by rw [hg]; exact Nat.ne_of_gt (blk_lt (g := gb143) (o := .cells #[.int .i64 a0_0, .int .i64 a0_1] 25 (0, 0)) (by (with_reducible repeat (first | refine qN ?_ _ | refine qD ?_ | refine qA ?_ _)); exact BK143.out)) : gb155 ≠ gb143)); have n10_ := qS ((by rw [hg]; exact Nat.ne_of_lt (blk_lt (g := gb147) (o := .cells #[.int .i64 x148000_2, .int .i64 x148001_2] 27 (0, 0)) (by (with_reducible repeat (first | refine qN ?_ _ | refine qD ?_ | refine qA ?_ _)); exact BK147.out)) : gb147 ≠ gb155)); have n11_ := qS ((by rw [hg]; exact Nat.ne_of_gt (blk_lt (g := gb147) (o := .cells #[.int .i64 x148000_2, .int .i64 x148001_2] 27 (0, 0)) (by (with_reducible repeat (first | refine qN ?_ _ | refine qD ?_ | refine qA ?_ _)); exact BK147.out)) : gb155 ≠ gb147)); have n12_ := qS ((by rw [hg]; exact Nat.ne_of_lt (blk_lt (g := gb148) (o := .cells #[.int .i64 x149000_2, .int .i64 x149001_2] 27 (0, 0)) (by (with_reducible repeat (first | refine qN ?_ _ | refine qD ?_ | refine qA ?_ _)); exact BK148.out)) : gb148 ≠ gb155)); have n13_ := qS ((by rw [hg]; exact Nat.ne_of_gt (blk_lt (g := gb148) (o := .cells #[.int .i64 x149000_2, .int .i64 x149001_2] 27 (0, 0)) (by (with_reducible repeat (first | refine qN ?_ _ | refine qD ?_ | refine qA ?_ _)); exact BK148.out)) : gb155 ≠ gb148)); have n14_ := qS ((by rw [hg]; exact Nat.ne_of_lt (blk_lt (g := gb149) (o := .cells #[.int .i64 x150000_2, .int .i64 x150001_2] 27 (0, 0)) (by (with_reducible repeat (first | refine qN ?_ _ | refine qD ?_ | refine qA ?_ _)); exact BK149.out)) : gb149 ≠ gb155)); have n15_ := qS ((by rw [hg]; exact Nat.ne_of_gt (blk_lt (g := gb149) (o := .cells #[.int .i64 x150000_2, .int .i64 x150001_2] 27 (0, 0)) (by (with_reducible repeat (first | refine qN ?_ _ | refine qD ?_ | refine qA ?_ _)); exact BK149.out)) : gb155 ≠ gb149)); clear BK143; clear BK147; clear BK148; clear BK149; clear HB; have BK143 := n0_; have BK147 := n1_; have BK148 := n2_; have BK149 := n3_; have HB := n4_; have BK155 := n5_; have GW155 := n6_; have GE155 := n7_; have NB143_155 := n8_; have NB155_143 := n9_; have NB147_155 := n10_; have NB155_147 := n11_; have NB148_155 := n12_; have NB155_148 := n13_; have NB149_155 := n14_; have NB155_149 := n15_; clear n0_ n1_ n2_ n3_ n4_ n5_ n6_ n7_ n8_ n9_ n10_ n11_ n12_ n13_ n14_ n15_; clear hb hbox hg; have hnb38 := NB155_143.out; have hnc38 := NB143_155.out; have hnb39 := NB155_147.out; have hnc39 := NB147_155.out; have hnb40 := NB155_148.out; have hnc40 := NB148_155.out; have hnb41 := NB155_149.out; have hnc41 := NB149_155.out; have hcz42_0 : w37.cell? ⟨gb155, 0, none⟩ = some (.int .i64 0) := (qC BK155.out 0).trans rfl; have hcz42_1 : w37.cell? ⟨gb155, 1, none⟩ = some (.int .i64 0) := (qC BK155.out 1).trans rfl; have hfz42_0 := qF BK155.out 0; have hfz42_1 := qF BK155.out 1; have hnb43 := NB148_149.out; have hnc43 := NB149_148.out; have hcz44_0 : w37.cell? ⟨gb148, 0, none⟩ = some (.int .i64 x149000_2) := (qC BK148.out 0).trans rfl; have hcz44_1 : w37.cell? ⟨gb148, 1, none⟩ = some (.int .i64 x149001_2) := (qC BK148.out 1).trans rfl; have hfz44_0 := qF BK148.out 0; have hfz44_1 := qF BK148.out 1; have hcz45_0 : w37.cell? ⟨gb143, 0, none⟩ = some (.int .i64 a0_0) := (qC BK143.out 0).trans rfl; have hcz45_1 : w37.cell? ⟨gb143, 1, none⟩ = some (.int .i64 a0_1) := (qC BK143.out 1).trans rfl; have hfz45_0 := qF BK143.out 0; have hfz45_1 := qF BK143.out 1) | ((with_reducible refine gate_callee (f := 15) rfl ?_); refine goesL_ (some 54) rfl rfl Tryd.func15 (by kernel_rfl) rfl #[.agg #[.int .i64 x149000_2, .int .i64 x149001_2], .agg #[.int .i64 a0_0, .int .i64 a0_1], .int .i64 a1, .int .i64 (wrap64 (-(wrap64 ((wrap64 (rd l2 x10_2)) * 1024))))] rfl (by (try simp only [List.map_toArray, List.map_cons, List.map_nil]); first | done | rfl | (simp only [*]; done) | (simp only [List.length_drop, List.length_take]; rfl) | (simp only [Act.eval, Array.getD_eq_getD_getElem?, Option.getD_some, *])) ?_; (with_reducible refine (servo_Step.calls x149000_2 x149001_2 a0_0 a0_1 a1 (wrap64 (-(wrap64 ((wrap64 (rd l2 x10_2)) * 1024)))) t156 t157 none _ A21.out).mono ?_); rintro e w46 ⟨rfl, hb⟩; refine ⟨_, rfl, ?_⟩; have n0_ := qS (qB (g := gb143) (o := .cells #[.int .i64 a0_0, .int .i64 a0_1] 25 (0, 0)) (by (with_reducible repeat (first | refine qN ?_ _ | refine qD ?_ | refine qA ?_ _)); refine blk_far ?_ NB143_155.out _; (with_reducible repeat (first | refine qN ?_ _ | refine qD ?_ | refine qA ?_ _)); refine blk_far ?_ NB143_155.out _; (with_reducible repeat (first | refine qN ?_ _ | refine qD ?_ | refine qA ?_ _)); exact BK143.out) hb); have n1_ := qS (qB (g := gb147) (o := .cells #[.int .i64 x148000_2, .int .i64 x148001_2] 27 (0, 0)) (by (with_reducible repeat (first | refine qN ?_ _ | refine qD ?_ | refine qA ?_ _)); refine blk_far ?_ NB147_155.out _; (with_reducible repeat (first | refine qN ?_ _ | refine qD ?_ | refine qA ?_ _)); refine blk_far ?_ NB147_155.out _; (with_reducible repeat (first | refine qN ?_ _ | refine qD ?_ | refine qA ?_ _)); exact BK147.out) hb); have n2_ := qS (qB (g := gb148) (o := .cells #[.int .i64 x149000_2, .int .i64 x149001_2] 27 (0, 0)) (by (with_reducible repeat (first | refine qN ?_ _ | refine qD ?_ | refine qA ?_ _)); refine blk_far ?_ NB148_155.out _; (with_reducible repeat (first | refine qN ?_ _ | refine qD ?_ | refine qA ?_ _)); refine blk_far ?_ NB148_155.out _; (with_reducible repeat (first | refine qN ?_ _ | refine qD ?_ | refine qA ?_ _)); exact BK148.out) hb); have n3_ := qS (qB (g := gb149) (o := .cells #[.int .i64 x150000_2, .int .i64 x150001_2] 27 (0, 0)) (by (with_reducible repeat (first | refine qN ?_ _ | refine qD ?_ | refine qA ?_ _)); refine blk_far ?_ NB149_155.out _; (with_reducible repeat (first | refine qN ?_ _ | refine qD ?_ | refine qA ?_ _)); refine blk_far ?_ NB149_155.out _; (with_reducible repeat (first | refine qN ?_ _ | refine qD ?_ | refine qA ?_ _)); exact BK149.out) hb); have n4_ := qS (qB (g := gb155) (o := .cells #[.int .i64 t152, .int .i64 t153] 27 (0, 0)) (by (with_reducible repeat (first | refine qN ?_ _ | refine qD ?_ | refine qA ?_ _)); refine blk_put (cs := #[.int .i64 t152, .int .i64 0]) ?_ 1 _ rfl; (with_reducible repeat (first | refine qN ?_ _ | refine qD ?_ | refine qA ?_ _)); refine blk_put (cs := #[.int .i64 0, .int .i64 0]) ?_ 0 _ rfl; (with_reducible repeat (first | refine qN ?_ _ | refine qD ?_ | refine qA ?_ _)); exact BK155.out) hb); have n5_ := qS (below_step (by repeat (first | (with_reducible first | exact HB.out | apply qpA | apply qpN | apply qp1 | refine qpS ?_ GE143.out | refine qpS ?_ GE147.out | refine qpS ?_ GE148.out | refine qpS ?_ GE149.out | refine qpS ?_ GE155.out) | exact HB.out)) hb); clear BK143; clear BK147; clear BK148; clear BK149; clear BK155; clear HB; have BK143 := n0_; have BK147 := n1_; have BK148 := n2_; have BK149 := n3_; have BK155 := n4_; have HB := n5_; clear n0_ n1_ n2_ n3_ n4_ n5_; (try clear hb); (try clear hb2); (try clear hk); (try clear hi); (try simp only [errW_none, errW_some])) | ((with_reducible refine gate_dst (N := 14) rfl ?_); refine box_event ?hg (N := 14) ?hd (cs := #[.int .i64 0, .int .i64 0]) (t := 27) ?hr ?_; (case hd => rfl); (case hg => rfl); (case hr => first | (go_simp; done) | (go_simp; rfl)); intro gb159 hg w47 hbox hb; have n0_ := qS (qB (g := gb143) (o := .cells #[.int .i64 a0_0, .int .i64 a0_1] 25 (0, 0)) (by (with_reducible repeat (first | refine qN ?_ _ | refine qD ?_ | refine qA ?_ _)); exact BK143.out) hb); have n1_ := qS (qB (g := gb147) (o := .cells #[.int .i64 x148000_2, .int .i64 x148001_2] 27 (0, 0)) (by (with_reducible repeat (first | refine qN ?_ _ | refine qD ?_ | refine qA ?_ _)); exact BK147.out) hb); have n2_ := qS (qB (g := gb148) (o := .cells #[.int .i64 x149000_2, .int .i64 x149001_2] 27 (0, 0)) (by (with_reducible repeat (first | refine qN ?_ _ | refine qD ?_ | refine qA ?_ _)); exact BK148.out) hb); have n3_ := qS (qB (g := gb149) (o := .cells #[.int .i64 x150000_2, .int .i64 x150001_2] 27 (0, 0)) (by (with_reducible repeat (first | refine qN ?_ _ | refine qD ?_ | refine qA ?_ _)); exact BK149.out) hb); have n4_ := qS (qB (g := gb155) (o := .cells #[.int .i64 t152, .int .i64 t153] 27 (0, 0)) (by (with_reducible repeat (first | refine qN ?_ _ | refine qD ?_ | refine qA ?_ _)); exact BK155.out) hb); have n5_ := qS (below_step (by repeat (first | (with_reducible first | exact HB.out | apply qpA | apply qpN | apply qp1 | refine qpS ?_ GE143.out | refine qpS ?_ GE147.out | refine qpS ?_ GE148.out | refine qpS ?_ GE149.out | refine qpS ?_ GE155.out) | exact HB.out)) hb); have n6_ := qS (hbox); have n7_ := qS ((by rw [hg]; exact (below_size (by repeat (first | (with_reducible first | exact HB.out | apply qpA | apply qpN | apply qp1 | refine qpS ?_ GE143.out | refine qpS ?_ GE147.out | refine qpS ?_ GE148.out | refine qpS ?_ GE149.out | refine qpS ?_ GE155.out) | exact HB.out))) : w.heap.size ≤ gb159)); have n8_ := qS ((by rw [hg]; exact (below_size (by repeat (first | (with_reducible first | exact HB.out | apply qpA | apply qpN | apply qp1 | refine qpS ?_ GE143.out | refine qpS ?_ GE147.out | refine qpS ?_ GE148.out | refine qpS ?_ GE149.out | refine qpS ?_ GE155.out) | exact HB.out))) : w.heap.size ≤ gb159)); have n9_ := qS ((by rw [hg]; exact Nat.ne_of_lt (blk_lt (g := gb143) (o := .cells #[.int .i64 a0_0, .int .i64 a0_1] 25 (0, 0)) (by (with_reducible repeat (first | refine qN ?_ _ | refine qD ?_ | refine qA ?_ _)); exact BK143.out)) : gb143 ≠ gb159)); have n10_ := qS ((by rw [hg]; exact Nat.ne_of_gt (blk_lt (g := gb143) (o := .cells #[.int .i64 a0_0, .int .i64 a0_1] 25 (0, 0)) (by (with_reducible repeat (first | refine qN ?_ _ | refine qD ?_ | refine qA ?_ _)); exact BK143.out)) : gb159 ≠ gb143)); have n11_ := qS ((by rw [hg]; exact Nat.ne_of_lt (blk_lt (g := gb147) (o := .cells #[.int .i64 x148000_2, .int .i64 x148001_2] 27 (0, 0)) (by (with_reducible repeat (first | refine qN ?_ _ | refine qD ?_ | refine qA ?_ _)); exact BK147.out)) : gb147 ≠ gb159)); have n12_ := qS ((by rw [hg]; exact Nat.ne_of_gt (blk_lt (g := gb147) (o := .cells #[.int .i64 x148000_2, .int .i64 x148001_2] 27 (0, 0)) (by (with_reducible repeat (first | refine qN ?_ _ | refine qD ?_ | refine qA ?_ _)); exact BK147.out)) : gb159 ≠ gb147)); have n13_ := qS ((by rw [hg]; exact Nat.ne_of_lt (blk_lt (g := gb148) (o := .cells #[.int .i64 x149000_2, .int .i64 x149001_2] 27 (0, 0)) (by (with_reducible repeat (first | refine qN ?_ _ | refine qD ?_ | refine qA ?_ _)); exact BK148.out)) : gb148 ≠ gb159)); have n14_ := qS ((by rw [hg]; exact Nat.ne_of_gt (blk_lt (g := gb148) (o := .cells #[.int .i64 x149000_2, .int .i64 x149001_2] 27 (0, 0)) (by (with_reducible repeat (first | refine qN ?_ _ | refine qD ?_ | refine qA ?_ _)); exact BK148.out)) : gb159 ≠ gb148)); have n15_ := qS ((by rw [hg]; exact Nat.ne_of_lt (blk_lt (g := gb149) (o := .cells #[.int .i64 x150000_2, .int .i64 x150001_2] 27 (0, 0)) (by (with_reducible repeat (first | refine qN ?_ _ | refine qD ?_ | refine qA ?_ _)); exact BK149.out)) : gb149 ≠ gb159)); have n16_ := qS ((by rw [hg]; exact Nat.ne_of_gt (blk_lt (g := gb149) (o := .cells #[.int .i64 x150000_2, .int .i64 x150001_2] 27 (0, 0)) (by (with_reducible repeat (first | refine qN ?_ _ | refine qD ?_ | refine qA ?_ _)); exact BK149.out)) : gb159 ≠ gb149)); have n17_ := qS ((by rw [hg]; exact Nat.ne_of_lt (blk_lt (g := gb155) (o := .cells #[.int .i64 t152, .int .i64 t153] 27 (0, 0)) (by (with_reducible repeat (first | refine qN ?_ _ | refine qD ?_ | refine qA ?_ _)); exact BK155.out)) : gb155 ≠ gb159)); have n18_ := qS ((by rw [hg]; exact Nat.ne_of_gt (blk_lt (g := gb155) (o := .cells #[.int .i64 t152, .int .i64 t153] 27 (0, 0)) (by (with_reducible repeat (first | refine qN ?_ _ | refine qD ?_ | refine qA ?_ _)); exact BK155.out)) : gb159 ≠ gb155)); clear BK143; clear BK147; clear BK148; clear BK149; clear BK155; clear HB; have BK143 := n0_; have BK147 := n1_; have BK148 := n2_; have BK149 := n3_; have BK155 := n4_; have HB := n5_; have BK159 := n6_; have GW159 := n7_; have GE159 := n8_; have NB143_159 := n9_; have NB159_143 := n10_; have NB147_159 := n11_; have NB159_147 := n12_; have NB148_159 := n13_; have NB159_148 := n14_; have NB149_159 := n15_; have NB159_149 := n16_; have NB155_159 := n17_; have NB159_155 := n18_; clear n0_ n1_ n2_ n3_ n4_ n5_ n6_ n7_ n8_ n9_ n10_ n11_ n12_ n13_ n14_ n15_ n16_ n17_ n18_; clear hb hbox hg; have hnb48 := NB159_143.out; have hnc48 := NB143_159.out; have hnb49 := NB159_147.out; have hnc49 := NB147_159.out; have hnb50 := NB159_148.out; have hnc50 := NB148_159.out; have hnb51 := NB159_149.out; have hnc51 := NB149_159.out; have hnb52 := NB159_155.out; have hnc52 := NB155_159.out; have hcz53_0 : w47.cell? ⟨gb159, 0, none⟩ = some (.int .i64 0) := (qC BK159.out 0).trans rfl; have hcz53_1 : w47.cell? ⟨gb159, 1, none⟩ = some (.int .i64 0) := (qC BK159.out 1).trans rfl; have hfz53_0 := qF BK159.out 0; have hfz53_1 := qF BK159.out 1; have hcz54_0 : w47.cell? ⟨gb149, 0, none⟩ = some (.int .i64 x150000_2) := (qC BK149.out 0).trans rfl; have hcz54_1 : w47.cell? ⟨gb149, 1, none⟩ = some (.int .i64 x150001_2) := (qC BK149.out 1).trans rfl; have hfz54_0 := qF BK149.out 0; have hfz54_1 := qF BK149.out 1; have hcz55_0 : w47.cell? ⟨gb143, 0, none⟩ = some (.int .i64 a0_0) := (qC BK143.out 0).trans rfl; have hcz55_1 : w47.cell? ⟨gb143, 1, none⟩ = some (.int .i64 a0_1) := (qC BK143.out 1).trans rfl; have hfz55_0 := qF BK143.out 0; have hfz55_1 := qF BK143.out 1) | ((with_reducible refine gate_callee (f := 15) rfl ?_); refine goesL_ (some 61) rfl rfl Tryd.func15 (by kernel_rfl) rfl #[.agg #[.int .i64 x150000_2, .int .i64 x150001_2], .agg #[.int .i64 a0_0, .int .i64 a0_1], .int .i64 a1, .int .i64 0] rfl (by (try simp only [List.map_toArray, List.map_cons, List.map_nil]); first | done | rfl | (simp only [*]; done) | (simp only [List.length_drop, List.length_take]; rfl) | (simp only [Act.eval, Array.getD_eq_getD_getElem?, Option.getD_some, *])) ?_; (with_reducible refine (servo_Step.calls x150000_2 x150001_2 a0_0 a0_1 a1 0 t160 t161 none _ A22.out).mono ?_); rintro e w56 ⟨rfl, hb⟩; refine ⟨_, rfl, ?_⟩; have n0_ := qS (qB (g := gb143) (o := .cells #[.int .i64 a0_0, .int .i64 a0_1] 25 (0, 0)) (by (with_reducible repeat (first | refine qN ?_ _ | refine qD ?_ | refine qA ?_ _)); refine blk_far ?_ NB143_159.out _; (with_reducible repeat (first | refine qN ?_ _ | refine qD ?_ | refine qA ?_ _)); refine blk_far ?_ NB143_159.out _; (with_reducible repeat (first | refine qN ?_ _ | refine qD ?_ | refine qA ?_ _)); exact BK143.out) hb); have n1_ := qS (qB (g := gb147) (o := .cells #[.int .i64 x148000_2, .int .i64 x148001_2] 27 (0, 0)) (by (with_reducible repeat (first | refine qN ?_ _ | refine qD ?_ | refine qA ?_ _)); refine blk_far ?_ NB147_159.out _; (with_reducible repeat (first | refine qN ?_ _ | refine qD ?_ | refine qA ?_ _)); refine blk_far ?_ NB147_159.out _; (with_reducible repeat (first | refine qN ?_ _ | refine qD ?_ | refine qA ?_ _)); exact BK147.out) hb); have n2_ := qS (qB (g := gb148) (o := .cells #[.int .i64 x149000_2, .int .i64 x149001_2] 27 (0, 0)) (by (with_reducible repeat (first | refine qN ?_ _ | refine qD ?_ | refine qA ?_ _)); refine blk_far ?_ NB148_159.out _; (with_reducible repeat (first | refine qN ?_ _ | refine qD ?_ | refine qA ?_ _)); refine blk_far ?_ NB148_159.out _; (with_reducible repeat (first | refine qN ?_ _ | refine qD ?_ | refine qA ?_ _)); exact BK148.out) hb); have n3_ := qS (qB (g := gb149) (o := .cells #[.int .i64 x150000_2, .int .i64 x150001_2] 27 (0, 0)) (by (with_reducible repeat (first | refine qN ?_ _ | refine qD ?_ | refine qA ?_ _)); refine blk_far ?_ NB149_159.out _; (with_reducible repeat (first | refine qN ?_ _ | refine qD ?_ | refine qA ?_ _)); refine blk_far ?_ NB149_159.out _; (with_reducible repeat (first | refine qN ?_ _ | refine qD ?_ | refine qA ?_ _)); exact BK149.out) hb); have n4_ := qS (qB (g := gb155) (o := .cells #[.int .i64 t152, .int .i64 t153] 27 (0, 0)) (by (with_reducible repeat (first | refine qN ?_ _ | refine qD ?_ | refine qA ?_ _)); refine blk_far ?_ NB155_159.out _; (with_reducible repeat (first | refine qN ?_ _ | refine qD ?_ | refine qA ?_ _)); refine blk_far ?_ NB155_159.out _; (with_reducible repeat (first | refine qN ?_ _ | refine qD ?_ | refine qA ?_ _)); exact BK155.out) hb); have n5_ := qS (qB (g := gb159) (o := .cells #[.int .i64 t156, .int .i64 t157] 27 (0, 0)) (by (with_reducible repeat (first | refine qN ?_ _ | refine qD ?_ | refine qA ?_ _)); refine blk_put (cs := #[.int .i64 t156, .int .i64 0]) ?_ 1 _ rfl; (with_reducible repeat (first | refine qN ?_ _ | refine qD ?_ | refine qA ?_ _)); refine blk_put (cs := #[.int .i64 0, .int .i64 0]) ?_ 0 _ rfl; (with_reducible repeat (first | refine qN ?_ _ | refine qD ?_ | refine qA ?_ _)); exact BK159.out) hb); have n6_ := qS (below_step (by repeat (first | (with_reducible first | exact HB.out | apply qpA | apply qpN | apply qp1 | refine qpS ?_ GE143.out | refine qpS ?_ GE147.out | refine qpS ?_ GE148.out | refine qpS ?_ GE149.out | refine qpS ?_ GE155.out | refine qpS ?_ GE159.out) | exact HB.out)) hb); clear BK143; clear BK147; clear BK148; clear BK149; clear BK155; clear BK159; clear HB; have BK143 := n0_; have BK147 := n1_; have BK148 := n2_; have BK149 := n3_; have BK155 := n4_; have BK159 := n5_; have HB := n6_; clear n0_ n1_ n2_ n3_ n4_ n5_ n6_; (try clear hb); (try clear hb2); (try clear hk); (try clear hi); (try simp only [errW_none, errW_some])) | ((with_reducible refine gate_dst (N := 16) rfl ?_); refine box_event ?hg (N := 16) ?hd (cs := #[.int .i64 0, .int .i64 0]) (t := 27) ?hr ?_; (case hd => rfl); (case hg => rfl); (case hr => first | (go_simp; done) | (go_simp; rfl)); intro gb163 hg w57 hbox hb; have n0_ := qS (qB (g := gb143) (o := .cells #[.int .i64 a0_0, .int .i64 a0_1] 25 (0, 0)) (by (with_reducible repeat (first | refine qN ?_ _ | refine qD ?_ | refine qA ?_ _)); exact BK143.out) hb); have n1_ := qS (qB (g := gb147) (o := .cells #[.int .i64 x148000_2, .int .i64 x148001_2] 27 (0, 0)) (by (with_reducible repeat (first | refine qN ?_ _ | refine qD ?_ | refine qA ?_ _)); exact BK147.out) hb); have n2_ := qS (qB (g := gb148) (o := .cells #[.int .i64 x149000_2, .int .i64 x149001_2] 27 (0, 0)) (by (with_reducible repeat (first | refine qN ?_ _ | refine qD ?_ | refine qA ?_ _)); exact BK148.out) hb); have n3_ := qS (qB (g := gb149) (o := .cells #[.int .i64 x150000_2, .int .i64 x150001_2] 27 (0, 0)) (by (with_reducible repeat (first | refine qN ?_ _ | refine qD ?_ | refine qA ?_ _)); exact BK149.out) hb); have n4_ := qS (qB (g := gb155) (o := .cells #[.int .i64 t152, .int .i64 t153] 27 (0, 0)) (by (with_reducible repeat (first | refine qN ?_ _ | refine qD ?_ | refine qA ?_ _)); exact BK155.out) hb); have n5_ := qS (qB (g := gb159) (o := .cells #[.int .i64 t156, .int .i64 t157] 27 (0, 0)) (by (with_reducible repeat (first | refine qN ?_ _ | refine qD ?_ | refine qA ?_ _)); exact BK159.out) hb); have n6_ := qS (below_step (by repeat (first | (with_reducible first | exact HB.out | apply qpA | apply qpN | apply qp1 | refine qpS ?_ GE143.out | refine qpS ?_ GE147.out | refine qpS ?_ GE148.out | refine qpS ?_ GE149.out | refine qpS ?_ GE155.out | refine qpS ?_ GE159.out) | exact HB.out)) hb); have n7_ := qS (hbox); have n8_ := qS ((by rw [hg]; exact (below_size (by repeat (first | (with_reducible first | exact HB.out | apply qpA | apply qpN | apply qp1 | refine qpS ?_ GE143.out | refine qpS ?_ GE147.out | refine qpS ?_ GE148.out | refine qpS ?_ GE149.out | refine qpS ?_ GE155.out | refine qpS ?_ GE159.out) | exact HB.out))) : w.heap.size ≤ gb163)); have n9_ := qS ((by rw [hg]; exact (below_size (by repeat (first | (with_reducible first | exact HB.out | apply qpA | apply qpN | apply qp1 | refine qpS ?_ GE143.out | refine qpS ?_ GE147.out | refine qpS ?_ GE148.out | refine qpS ?_ GE149.out | refine qpS ?_ GE155.out | refine qpS ?_ GE159.out) | exact HB.out))) : w.heap.size ≤ gb163)); have n10_ := qS ((by rw [hg]; exact Nat.ne_of_lt (blk_lt (g := gb143) (o := .cells #[.int .i64 a0_0, .int .i64 a0_1] 25 (0, 0)) (by (with_reducible repeat (first | refine qN ?_ _ | refine qD ?_ | refine qA ?_ _)); exact BK143.out)) : gb143 ≠ gb163)); have n11_ := qS ((by rw [hg]; exact Nat.ne_of_gt (blk_lt (g := gb143) (o := .cells #[.int .i64 a0_0, .int .i64 a0_1] 25 (0, 0)) (by (with_reducible repeat (first | refine qN ?_ _ | refine qD ?_ | refine qA ?_ _)); exact BK143.out)) : gb163 ≠ gb143)); have n12_ := qS ((by rw [hg]; exact Nat.ne_of_lt (blk_lt (g := gb147) (o := .cells #[.int .i64 x148000_2, .int .i64 x148001_2] 27 (0, 0)) (by (with_reducible repeat (first | refine qN ?_ _ | refine qD ?_ | refine qA ?_ _)); exact BK147.out)) : gb147 ≠ gb163)); have n13_ := qS ((by rw [hg]; exact Nat.ne_of_gt (blk_lt (g := gb147) (o := .cells #[.int .i64 x148000_2, .int .i64 x148001_2] 27 (0, 0)) (by (with_reducible repeat (first | refine qN ?_ _ | refine qD ?_ | refine qA ?_ _)); exact BK147.out)) : gb163 ≠ gb147)); have n14_ := qS ((by rw [hg]; exact Nat.ne_of_lt (blk_lt (g := gb148) (o := .cells #[.int .i64 x149000_2, .int .i64 x149001_2] 27 (0, 0)) (by (with_reducible repeat (first | refine qN ?_ _ | refine qD ?_ | refine qA ?_ _)); exact BK148.out)) : gb148 ≠ gb163)); have n15_ := qS ((by rw [hg]; exact Nat.ne_of_gt (blk_lt (g := gb148) (o := .cells #[.int .i64 x149000_2, .int .i64 x149001_2] 27 (0, 0)) (by (with_reducible repeat (first | refine qN ?_ _ | refine qD ?_ | refine qA ?_ _)); exact BK148.out)) : gb163 ≠ gb148)); have n16_ := qS ((by rw [hg]; exact Nat.ne_of_lt (blk_lt (g := gb149) (o := .cells #[.int .i64 x150000_2, .int .i64 x150001_2] 27 (0, 0)) (by (with_reducible repeat (first | refine qN ?_ _ | refine qD ?_ | refine qA ?_ _)); exact BK149.out)) : gb149 ≠ gb163)); have n17_ := qS ((by rw [hg]; exact Nat.ne_of_gt (blk_lt (g := gb149) (o := .cells #[.int .i64 x150000_2, .int .i64 x150001_2] 27 (0, 0)) (by (with_reducible repeat (first | refine qN ?_ _ | refine qD ?_ | refine qA ?_ _)); exact BK149.out)) : gb163 ≠ gb149)); have n18_ := qS ((by rw [hg]; exact Nat.ne_of_lt (blk_lt (g := gb155) (o := .cells #[.int .i64 t152, .int .i64 t153] 27 (0, 0)) (by (with_reducible repeat (first | refine qN ?_ _ | refine qD ?_ | refine qA ?_ _)); exact BK155.out)) : gb155 ≠ gb163)); have n19_ := qS ((by rw [hg]; exact Nat.ne_of_gt (blk_lt (g := gb155) (o := .cells #[.int .i64 t152, .int .i64 t153] 27 (0, 0)) (by (with_reducible repeat (first | refine qN ?_ _ | refine qD ?_ | refine qA ?_ _)); exact BK155.out)) : gb163 ≠ gb155)); have n20_ := qS ((by rw [hg]; exact Nat.ne_of_lt (blk_lt (g := gb159) (o := .cells #[.int .i64 t156, .int .i64 t157] 27 (0, 0)) (by (with_reducible repeat (first | refine qN ?_ _ | refine qD ?_ | refine qA ?_ _)); exact BK159.out)) : gb159 ≠ gb163)); have n21_ := qS ((by rw [hg]; exact Nat.ne_of_gt (blk_lt (g := gb159) (o := .cells #[.int .i64 t156, .int .i64 t157] 27 (0, 0)) (by (with_reducible repeat (first | refine qN ?_ _ | refine qD ?_ | refine qA ?_ _)); exact BK159.out)) : gb163 ≠ gb159)); clear BK143; clear BK147; clear BK148; clear BK149; clear BK155; clear BK159; clear HB; have BK143 := n0_; have BK147 := n1_; have BK148 := n2_; have BK149 := n3_; have BK155 := n4_; have BK159 := n5_; have HB := n6_; have BK163 := n7_; have GW163 := n8_; have GE163 := n9_; have NB143_163 := n10_; have NB163_143 := n11_; have NB147_163 := n12_; have NB163_147 := n13_; have NB148_163 := n14_; have NB163_148 := n15_; have NB149_163 := n16_; have NB163_149 := n17_; have NB155_163 := n18_; have NB163_155 := n19_; have NB159_163 := n20_; have NB163_159 := n21_; clear n0_ n1_ n2_ n3_ n4_ n5_ n6_ n7_ n8_ n9_ n10_ n11_ n12_ n13_ n14_ n15_ n16_ n17_ n18_ n19_ n20_ n21_; clear hb hbox hg; have hnb58 := NB163_143.out; have hnc58 := NB143_163.out; have hnb59 := NB163_147.out; have hnc59 := NB147_163.out; have hnb60 := NB163_148.out; have hnc60 := NB148_163.out; have hnb61 := NB163_149.out; have hnc61 := NB149_163.out; have hnb62 := NB163_155.out; have hnc62 := NB155_163.out; have hnb63 := NB163_159.out; have hnc63 := NB159_163.out; have hcz64_0 : w57.cell? ⟨gb163, 0, none⟩ = some (.int .i64 0) := (qC BK163.out 0).trans rfl; have hcz64_1 : w57.cell? ⟨gb163, 1, none⟩ = some (.int .i64 0) := (qC BK163.out 1).trans rfl; have hfz64_0 := qF BK163.out 0; have hfz64_1 := qF BK163.out 1; have hcz65_0 : w57.cell? ⟨gb149, 0, none⟩ = some (.int .i64 x150000_2) := (qC BK149.out 0).trans rfl; have hcz65_1 : w57.cell? ⟨gb149, 1, none⟩ = some (.int .i64 x150001_2) := (qC BK149.out 1).trans rfl; have hfz65_0 := qF BK149.out 0; have hfz65_1 := qF BK149.out 1; have hcz66_0 : w57.cell? ⟨gb155, 0, none⟩ = some (.int .i64 t152) := (qC BK155.out 0).trans rfl; have hcz66_1 : w57.cell? ⟨gb155, 1, none⟩ = some (.int .i64 t153) := (qC BK155.out 1).trans rfl; have hfz66_0 := qF BK155.out 0; have hfz66_1 := qF BK155.out 1; have hcz67_0 : w57.cell? ⟨gb159, 0, none⟩ = some (.int .i64 t156) := (qC BK159.out 0).trans rfl; have hcz67_1 : w57.cell? ⟨gb159, 1, none⟩ = some (.int .i64 t157) := (qC BK159.out 1).trans rfl; have hfz67_0 := qF BK159.out 0; have hfz67_1 := qF BK159.out 1))
                  refine name_w (fun w68 hq_ => ?_)
                  have n0_ : Aside0 (w68.heap[gb143]? = some (.cells #[.int .i64 a0_0, .int .i64 a0_1] 25 (0, 0))) := ⟨by rw [hq_]; exact (by (with_reducible repeat (first | refine qN ?_ _ | refine qD ?_ | refine qA ?_ _)); refine blk_far ?_ NB143_163.out _; (with_reducible repeat (first | refine qN ?_ _ | refine qD ?_ | refine qA ?_ _)); refine blk_far ?_ NB143_163.out _; (with_reducible repeat (first | refine qN ?_ _ | refine qD ?_ | refine qA ?_ _)); exact BK143.out)⟩
                  have n1_ : Aside0 (w68.heap[gb147]? = some (.cells #[.int .i64 x148000_2, .int .i64 x148001_2] 27 (0, 0))) := ⟨by rw [hq_]; exact (by (with_reducible repeat (first | refine qN ?_ _ | refine qD ?_ | refine qA ?_ _)); refine blk_far ?_ NB147_163.out _; (with_reducible repeat (first | refine qN ?_ _ | refine qD ?_ | refine qA ?_ _)); refine blk_far ?_ NB147_163.out _; (with_reducible repeat (first | refine qN ?_ _ | refine qD ?_ | refine qA ?_ _)); exact BK147.out)⟩
                  have n2_ : Aside0 (w68.heap[gb148]? = some (.cells #[.int .i64 x149000_2, .int .i64 x149001_2] 27 (0, 0))) := ⟨by rw [hq_]; exact (by (with_reducible repeat (first | refine qN ?_ _ | refine qD ?_ | refine qA ?_ _)); refine blk_far ?_ NB148_163.out _; (with_reducible repeat (first | refine qN ?_ _ | refine qD ?_ | refine qA ?_ _)); refine blk_far ?_ NB148_163.out _; (with_reducible repeat (first | refine qN ?_ _ | refine qD ?_ | refine qA ?_ _)); exact BK148.out)⟩
                  have n3_ : Aside0 (w68.heap[gb149]? = some (.cells #[.int .i64 x150000_2, .int .i64 x150001_2] 27 (0, 0))) := ⟨by rw [hq_]; exact (by (with_reducible repeat (first | refine qN ?_ _ | refine qD ?_ | refine qA ?_ _)); refine blk_far ?_ NB149_163.out _; (with_reducible repeat (first | refine qN ?_ _ | refine qD ?_ | refine qA ?_ _)); refine blk_far ?_ NB149_163.out _; (with_reducible repeat (first | refine qN ?_ _ | refine qD ?_ | refine qA ?_ _)); exact BK149.out)⟩
                  have n4_ : Aside0 (w68.heap[gb155]? = some (.cells #[.int .i64 t152, .int .i64 t153] 27 (0, 0))) := ⟨by rw [hq_]; exact (by (with_reducible repeat (first | refine qN ?_ _ | refine qD ?_ | refine qA ?_ _)); refine blk_far ?_ NB155_163.out _; (with_reducible repeat (first | refine qN ?_ _ | refine qD ?_ | refine qA ?_ _)); refine blk_far ?_ NB155_163.out _; (with_reducible repeat (first | refine qN ?_ _ | refine qD ?_ | refine qA ?_ _)); exact BK155.out)⟩
                  have n5_ : Aside0 (w68.heap[gb159]? = some (.cells #[.int .i64 t156, .int .i64 t157] 27 (0, 0))) := ⟨by rw [hq_]; exact (by (with_reducible repeat (first | refine qN ?_ _ | refine qD ?_ | refine qA ?_ _)); refine blk_far ?_ NB159_163.out _; (with_reducible repeat (first | refine qN ?_ _ | refine qD ?_ | refine qA ?_ _)); refine blk_far ?_ NB159_163.out _; (with_reducible repeat (first | refine qN ?_ _ | refine qD ?_ | refine qA ?_ _)); exact BK159.out)⟩
                  have n6_ : Aside0 (w68.heap[gb163]? = some (.cells #[.int .i64 t160, .int .i64 t161] 27 (0, 0))) := ⟨by rw [hq_]; exact (by (with_reducible repeat (first | refine qN ?_ _ | refine qD ?_ | refine qA ?_ _)); refine blk_put (cs := #[.int .i64 t160, .int .i64 0]) ?_ 1 _ rfl; (with_reducible repeat (first | refine qN ?_ _ | refine qD ?_ | refine qA ?_ _)); refine blk_put (cs := #[.int .i64 0, .int .i64 0]) ?_ 0 _ rfl; (with_reducible repeat (first | refine qN ?_ _ | refine qD ?_ | refine qA ?_ _)); exact BK163.out)⟩
                  have n7_ : Aside0 (Below w.heap.size w w68) := ⟨by rw [hq_]; exact (by repeat (first | (with_reducible first | exact HB.out | apply qpA | apply qpN | apply qp1 | refine qpS ?_ GE143.out | refine qpS ?_ GE147.out | refine qpS ?_ GE148.out | refine qpS ?_ GE149.out | refine qpS ?_ GE155.out | refine qpS ?_ GE159.out | refine qpS ?_ GE163.out) | exact HB.out))⟩
                  clear hq_
                  (try clear BK143)
                  (try clear BK147)
                  (try clear BK148)
                  (try clear BK149)
                  (try clear BK155)
                  (try clear BK159)
                  (try clear BK163)
                  (try clear HB)
                  have BK143 := n0_
                  have BK147 := n1_
                  have BK148 := n2_
                  have BK149 := n3_
                  have BK155 := n4_
                  have BK159 := n5_
                  have BK163 := n6_
                  have HB := n7_
                  clear n0_ n1_ n2_ n3_ n4_ n5_ n6_ n7_
                  have n0_ := qS (qD BK143.out)
                  have n1_ := qS (qD BK147.out)
                  have n2_ := qS (qD BK148.out)
                  have n3_ := qS (qD BK149.out)
                  have n4_ := qS (qD BK155.out)
                  have n5_ := qS (qD BK159.out)
                  have n6_ := qS (qD BK163.out)
                  have n7_ := qS (qp1 HB.out)
                  clear BK143
                  clear BK147
                  clear BK148
                  clear BK149
                  clear BK155
                  clear BK159
                  clear BK163
                  clear HB
                  have BK143 := n0_
                  have BK147 := n1_
                  have BK148 := n2_
                  have BK149 := n3_
                  have BK155 := n4_
                  have BK159 := n5_
                  have BK163 := n6_
                  have HB := n7_
                  clear n0_ n1_ n2_ n3_ n4_ n5_ n6_ n7_
                  refine start_ (n := 6) (S := fun w' => w'.cell? ⟨gb155, 0, none⟩ = some (.int .i64 t152) ∧ w'.cell? ⟨gb155, 1, none⟩ = some (.int .i64 t153) ∧ w'.cell? ⟨gb159, 0, none⟩ = some (.int .i64 t156) ∧ w'.cell? ⟨gb159, 1, none⟩ = some (.int .i64 t157) ∧ w'.cell? ⟨gb163, 0, none⟩ = some (.int .i64 t160) ∧ w'.cell? ⟨gb163, 1, none⟩ = some (.int .i64 t161)) (ds := []) #[false, false, false, false, false, false] (by kernel_rfl) rfl rfl ⟨(qC BK155.out 0).trans rfl, (qC BK155.out 1).trans rfl, (qC BK159.out 0).trans rfl, (qC BK159.out 1).trans rfl, (qC BK163.out 0).trans rfl, (qC BK163.out 1).trans rfl⟩ (fun hHeld => ?_)
                  generalize w68.drew = w69 at BK143 BK147 BK148 BK149 BK155 BK159 BK163 HB hHeld ⊢
                  refine take_ (i := 0) (N := some 116) (v := ?_) (a' := ?_) #[true, false, false, false, false, false] rfl rfl (by kernel_rfl) (fun _ _ _ h => h) (Or.inl ⟨by rfl, ?_⟩) hHeld ?_ ?_
                  rotate_left
                  ·rintro w' ⟨s0, s1, s2, s3, s4, s5⟩
                   go_simp
                   with_reducible rfl
                  rotate_left
                  ·simp only [Act.put, List.setIfInBounds_toArray, List.set_cons_zero, List.set_cons_succ, i64_w, i32_w]
                   rfl
                  refine take_ (i := 1) (N := some 117) (v := ?_) (a' := ?_) #[true, true, false, false, false, false] rfl rfl (by kernel_rfl) (fun _ _ _ h => h) (Or.inl ⟨by rfl, ?_⟩) hHeld ?_ ?_
                  rotate_left
                  ·rintro w' ⟨s0, s1, s2, s3, s4, s5⟩
                   go_simp
                   with_reducible rfl
                  rotate_left
                  ·simp only [Act.put, List.setIfInBounds_toArray, List.set_cons_zero, List.set_cons_succ, i64_w, i32_w]
                   rfl
                  refine take_ (i := 2) (N := some 118) (v := ?_) (a' := ?_) #[true, true, true, false, false, false] rfl rfl (by kernel_rfl) (fun _ _ _ h => h) (Or.inl ⟨by rfl, ?_⟩) hHeld ?_ ?_
                  rotate_left
                  ·rintro w' ⟨s0, s1, s2, s3, s4, s5⟩
                   go_simp
                   with_reducible rfl
                  rotate_left
                  ·simp only [Act.put, List.setIfInBounds_toArray, List.set_cons_zero, List.set_cons_succ, i64_w, i32_w]
                   rfl
                  refine one_ (i := 3) (N := none) #[true, true, true, true, false, false] rfl rfl (by kernel_rfl) (by decide) (fun K hK => ?_)
                  have hs70 : w69.cell? ⟨gb147, 0, none⟩ = some (.int .i64 x148000_2) := (qC BK147.out 0).trans rfl
                  have hfs70 := qF BK147.out 0
                  have hns70_0 := NB143_147.out
                  have hns70_2 := NB148_147.out
                  have hns70_3 := NB149_147.out
                  have hns70_4 := NB155_147.out
                  have hns70_5 := NB159_147.out
                  have hns70_6 := NB163_147.out
                  have hms70_0 := NB147_143.out
                  have hms70_2 := NB147_148.out
                  have hms70_3 := NB147_149.out
                  have hms70_4 := NB147_155.out
                  have hms70_5 := NB147_159.out
                  have hms70_6 := NB147_163.out
                  have hs71 : w69.cell? ⟨gb147, 1, none⟩ = some (.int .i64 x148001_2) := (qC BK147.out 1).trans rfl
                  have hfs71 := qF BK147.out 1
                  have hns71_0 := NB143_147.out
                  have hns71_2 := NB148_147.out
                  have hns71_3 := NB149_147.out
                  have hns71_4 := NB155_147.out
                  have hns71_5 := NB159_147.out
                  have hns71_6 := NB163_147.out
                  have hms71_0 := NB147_143.out
                  have hms71_2 := NB147_148.out
                  have hms71_3 := NB147_149.out
                  have hms71_4 := NB147_155.out
                  have hms71_5 := NB147_159.out
                  have hms71_6 := NB147_163.out
                  refine skip_ (w1 := ?_) (by rfl) rfl ?_ ?_
                  rotate_left
                  ·go_simp
                   rfl
                  refine hK.out _ _ ⟨((cell_far (p := ⟨gb147, _, none⟩) NB155_147.out _).trans (((cell_far (p := ⟨gb147, _, none⟩) NB155_147.out _).trans (hHeld.1)))), ((cell_far (p := ⟨gb147, _, none⟩) NB155_147.out _).trans (((cell_far (p := ⟨gb147, _, none⟩) NB155_147.out _).trans (hHeld.2.1)))), ((cell_far (p := ⟨gb147, _, none⟩) NB159_147.out _).trans (((cell_far (p := ⟨gb147, _, none⟩) NB159_147.out _).trans (hHeld.2.2.1)))), ((cell_far (p := ⟨gb147, _, none⟩) NB159_147.out _).trans (((cell_far (p := ⟨gb147, _, none⟩) NB159_147.out _).trans (hHeld.2.2.2.1)))), ((cell_far (p := ⟨gb147, _, none⟩) NB163_147.out _).trans (((cell_far (p := ⟨gb147, _, none⟩) NB163_147.out _).trans (hHeld.2.2.2.2.1)))), ((cell_far (p := ⟨gb147, _, none⟩) NB163_147.out _).trans (((cell_far (p := ⟨gb147, _, none⟩) NB163_147.out _).trans (hHeld.2.2.2.2.2))))⟩ (fun hHeld => ?_)
                  clear hK K
                  refine one_ (i := 4) (N := none) #[true, true, true, true, true, false] rfl rfl (by kernel_rfl) (by decide) (fun K hK => ?_)
                  have hs72 : w69.cell? ⟨gb148, 0, none⟩ = some (.int .i64 x149000_2) := (qC BK148.out 0).trans rfl
                  have hfs72 := qF BK148.out 0
                  have hns72_0 := NB143_148.out
                  have hns72_1 := NB147_148.out
                  have hns72_3 := NB149_148.out
                  have hns72_4 := NB155_148.out
                  have hns72_5 := NB159_148.out
                  have hns72_6 := NB163_148.out
                  have hms72_0 := NB148_143.out
                  have hms72_1 := NB148_147.out
                  have hms72_3 := NB148_149.out
                  have hms72_4 := NB148_155.out
                  have hms72_5 := NB148_159.out
                  have hms72_6 := NB148_163.out
                  have hs73 : w69.cell? ⟨gb148, 1, none⟩ = some (.int .i64 x149001_2) := (qC BK148.out 1).trans rfl
                  have hfs73 := qF BK148.out 1
                  have hns73_0 := NB143_148.out
                  have hns73_1 := NB147_148.out
                  have hns73_3 := NB149_148.out
                  have hns73_4 := NB155_148.out
                  have hns73_5 := NB159_148.out
                  have hns73_6 := NB163_148.out
                  have hms73_0 := NB148_143.out
                  have hms73_1 := NB148_147.out
                  have hms73_3 := NB148_149.out
                  have hms73_4 := NB148_155.out
                  have hms73_5 := NB148_159.out
                  have hms73_6 := NB148_163.out
                  refine skip_ (w1 := ?_) (by rfl) rfl ?_ ?_
                  rotate_left
                  ·go_simp
                   rfl
                  refine hK.out _ _ ⟨((cell_far (p := ⟨gb148, _, none⟩) NB155_148.out _).trans (((cell_far (p := ⟨gb148, _, none⟩) NB155_148.out _).trans (hHeld.1)))), ((cell_far (p := ⟨gb148, _, none⟩) NB155_148.out _).trans (((cell_far (p := ⟨gb148, _, none⟩) NB155_148.out _).trans (hHeld.2.1)))), ((cell_far (p := ⟨gb148, _, none⟩) NB159_148.out _).trans (((cell_far (p := ⟨gb148, _, none⟩) NB159_148.out _).trans (hHeld.2.2.1)))), ((cell_far (p := ⟨gb148, _, none⟩) NB159_148.out _).trans (((cell_far (p := ⟨gb148, _, none⟩) NB159_148.out _).trans (hHeld.2.2.2.1)))), ((cell_far (p := ⟨gb148, _, none⟩) NB163_148.out _).trans (((cell_far (p := ⟨gb148, _, none⟩) NB163_148.out _).trans (hHeld.2.2.2.2.1)))), ((cell_far (p := ⟨gb148, _, none⟩) NB163_148.out _).trans (((cell_far (p := ⟨gb148, _, none⟩) NB163_148.out _).trans (hHeld.2.2.2.2.2))))⟩ (fun hHeld => ?_)
                  clear hK K
                  refine one_ (i := 5) (N := none) #[true, true, true, true, true, true] rfl rfl (by kernel_rfl) (by decide) (fun K hK => ?_)
                  have hs74 : w69.cell? ⟨gb149, 0, none⟩ = some (.int .i64 x150000_2) := (qC BK149.out 0).trans rfl
                  have hfs74 := qF BK149.out 0
                  have hns74_0 := NB143_149.out
                  have hns74_1 := NB147_149.out
                  have hns74_2 := NB148_149.out
                  have hns74_4 := NB155_149.out
                  have hns74_5 := NB159_149.out
                  have hns74_6 := NB163_149.out
                  have hms74_0 := NB149_143.out
                  have hms74_1 := NB149_147.out
                  have hms74_2 := NB149_148.out
                  have hms74_4 := NB149_155.out
                  have hms74_5 := NB149_159.out
                  have hms74_6 := NB149_163.out
                  have hs75 : w69.cell? ⟨gb149, 1, none⟩ = some (.int .i64 x150001_2) := (qC BK149.out 1).trans rfl
                  have hfs75 := qF BK149.out 1
                  have hns75_0 := NB143_149.out
                  have hns75_1 := NB147_149.out
                  have hns75_2 := NB148_149.out
                  have hns75_4 := NB155_149.out
                  have hns75_5 := NB159_149.out
                  have hns75_6 := NB163_149.out
                  have hms75_0 := NB149_143.out
                  have hms75_1 := NB149_147.out
                  have hms75_2 := NB149_148.out
                  have hms75_4 := NB149_155.out
                  have hms75_5 := NB149_159.out
                  have hms75_6 := NB149_163.out
                  refine skip_ (w1 := ?_) (by rfl) rfl ?_ ?_
                  rotate_left
                  ·go_simp
                   rfl
                  refine hK.out _ _ ⟨((cell_far (p := ⟨gb149, _, none⟩) NB155_149.out _).trans (((cell_far (p := ⟨gb149, _, none⟩) NB155_149.out _).trans (hHeld.1)))), ((cell_far (p := ⟨gb149, _, none⟩) NB155_149.out _).trans (((cell_far (p := ⟨gb149, _, none⟩) NB155_149.out _).trans (hHeld.2.1)))), ((cell_far (p := ⟨gb149, _, none⟩) NB159_149.out _).trans (((cell_far (p := ⟨gb149, _, none⟩) NB159_149.out _).trans (hHeld.2.2.1)))), ((cell_far (p := ⟨gb149, _, none⟩) NB159_149.out _).trans (((cell_far (p := ⟨gb149, _, none⟩) NB159_149.out _).trans (hHeld.2.2.2.1)))), ((cell_far (p := ⟨gb149, _, none⟩) NB163_149.out _).trans (((cell_far (p := ⟨gb149, _, none⟩) NB163_149.out _).trans (hHeld.2.2.2.2.1)))), ((cell_far (p := ⟨gb149, _, none⟩) NB163_149.out _).trans (((cell_far (p := ⟨gb149, _, none⟩) NB163_149.out _).trans (hHeld.2.2.2.2.2))))⟩ (fun hHeld => ?_)
                  clear hK K
                  refine done_ (by kernel_rfl) ?_
                  try go_wp2
                  go_roundg k2
                  case measure => have := HJ3.out; have := HK2.out; omega
                  case rel => exact ⟨(wrap64 (x10_2 + 1)), (t152), (t153), (t156), (t157), (t160), (t161), (by first | rfl | (simp; done) | (simp [*]; done)), H', ⟨by have := HJ3.out; have := HK2.out; omega⟩, ⟨by (with_reducible repeat (first | refine qN ?_ _ | refine qD ?_ | refine qA ?_ _)); refine blk_far ?_ NB143_149.out _; (with_reducible repeat (first | refine qN ?_ _ | refine qD ?_ | refine qA ?_ _)); refine blk_far ?_ NB143_149.out _; (with_reducible repeat (first | refine qN ?_ _ | refine qD ?_ | refine qA ?_ _)); refine blk_far ?_ NB143_148.out _; (with_reducible repeat (first | refine qN ?_ _ | refine qD ?_ | refine qA ?_ _)); refine blk_far ?_ NB143_148.out _; (with_reducible repeat (first | refine qN ?_ _ | refine qD ?_ | refine qA ?_ _)); refine blk_far ?_ NB143_147.out _; (with_reducible repeat (first | refine qN ?_ _ | refine qD ?_ | refine qA ?_ _)); refine blk_far ?_ NB143_147.out _; (with_reducible repeat (first | refine qN ?_ _ | refine qD ?_ | refine qA ?_ _)); exact BK143.out⟩, ⟨by (with_reducible repeat (first | refine qN ?_ _ | refine qD ?_ | refine qA ?_ _)); refine blk_far ?_ NB147_149.out _; (with_reducible repeat (first | refine qN ?_ _ | refine qD ?_ | refine qA ?_ _)); refine blk_far ?_ NB147_149.out _; (with_reducible repeat (first | refine qN ?_ _ | refine qD ?_ | refine qA ?_ _)); refine blk_far ?_ NB147_148.out _; (with_reducible repeat (first | refine qN ?_ _ | refine qD ?_ | refine qA ?_ _)); refine blk_far ?_ NB147_148.out _; (with_reducible repeat (first | refine qN ?_ _ | refine qD ?_ | refine qA ?_ _)); refine blk_put (cs := #[.int .i64 t152, .int .i64 x148001_2]) ?_ 1 _ rfl; (with_reducible repeat (first | refine qN ?_ _ | refine qD ?_ | refine qA ?_ _)); refine blk_put (cs := #[.int .i64 x148000_2, .int .i64 x148001_2]) ?_ 0 _ rfl; (with_reducible repeat (first | refine qN ?_ _ | refine qD ?_ | refine qA ?_ _)); exact BK147.out⟩, ⟨by (with_reducible repeat (first | refine qN ?_ _ | refine qD ?_ | refine qA ?_ _)); refine blk_far ?_ NB148_149.out _; (with_reducible repeat (first | refine qN ?_ _ | refine qD ?_ | refine qA ?_ _)); refine blk_far ?_ NB148_149.out _; (with_reducible repeat (first | refine qN ?_ _ | refine qD ?_ | refine qA ?_ _)); refine blk_put (cs := #[.int .i64 t156, .int .i64 x149001_2]) ?_ 1 _ rfl; (with_reducible repeat (first | refine qN ?_ _ | refine qD ?_ | refine qA ?_ _)); refine blk_put (cs := #[.int .i64 x149000_2, .int .i64 x149001_2]) ?_ 0 _ rfl; (with_reducible repeat (first | refine qN ?_ _ | refine qD ?_ | refine qA ?_ _)); refine blk_far ?_ NB148_147.out _; (with_reducible repeat (first | refine qN ?_ _ | refine qD ?_ | refine qA ?_ _)); refine blk_far ?_ NB148_147.out _; (with_reducible repeat (first | refine qN ?_ _ | refine qD ?_ | refine qA ?_ _)); exact BK148.out⟩, ⟨by (with_reducible repeat (first | refine qN ?_ _ | refine qD ?_ | refine qA ?_ _)); refine blk_put (cs := #[.int .i64 t160, .int .i64 x150001_2]) ?_ 1 _ rfl; (with_reducible repeat (first | refine qN ?_ _ | refine qD ?_ | refine qA ?_ _)); refine blk_put (cs := #[.int .i64 x150000_2, .int .i64 x150001_2]) ?_ 0 _ rfl; (with_reducible repeat (first | refine qN ?_ _ | refine qD ?_ | refine qA ?_ _)); refine blk_far ?_ NB149_148.out _; (with_reducible repeat (first | refine qN ?_ _ | refine qD ?_ | refine qA ?_ _)); refine blk_far ?_ NB149_148.out _; (with_reducible repeat (first | refine qN ?_ _ | refine qD ?_ | refine qA ?_ _)); refine blk_far ?_ NB149_147.out _; (with_reducible repeat (first | refine qN ?_ _ | refine qD ?_ | refine qA ?_ _)); refine blk_far ?_ NB149_147.out _; (with_reducible repeat (first | refine qN ?_ _ | refine qD ?_ | refine qA ?_ _)); exact BK149.out⟩, ⟨by repeat (first | (with_reducible first | exact HB.out | apply qpA | apply qpN | apply qp1 | refine qpS ?_ GE143.out | refine qpS ?_ GE147.out | refine qpS ?_ GE148.out | refine qpS ?_ GE149.out | refine qpS ?_ GE155.out | refine qpS ?_ GE159.out | refine qpS ?_ GE163.out) | exact HB.out)⟩⟩
            ·rw [if_neg c24] at H
             exact absurd H (by simp)
          ·have H1 : (none) = some r := by rw [if_neg (show ¬ (some q166).isNone = true by simp)] at H; exact H
           clear H
           have H := H1
           clear H1
           try simp only [errW_none, errW_some]
           exact absurd H (by simp)
         ·have H1 : (none) = some r := by rw [if_neg (show ¬ (some q165).isNone = true by simp)] at H; exact H
          clear H
          have H := H1
          clear H1
          try simp only [errW_none, errW_some]
          exact absurd H (by simp)
        ·have H1 : (none) = some r := by rw [if_neg (show ¬ (some q164).isNone = true by simp)] at H; exact H
         clear H
         have H := H1
         clear H1
         try simp only [errW_none, errW_some]
         exact absurd H (by simp)
       ·rw [if_neg c19] at H
        exact absurd H (by simp)
      ·rw [if_neg c18] at H
       have c18b0 : decide (x10_2 < (l2.length : Int)) = false := decide_eq_false c18
       clear c18
       replace H := Option.bind_eq_some_iff.mp H
       obtain ⟨t150, A760, H⟩ := H
       replace H : (some t150) = some r := H
       have A76 := qS A760
       clear A760
       as_aux_lemma =>
        obtain rfl := Option.some.inj H
        go_wp2_with (first | ((with_reducible refine gate_callee (f := 24) rfl ?_); refine goesL_ (some 119) rfl rfl Tryd.func24 (by kernel_rfl) rfl #[] rfl (by (try simp only [List.map_toArray, List.map_cons, List.map_nil]); first | done | rfl | (simp only [*]; done) | (simp only [List.length_drop, List.length_take]; rfl) | (simp only [Act.eval, Array.getD_eq_getD_getElem?, Option.getD_some, *])) ?_; (with_reducible refine (fuseelaw16_sure.calls  t150 _ ?side1 A76.out).mono ?_); (case side1 => exact HG.below hgL (Nat.le_refl _) (by repeat (first | (with_reducible first | exact HB.out | apply qpA | apply qpN | apply qp1 | refine qpS ?_ GE143.out | refine qpS ?_ GE147.out | refine qpS ?_ GE148.out | refine qpS ?_ GE149.out) | exact HB.out))); rintro e w77 ⟨rfl, hb⟩; refine ⟨_, rfl, ?_⟩; have n0_ := qS (qB (g := gb143) (o := .cells #[.int .i64 a0_0, .int .i64 a0_1] 25 (0, 0)) (by (with_reducible repeat (first | refine qN ?_ _ | refine qD ?_ | refine qA ?_ _)); exact BK143.out) hb); have n1_ := qS (qB (g := gb147) (o := .cells #[.int .i64 x148000_2, .int .i64 x148001_2] 27 (0, 0)) (by (with_reducible repeat (first | refine qN ?_ _ | refine qD ?_ | refine qA ?_ _)); exact BK147.out) hb); have n2_ := qS (qB (g := gb148) (o := .cells #[.int .i64 x149000_2, .int .i64 x149001_2] 27 (0, 0)) (by (with_reducible repeat (first | refine qN ?_ _ | refine qD ?_ | refine qA ?_ _)); exact BK148.out) hb); have n3_ := qS (qB (g := gb149) (o := .cells #[.int .i64 x150000_2, .int .i64 x150001_2] 27 (0, 0)) (by (with_reducible repeat (first | refine qN ?_ _ | refine qD ?_ | refine qA ?_ _)); exact BK149.out) hb); have n4_ := qS (below_step (by repeat (first | (with_reducible first | exact HB.out | apply qpA | apply qpN | apply qp1 | refine qpS ?_ GE143.out | refine qpS ?_ GE147.out | refine qpS ?_ GE148.out | refine qpS ?_ GE149.out) | exact HB.out)) hb); clear BK143; clear BK147; clear BK148; clear BK149; clear HB; have BK143 := n0_; have BK147 := n1_; have BK148 := n2_; have BK149 := n3_; have HB := n4_; clear n0_ n1_ n2_ n3_ n4_; (try clear hb); (try clear hb2); (try clear hk); (try clear hi)))
        go_ret
        exact ⟨by first | rfl | (simp [errW_none, errW_some] <;> rfl) | (simp [*, errW_none, errW_some] <;> rfl), by repeat (first | (with_reducible first | exact HB.out | apply qpA | apply qpN | apply qp1 | refine qpS ?_ GE143.out | refine qpS ?_ GE147.out | refine qpS ?_ GE148.out | refine qpS ?_ GE149.out) | exact HB.out)⟩

end Go.Proofs.YtfipgpfmlkfkfaaDoor.MServoHolds
