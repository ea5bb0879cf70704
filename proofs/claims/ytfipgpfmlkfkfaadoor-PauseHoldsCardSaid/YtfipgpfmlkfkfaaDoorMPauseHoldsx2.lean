/- Printed by wip/gen/mp.py: Go functions as plain Lean functions, and that the calls do what these say. -/
import Derived.Test.YtfipgpfmlkfkfaaDoorMPauseHoldsx0
import Derived.Test.YtfipgpfmlkfkfaaDoorMPauseHoldsx1
namespace Go.Proofs.YtfipgpfmlkfkfaaDoor.MPauseHolds
open Go.RowKit Go.Proofs.YtfipgpfmlkfkfaaDoorW.PrintWords Go.Proofs.YtfipgpfmlkfkfaaDoorW.PrintLast Go.Proofs.YtfipgpfmlkfkfaaDoorW.PrintMore
attribute [local go_sem] max2_int min2_int max_two min_two max_three min_three max_four min_four   -- for this text's walks alone
set_option linter.unusedVariables false
set_option linter.unusedSimpArgs false

/-! ### pause_View: function 44 -/
def pause_View.j0 : Nat → Int → Bool → Int → Int → Option (Int × Option Int)
 | 0, _, _, _, _ => none
 | k + 1, x1, x127000, x127001, x127002 => (num_SubSat.f x1 x127002).bind fun t129 => ((pause_time.f t129).bind fun t130 => (if t130 = true then (some (t129, none)) else (some (0, some 2))))
def pause_View.f (k : Nat) (a0_0 : Bool) (a0_1 : Int) (a0_2 : Int) (a1 : Int) : Option (Int × Option Int) := (pause_may.f a0_0 a0_1 a0_2 a1).bind fun t127 => (if t127.isNone = true then (if a0_0 = true then (pause_View.j0 k a0_1 a0_0 a0_1 a0_2) else (pause_View.j0 k a1 a0_0 a0_1 a0_2)) else (some (0, some (t127.getD 0))))
theorem pause_View.mono_l : ∀ k, (∀ y0 y1 y2 y3, LeO (pause_View.j0 k y0 y1 y2 y3) (pause_View.j0 (k + 1) y0 y1 y2 y3))
 | 0 => fun _ _ _ _ r h => by simp [pause_View.j0] at h
 | k + 1 => by
  have ih0 := pause_View.mono_l k
  ·intro y0 y1 y2 y3
   unfold pause_View.j0
   repeat' first
   | (with_reducible exact ih0 _ _ _ _)
   | (with_reducible exact LeO.refl _)
   | (with_reducible exact LeO.none _)
   | (with_reducible refine LeO.ite ?_ ?_)
   | (with_reducible refine LeO.bind ?_ (fun _ => ?_))
   | exact ih0 _ _ _ _
   | exact LeO.none _
   | refine LeO.ite ?_ ?_
   | refine LeO.bind ?_ (fun _ => ?_)
theorem pause_View.mono : ∀ a0 a1 a2 a3 k, LeO (pause_View.f k a0 a1 a2 a3) (pause_View.f (k + 1) a0 a1 a2 a3) := by
 intro a0 a1 a2 a3 k
 have ih0 := pause_View.mono_l k
 unfold pause_View.f
 repeat' first
   | (with_reducible exact ih0 _ _ _ _)
   | (with_reducible exact LeO.refl _)
   | (with_reducible exact LeO.none _)
   | (with_reducible refine LeO.ite ?_ ?_)
   | (with_reducible refine LeO.bind ?_ (fun _ => ?_))
   | exact ih0 _ _ _ _
   | exact LeO.none _
   | refine LeO.ite ?_ ?_
   | refine LeO.bind ?_ (fun _ => ?_)
set_option maxHeartbeats 8000000 in
set_option maxRecDepth 100000 in
theorem pause_View.calls (k : Nat) (a0_0 : Bool) (a0_1 : Int) (a0_2 : Int) (a1 : Int) (r1 : Int) (r2 : Option Int) (w : World) (h : pause_View.f k a0_0 a0_1 a0_2 a1 = some (r1, r2)) :
  Calls Tryd.prog 44 #[.agg #[.bool a0_0, .int .i64 a0_1, .int .i64 a0_2], .int .i64 a1] w fun e w' => e = .returned (.tuple #[.int .i64 r1, errW r2]) ∧ Below w.heap.size w w' := by
 have hu81 := Tryd.underlying81
 have hu29 := Tryd.underlying29
 have hu115 := Tryd.underlying115
 have HB := qS (Below.refl w.heap.size w)
 have H : ((pause_may.f a0_0 a0_1 a0_2 a1).bind fun t127 => (if t127.isNone = true then (if a0_0 = true then (pause_View.j0 k a0_1 a0_0 a0_1 a0_2) else (pause_View.j0 k a1 a0_0 a0_1 a0_2)) else (some (0, some (t127.getD 0))))) = some (r1, r2) := h
 clear h
 replace H := Option.bind_eq_some_iff.mp H
 obtain ⟨t127, A30, H⟩ := H
 replace H : (if t127.isNone = true then (if a0_0 = true then (pause_View.j0 k a0_1 a0_0 a0_1 a0_2) else (pause_View.j0 k a1 a0_0 a0_1 a0_2)) else (some (0, some (t127.getD 0)))) = some (r1, r2) := H
 have A3 := qS A30
 clear A30
 rcases t127 with _ | q128
 ·have H1 : (if a0_0 = true then (pause_View.j0 k a0_1 a0_0 a0_1 a0_2) else (pause_View.j0 k a1 a0_0 a0_1 a0_2)) = some (r1, r2) := by rw [if_pos (show (none : Option Int).isNone = true by rfl)] at H; exact H
  clear H
  have H := H1
  clear H1
  try simp only [errW_none, errW_some]
  have HC4 := qS H
  clear H
  go_enter Tryd.func44, Tryd.ntmps44
  go_upto_if 14 with (first | ((with_reducible refine gate_dst (N := 2) rfl ?_); refine box_event ?hg (N := 2) ?hd (cs := #[.bool a0_0, .int .i64 a0_1, .int .i64 a0_2]) (t := 81) ?hr ?_; (case hd => rfl); (case hg => rfl); (case hr => first | (go_simp; done) | (go_simp; rfl)); intro gb126 hg w5 hbox hb; have n0_ := qS (below_step (by repeat (first | (with_reducible first | exact HB.out | apply qpA | apply qpN | apply qp1) | exact HB.out)) hb); have n1_ := qS (hbox); have n2_ := qS ((by rw [hg]; exact (below_size (by repeat (first | (with_reducible first | exact HB.out | apply qpA | apply qpN | apply qp1) | exact HB.out))) : w.heap.size ≤ gb126)); have n3_ := qS ((by rw [hg]; exact (below_size (by repeat (first | (with_reducible first | exact HB.out | apply qpA | apply qpN | apply qp1) | exact HB.out))) : w.heap.size ≤ gb126)); clear HB; have HB := n0_; have BK126 := n1_; have GW126 := n2_; have GE126 := n3_; clear n0_ n1_ n2_ n3_; clear hb hbox hg; have hcz6_0 : w5.cell? ⟨gb126, 0, none⟩ = some (.bool a0_0) := (qC BK126.out 0).trans rfl; have hcz6_1 : w5.cell? ⟨gb126, 1, none⟩ = some (.int .i64 a0_1) := (qC BK126.out 1).trans rfl; have hcz6_2 : w5.cell? ⟨gb126, 2, none⟩ = some (.int .i64 a0_2) := (qC BK126.out 2).trans rfl; have hfz6_0 := qF BK126.out 0; have hfz6_1 := qF BK126.out 1; have hfz6_2 := qF BK126.out 2) | (go_at_call 74; refine calls_of_args (args' := #[.agg #[.bool a0_0, .int .i64 a0_1, .int .i64 a0_2], .int .i64 a1]) ?_ ?_; (focus (first | (rw [show (a0_0) = true by with_reducible assumption]) | (rw [show (a0_0) = false by with_reducible assumption]) | rfl | (simp only [*]; done) | (simp [*]; done))); (with_reducible refine (pause_may.calls a0_0 a0_1 a0_2 a1 none _ A3.out).mono ?_); rintro e w7 ⟨rfl, hb⟩; have n0_ := qS (qB (g := gb126) (o := .cells #[.bool a0_0, .int .i64 a0_1, .int .i64 a0_2] 81 (0, 0)) (by (with_reducible repeat (first | refine qN ?_ _ | refine qD ?_ | refine qA ?_ _)); exact BK126.out) hb); have n1_ := qS (below_step (by repeat (first | (with_reducible first | exact HB.out | apply qpA | apply qpN | apply qp1 | refine qpS ?_ GE126.out) | exact HB.out)) hb); clear BK126; clear HB; have BK126 := n0_; have HB := n1_; clear n0_ n1_; (try clear hb); (try clear hb2); (try clear hk); (try clear hi); (try simp only [errW_none, errW_some]); have hcz8_0 : w7.cell? ⟨gb126, 0, none⟩ = some (.bool a0_0) := (qC BK126.out 0).trans rfl; have hcz8_1 : w7.cell? ⟨gb126, 1, none⟩ = some (.int .i64 a0_1) := (qC BK126.out 1).trans rfl; have hcz8_2 : w7.cell? ⟨gb126, 2, none⟩ = some (.int .i64 a0_2) := (qC BK126.out 2).trans rfl; have hfz8_0 := qF BK126.out 0; have hfz8_1 := qF BK126.out 1; have hfz8_2 := qF BK126.out 2))
  (try simp only [Act.put, List.setIfInBounds_toArray, List.set_cons_zero, List.set_cons_succ])
  go_cut [1] (fun v1 wc => ∃ (kq : Nat) (x1_3 : Int), v1 = .int .i64 x1_3 ∧ Aside0 (pause_View.j0 kq x1_3 a0_0 a0_1 a0_2 = some (r1, r2)) ∧ Aside0 (kq ≤ k) ∧ Aside0 (wc.heap[gb126]? = some (.cells #[.bool a0_0, .int .i64 a0_1, .int .i64 a0_2] 81 (0, 0))) ∧ Aside0 (Below w.heap.size w wc))
  case first =>
   have H := HC4.out
   clear HC4
   by_cases c9 : a0_0 = true
   ·subst c9
    have H1 : (pause_View.j0 k a0_1 true a0_1 a0_2) = some (r1, r2) := by rw [if_pos rfl] at H; exact H
    clear H
    have H := H1
    clear H1
    have H' := qS H
    clear H
    have hcz10_0 : w7.cell? ⟨gb126, 0, none⟩ = some (.bool true) := (qC BK126.out 0).trans rfl
    have hcz10_1 : w7.cell? ⟨gb126, 1, none⟩ = some (.int .i64 a0_1) := (qC BK126.out 1).trans rfl
    have hcz10_2 : w7.cell? ⟨gb126, 2, none⟩ = some (.int .i64 a0_2) := (qC BK126.out 2).trans rfl
    have hfz10_0 := qF BK126.out 0
    have hfz10_1 := qF BK126.out 1
    have hfz10_2 := qF BK126.out 2
    go_wp2
    go_meet
    case rel => exact ⟨_, (a0_1), (by first | rfl | (simp; done) | (simp [*]; done)), H', ⟨by first | omega | exact Nat.le_refl _⟩, ⟨by (with_reducible repeat (first | refine qN ?_ _ | refine qD ?_ | refine qA ?_ _)); exact BK126.out⟩, ⟨by repeat (first | (with_reducible first | exact HB.out | apply qpA | apply qpN | apply qp1 | refine qpS ?_ GE126.out) | exact HB.out)⟩⟩
   ·replace c9 := Bool.eq_false_iff.mpr c9
    subst c9
    have H1 : (pause_View.j0 k a1 false a0_1 a0_2) = some (r1, r2) := by rw [if_neg (show ¬ (false = true) by decide)] at H; exact H
    clear H
    have H := H1
    clear H1
    have H' := qS H
    clear H
    go_wp2
    go_meet
    case rel => exact ⟨_, (a1), (by first | rfl | (simp; done) | (simp [*]; done)), H', ⟨by first | omega | exact Nat.le_refl _⟩, ⟨by (with_reducible repeat (first | refine qN ?_ _ | refine qD ?_ | refine qA ?_ _)); exact BK126.out⟩, ⟨by repeat (first | (with_reducible first | exact HB.out | apply qpA | apply qpN | apply qp1 | refine qpS ?_ GE126.out) | exact HB.out)⟩⟩
  case rest =>
   clear HC4
   try clear q1
   try clear p2
   try clear c4
   try clear c9
   try clear hcz10_0
   try clear hcz10_1
   try clear hcz10_2
   try clear hcz6_0
   try clear hcz6_1
   try clear hcz6_2
   try clear hcz8_0
   try clear hcz8_1
   try clear hcz8_2
   try clear hfz10_0
   try clear hfz10_1
   try clear hfz10_2
   try clear hfz6_0
   try clear hfz6_1
   try clear hfz6_2
   try clear hfz8_0
   try clear hfz8_1
   try clear hfz8_2
   try clear q128
   obtain ⟨kq, x1_3, rfl, HA, HJ3, BK126, HB⟩ := hcut
   cases kq with
   | zero => exact absurd HA.out (by simp [pause_View.j0])
   | succ kj3 =>
    have H := HA.out
    clear HA
    simp only [pause_View.j0] at H
    replace H := Option.bind_eq_some_iff.mp H
    obtain ⟨t129, A110, H⟩ := H
    replace H : ((pause_time.f t129).bind fun t130 => (if t130 = true then (some (t129, none)) else (some (0, some 2)))) = some (r1, r2) := H
    have A11 := qS A110
    clear A110
    replace H := Option.bind_eq_some_iff.mp H
    obtain ⟨t130, A120, H⟩ := H
    replace H : (if t130 = true then (some (t129, none)) else (some (0, some 2))) = some (r1, r2) := H
    have A12 := qS A120
    clear A120
    by_cases c13 : t130 = true
    ·subst c13
     have H1 : (some (t129, none)) = some (r1, r2) := by rw [if_pos rfl] at H; exact H
     clear H
     have H := H1
     clear H1
     simp only [Option.some.injEq, Prod.mk.injEq] at H
     obtain ⟨rfl, rfl⟩ := H
     have hcz14_0 : wc.cell? ⟨gb126, 0, none⟩ = some (.bool a0_0) := (qC BK126.out 0).trans rfl
     have hcz14_1 : wc.cell? ⟨gb126, 1, none⟩ = some (.int .i64 a0_1) := (qC BK126.out 1).trans rfl
     have hcz14_2 : wc.cell? ⟨gb126, 2, none⟩ = some (.int .i64 a0_2) := (qC BK126.out 2).trans rfl
     have hfz14_0 := qF BK126.out 0
     have hfz14_1 := qF BK126.out 1
     have hfz14_2 := qF BK126.out 2
     go_wp2_with (first | ((with_reducible refine gate_callee (f := 61) rfl ?_); refine goesL_ (some 20) rfl rfl Tryd.func61 (by kernel_rfl) rfl #[.int .i64 x1_3, .int .i64 a0_2] rfl (by (try simp only [List.map_toArray, List.map_cons, List.map_nil]); first | done | rfl | (simp only [*]; done) | (simp only [List.length_drop, List.length_take]; rfl)) ?_; (with_reducible refine (num_SubSat.calls x1_3 a0_2 t129 _ A11.out).mono ?_); rintro e w' ⟨rfl, ⟨nd, rfl⟩⟩; refine ⟨_, rfl, ?_⟩) | ((with_reducible refine gate_callee (f := 77) rfl ?_); refine goesL_ (some 22) rfl rfl Tryd.func77 (by kernel_rfl) rfl #[.int .i64 t129] rfl (by (try simp only [List.map_toArray, List.map_cons, List.map_nil]); first | done | rfl | (simp only [*]; done) | (simp only [List.length_drop, List.length_take]; rfl)) ?_; (with_reducible refine (pause_time.calls t129 true _ A12.out).mono ?_); rintro e w' ⟨rfl, ⟨nd, rfl⟩⟩; refine ⟨_, rfl, ?_⟩))
     go_ret2
     exact ⟨by first | rfl | (simp [errW_none, errW_some] <;> rfl) | (simp [*, errW_none, errW_some] <;> rfl), by repeat (first | (with_reducible first | exact HB.out | apply qpA | apply qpN | apply qp1 | refine qpS ?_ GE126.out) | exact HB.out)⟩
    ·replace c13 := Bool.eq_false_iff.mpr c13
     subst c13
     have H1 : (some (0, some 2)) = some (r1, r2) := by rw [if_neg (show ¬ (false = true) by decide)] at H; exact H
     clear H
     have H := H1
     clear H1
     simp only [Option.some.injEq, Prod.mk.injEq] at H
     obtain ⟨rfl, rfl⟩ := H
     have hcz15_0 : wc.cell? ⟨gb126, 0, none⟩ = some (.bool a0_0) := (qC BK126.out 0).trans rfl
     have hcz15_1 : wc.cell? ⟨gb126, 1, none⟩ = some (.int .i64 a0_1) := (qC BK126.out 1).trans rfl
     have hcz15_2 : wc.cell? ⟨gb126, 2, none⟩ = some (.int .i64 a0_2) := (qC BK126.out 2).trans rfl
     have hfz15_0 := qF BK126.out 0
     have hfz15_1 := qF BK126.out 1
     have hfz15_2 := qF BK126.out 2
     go_wp2_with (first | ((with_reducible refine gate_callee (f := 61) rfl ?_); refine goesL_ (some 20) rfl rfl Tryd.func61 (by kernel_rfl) rfl #[.int .i64 x1_3, .int .i64 a0_2] rfl (by (try simp only [List.map_toArray, List.map_cons, List.map_nil]); first | done | rfl | (simp only [*]; done) | (simp only [List.length_drop, List.length_take]; rfl)) ?_; (with_reducible refine (num_SubSat.calls x1_3 a0_2 t129 _ A11.out).mono ?_); rintro e w' ⟨rfl, ⟨nd, rfl⟩⟩; refine ⟨_, rfl, ?_⟩) | ((with_reducible refine gate_callee (f := 77) rfl ?_); refine goesL_ (some 22) rfl rfl Tryd.func77 (by kernel_rfl) rfl #[.int .i64 t129] rfl (by (try simp only [List.map_toArray, List.map_cons, List.map_nil]); first | done | rfl | (simp only [*]; done) | (simp only [List.length_drop, List.length_take]; rfl)) ?_; (with_reducible refine (pause_time.calls t129 false _ A12.out).mono ?_); rintro e w' ⟨rfl, ⟨nd, rfl⟩⟩; refine ⟨_, rfl, ?_⟩))
     go_ret2
     exact ⟨by first | rfl | (simp [errW_none, errW_some] <;> rfl) | (simp [*, errW_none, errW_some] <;> rfl), by repeat (first | (with_reducible first | exact HB.out | apply qpA | apply qpN | apply qp1 | refine qpS ?_ GE126.out) | exact HB.out)⟩
 ·have H1 : (some (0, some q128)) = some (r1, r2) := by rw [if_neg (show ¬ (some q128).isNone = true by simp)] at H; exact H
  clear H
  have H := H1
  clear H1
  try simp only [errW_none, errW_some]
  simp only [Option.some.injEq, Prod.mk.injEq] at H
  obtain ⟨rfl, rfl⟩ := H
  go_enter Tryd.func44, Tryd.ntmps44
  go_wp2_with (first | ((with_reducible refine gate_dst (N := 2) rfl ?_); refine box_event ?hg (N := 2) ?hd (cs := #[.bool a0_0, .int .i64 a0_1, .int .i64 a0_2]) (t := 81) ?hr ?_; (case hd => rfl); (case hg => rfl); (case hr => first | (go_simp; done) | (go_simp; rfl)); intro gb126 hg w16 hbox hb; have n0_ := qS (below_step (by repeat (first | (with_reducible first | exact HB.out | apply qpA | apply qpN | apply qp1) | exact HB.out)) hb); have n1_ := qS (hbox); have n2_ := qS ((by rw [hg]; exact (below_size (by repeat (first | (with_reducible first | exact HB.out | apply qpA | apply qpN | apply qp1) | exact HB.out))) : w.heap.size ≤ gb126)); have n3_ := qS ((by rw [hg]; exact (below_size (by repeat (first | (with_reducible first | exact HB.out | apply qpA | apply qpN | apply qp1) | exact HB.out))) : w.heap.size ≤ gb126)); clear HB; have HB := n0_; have BK126 := n1_; have GW126 := n2_; have GE126 := n3_; clear n0_ n1_ n2_ n3_; clear hb hbox hg; have hcz17_0 : w16.cell? ⟨gb126, 0, none⟩ = some (.bool a0_0) := (qC BK126.out 0).trans rfl; have hcz17_1 : w16.cell? ⟨gb126, 1, none⟩ = some (.int .i64 a0_1) := (qC BK126.out 1).trans rfl; have hcz17_2 : w16.cell? ⟨gb126, 2, none⟩ = some (.int .i64 a0_2) := (qC BK126.out 2).trans rfl; have hfz17_0 := qF BK126.out 0; have hfz17_1 := qF BK126.out 1; have hfz17_2 := qF BK126.out 2) | (go_at_call 74; refine calls_of_args (args' := #[.agg #[.bool a0_0, .int .i64 a0_1, .int .i64 a0_2], .int .i64 a1]) ?_ ?_; (focus (first | (rw [show (a0_0) = true by with_reducible assumption]) | (rw [show (a0_0) = false by with_reducible assumption]) | rfl | (simp only [*]; done) | (simp [*]; done))); (with_reducible refine (pause_may.calls a0_0 a0_1 a0_2 a1 (some q128) _ A3.out).mono ?_); rintro e w18 ⟨rfl, hb⟩; have n0_ := qS (qB (g := gb126) (o := .cells #[.bool a0_0, .int .i64 a0_1, .int .i64 a0_2] 81 (0, 0)) (by (with_reducible repeat (first | refine qN ?_ _ | refine qD ?_ | refine qA ?_ _)); exact BK126.out) hb); have n1_ := qS (below_step (by repeat (first | (with_reducible first | exact HB.out | apply qpA | apply qpN | apply qp1 | refine qpS ?_ GE126.out) | exact HB.out)) hb); clear BK126; clear HB; have BK126 := n0_; have HB := n1_; clear n0_ n1_; (try clear hb); (try clear hb2); (try clear hk); (try clear hi); (try simp only [errW_none, errW_some])))
  go_ret2
  exact ⟨by first | rfl | (simp [errW_none, errW_some] <;> rfl) | (simp [*, errW_none, errW_some] <;> rfl), by repeat (first | (with_reducible first | exact HB.out | apply qpA | apply qpN | apply qp1 | refine qpS ?_ GE126.out) | exact HB.out)⟩

/-! ### fuseelaw27_num: function 46 -/
def fuseelaw27_num.f (a0 : Option Int) : Option Int := some (numE a0)
theorem fuseelaw27_num.calls (a0 : Option Int) (r : Int) (w : World) (hgL : HG w) (h : fuseelaw27_num.f a0 = some r) :
    Calls Tryd.prog 46 #[errW a0] w fun e w' => e = .returned (.int .i64 r) ∧ Below w.heap.size w w' := by
  have h2 : numE a0 = r := by simpa [fuseelaw27_num.f] using h
  subst h2
  cases a0 with
  | none => exact _root_.Go.Proofs.YtfipgpfmlkfkfaaDoor.fuseelaw27_num_none w w (St.refl hgL)
  | some c => exact _root_.Go.Proofs.YtfipgpfmlkfkfaaDoor.fuseelaw27_num_some c w w (St.refl hgL)

/-! ### fuseelaw27_sure: function 49 -/
def fuseelaw27_sure.f (k : Nat)  : Option (Bool) := (pause_Stop.f false 0 0 5).bind fun bt131 => ((pause_Go.f bt131.1 bt131.2.1 bt131.2.2.1 9 false).bind fun bt136 => ((pause_Go.f bt131.1 bt131.2.1 bt131.2.2.1 9 true).bind fun bt141 => ((pause_View.f k bt136.1 bt136.2.1 bt136.2.2.1 10).bind fun bt146 => ((pause_View.f k bt141.1 bt141.2.1 bt141.2.2.1 10).bind fun bt148 => ((pause_View.f k bt131.1 bt131.2.1 bt131.2.2.1 7).bind fun bt150 => ((pause_Stop.f bt131.1 bt131.2.1 bt131.2.2.1 6).bind fun bt152 => (if bt131.2.2.2.isNone = true then (if bt136.2.2.2.isNone = true then (if bt141.2.2.2.isNone = true then (if bt146.2.isNone = true then (if bt148.2.isNone = true then (if bt150.2.isNone = true then (if bt146.1 = 6 then (if bt148.1 = 10 then (if bt150.1 = 5 then ((fuseelaw27_num.f bt152.2.2.2).bind fun t163 => (some (t163 == 19))) else (none)) else (none)) else (none)) else (none)) else (none)) else (none)) else (none)) else (none)) else (none))))))))
theorem fuseelaw27_sure.mono : ∀ k, LeO (fuseelaw27_sure.f k ) (fuseelaw27_sure.f (k + 1) ) := by
 intro  k
 unfold fuseelaw27_sure.f
 repeat' first
   | (with_reducible exact pause_View.mono _ _ _ _ _)
   | (with_reducible exact LeO.refl _)
   | (with_reducible exact LeO.none _)
   | (with_reducible refine LeO.ite ?_ ?_)
   | (with_reducible refine LeO.bind ?_ (fun _ => ?_))
   | exact pause_View.mono _ _ _ _ _
   | exact LeO.none _
   | refine LeO.ite ?_ ?_
   | refine LeO.bind ?_ (fun _ => ?_)
set_option maxHeartbeats 8000000 in
set_option maxRecDepth 100000 in
theorem fuseelaw27_sure.calls (k : Nat)  (r : Bool) (w : World) (hgL : HG w) (h : fuseelaw27_sure.f k  = some r) :
  Calls Tryd.prog 49 #[] w fun e w' => e = .returned (.bool r) ∧ Below w.heap.size w w' := by
 have hu81 := Tryd.underlying81
 have hu29 := Tryd.underlying29
 have hu115 := Tryd.underlying115
 have HB := qS (Below.refl w.heap.size w)
 have H : ((pause_Stop.f false 0 0 5).bind fun bt131 => ((pause_Go.f bt131.1 bt131.2.1 bt131.2.2.1 9 false).bind fun bt136 => ((pause_Go.f bt131.1 bt131.2.1 bt131.2.2.1 9 true).bind fun bt141 => ((pause_View.f k bt136.1 bt136.2.1 bt136.2.2.1 10).bind fun bt146 => ((pause_View.f k bt141.1 bt141.2.1 bt141.2.2.1 10).bind fun bt148 => ((pause_View.f k bt131.1 bt131.2.1 bt131.2.2.1 7).bind fun bt150 => ((pause_Stop.f bt131.1 bt131.2.1 bt131.2.2.1 6).bind fun bt152 => (if bt131.2.2.2.isNone = true then (if bt136.2.2.2.isNone = true then (if bt141.2.2.2.isNone = true then (if bt146.2.isNone = true then (if bt148.2.isNone = true then (if bt150.2.isNone = true then (if bt146.1 = 6 then (if bt148.1 = 10 then (if bt150.1 = 5 then ((fuseelaw27_num.f bt152.2.2.2).bind fun t163 => (some (t163 == 19))) else (none)) else (none)) else (none)) else (none)) else (none)) else (none)) else (none)) else (none)) else (none))))))))) = some r := h
 clear h
 replace H := Option.bind_eq_some_iff.mp H
 obtain ⟨⟨t131, t132, t133, t134⟩, A10, H⟩ := H
 replace H : ((pause_Go.f t131 t132 t133 9 false).bind fun bt136 => ((pause_Go.f t131 t132 t133 9 true).bind fun bt141 => ((pause_View.f k bt136.1 bt136.2.1 bt136.2.2.1 10).bind fun bt146 => ((pause_View.f k bt141.1 bt141.2.1 bt141.2.2.1 10).bind fun bt148 => ((pause_View.f k t131 t132 t133 7).bind fun bt150 => ((pause_Stop.f t131 t132 t133 6).bind fun bt152 => (if t134.isNone = true then (if bt136.2.2.2.isNone = true then (if bt141.2.2.2.isNone = true then (if bt146.2.isNone = true then (if bt148.2.isNone = true then (if bt150.2.isNone = true then (if bt146.1 = 6 then (if bt148.1 = 10 then (if bt150.1 = 5 then ((fuseelaw27_num.f bt152.2.2.2).bind fun t163 => (some (t163 == 19))) else (none)) else (none)) else (none)) else (none)) else (none)) else (none)) else (none)) else (none)) else (none)))))))) = some r := H
 have A1 := qS A10
 clear A10
 replace H := Option.bind_eq_some_iff.mp H
 obtain ⟨⟨t136, t137, t138, t139⟩, A20, H⟩ := H
 replace H : ((pause_Go.f t131 t132 t133 9 true).bind fun bt141 => ((pause_View.f k t136 t137 t138 10).bind fun bt146 => ((pause_View.f k bt141.1 bt141.2.1 bt141.2.2.1 10).bind fun bt148 => ((pause_View.f k t131 t132 t133 7).bind fun bt150 => ((pause_Stop.f t131 t132 t133 6).bind fun bt152 => (if t134.isNone = true then (if t139.isNone = true then (if bt141.2.2.2.isNone = true then (if bt146.2.isNone = true then (if bt148.2.isNone = true then (if bt150.2.isNone = true then (if bt146.1 = 6 then (if bt148.1 = 10 then (if bt150.1 = 5 then ((fuseelaw27_num.f bt152.2.2.2).bind fun t163 => (some (t163 == 19))) else (none)) else (none)) else (none)) else (none)) else (none)) else (none)) else (none)) else (none)) else (none))))))) = some r := H
 have A2 := qS A20
 clear A20
 replace H := Option.bind_eq_some_iff.mp H
 obtain ⟨⟨t141, t142, t143, t144⟩, A30, H⟩ := H
 replace H : ((pause_View.f k t136 t137 t138 10).bind fun bt146 => ((pause_View.f k t141 t142 t143 10).bind fun bt148 => ((pause_View.f k t131 t132 t133 7).bind fun bt150 => ((pause_Stop.f t131 t132 t133 6).bind fun bt152 => (if t134.isNone = true then (if t139.isNone = true then (if t144.isNone = true then (if bt146.2.isNone = true then (if bt148.2.isNone = true then (if bt150.2.isNone = true then (if bt146.1 = 6 then (if bt148.1 = 10 then (if bt150.1 = 5 then ((fuseelaw27_num.f bt152.2.2.2).bind fun t163 => (some (t163 == 19))) else (none)) else (none)) else (none)) else (none)) else (none)) else (none)) else (none)) else (none)) else (none)))))) = some r := H
 have A3 := qS A30
 clear A30
 replace H := Option.bind_eq_some_iff.mp H
 obtain ⟨⟨t146, t147⟩, A40, H⟩ := H
 replace H : ((pause_View.f k t141 t142 t143 10).bind fun bt148 => ((pause_View.f k t131 t132 t133 7).bind fun bt150 => ((pause_Stop.f t131 t132 t133 6).bind fun bt152 => (if t134.isNone = true then (if t139.isNone = true then (if t144.isNone = true then (if t147.isNone = true then (if bt148.2.isNone = true then (if bt150.2.isNone = true then (if t146 = 6 then (if bt148.1 = 10 then (if bt150.1 = 5 then ((fuseelaw27_num.f bt152.2.2.2).bind fun t163 => (some (t163 == 19))) else (none)) else (none)) else (none)) else (none)) else (none)) else (none)) else (none)) else (none)) else (none))))) = some r := H
 have A4 := qS A40
 clear A40
 replace H := Option.bind_eq_some_iff.mp H
 obtain ⟨⟨t148, t149⟩, A50, H⟩ := H
 replace H : ((pause_View.f k t131 t132 t133 7).bind fun bt150 => ((pause_Stop.f t131 t132 t133 6).bind fun bt152 => (if t134.isNone = true then (if t139.isNone = true then (if t144.isNone = true then (if t147.isNone = true then (if t149.isNone = true then (if bt150.2.isNone = true then (if t146 = 6 then (if t148 = 10 then (if bt150.1 = 5 then ((fuseelaw27_num.f bt152.2.2.2).bind fun t163 => (some (t163 == 19))) else (none)) else (none)) else (none)) else (none)) else (none)) else (none)) else (none)) else (none)) else (none)))) = some r := H
 have A5 := qS A50
 clear A50
 replace H := Option.bind_eq_some_iff.mp H
 obtain ⟨⟨t150, t151⟩, A60, H⟩ := H
 replace H : ((pause_Stop.f t131 t132 t133 6).bind fun bt152 => (if t134.isNone = true then (if t139.isNone = true then (if t144.isNone = true then (if t147.isNone = true then (if t149.isNone = true then (if t151.isNone = true then (if t146 = 6 then (if t148 = 10 then (if t150 = 5 then ((fuseelaw27_num.f bt152.2.2.2).bind fun t163 => (some (t163 == 19))) else (none)) else (none)) else (none)) else (none)) else (none)) else (none)) else (none)) else (none)) else (none))) = some r := H
 have A6 := qS A60
 clear A60
 replace H := Option.bind_eq_some_iff.mp H
 obtain ⟨⟨t152, t153, t154, t155⟩, A70, H⟩ := H
 replace H : (if t134.isNone = true then (if t139.isNone = true then (if t144.isNone = true then (if t147.isNone = true then (if t149.isNone = true then (if t151.isNone = true then (if t146 = 6 then (if t148 = 10 then (if t150 = 5 then ((fuseelaw27_num.f t155).bind fun t163 => (some (t163 == 19))) else (none)) else (none)) else (none)) else (none)) else (none)) else (none)) else (none)) else (none)) else (none)) = some r := H
 have A7 := qS A70
 clear A70
 rcases t134 with _ | q157
 ·have H1 : (if t139.isNone = true then (if t144.isNone = true then (if t147.isNone = true then (if t149.isNone = true then (if t151.isNone = true then (if t146 = 6 then (if t148 = 10 then (if t150 = 5 then ((fuseelaw27_num.f t155).bind fun t163 => (some (t163 == 19))) else (none)) else (none)) else (none)) else (none)) else (none)) else (none)) else (none)) else (none)) = some r := by rw [if_pos (show (none : Option Int).isNone = true by rfl)] at H; exact H
  clear H
  have H := H1
  clear H1
  try simp only [errW_none, errW_some]
  rcases t139 with _ | q158
  ·have H1 : (if t144.isNone = true then (if t147.isNone = true then (if t149.isNone = true then (if t151.isNone = true then (if t146 = 6 then (if t148 = 10 then (if t150 = 5 then ((fuseelaw27_num.f t155).bind fun t163 => (some (t163 == 19))) else (none)) else (none)) else (none)) else (none)) else (none)) else (none)) else (none)) = some r := by rw [if_pos (show (none : Option Int).isNone = true by rfl)] at H; exact H
   clear H
   have H := H1
   clear H1
   try simp only [errW_none, errW_some]
   rcases t144 with _ | q159
   ·have H1 : (if t147.isNone = true then (if t149.isNone = true then (if t151.isNone = true then (if t146 = 6 then (if t148 = 10 then (if t150 = 5 then ((fuseelaw27_num.f t155).bind fun t163 => (some (t163 == 19))) else (none)) else (none)) else (none)) else (none)) else (none)) else (none)) = some r := by rw [if_pos (show (none : Option Int).isNone = true by rfl)] at H; exact H
    clear H
    have H := H1
    clear H1
    try simp only [errW_none, errW_some]
    rcases t147 with _ | q160
    ·have H1 : (if t149.isNone = true then (if t151.isNone = true then (if t146 = 6 then (if t148 = 10 then (if t150 = 5 then ((fuseelaw27_num.f t155).bind fun t163 => (some (t163 == 19))) else (none)) else (none)) else (none)) else (none)) else (none)) = some r := by rw [if_pos (show (none : Option Int).isNone = true by rfl)] at H; exact H
     clear H
     have H := H1
     clear H1
     try simp only [errW_none, errW_some]
     rcases t149 with _ | q161
     ·have H1 : (if t151.isNone = true then (if t146 = 6 then (if t148 = 10 then (if t150 = 5 then ((fuseelaw27_num.f t155).bind fun t163 => (some (t163 == 19))) else (none)) else (none)) else (none)) else (none)) = some r := by rw [if_pos (show (none : Option Int).isNone = true by rfl)] at H; exact H
      clear H
      have H := H1
      clear H1
      try simp only [errW_none, errW_some]
      rcases t151 with _ | q162
      ·have H1 : (if t146 = 6 then (if t148 = 10 then (if t150 = 5 then ((fuseelaw27_num.f t155).bind fun t163 => (some (t163 == 19))) else (none)) else (none)) else (none)) = some r := by rw [if_pos (show (none : Option Int).isNone = true by rfl)] at H; exact H
       clear H
       have H := H1
       clear H1
       try simp only [errW_none, errW_some]
       by_cases c8 : t146 = 6
       ·rw [if_pos c8] at H
        have c8b0 : (t146 == 6) = true := beq_iff_eq.mpr c8
        have c8b1 : (t146 != 6) = false := bne_eq_false_iff_eq.mpr c8
        clear c8
        by_cases c9 : t148 = 10
        ·rw [if_pos c9] at H
         have c9b0 : (t148 == 10) = true := beq_iff_eq.mpr c9
         have c9b1 : (t148 != 10) = false := bne_eq_false_iff_eq.mpr c9
         clear c9
         by_cases c10 : t150 = 5
         ·rw [if_pos c10] at H
          have c10b0 : (t150 == 5) = true := beq_iff_eq.mpr c10
          have c10b1 : (t150 != 5) = false := bne_eq_false_iff_eq.mpr c10
          clear c10
          replace H := Option.bind_eq_some_iff.mp H
          obtain ⟨t163, A110, H⟩ := H
          replace H : (some (t163 == 19)) = some r := H
          have A11 := qS A110
          clear A110
          obtain rfl := Option.some.inj H
          go_enter Tryd.func49, Tryd.ntmps49
          go_wp2_with (first | ((with_reducible refine gate_callee (f := 40) rfl ?_); refine goesL_ (some 17) rfl rfl Tryd.func40 (by kernel_rfl) rfl #[.agg #[.bool false, .int .i64 0, .int .i64 0], .int .i64 5] rfl (by (try simp only [List.map_toArray, List.map_cons, List.map_nil]); first | done | rfl | (simp only [*]; done) | (simp only [List.length_drop, List.length_take]; rfl)) ?_; (with_reducible refine (pause_Stop.calls false 0 0 5 t131 t132 t133 none _ A1.out).mono ?_); rintro e w12 ⟨rfl, hb⟩; refine ⟨_, rfl, ?_⟩; have n0_ := qS (below_step (by repeat (first | (with_reducible first | exact HB.out | apply qpA | apply qpN | apply qp1) | exact HB.out)) hb); clear HB; have HB := n0_; clear n0_; (try clear hb); (try clear hb2); (try clear hk); (try clear hi); (try simp only [errW_none, errW_some])) | ((with_reducible refine gate_dst (N := 1) rfl ?_); refine box_event ?hg (N := 1) ?hd (cs := #[.bool false, .int .i64 0, .int .i64 0]) (t := 81) ?hr ?_; (case hd => rfl); (case hg => rfl); (case hr => first | (go_simp; done) | (go_simp; rfl)); intro gb135 hg w13 hbox hb; have n0_ := qS (below_step (by repeat (first | (with_reducible first | exact HB.out | apply qpA | apply qpN | apply qp1) | exact HB.out)) hb); have n1_ := qS (hbox); have n2_ := qS ((by rw [hg]; exact (below_size (by repeat (first | (with_reducible first | exact HB.out | apply qpA | apply qpN | apply qp1) | exact HB.out))) : w.heap.size ≤ gb135)); have n3_ := qS ((by rw [hg]; exact (below_size (by repeat (first | (with_reducible first | exact HB.out | apply qpA | apply qpN | apply qp1) | exact HB.out))) : w.heap.size ≤ gb135)); clear HB; have HB := n0_; have BK135 := n1_; have GW135 := n2_; have GE135 := n3_; clear n0_ n1_ n2_ n3_; clear hb hbox hg; have hcz14_0 : w13.cell? ⟨gb135, 0, none⟩ = some (.bool false) := (qC BK135.out 0).trans rfl; have hcz14_1 : w13.cell? ⟨gb135, 1, none⟩ = some (.int .i64 0) := (qC BK135.out 1).trans rfl; have hcz14_2 : w13.cell? ⟨gb135, 2, none⟩ = some (.int .i64 0) := (qC BK135.out 2).trans rfl; have hfz14_0 := qF BK135.out 0; have hfz14_1 := qF BK135.out 1; have hfz14_2 := qF BK135.out 2) | (go_at_call 42; refine calls_of_args (args' := #[.agg #[.bool t131, .int .i64 t132, .int .i64 t133], .int .i64 9, .bool false]) ?_ ?_; (focus (first | (rw [show (t131) = true by with_reducible assumption]) | (rw [show (t131) = false by with_reducible assumption]) | rfl | (simp only [*]; done) | (simp [*]; done))); (with_reducible refine (pause_Go.calls t131 t132 t133 9 false t136 t137 t138 none _ A2.out).mono ?_); rintro e w15 ⟨rfl, hb⟩; have n0_ := qS (qB (g := gb135) (o := .cells #[.bool t131, .int .i64 t132, .int .i64 t133] 81 (0, 0)) (by (with_reducible repeat (first | refine qN ?_ _ | refine qD ?_ | refine qA ?_ _)); refine blk_put (cs := #[.bool t131, .int .i64 t132, .int .i64 0]) ?_ 2 _ rfl; (with_reducible repeat (first | refine qN ?_ _ | refine qD ?_ | refine qA ?_ _)); refine blk_put (cs := #[.bool t131, .int .i64 0, .int .i64 0]) ?_ 1 _ rfl; (with_reducible repeat (first | refine qN ?_ _ | refine qD ?_ | refine qA ?_ _)); refine blk_put (cs := #[.bool false, .int .i64 0, .int .i64 0]) ?_ 0 _ rfl; (with_reducible repeat (first | refine qN ?_ _ | refine qD ?_ | refine qA ?_ _)); exact BK135.out) hb); have n1_ := qS (below_step (by repeat (first | (with_reducible first | exact HB.out | apply qpA | apply qpN | apply qp1 | refine qpS ?_ GE135.out) | exact HB.out)) hb); clear BK135; clear HB; have BK135 := n0_; have HB := n1_; clear n0_ n1_; (try clear hb); (try clear hb2); (try clear hk); (try clear hi); (try simp only [errW_none, errW_some])) | ((with_reducible refine gate_dst (N := 3) rfl ?_); refine box_event ?hg (N := 3) ?hd (cs := #[.bool false, .int .i64 0, .int .i64 0]) (t := 81) ?hr ?_; (case hd => rfl); (case hg => rfl); (case hr => first | (go_simp; done) | (go_simp; rfl)); intro gb140 hg w16 hbox hb; have n0_ := qS (qB (g := gb135) (o := .cells #[.bool t131, .int .i64 t132, .int .i64 t133] 81 (0, 0)) (by (with_reducible repeat (first | refine qN ?_ _ | refine qD ?_ | refine qA ?_ _)); exact BK135.out) hb); have n1_ := qS (below_step (by repeat (first | (with_reducible first | exact HB.out | apply qpA | apply qpN | apply qp1 | refine qpS ?_ GE135.out) | exact HB.out)) hb); have n2_ := qS (hbox); have n3_ := qS ((by rw [hg]; exact (below_size (by repeat (first | (with_reducible first | exact HB.out | apply qpA | apply qpN | apply qp1 | refine qpS ?_ GE135.out) | exact HB.out))) : w.heap.size ≤ gb140)); have n4_ := qS ((by rw [hg]; exact (below_size (by repeat (first | (with_reducible first | exact HB.out | apply qpA | apply qpN | apply qp1 | refine qpS ?_ GE135.out) | exact HB.out))) : w.heap.size ≤ gb140)); have n5_ := qS ((by rw [hg]; exact Nat.ne_of_lt (blk_lt (g := gb135) (o := .cells #[.bool t131, .int .i64 t132, .int .i64 t133] 81 (0, 0)) (by (with_reducible repeat (first | refine qN ?_ _ | refine qD ?_ | refine qA ?_ _)); exact BK135.out)) : gb135 ≠ gb140)); have n6_ := qS ((by rw [hg]; exact Nat.ne_of_gt (blk_lt (g := gb135) (o := .cells #[.bool t131, .int .i64 t132, .int .i64 t133] 81 (0, 0)) (by (with_reducible repeat (first | refine qN ?_ _ | refine qD ?_ | refine qA ?_ _)); exact BK135.out)) : gb140 ≠ gb135)); clear BK135; clear HB; have BK135 := n0_; have HB := n1_; have BK140 := n2_; have GW140 := n3_; have GE140 := n4_; have NB135_140 := n5_; have NB140_135 := n6_; clear n0_ n1_ n2_ n3_ n4_ n5_ n6_; clear hb hbox hg; have hnb17 := NB140_135.out; have hnc17 := NB135_140.out; have hcz18_0 : w16.cell? ⟨gb140, 0, none⟩ = some (.bool false) := (qC BK140.out 0).trans rfl; have hcz18_1 : w16.cell? ⟨gb140, 1, none⟩ = some (.int .i64 0) := (qC BK140.out 1).trans rfl; have hcz18_2 : w16.cell? ⟨gb140, 2, none⟩ = some (.int .i64 0) := (qC BK140.out 2).trans rfl; have hfz18_0 := qF BK140.out 0; have hfz18_1 := qF BK140.out 1; have hfz18_2 := qF BK140.out 2; have hcz19_0 : w16.cell? ⟨gb135, 0, none⟩ = some (.bool t131) := (qC BK135.out 0).trans rfl; have hcz19_1 : w16.cell? ⟨gb135, 1, none⟩ = some (.int .i64 t132) := (qC BK135.out 1).trans rfl; have hcz19_2 : w16.cell? ⟨gb135, 2, none⟩ = some (.int .i64 t133) := (qC BK135.out 2).trans rfl; have hfz19_0 := qF BK135.out 0; have hfz19_1 := qF BK135.out 1; have hfz19_2 := qF BK135.out 2) | (go_at_call 42; refine calls_of_args (args' := #[.agg #[.bool t131, .int .i64 t132, .int .i64 t133], .int .i64 9, .bool true]) ?_ ?_; (focus (first | (rw [show (t131) = true by with_reducible assumption]) | (rw [show (t131) = false by with_reducible assumption]) | rfl | (simp only [*]; done) | (simp [*]; done))); (with_reducible refine (pause_Go.calls t131 t132 t133 9 true t141 t142 t143 none _ A3.out).mono ?_); rintro e w20 ⟨rfl, hb⟩; have n0_ := qS (qB (g := gb135) (o := .cells #[.bool t131, .int .i64 t132, .int .i64 t133] 81 (0, 0)) (by (with_reducible repeat (first | refine qN ?_ _ | refine qD ?_ | refine qA ?_ _)); refine blk_far ?_ NB135_140.out _; (with_reducible repeat (first | refine qN ?_ _ | refine qD ?_ | refine qA ?_ _)); refine blk_far ?_ NB135_140.out _; (with_reducible repeat (first | refine qN ?_ _ | refine qD ?_ | refine qA ?_ _)); refine blk_far ?_ NB135_140.out _; (with_reducible repeat (first | refine qN ?_ _ | refine qD ?_ | refine qA ?_ _)); exact BK135.out) hb); have n1_ := qS (qB (g := gb140) (o := .cells #[.bool t136, .int .i64 t137, .int .i64 t138] 81 (0, 0)) (by (with_reducible repeat (first | refine qN ?_ _ | refine qD ?_ | refine qA ?_ _)); refine blk_put (cs := #[.bool t136, .int .i64 t137, .int .i64 0]) ?_ 2 _ rfl; (with_reducible repeat (first | refine qN ?_ _ | refine qD ?_ | refine qA ?_ _)); refine blk_put (cs := #[.bool t136, .int .i64 0, .int .i64 0]) ?_ 1 _ rfl; (with_reducible repeat (first | refine qN ?_ _ | refine qD ?_ | refine qA ?_ _)); refine blk_put (cs := #[.bool false, .int .i64 0, .int .i64 0]) ?_ 0 _ rfl; (with_reducible repeat (first | refine qN ?_ _ | refine qD ?_ | refine qA ?_ _)); exact BK140.out) hb); have n2_ := qS (below_step (by repeat (first | (with_reducible first | exact HB.out | apply qpA | apply qpN | apply qp1 | refine qpS ?_ GE135.out | refine qpS ?_ GE140.out) | exact HB.out)) hb); clear BK135; clear BK140; clear HB; have BK135 := n0_; have BK140 := n1_; have HB := n2_; clear n0_ n1_ n2_; (try clear hb); (try clear hb2); (try clear hk); (try clear hi); (try simp only [errW_none, errW_some])) | ((with_reducible refine gate_dst (N := 5) rfl ?_); refine box_event ?hg (N := 5) ?hd (cs := #[.bool false, .int .i64 0, .int .i64 0]) (t := 81) ?hr ?_; (case hd => rfl); (case hg => rfl); (case hr => first | (go_simp; done) | (go_simp; rfl)); intro gb145 hg w21 hbox hb; have n0_ := qS (qB (g := gb135) (o := .cells #[.bool t131, .int .i64 t132, .int .i64 t133] 81 (0, 0)) (by (with_reducible repeat (first | refine qN ?_ _ | refine qD ?_ | refine qA ?_ _)); exact BK135.out) hb); have n1_ := qS (qB (g := gb140) (o := .cells #[.bool t136, .int .i64 t137, .int .i64 t138] 81 (0, 0)) (by (with_reducible repeat (first | refine qN ?_ _ | refine qD ?_ | refine qA ?_ _)); exact BK140.out) hb); have n2_ := qS (below_step (by repeat (first | (with_reducible first | exact HB.out | apply qpA | apply qpN | apply qp1 | refine qpS ?_ GE135.out | refine qpS ?_ GE140.out) | exact HB.out)) hb); have n3_ := qS (hbox); have n4_ := qS ((by rw [hg]; exact (below_size (by repeat (first | (with_reducible first | exact HB.out | apply qpA | apply qpN | apply qp1 | refine qpS ?_ GE135.out | refine qpS ?_ GE140.out) | exact HB.out))) : w.heap.size ≤ gb145)); have n5_ := qS ((by rw [hg]; exact (below_size (by repeat (first | (with_reducible first | exact HB.out | apply qpA | apply qpN | apply qp1 | refine qpS ?_ GE135.out | refine qpS ?_ GE140.out) | exact HB.out))) : w.heap.size ≤ gb145)); have n6_ := qS ((by rw [hg]; exact Nat.ne_of_lt (blk_lt (g := gb135) (o := .cells #[.bool t131, .int .i64 t132, .int .i64 t133] 81 (0, 0)) (by (with_reducible repeat (first | refine qN ?_ _ | refine qD ?_ | refine qA ?_ _)); exact BK135.out)) : gb135 ≠ gb145)); have n7_ := qS ((by rw [hg]; exact Nat.ne_of_gt (blk_lt (g := gb135) (o := .cells #[.bool t131, .int .i64 t132, .int .i64 t133] 81 (0, 0)) (by (with_reducible repeat (first | refine qN ?_ _ | refine qD ?_ | refine qA ?_ _)); exact BK135.out)) : gb145 ≠ gb135)); have n8_ := qS ((by rw [hg]; exact Nat.ne_of_lt (blk_lt (g := gb140) (o := .cells #[.bool t136, .int .i64 t137, .int .i64 t138] 81 (0, 0)) (by (with_reducible repeat (first | refine qN ?_ _ | refine qD ?_ | refine qA ?_ _)); exact BK140.out)) : gb140 ≠ gb145)); have n9_ := qS ((by rw [hg]; exact Nat.ne_of_gt (blk_lt (g := gb140) (o := .cells #[.bool t136, .int .i64 t137, .int .i64 t138] 81 (0, 0)) (by (with_reducible repeat (first | refine qN ?_ _ | refine qD ?_ | refine qA ?_ _)); exact BK140.out)) : gb145 ≠ gb140)); clear BK135; clear BK140; clear HB; have BK135 := n0_; have BK140 := n1_; have HB := n2_; have BK145 := n3_; have GW145 := n4_; have GE145 := n5_; have NB135_145 := n6_; have NB145_135 := n7_; have NB140_145 := n8_; have NB145_140 := n9_; clear n0_ n1_ n2_ n3_ n4_ n5_ n6_ n7_ n8_ n9_; clear hb hbox hg; have hnb22 := NB145_135.out; have hnc22 := NB135_145.out; have hnb23 := NB145_140.out; have hnc23 := NB140_145.out; have hcz24_0 : w21.cell? ⟨gb145, 0, none⟩ = some (.bool false) := (qC BK145.out 0).trans rfl; have hcz24_1 : w21.cell? ⟨gb145, 1, none⟩ = some (.int .i64 0) := (qC BK145.out 1).trans rfl; have hcz24_2 : w21.cell? ⟨gb145, 2, none⟩ = some (.int .i64 0) := (qC BK145.out 2).trans rfl; have hfz24_0 := qF BK145.out 0; have hfz24_1 := qF BK145.out 1; have hfz24_2 := qF BK145.out 2; have hcz25_0 : w21.cell? ⟨gb140, 0, none⟩ = some (.bool t136) := (qC BK140.out 0).trans rfl; have hcz25_1 : w21.cell? ⟨gb140, 1, none⟩ = some (.int .i64 t137) := (qC BK140.out 1).trans rfl; have hcz25_2 : w21.cell? ⟨gb140, 2, none⟩ = some (.int .i64 t138) := (qC BK140.out 2).trans rfl; have hfz25_0 := qF BK140.out 0; have hfz25_1 := qF BK140.out 1; have hfz25_2 := qF BK140.out 2) | (go_at_call 44; refine calls_of_args (args' := #[.agg #[.bool t136, .int .i64 t137, .int .i64 t138], .int .i64 10]) ?_ ?_; (focus (first | (rw [show (t136) = true by with_reducible assumption]) | (rw [show (t136) = false by with_reducible assumption]) | rfl | (simp only [*]; done) | (simp [*]; done))); (with_reducible refine (pause_View.calls k t136 t137 t138 10 t146 none _ A4.out).mono ?_); rintro e w26 ⟨rfl, hb⟩; have n0_ := qS (qB (g := gb135) (o := .cells #[.bool t131, .int .i64 t132, .int .i64 t133] 81 (0, 0)) (by (with_reducible repeat (first | refine qN ?_ _ | refine qD ?_ | refine qA ?_ _)); refine blk_far ?_ NB135_145.out _; (with_reducible repeat (first | refine qN ?_ _ | refine qD ?_ | refine qA ?_ _)); refine blk_far ?_ NB135_145.out _; (with_reducible repeat (first | refine qN ?_ _ | refine qD ?_ | refine qA ?_ _)); refine blk_far ?_ NB135_145.out _; (with_reducible repeat (first | refine qN ?_ _ | refine qD ?_ | refine qA ?_ _)); exact BK135.out) hb); have n1_ := qS (qB (g := gb140) (o := .cells #[.bool t136, .int .i64 t137, .int .i64 t138] 81 (0, 0)) (by (with_reducible repeat (first | refine qN ?_ _ | refine qD ?_ | refine qA ?_ _)); refine blk_far ?_ NB140_145.out _; (with_reducible repeat (first | refine qN ?_ _ | refine qD ?_ | refine qA ?_ _)); refine blk_far ?_ NB140_145.out _; (with_reducible repeat (first | refine qN ?_ _ | refine qD ?_ | refine qA ?_ _)); refine blk_far ?_ NB140_145.out _; (with_reducible repeat (first | refine qN ?_ _ | refine qD ?_ | refine qA ?_ _)); exact BK140.out) hb); have n2_ := qS (qB (g := gb145) (o := .cells #[.bool t141, .int .i64 t142, .int .i64 t143] 81 (0, 0)) (by (with_reducible repeat (first | refine qN ?_ _ | refine qD ?_ | refine qA ?_ _)); refine blk_put (cs := #[.bool t141, .int .i64 t142, .int .i64 0]) ?_ 2 _ rfl; (with_reducible repeat (first | refine qN ?_ _ | refine qD ?_ | refine qA ?_ _)); refine blk_put (cs := #[.bool t141, .int .i64 0, .int .i64 0]) ?_ 1 _ rfl; (with_reducible repeat (first | refine qN ?_ _ | refine qD ?_ | refine qA ?_ _)); refine blk_put (cs := #[.bool false, .int .i64 0, .int .i64 0]) ?_ 0 _ rfl; (with_reducible repeat (first | refine qN ?_ _ | refine qD ?_ | refine qA ?_ _)); exact BK145.out) hb); have n3_ := qS (below_step (by repeat (first | (with_reducible first | exact HB.out | apply qpA | apply qpN | apply qp1 | refine qpS ?_ GE135.out | refine qpS ?_ GE140.out | refine qpS ?_ GE145.out) | exact HB.out)) hb); clear BK135; clear BK140; clear BK145; clear HB; have BK135 := n0_; have BK140 := n1_; have BK145 := n2_; have HB := n3_; clear n0_ n1_ n2_ n3_; (try clear hb); (try clear hb2); (try clear hk); (try clear hi); (try simp only [errW_none, errW_some]); have hcz27_0 : w26.cell? ⟨gb145, 0, none⟩ = some (.bool t141) := (qC BK145.out 0).trans rfl; have hcz27_1 : w26.cell? ⟨gb145, 1, none⟩ = some (.int .i64 t142) := (qC BK145.out 1).trans rfl; have hcz27_2 : w26.cell? ⟨gb145, 2, none⟩ = some (.int .i64 t143) := (qC BK145.out 2).trans rfl; have hfz27_0 := qF BK145.out 0; have hfz27_1 := qF BK145.out 1; have hfz27_2 := qF BK145.out 2) | (go_at_call 44; refine calls_of_args (args' := #[.agg #[.bool t141, .int .i64 t142, .int .i64 t143], .int .i64 10]) ?_ ?_; (focus (first | (rw [show (t141) = true by with_reducible assumption]) | (rw [show (t141) = false by with_reducible assumption]) | rfl | (simp only [*]; done) | (simp [*]; done))); (with_reducible refine (pause_View.calls k t141 t142 t143 10 t148 none _ A5.out).mono ?_); rintro e w28 ⟨rfl, hb⟩; have n0_ := qS (qB (g := gb135) (o := .cells #[.bool t131, .int .i64 t132, .int .i64 t133] 81 (0, 0)) (by (with_reducible repeat (first | refine qN ?_ _ | refine qD ?_ | refine qA ?_ _)); exact BK135.out) hb); have n1_ := qS (qB (g := gb140) (o := .cells #[.bool t136, .int .i64 t137, .int .i64 t138] 81 (0, 0)) (by (with_reducible repeat (first | refine qN ?_ _ | refine qD ?_ | refine qA ?_ _)); exact BK140.out) hb); have n2_ := qS (qB (g := gb145) (o := .cells #[.bool t141, .int .i64 t142, .int .i64 t143] 81 (0, 0)) (by (with_reducible repeat (first | refine qN ?_ _ | refine qD ?_ | refine qA ?_ _)); exact BK145.out) hb); have n3_ := qS (below_step (by repeat (first | (with_reducible first | exact HB.out | apply qpA | apply qpN | apply qp1 | refine qpS ?_ GE135.out | refine qpS ?_ GE140.out | refine qpS ?_ GE145.out) | exact HB.out)) hb); clear BK135; clear BK140; clear BK145; clear HB; have BK135 := n0_; have BK140 := n1_; have BK145 := n2_; have HB := n3_; clear n0_ n1_ n2_ n3_; (try clear hb); (try clear hb2); (try clear hk); (try clear hi); (try simp only [errW_none, errW_some]); have hcz29_0 : w28.cell? ⟨gb135, 0, none⟩ = some (.bool t131) := (qC BK135.out 0).trans rfl; have hcz29_1 : w28.cell? ⟨gb135, 1, none⟩ = some (.int .i64 t132) := (qC BK135.out 1).trans rfl; have hcz29_2 : w28.cell? ⟨gb135, 2, none⟩ = some (.int .i64 t133) := (qC BK135.out 2).trans rfl; have hfz29_0 := qF BK135.out 0; have hfz29_1 := qF BK135.out 1; have hfz29_2 := qF BK135.out 2) | (go_at_call 44; refine calls_of_args (args' := #[.agg #[.bool t131, .int .i64 t132, .int .i64 t133], .int .i64 7]) ?_ ?_; (focus (first | (rw [show (t131) = true by with_reducible assumption]) | (rw [show (t131) = false by with_reducible assumption]) | rfl | (simp only [*]; done) | (simp [*]; done))); (with_reducible refine (pause_View.calls k t131 t132 t133 7 t150 none _ A6.out).mono ?_); rintro e w30 ⟨rfl, hb⟩; have n0_ := qS (qB (g := gb135) (o := .cells #[.bool t131, .int .i64 t132, .int .i64 t133] 81 (0, 0)) (by (with_reducible repeat (first | refine qN ?_ _ | refine qD ?_ | refine qA ?_ _)); exact BK135.out) hb); have n1_ := qS (qB (g := gb140) (o := .cells #[.bool t136, .int .i64 t137, .int .i64 t138] 81 (0, 0)) (by (with_reducible repeat (first | refine qN ?_ _ | refine qD ?_ | refine qA ?_ _)); exact BK140.out) hb); have n2_ := qS (qB (g := gb145) (o := .cells #[.bool t141, .int .i64 t142, .int .i64 t143] 81 (0, 0)) (by (with_reducible repeat (first | refine qN ?_ _ | refine qD ?_ | refine qA ?_ _)); exact BK145.out) hb); have n3_ := qS (below_step (by repeat (first | (with_reducible first | exact HB.out | apply qpA | apply qpN | apply qp1 | refine qpS ?_ GE135.out | refine qpS ?_ GE140.out | refine qpS ?_ GE145.out) | exact HB.out)) hb); clear BK135; clear BK140; clear BK145; clear HB; have BK135 := n0_; have BK140 := n1_; have BK145 := n2_; have HB := n3_; clear n0_ n1_ n2_ n3_; (try clear hb); (try clear hb2); (try clear hk); (try clear hi); (try simp only [errW_none, errW_some]); have hcz31_0 : w30.cell? ⟨gb135, 0, none⟩ = some (.bool t131) := (qC BK135.out 0).trans rfl; have hcz31_1 : w30.cell? ⟨gb135, 1, none⟩ = some (.int .i64 t132) := (qC BK135.out 1).trans rfl; have hcz31_2 : w30.cell? ⟨gb135, 2, none⟩ = some (.int .i64 t133) := (qC BK135.out 2).trans rfl; have hfz31_0 := qF BK135.out 0; have hfz31_1 := qF BK135.out 1; have hfz31_2 := qF BK135.out 2) | (go_at_call 40; refine calls_of_args (args' := #[.agg #[.bool t131, .int .i64 t132, .int .i64 t133], .int .i64 6]) ?_ ?_; (focus (first | (rw [show (t131) = true by with_reducible assumption]) | (rw [show (t131) = false by with_reducible assumption]) | rfl | (simp only [*]; done) | (simp [*]; done))); (with_reducible refine (pause_Stop.calls t131 t132 t133 6 t152 t153 t154 t155 _ A7.out).mono ?_); rintro e w32 ⟨rfl, hb⟩; have n0_ := qS (qB (g := gb135) (o := .cells #[.bool t131, .int .i64 t132, .int .i64 t133] 81 (0, 0)) (by (with_reducible repeat (first | refine qN ?_ _ | refine qD ?_ | refine qA ?_ _)); exact BK135.out) hb); have n1_ := qS (qB (g := gb140) (o := .cells #[.bool t136, .int .i64 t137, .int .i64 t138] 81 (0, 0)) (by (with_reducible repeat (first | refine qN ?_ _ | refine qD ?_ | refine qA ?_ _)); exact BK140.out) hb); have n2_ := qS (qB (g := gb145) (o := .cells #[.bool t141, .int .i64 t142, .int .i64 t143] 81 (0, 0)) (by (with_reducible repeat (first | refine qN ?_ _ | refine qD ?_ | refine qA ?_ _)); exact BK145.out) hb); have n3_ := qS (below_step (by repeat (first | (with_reducible first | exact HB.out | apply qpA | apply qpN | apply qp1 | refine qpS ?_ GE135.out | refine qpS ?_ GE140.out | refine qpS ?_ GE145.out) | exact HB.out)) hb); clear BK135; clear BK140; clear BK145; clear HB; have BK135 := n0_; have BK140 := n1_; have BK145 := n2_; have HB := n3_; clear n0_ n1_ n2_ n3_; (try clear hb); (try clear hb2); (try clear hk); (try clear hi); (try simp only [errW_none, errW_some])) | ((with_reducible refine gate_dst (N := 13) rfl ?_); refine box_event ?hg (N := 13) ?hd (cs := #[.bool false, .int .i64 0, .int .i64 0]) (t := 81) ?hr ?_; (case hd => rfl); (case hg => rfl); (case hr => first | (go_simp; done) | (go_simp; rfl)); intro gb156 hg w33 hbox hb; have n0_ := qS (qB (g := gb135) (o := .cells #[.bool t131, .int .i64 t132, .int .i64 t133] 81 (0, 0)) (by (with_reducible repeat (first | refine qN ?_ _ | refine qD ?_ | refine qA ?_ _)); exact BK135.out) hb); have n1_ := qS (qB (g := gb140) (o := .cells #[.bool t136, .int .i64 t137, .int .i64 t138] 81 (0, 0)) (by (with_reducible repeat (first | refine qN ?_ _ | refine qD ?_ | refine qA ?_ _)); exact BK140.out) hb); have n2_ := qS (qB (g := gb145) (o := .cells #[.bool t141, .int .i64 t142, .int .i64 t143] 81 (0, 0)) (by (with_reducible repeat (first | refine qN ?_ _ | refine qD ?_ | refine qA ?_ _)); exact BK145.out) hb); have n3_ := qS (below_step (by repeat (first | (with_reducible first | exact HB.out | apply qpA | apply qpN | apply qp1 | refine qpS ?_ GE135.out | refine qpS ?_ GE140.out | refine qpS ?_ GE145.out) | exact HB.out)) hb); have n4_ := qS (hbox); have n5_ := qS ((by rw [hg]; exact (below_size (by repeat (first | (with_reducible first | exact HB.out | apply qpA | apply qpN | apply qp1 | refine qpS ?_ GE135.out | refine qpS ?_ GE140.out | refine qpS ?_ GE145.out) | exact HB.out))) : w.heap.size ≤ gb156)); have n6_ := qS ((by rw [hg]; exact (below_size (by repeat (first | (with_reducible first | exact HB.out | apply qpA | apply qpN | apply qp1 | refine qpS ?_ GE135.out | refine qpS ?_ GE140.out | refine qpS ?_ GE145.out) | exact HB.out))) : w.heap.size ≤ gb156)); have n7_ := qS ((by rw [hg]; exact Nat.ne_of_lt (blk_lt (g := gb135) (o := .cells #[.bool t131, .int .i64 t132, .int .i64 t133] 81 (0, 0)) (by (with_reducible repeat (first | refine qN ?_ _ | refine qD ?_ | refine qA ?_ _)); exact BK135.out)) : gb135 ≠ gb156)); have n8_ := qS ((by rw [hg]; exact Nat.ne_of_gt (blk_lt (g := gb135) (o := .cells #[.bool t131, .int .i64 t132, .int .i64 t133] 81 (0, 0)) (by (with_reducible repeat (first | refine qN ?_ _ | refine qD ?_ | refine qA ?_ _)); exact BK135.out)) : gb156 ≠ gb135)); have n9_ := qS ((by rw [hg]; exact Nat.ne_of_lt (blk_lt (g := gb140) (o := .cells #[.bool t136, .int .i64 t137, .int .i64 t138] 81 (0, 0)) (by (with_reducible repeat (first | refine qN ?_ _ | refine qD ?_ | refine qA ?_ _)); exact BK140.out)) : gb140 ≠ gb156)); have n10_ := qS ((by rw [hg]; exact Nat.ne_of_gt (blk_lt (g := gb140) (o := .cells #[.bool t136, .int .i64 t137, .int .i64 t138] 81 (0, 0)) (by (with_reducible repeat (first | refine qN ?_ _ | refine qD ?_ | refine qA ?_ _)); exact BK140.out)) : gb156 ≠ gb140)); have n11_ := qS ((by rw [hg]; exact Nat.ne_of_lt (blk_lt (g := gb145) (o := .cells #[.bool t141, .int .i64 t142, .int .i64 t143] 81 (0, 0)) (by (with_reducible repeat (first | refine qN ?_ _ | refine qD ?_ | refine qA ?_ _)); exact BK145.out)) : gb145 ≠ gb156)); have n12_ := qS ((by rw [hg]; exact Nat.ne_of_gt (blk_lt (g := gb145) (o := .cells #[.bool t141, .int .i64 t142, .int .i64 t143] 81 (0, 0)) (by (with_reducible repeat (first | refine qN ?_ _ | refine qD ?_ | refine qA ?_ _)); exact BK145.out)) : gb156 ≠ gb145)); clear BK135; clear BK140; clear BK145; clear HB; have BK135 := n0_; have BK140 := n1_; have BK145 := n2_; have HB := n3_; have BK156 := n4_; have GW156 := n5_; have GE156 := n6_; have NB135_156 := n7_; have NB156_135 := n8_; have NB140_156 := n9_; have NB156_140 := n10_; have NB145_156 := n11_; have NB156_145 := n12_; clear n0_ n1_ n2_ n3_ n4_ n5_ n6_ n7_ n8_ n9_ n10_ n11_ n12_; clear hb hbox hg; have hnb34 := NB156_135.out; have hnc34 := NB135_156.out; have hnb35 := NB156_140.out; have hnc35 := NB140_156.out; have hnb36 := NB156_145.out; have hnc36 := NB145_156.out; have hcz37_0 : w33.cell? ⟨gb156, 0, none⟩ = some (.bool false) := (qC BK156.out 0).trans rfl; have hcz37_1 : w33.cell? ⟨gb156, 1, none⟩ = some (.int .i64 0) := (qC BK156.out 1).trans rfl; have hcz37_2 : w33.cell? ⟨gb156, 2, none⟩ = some (.int .i64 0) := (qC BK156.out 2).trans rfl; have hfz37_0 := qF BK156.out 0; have hfz37_1 := qF BK156.out 1; have hfz37_2 := qF BK156.out 2; have CA11 := fun W (hgW : HG W) => fuseelaw27_num.calls t155 t163 W hgW A11.out; try simp only [errW_none, errW_some] at CA11) | (go_at_call 46; (with_reducible refine (CA11 _ (HG.below hgL (Nat.le_refl _) (by repeat (first | (with_reducible first | exact HB.out | apply qpA | apply qpN | apply qp1 | refine qpS ?_ GE135.out | refine qpS ?_ GE140.out | refine qpS ?_ GE145.out | refine qpS ?_ GE156.out) | exact HB.out)))).mono ?_); rintro e w38 ⟨rfl, hb⟩; have n0_ := qS (qB (g := gb135) (o := .cells #[.bool t131, .int .i64 t132, .int .i64 t133] 81 (0, 0)) (by (with_reducible repeat (first | refine qN ?_ _ | refine qD ?_ | refine qA ?_ _)); refine blk_far ?_ NB135_156.out _; (with_reducible repeat (first | refine qN ?_ _ | refine qD ?_ | refine qA ?_ _)); refine blk_far ?_ NB135_156.out _; (with_reducible repeat (first | refine qN ?_ _ | refine qD ?_ | refine qA ?_ _)); refine blk_far ?_ NB135_156.out _; (with_reducible repeat (first | refine qN ?_ _ | refine qD ?_ | refine qA ?_ _)); exact BK135.out) hb); have n1_ := qS (qB (g := gb140) (o := .cells #[.bool t136, .int .i64 t137, .int .i64 t138] 81 (0, 0)) (by (with_reducible repeat (first | refine qN ?_ _ | refine qD ?_ | refine qA ?_ _)); refine blk_far ?_ NB140_156.out _; (with_reducible repeat (first | refine qN ?_ _ | refine qD ?_ | refine qA ?_ _)); refine blk_far ?_ NB140_156.out _; (with_reducible repeat (first | refine qN ?_ _ | refine qD ?_ | refine qA ?_ _)); refine blk_far ?_ NB140_156.out _; (with_reducible repeat (first | refine qN ?_ _ | refine qD ?_ | refine qA ?_ _)); exact BK140.out) hb); have n2_ := qS (qB (g := gb145) (o := .cells #[.bool t141, .int .i64 t142, .int .i64 t143] 81 (0, 0)) (by (with_reducible repeat (first | refine qN ?_ _ | refine qD ?_ | refine qA ?_ _)); refine blk_far ?_ NB145_156.out _; (with_reducible repeat (first | refine qN ?_ _ | refine qD ?_ | refine qA ?_ _)); refine blk_far ?_ NB145_156.out _; (with_reducible repeat (first | refine qN ?_ _ | refine qD ?_ | refine qA ?_ _)); refine blk_far ?_ NB145_156.out _; (with_reducible repeat (first | refine qN ?_ _ | refine qD ?_ | refine qA ?_ _)); exact BK145.out) hb); have n3_ := qS (qB (g := gb156) (o := .cells #[.bool t152, .int .i64 t153, .int .i64 t154] 81 (0, 0)) (by (with_reducible repeat (first | refine qN ?_ _ | refine qD ?_ | refine qA ?_ _)); refine blk_put (cs := #[.bool t152, .int .i64 t153, .int .i64 0]) ?_ 2 _ rfl; (with_reducible repeat (first | refine qN ?_ _ | refine qD ?_ | refine qA ?_ _)); refine blk_put (cs := #[.bool t152, .int .i64 0, .int .i64 0]) ?_ 1 _ rfl; (with_reducible repeat (first | refine qN ?_ _ | refine qD ?_ | refine qA ?_ _)); refine blk_put (cs := #[.bool false, .int .i64 0, .int .i64 0]) ?_ 0 _ rfl; (with_reducible repeat (first | refine qN ?_ _ | refine qD ?_ | refine qA ?_ _)); exact BK156.out) hb); have n4_ := qS (below_step (by repeat (first | (with_reducible first | exact HB.out | apply qpA | apply qpN | apply qp1 | refine qpS ?_ GE135.out | refine qpS ?_ GE140.out | refine qpS ?_ GE145.out | refine qpS ?_ GE156.out) | exact HB.out)) hb); clear BK135; clear BK140; clear BK145; clear BK156; clear HB; have BK135 := n0_; have BK140 := n1_; have BK145 := n2_; have BK156 := n3_; have HB := n4_; clear n0_ n1_ n2_ n3_ n4_; (try clear hb); (try clear hb2); (try clear hk); (try clear hi)))
          go_ret
          exact ⟨by first | rfl | (simp [errW_none, errW_some] <;> rfl) | (simp [*, errW_none, errW_some] <;> rfl), by repeat (first | (with_reducible first | exact HB.out | apply qpA | apply qpN | apply qp1 | refine qpS ?_ GE135.out | refine qpS ?_ GE140.out | refine qpS ?_ GE145.out | refine qpS ?_ GE156.out) | exact HB.out)⟩
         ·rw [if_neg c10] at H
          exact absurd H (by simp)
        ·rw [if_neg c9] at H
         exact absurd H (by simp)
       ·rw [if_neg c8] at H
        exact absurd H (by simp)
      ·have H1 : (none) = some r := by rw [if_neg (show ¬ (some q162).isNone = true by simp)] at H; exact H
       clear H
       have H := H1
       clear H1
       try simp only [errW_none, errW_some]
       exact absurd H (by simp)
     ·have H1 : (none) = some r := by rw [if_neg (show ¬ (some q161).isNone = true by simp)] at H; exact H
      clear H
      have H := H1
      clear H1
      try simp only [errW_none, errW_some]
      exact absurd H (by simp)
    ·have H1 : (none) = some r := by rw [if_neg (show ¬ (some q160).isNone = true by simp)] at H; exact H
     clear H
     have H := H1
     clear H1
     try simp only [errW_none, errW_some]
     exact absurd H (by simp)
   ·have H1 : (none) = some r := by rw [if_neg (show ¬ (some q159).isNone = true by simp)] at H; exact H
    clear H
    have H := H1
    clear H1
    try simp only [errW_none, errW_some]
    exact absurd H (by simp)
  ·have H1 : (none) = some r := by rw [if_neg (show ¬ (some q158).isNone = true by simp)] at H; exact H
   clear H
   have H := H1
   clear H1
   try simp only [errW_none, errW_some]
   exact absurd H (by simp)
 ·have H1 : (none) = some r := by rw [if_neg (show ¬ (some q157).isNone = true by simp)] at H; exact H
  clear H
  have H := H1
  clear H1
  try simp only [errW_none, errW_some]
  exact absurd H (by simp)

end Go.Proofs.YtfipgpfmlkfkfaaDoor.MPauseHolds
