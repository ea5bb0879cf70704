/- Printed by wip/gen/mp.py: Go functions as plain Lean functions, and that the calls do what these say. -/
import Derived.Test.YtnlaiiophongmaaDoorMSlotRoundx0
import Derived.Test.YtnlaiiophongmaaDoorMSlotRoundx1
namespace Go.Proofs.YtnlaiiophongmaaDoor.MSlotRound
open Go.RowKit Go.Proofs.YtnlaiiophongmaaDoorW.PrintWords Go.Proofs.YtnlaiiophongmaaDoorW.PrintLast Go.Proofs.YtnlaiiophongmaaDoorW.PrintMore
attribute [local go_sem] max2_int min2_int max_two min_two max_three min_three max_four min_four   -- for this text's walks alone
set_option linter.unusedVariables false
set_option linter.unusedSimpArgs false

/-! ### slices_Contains_string_string: function 67 -/
def slices_Contains_string_string.f (k : Nat) (l0 : List ByteArray) (a1 : ByteArray) : Option (Bool) := (slices_Index_string_string.f k l0 a1).bind fun t125 => (some (decide (t125 ≥ 0)))
theorem slices_Contains_string_string.mono : ∀ a0 a1 k, LeO (slices_Contains_string_string.f k a0 a1) (slices_Contains_string_string.f (k + 1) a0 a1) := by
 intro a0 a1 k
 unfold slices_Contains_string_string.f
 repeat' first
   | (with_reducible exact slices_Index_string_string.mono _ _ _)
   | (with_reducible exact LeO.refl _)
   | (with_reducible exact LeO.none _)
   | (with_reducible refine LeO.ite ?_ ?_)
   | (with_reducible refine LeO.bind ?_ (fun _ => ?_))
   | exact slices_Index_string_string.mono _ _ _
   | exact LeO.none _
   | refine LeO.ite ?_ ?_
   | refine LeO.bind ?_ (fun _ => ?_)
set_option maxHeartbeats 8000000 in
set_option maxRecDepth 100000 in
theorem slices_Contains_string_string.calls (k : Nat) (A0 : Option Addr) (c0 : Nat) (l0 : List ByteArray) (a1 : ByteArray) (r : Bool) (w : World) (hr0 : Kd.C Kd.string w A0 l0.length l0) (hc0 : l0.length ≤ c0) (h : slices_Contains_string_string.f k l0 a1 = some r) :
  Calls Tryd.prog 67 #[.slice A0 l0.length c0, .string a1] w fun e w' => e = .returned (.bool r) ∧ Drawn0 w w' := by
 have HR0 := qS hr0
 have HC0 := qS hc0
 clear hr0 hc0
 have H : ((slices_Index_string_string.f k l0 a1).bind fun t125 => (some (decide (t125 ≥ 0)))) = some r := h
 clear h
 replace H := Option.bind_eq_some_iff.mp H
 obtain ⟨t125, A30, H⟩ := H
 replace H : (some (decide (t125 ≥ 0))) = some r := H
 have A3 := qS A30
 clear A30
 as_aux_lemma =>
  obtain rfl := Option.some.inj H
  go_enter Tryd.func67, Tryd.ntmps67
  go_wp2_with (first | ((with_reducible refine gate_callee (f := 103) rfl ?_); refine goesL_ (some 7) rfl rfl Tryd.func103 (by kernel_rfl) rfl #[.slice A0 l0.length c0, .string a1] rfl (by (try simp only [List.map_toArray, List.map_cons, List.map_nil]); first | done | rfl | (simp only [*]; done) | (simp only [List.length_drop, List.length_take]; rfl)) ?_; (with_reducible refine (slices_Index_string_string.calls k _ _ l0 a1 t125 _ ?side1 ?side2 A3.out).mono ?_); (case side1 => repeat (first | exact HR0.out | (with_reducible refine Kd.C_alloc ?_ _) | (with_reducible refine Kd.C_drewN ?_ _) | (with_reducible refine Kd.C_drew ?_))); (case side2 => exact HC0.out); rintro e w' ⟨rfl, ⟨nd, rfl⟩⟩; refine ⟨_, rfl, ?_⟩))
  go_ret
  exact ⟨by first | rfl | (simp; done) | (simp [*]; done), by repeat (first | exact Drawn0.refl _ | apply Drawn0.step)⟩

/-! ### slot_Next: function 19 -/
mutual
def slot_Next.j0 : Nat → ByteArray → Int → Int → Int → Bool → Int → List ByteArray → Option (Int × Option Int)
 | 0, _, _, _, _, _, _, _ => none
 | k + 1, x1, x2, x8, x9, x23, x127000, x127001 => if x23 = true then (some (0, some 6)) else (if 0 ≤ x8 then (if x8 < (x127001.length : Int) then (if (rdOf ByteArray.empty x127001 x8).toList = x1.toList then (some (x2, none)) else (slot_Next.l0 k x1 x8 (wrap64 (x2 - x9)) x127000 x127001)) else (none)) else (none))
def slot_Next.l0 : Nat → ByteArray → Int → Int → Int → List ByteArray → Option (Int × Option Int)
 | 0, _, _, _, _, _ => none
 | k + 1, x1, x8, x11, x127000, x127001 => if 0 ≤ x8 then (if x8 < (x127001.length : Int) then (if (rdOf ByteArray.empty x127001 x8).toList = x1.toList then (some (x11, none)) else (if (x127001.length : Int) = 0 then (none) else (slot_Next.l0 k x1 (Int.tmod (wrap64 (x8 + 1)) (x127001.length : Int)) (wrap64 (x11 + x127000)) x127000 x127001))) else (none)) else (none)
end
def slot_Next.f (k : Nat) (a0_0 : Int) (l0_1 : List ByteArray) (a1 : ByteArray) (a2 : Int) : Option (Int × Option Int) := (slot_at.f k a0_0 l0_1 a2).bind fun bt127 => (if bt127.2.2.isNone = true then (if a1.toList = ([] : List UInt8) then (slot_Next.j0 k a1 a2 bt127.1 bt127.2.1 true a0_0 l0_1) else ((slices_Contains_string_string.f k l0_1 a1).bind fun t131 => (slot_Next.j0 k a1 a2 bt127.1 bt127.2.1 (!t131) a0_0 l0_1))) else (some (0, some (bt127.2.2.getD 0))))
theorem slot_Next.mono_l : ∀ k, (∀ y0 y1 y2 y3 y4 y5 y6, LeO (slot_Next.j0 k y0 y1 y2 y3 y4 y5 y6) (slot_Next.j0 (k + 1) y0 y1 y2 y3 y4 y5 y6)) ∧ (∀ y0 y1 y2 y3 y4, LeO (slot_Next.l0 k y0 y1 y2 y3 y4) (slot_Next.l0 (k + 1) y0 y1 y2 y3 y4))
 | 0 => ⟨fun _ _ _ _ _ _ _ r h => by simp [slot_Next.j0] at h, fun _ _ _ _ _ r h => by simp [slot_Next.l0] at h⟩
 | k + 1 => by
  obtain ⟨ih0, ih1⟩ := slot_Next.mono_l k
  refine ⟨?_, ?_⟩
  ·intro y0 y1 y2 y3 y4 y5 y6
   unfold slot_Next.j0
   repeat' first
   | (with_reducible exact ih0 _ _ _ _ _ _ _)
   | (with_reducible exact ih1 _ _ _ _ _)
   | (with_reducible exact slices_Contains_string_string.mono _ _ _)
   | (with_reducible exact slot_at.mono _ _ _ _)
   | (with_reducible exact LeO.refl _)
   | (with_reducible exact LeO.none _)
   | (with_reducible refine LeO.ite ?_ ?_)
   | (with_reducible refine LeO.bind ?_ (fun _ => ?_))
   | exact ih0 _ _ _ _ _ _ _
   | exact ih1 _ _ _ _ _
   | exact slices_Contains_string_string.mono _ _ _
   | exact slot_at.mono _ _ _ _
   | exact LeO.none _
   | refine LeO.ite ?_ ?_
   | refine LeO.bind ?_ (fun _ => ?_)
  ·intro y0 y1 y2 y3 y4
   unfold slot_Next.l0
   repeat' first
   | (with_reducible exact ih0 _ _ _ _ _ _ _)
   | (with_reducible exact ih1 _ _ _ _ _)
   | (with_reducible exact slices_Contains_string_string.mono _ _ _)
   | (with_reducible exact slot_at.mono _ _ _ _)
   | (with_reducible exact LeO.refl _)
   | (with_reducible exact LeO.none _)
   | (with_reducible refine LeO.ite ?_ ?_)
   | (with_reducible refine LeO.bind ?_ (fun _ => ?_))
   | exact ih0 _ _ _ _ _ _ _
   | exact ih1 _ _ _ _ _
   | exact slices_Contains_string_string.mono _ _ _
   | exact slot_at.mono _ _ _ _
   | exact LeO.none _
   | refine LeO.ite ?_ ?_
   | refine LeO.bind ?_ (fun _ => ?_)
theorem slot_Next.mono : ∀ a0 a1 a2 a3 k, LeO (slot_Next.f k a0 a1 a2 a3) (slot_Next.f (k + 1) a0 a1 a2 a3) := by
 intro a0 a1 a2 a3 k
 obtain ⟨ih0, ih1⟩ := slot_Next.mono_l k
 unfold slot_Next.f
 repeat' first
   | (with_reducible exact ih0 _ _ _ _ _ _ _)
   | (with_reducible exact ih1 _ _ _ _ _)
   | (with_reducible exact slices_Contains_string_string.mono _ _ _)
   | (with_reducible exact slot_at.mono _ _ _ _)
   | (with_reducible exact LeO.refl _)
   | (with_reducible exact LeO.none _)
   | (with_reducible refine LeO.ite ?_ ?_)
   | (with_reducible refine LeO.bind ?_ (fun _ => ?_))
   | exact ih0 _ _ _ _ _ _ _
   | exact ih1 _ _ _ _ _
   | exact slices_Contains_string_string.mono _ _ _
   | exact slot_at.mono _ _ _ _
   | exact LeO.none _
   | refine LeO.ite ?_ ?_
   | refine LeO.bind ?_ (fun _ => ?_)
set_option maxHeartbeats 8000000 in
set_option maxRecDepth 100000 in
theorem slot_Next.calls (k : Nat) (a0_0 : Int) (A0_1 : Option Addr) (c0_1 : Nat) (l0_1 : List ByteArray) (a1 : ByteArray) (a2 : Int) (r1 : Int) (r2 : Option Int) (w : World) (hr0_1 : Kd.C Kd.string w A0_1 l0_1.length l0_1) (hc0_1 : l0_1.length ≤ c0_1) (h : slot_Next.f k a0_0 l0_1 a1 a2 = some (r1, r2)) :
  Calls Tryd.prog 19 #[.agg #[.int .i64 a0_0, .slice A0_1 l0_1.length c0_1], .string a1, .int .i64 a2] w fun e w' => e = .returned (.tuple #[.int .i64 r1, errW r2]) ∧ Below w.heap.size w w' := by
 have hu26 := Tryd.underlying26
 have hu28 := Tryd.underlying28
 have hu128 := Tryd.underlying128
 have HR0_1 := qS hr0_1
 have HC0_1 := qS hc0_1
 clear hr0_1 hc0_1
 have HB := qS (Below.refl w.heap.size w)
 have H : ((slot_at.f k a0_0 l0_1 a2).bind fun bt127 => (if bt127.2.2.isNone = true then (if a1.toList = ([] : List UInt8) then (slot_Next.j0 k a1 a2 bt127.1 bt127.2.1 true a0_0 l0_1) else ((slices_Contains_string_string.f k l0_1 a1).bind fun t131 => (slot_Next.j0 k a1 a2 bt127.1 bt127.2.1 (!t131) a0_0 l0_1))) else (some (0, some (bt127.2.2.getD 0))))) = some (r1, r2) := h
 clear h
 replace H := Option.bind_eq_some_iff.mp H
 obtain ⟨⟨t127, t128, t129⟩, A40, H⟩ := H
 replace H : (if t129.isNone = true then (if a1.toList = ([] : List UInt8) then (slot_Next.j0 k a1 a2 t127 t128 true a0_0 l0_1) else ((slices_Contains_string_string.f k l0_1 a1).bind fun t131 => (slot_Next.j0 k a1 a2 t127 t128 (!t131) a0_0 l0_1))) else (some (0, some (t129.getD 0)))) = some (r1, r2) := H
 have A4 := qS A40
 clear A40
 rcases t129 with _ | q130
 ·have H1 : (if a1.toList = ([] : List UInt8) then (slot_Next.j0 k a1 a2 t127 t128 true a0_0 l0_1) else ((slices_Contains_string_string.f k l0_1 a1).bind fun t131 => (slot_Next.j0 k a1 a2 t127 t128 (!t131) a0_0 l0_1))) = some (r1, r2) := by rw [if_pos (show (none : Option Int).isNone = true by rfl)] at H; exact H
  clear H
  have H := H1
  clear H1
  try simp only [errW_none, errW_some]
  have HC5 := qS H
  clear H
  go_enter Tryd.func19, Tryd.ntmps19
  go_upto_region 4 with (first | ((with_reducible refine gate_dst (N := 3) rfl ?_); refine box_event ?hg (N := 3) ?hd (cs := #[.int .i64 a0_0, .slice A0_1 l0_1.length c0_1]) (t := 26) ?hr ?_; (case hd => rfl); (case hg => rfl); (case hr => first | (go_simp; done) | (go_simp; rfl)); intro gb126 hg w6 hbox hb; have n0_ := qS (below_step (by repeat (first | (with_reducible first | exact HB.out | apply qpA | apply qpN | apply qp1) | exact HB.out)) hb); have n1_ := qS (hbox); have n2_ := qS ((by rw [hg]; exact (below_size (by repeat (first | (with_reducible first | exact HB.out | apply qpA | apply qpN | apply qp1) | exact HB.out))) : w.heap.size ≤ gb126)); have n3_ := qS ((by rw [hg]; exact (below_size (by repeat (first | (with_reducible first | exact HB.out | apply qpA | apply qpN | apply qp1) | exact HB.out))) : w.heap.size ≤ gb126)); clear HB; have HB := n0_; have BK126 := n1_; have GW126 := n2_; have GE126 := n3_; clear n0_ n1_ n2_ n3_; clear hb hbox hg; have hcz7_0 : w6.cell? ⟨gb126, 0, none⟩ = some (.int .i64 a0_0) := (qC BK126.out 0).trans rfl; have hcz7_1 : w6.cell? ⟨gb126, 1, none⟩ = some (.slice A0_1 l0_1.length c0_1) := (qC BK126.out 1).trans rfl; have hfz7_0 := qF BK126.out 0; have hfz7_1 := qF BK126.out 1) | ((with_reducible refine gate_callee (f := 65) rfl ?_); refine goesL_ (some 15) rfl rfl Tryd.func65 (by kernel_rfl) rfl #[.agg #[.int .i64 a0_0, .slice A0_1 l0_1.length c0_1], .int .i64 a2] rfl (by (try simp only [List.map_toArray, List.map_cons, List.map_nil]); first | done | rfl | (simp only [*]; done) | (simp only [List.length_drop, List.length_take]; rfl)) ?_; (with_reducible refine (slot_at.calls k a0_0 _ _ l0_1 a2 t127 t128 none _ ?side1 ?side2 A4.out).mono ?_); (case side1 => repeat (first | exact (Kd.C_below HR0_1.out HB.out) | (with_reducible refine Kd.C_alloc ?_ _) | (with_reducible refine Kd.C_drewN ?_ _) | (with_reducible refine Kd.C_drew ?_))); (case side2 => exact HC0_1.out); rintro e w8 ⟨rfl, hb⟩; refine ⟨_, rfl, ?_⟩; have n0_ := qS (qB (g := gb126) (o := .cells #[.int .i64 a0_0, .slice A0_1 l0_1.length c0_1] 26 (0, 0)) (by (with_reducible repeat (first | refine qN ?_ _ | refine qD ?_ | refine qA ?_ _)); exact BK126.out) hb); have n1_ := qS (below_step (by repeat (first | (with_reducible first | exact HB.out | apply qpA | apply qpN | apply qp1 | refine qpS ?_ GE126.out) | exact HB.out)) hb); clear BK126; clear HB; have BK126 := n0_; have HB := n1_; clear n0_ n1_; (try clear hb); (try clear hb2); (try clear hk); (try clear hi); (try simp only [errW_none, errW_some])))
  (try simp only [Act.put, List.setIfInBounds_toArray, List.set_cons_zero, List.set_cons_succ])
  go_cut [23] (fun v23 wc => ∃ (kq : Nat) (x23_4 : Bool), v23 = .bool x23_4 ∧ Aside0 (slot_Next.j0 kq a1 a2 t127 t128 x23_4 a0_0 l0_1 = some (r1, r2)) ∧ Aside0 (kq ≤ k) ∧ Aside0 (wc.heap[gb126]? = some (.cells #[.int .i64 a0_0, (.slice A0_1 l0_1.length c0_1)] 26 (0, 0))) ∧ Aside0 (Below w.heap.size w wc))
  case first =>
   have H := HC5.out
   clear HC5
   by_cases c9 : a1.toList = ([] : List UInt8)
   ·rw [if_pos c9] at H
    have c9b0 : (a1.toList == ([] : List UInt8)) = true := beq_iff_eq.mpr c9
    have c9b1 : (a1.toList != ([] : List UInt8)) = false := bne_eq_false_iff_eq.mpr c9
    clear c9
    (first | rw [c9b0] | (simp only [i64_w, i32_w]; rw [c9b0]) | skip)
    as_aux_lemma =>
     have H' := qS H
     clear H
     go_wp2
     go_meet
     case rel => exact ⟨_, (true), (by first | rfl | (simp; done) | (simp [*]; done)), H', ⟨by first | omega | exact Nat.le_refl _⟩, ⟨by (with_reducible repeat (first | refine qN ?_ _ | refine qD ?_ | refine qA ?_ _)); exact BK126.out⟩, ⟨by repeat (first | (with_reducible first | exact HB.out | apply qpA | apply qpN | apply qp1 | refine qpS ?_ GE126.out) | exact HB.out)⟩⟩
   ·rw [if_neg c9] at H
    have c9b0 : (a1.toList == ([] : List UInt8)) = false := beq_eq_false_iff_ne.mpr c9
    have c9b1 : (a1.toList != ([] : List UInt8)) = true := bne_iff_ne.mpr c9
    (first | rw [c9b0] | (simp only [i64_w, i32_w]; rw [c9b0]) | skip)
    replace H := Option.bind_eq_some_iff.mp H
    obtain ⟨t131, A100, H⟩ := H
    replace H : (slot_Next.j0 k a1 a2 t127 t128 (!t131) a0_0 l0_1) = some (r1, r2) := H
    have A10 := qS A100
    clear A100
    as_aux_lemma =>
     have H' := qS H
     clear H
     have hcz11_0 : w8.cell? ⟨gb126, 0, none⟩ = some (.int .i64 a0_0) := (qC BK126.out 0).trans rfl
     have hcz11_1 : w8.cell? ⟨gb126, 1, none⟩ = some (.slice A0_1 l0_1.length c0_1) := (qC BK126.out 1).trans rfl
     have hfz11_0 := qF BK126.out 0
     have hfz11_1 := qF BK126.out 1
     go_wp2_with (first | (go_at_call 67; (with_reducible refine (slices_Contains_string_string.calls k _ _ l0_1 a1 t131 _ ?side1 ?side2 A10.out).mono ?_); (case side1 => repeat (first | exact (Kd.C_below HR0_1.out HB.out) | (with_reducible refine Kd.C_alloc ?_ _) | (with_reducible refine Kd.C_drewN ?_ _) | (with_reducible refine Kd.C_drew ?_))); (case side2 => exact HC0_1.out); rintro e w' ⟨rfl, ⟨nd, rfl⟩⟩))
     go_meet
     case rel => exact ⟨_, (!t131), (by first | rfl | (simp; done) | (simp [*]; done)), H', ⟨by first | omega | exact Nat.le_refl _⟩, ⟨by (with_reducible repeat (first | refine qN ?_ _ | refine qD ?_ | refine qA ?_ _)); exact BK126.out⟩, ⟨by repeat (first | (with_reducible first | exact HB.out | apply qpA | apply qpN | apply qp1 | refine qpS ?_ GE126.out) | exact HB.out)⟩⟩
  case rest =>
   clear HC5
   try clear c1
   try clear q1
   try clear p2
   try clear c6
   try clear c9
   try clear c9b0
   try clear c9b1
   try clear hcz11_0
   try clear hcz11_1
   try clear hcz7_0
   try clear hcz7_1
   try clear hfz11_0
   try clear hfz11_1
   try clear hfz7_0
   try clear hfz7_1
   try clear q130
   obtain ⟨kq, x23_4, rfl, HA, HJ4, BK126, HB⟩ := hcut
   cases kq with
   | zero => exact absurd HA.out (by simp [slot_Next.j0])
   | succ kj4 =>
    have H := HA.out
    clear HA
    simp only [slot_Next.j0] at H
    by_cases c12 : x23_4 = true
    ·subst c12
     have H1 : (some (0, some 6)) = some (r1, r2) := by rw [if_pos rfl] at H; exact H
     clear H
     have H := H1
     clear H1
     as_aux_lemma =>
      simp only [Option.some.injEq, Prod.mk.injEq] at H
      obtain ⟨rfl, rfl⟩ := H
      go_wp2
      go_ret2
      exact ⟨by first | rfl | (simp [errW_none, errW_some] <;> rfl) | (simp [*, errW_none, errW_some] <;> rfl), by repeat (first | (with_reducible first | exact HB.out | apply qpA | apply qpN | apply qp1 | refine qpS ?_ GE126.out) | exact HB.out)⟩
    ·replace c12 := Bool.eq_false_iff.mpr c12
     subst c12
     have H1 : (if 0 ≤ t127 then (if t127 < (l0_1.length : Int) then (if (rdOf ByteArray.empty l0_1 t127).toList = a1.toList then (some (a2, none)) else (slot_Next.l0 kj4 a1 t127 (wrap64 (a2 - t128)) a0_0 l0_1)) else (none)) else (none)) = some (r1, r2) := by rw [if_neg (show ¬ (false = true) by decide)] at H; exact H
     clear H
     have H := H1
     clear H1
     by_cases c13 : 0 ≤ t127
     ·rw [if_pos c13] at H
      have c13b0 : decide (0 ≤ t127) = true := decide_eq_true c13
      clear c13
      by_cases c14 : t127 < (l0_1.length : Int)
      ·rw [if_pos c14] at H
       have c14b0 : decide (t127 < (l0_1.length : Int)) = true := decide_eq_true c14
       clear c14
       by_cases c15 : (rdOf ByteArray.empty l0_1 t127).toList = a1.toList
       ·rw [if_pos c15] at H
        have c15b0 : ((rdOf ByteArray.empty l0_1 t127).toList == a1.toList) = true := beq_iff_eq.mpr c15
        have c15b1 : ((rdOf ByteArray.empty l0_1 t127).toList != a1.toList) = false := bne_eq_false_iff_eq.mpr c15
        clear c15
        as_aux_lemma =>
         simp only [Option.some.injEq, Prod.mk.injEq] at H
         obtain ⟨rfl, rfl⟩ := H
         have hcz16_0 : wc.cell? ⟨gb126, 0, none⟩ = some (.int .i64 a0_0) := (qC BK126.out 0).trans rfl
         have hcz16_1 : wc.cell? ⟨gb126, 1, none⟩ = some (.slice A0_1 l0_1.length c0_1) := (qC BK126.out 1).trans rfl
         have hfz16_0 := qF BK126.out 0
         have hfz16_1 := qF BK126.out 1
         have p132 : 0 ≤ (t127 : Int) := of_decide_eq_true (by first | (with_reducible assumption) | assumption)
         have q132 : t127 < (l0_1.length : Int) := of_decide_eq_true (by first | (with_reducible assumption) | assumption)
         obtain ⟨ad132, e132, hx132_0⟩ := Kd.at_string HR0_1.out t127 p132 q132
         cases e132
         replace hx132_0 := (HB.out.cell (World.block_lt_of_cell? w _ hx132_0)).trans hx132_0
         replace p132 := eq_true p132
         replace q132 := eq_true q132
         go_wp2
         go_ret2
         exact ⟨by first | rfl | (simp [errW_none, errW_some] <;> rfl) | (simp [*, errW_none, errW_some] <;> rfl), by repeat (first | (with_reducible first | exact HB.out | apply qpA | apply qpN | apply qp1 | refine qpS ?_ GE126.out) | exact HB.out)⟩
       ·rw [if_neg c15] at H
        have c15b0 : ((rdOf ByteArray.empty l0_1 t127).toList == a1.toList) = false := beq_eq_false_iff_ne.mpr c15
        have c15b1 : ((rdOf ByteArray.empty l0_1 t127).toList != a1.toList) = true := bne_iff_ne.mpr c15
        have H' := qS H
        clear H
        have hcz17_0 : wc.cell? ⟨gb126, 0, none⟩ = some (.int .i64 a0_0) := (qC BK126.out 0).trans rfl
        have hcz17_1 : wc.cell? ⟨gb126, 1, none⟩ = some (.slice A0_1 l0_1.length c0_1) := (qC BK126.out 1).trans rfl
        have hfz17_0 := qF BK126.out 0
        have hfz17_1 := qF BK126.out 1
        have p132 : 0 ≤ (t127 : Int) := of_decide_eq_true (by first | (with_reducible assumption) | assumption)
        have q132 : t127 < (l0_1.length : Int) := of_decide_eq_true (by first | (with_reducible assumption) | assumption)
        obtain ⟨ad132, e132, hx132_0⟩ := Kd.at_string HR0_1.out t127 p132 q132
        cases e132
        replace hx132_0 := (HB.out.cell (World.block_lt_of_cell? w _ hx132_0)).trans hx132_0
        replace p132 := eq_true p132
        replace q132 := eq_true q132
        go_wp2
        go_loopg [8, 11] kj4 (fun kq v8 v11 w' => ∃ (x8_2 : Int) (x11_2 : Int), v8 = .int .i64 x8_2 ∧ v11 = .int .i64 x11_2 ∧ Aside0 (slot_Next.l0 kq a1 x8_2 x11_2 a0_0 l0_1 = some (r1, r2)) ∧ Aside0 (kq ≤ kj4) ∧ Aside0 (w'.heap[gb126]? = some (.cells #[.int .i64 a0_0, (.slice (some ad132) l0_1.length c0_1)] 26 (0, 0))) ∧ Aside0 (Below w.heap.size w w'))
        case atStart => exact ⟨(t127), (wrap64 (a2 - t128)), (by first | rfl | (simp; done) | (simp [*]; done)), (by first | rfl | (simp; done) | (simp [*]; done)), H', ⟨Nat.le_refl _⟩, ⟨by (with_reducible repeat (first | refine qN ?_ _ | refine qD ?_ | refine qA ?_ _)); exact BK126.out⟩, ⟨by repeat (first | (with_reducible first | exact HB.out | apply qpA | apply qpN | apply qp1 | refine qpS ?_ GE126.out) | exact HB.out)⟩⟩
        case round =>
         clear H'
         try clear c1
         try clear p1
         try clear q1
         try clear hx1
         try clear p2
         try clear c6
         try clear p6
         try clear c9
         try clear c9b0
         try clear c9b1
         try clear c12
         try clear c13
         try clear c13b0
         try clear p13
         try clear q13
         try clear hx13
         try clear c14
         try clear c14b0
         try clear c15
         try clear c15b0
         try clear c15b1
         try clear hcz11_0
         try clear hcz11_1
         try clear hcz16_0
         try clear hcz16_1
         try clear hcz17_0
         try clear hcz17_1
         try clear hcz7_0
         try clear hcz7_1
         try clear hfz11_0
         try clear hfz11_1
         try clear hfz16_0
         try clear hfz16_1
         try clear hfz17_0
         try clear hfz17_1
         try clear hfz7_0
         try clear hfz7_1
         try clear hx132_0
         try clear p132
         try clear p2
         try clear q1
         try clear q130
         try clear q132
         obtain ⟨x8_2, x11_2, rfl, rfl, HA, HK2, BK126, HB⟩ := hrel
         cases gk with
         | zero => exact absurd HA.out (by simp [slot_Next.l0])
         | succ k2 =>
          have H := HA.out
          clear HA
          simp only [slot_Next.l0] at H
          by_cases c18 : 0 ≤ x8_2
          ·rw [if_pos c18] at H
           have c18b0 : decide (0 ≤ x8_2) = true := decide_eq_true c18
           clear c18
           by_cases c19 : x8_2 < (l0_1.length : Int)
           ·rw [if_pos c19] at H
            have c19b0 : decide (x8_2 < (l0_1.length : Int)) = true := decide_eq_true c19
            clear c19
            by_cases c20 : (rdOf ByteArray.empty l0_1 x8_2).toList = a1.toList
            ·rw [if_pos c20] at H
             have c20b0 : ((rdOf ByteArray.empty l0_1 x8_2).toList == a1.toList) = true := beq_iff_eq.mpr c20
             have c20b1 : ((rdOf ByteArray.empty l0_1 x8_2).toList != a1.toList) = false := bne_eq_false_iff_eq.mpr c20
             clear c20
             as_aux_lemma =>
              simp only [Option.some.injEq, Prod.mk.injEq] at H
              obtain ⟨rfl, rfl⟩ := H
              have hcz21_0 : wr.cell? ⟨gb126, 0, none⟩ = some (.int .i64 a0_0) := (qC BK126.out 0).trans rfl
              have hcz21_1 : wr.cell? ⟨gb126, 1, none⟩ = some (.slice (some ad132) l0_1.length c0_1) := (qC BK126.out 1).trans rfl
              have hfz21_0 := qF BK126.out 0
              have hfz21_1 := qF BK126.out 1
              have p133 : 0 ≤ (x8_2 : Int) := of_decide_eq_true (by first | (with_reducible assumption) | assumption)
              have q133 : x8_2 < (l0_1.length : Int) := of_decide_eq_true (by first | (with_reducible assumption) | assumption)
              obtain ⟨ad133, e133, hx133_0⟩ := Kd.at_string HR0_1.out x8_2 p133 q133
              obtain rfl : ad132 = ad133 := (by injection e133)
              replace hx133_0 := (HB.out.cell (World.block_lt_of_cell? w _ hx133_0)).trans hx133_0
              replace p133 := eq_true p133
              replace q133 := eq_true q133
              go_wp2
              go_ret2
              exact ⟨by first | rfl | (simp [errW_none, errW_some] <;> rfl) | (simp [*, errW_none, errW_some] <;> rfl), by repeat (first | (with_reducible first | exact HB.out | apply qpA | apply qpN | apply qp1 | refine qpS ?_ GE126.out) | exact HB.out)⟩
            ·rw [if_neg c20] at H
             have c20b0 : ((rdOf ByteArray.empty l0_1 x8_2).toList == a1.toList) = false := beq_eq_false_iff_ne.mpr c20
             have c20b1 : ((rdOf ByteArray.empty l0_1 x8_2).toList != a1.toList) = true := bne_iff_ne.mpr c20
             by_cases c22 : (l0_1.length : Int) = 0
             ·rw [if_pos c22] at H
              exact absurd H (by simp)
             ·rw [if_neg c22] at H
              have c22b0 : ((l0_1.length : Int) == 0) = false := beq_eq_false_iff_ne.mpr c22
              have c22b1 : ((l0_1.length : Int) != 0) = true := bne_iff_ne.mpr c22
              have c22b2 : ¬ (l0_1 = []) := fun h_ => c22 (by rw [h_]; rfl)
              as_aux_lemma =>
               have H' := qS H
               clear H
               have hcz23_0 : wr.cell? ⟨gb126, 0, none⟩ = some (.int .i64 a0_0) := (qC BK126.out 0).trans rfl
               have hcz23_1 : wr.cell? ⟨gb126, 1, none⟩ = some (.slice (some ad132) l0_1.length c0_1) := (qC BK126.out 1).trans rfl
               have hfz23_0 := qF BK126.out 0
               have hfz23_1 := qF BK126.out 1
               have p133 : 0 ≤ (x8_2 : Int) := of_decide_eq_true (by first | (with_reducible assumption) | assumption)
               have q133 : x8_2 < (l0_1.length : Int) := of_decide_eq_true (by first | (with_reducible assumption) | assumption)
               obtain ⟨ad133, e133, hx133_0⟩ := Kd.at_string HR0_1.out x8_2 p133 q133
               obtain rfl : ad132 = ad133 := (by injection e133)
               replace hx133_0 := (HB.out.cell (World.block_lt_of_cell? w _ hx133_0)).trans hx133_0
               replace p133 := eq_true p133
               replace q133 := eq_true q133
               go_wp2
               go_roundg k2
               case measure => have := HJ4.out; have := HK2.out; omega
               case rel => exact ⟨(Int.tmod (wrap64 (x8_2 + 1)) (l0_1.length : Int)), (wrap64 (x11_2 + a0_0)), (by first | rfl | (simp; done) | (simp [*]; done)), (by first | rfl | (simp; done) | (simp [*]; done)), H', ⟨by have := HJ4.out; have := HK2.out; omega⟩, ⟨by (with_reducible repeat (first | refine qN ?_ _ | refine qD ?_ | refine qA ?_ _)); exact BK126.out⟩, ⟨by repeat (first | (with_reducible first | exact HB.out | apply qpA | apply qpN | apply qp1 | refine qpS ?_ GE126.out) | exact HB.out)⟩⟩
           ·rw [if_neg c19] at H
            exact absurd H (by simp)
          ·rw [if_neg c18] at H
           exact absurd H (by simp)
      ·rw [if_neg c14] at H
       exact absurd H (by simp)
     ·rw [if_neg c13] at H
      exact absurd H (by simp)
 ·have H1 : (some (0, some q130)) = some (r1, r2) := by rw [if_neg (show ¬ (some q130).isNone = true by simp)] at H; exact H
  clear H
  have H := H1
  clear H1
  try simp only [errW_none, errW_some]
  as_aux_lemma =>
   simp only [Option.some.injEq, Prod.mk.injEq] at H
   obtain ⟨rfl, rfl⟩ := H
   go_enter Tryd.func19, Tryd.ntmps19
   go_wp2_with (first | ((with_reducible refine gate_dst (N := 3) rfl ?_); refine box_event ?hg (N := 3) ?hd (cs := #[.int .i64 a0_0, .slice A0_1 l0_1.length c0_1]) (t := 26) ?hr ?_; (case hd => rfl); (case hg => rfl); (case hr => first | (go_simp; done) | (go_simp; rfl)); intro gb126 hg w24 hbox hb; have n0_ := qS (below_step (by repeat (first | (with_reducible first | exact HB.out | apply qpA | apply qpN | apply qp1) | exact HB.out)) hb); have n1_ := qS (hbox); have n2_ := qS ((by rw [hg]; exact (below_size (by repeat (first | (with_reducible first | exact HB.out | apply qpA | apply qpN | apply qp1) | exact HB.out))) : w.heap.size ≤ gb126)); have n3_ := qS ((by rw [hg]; exact (below_size (by repeat (first | (with_reducible first | exact HB.out | apply qpA | apply qpN | apply qp1) | exact HB.out))) : w.heap.size ≤ gb126)); clear HB; have HB := n0_; have BK126 := n1_; have GW126 := n2_; have GE126 := n3_; clear n0_ n1_ n2_ n3_; clear hb hbox hg; have hcz25_0 : w24.cell? ⟨gb126, 0, none⟩ = some (.int .i64 a0_0) := (qC BK126.out 0).trans rfl; have hcz25_1 : w24.cell? ⟨gb126, 1, none⟩ = some (.slice A0_1 l0_1.length c0_1) := (qC BK126.out 1).trans rfl; have hfz25_0 := qF BK126.out 0; have hfz25_1 := qF BK126.out 1) | ((with_reducible refine gate_callee (f := 65) rfl ?_); refine goesL_ (some 15) rfl rfl Tryd.func65 (by kernel_rfl) rfl #[.agg #[.int .i64 a0_0, .slice A0_1 l0_1.length c0_1], .int .i64 a2] rfl (by (try simp only [List.map_toArray, List.map_cons, List.map_nil]); first | done | rfl | (simp only [*]; done) | (simp only [List.length_drop, List.length_take]; rfl)) ?_; (with_reducible refine (slot_at.calls k a0_0 _ _ l0_1 a2 t127 t128 (some q130) _ ?side1 ?side2 A4.out).mono ?_); (case side1 => repeat (first | exact (Kd.C_below HR0_1.out HB.out) | (with_reducible refine Kd.C_alloc ?_ _) | (with_reducible refine Kd.C_drewN ?_ _) | (with_reducible refine Kd.C_drew ?_))); (case side2 => exact HC0_1.out); rintro e w26 ⟨rfl, hb⟩; refine ⟨_, rfl, ?_⟩; have n0_ := qS (qB (g := gb126) (o := .cells #[.int .i64 a0_0, .slice A0_1 l0_1.length c0_1] 26 (0, 0)) (by (with_reducible repeat (first | refine qN ?_ _ | refine qD ?_ | refine qA ?_ _)); exact BK126.out) hb); have n1_ := qS (below_step (by repeat (first | (with_reducible first | exact HB.out | apply qpA | apply qpN | apply qp1 | refine qpS ?_ GE126.out) | exact HB.out)) hb); clear BK126; clear HB; have BK126 := n0_; have HB := n1_; clear n0_ n1_; (try clear hb); (try clear hb2); (try clear hk); (try clear hi); (try simp only [errW_none, errW_some])))
   go_ret2
   exact ⟨by first | rfl | (simp [errW_none, errW_some] <;> rfl) | (simp [*, errW_none, errW_some] <;> rfl), by repeat (first | (with_reducible first | exact HB.out | apply qpA | apply qpN | apply qp1 | refine qpS ?_ GE126.out) | exact HB.out)⟩

/-! ### fuseelaw35_num: function 22 -/
def fuseelaw35_num.f (a0 : Option Int) : Option Int := some (numE a0)
theorem fuseelaw35_num.calls (a0 : Option Int) (r : Int) (w : World) (hgL : HG w) (h : fuseelaw35_num.f a0 = some r) :
    Calls Tryd.prog 22 #[errW a0] w fun e w' => e = .returned (.int .i64 r) ∧ Below w.heap.size w w' := by
  have h2 : numE a0 = r := by simpa [fuseelaw35_num.f] using h
  subst h2
  cases a0 with
  | none => exact _root_.Go.Proofs.YtnlaiiophongmaaDoor.fuseelaw35_num_none w w (St.refl hgL)
  | some c => exact _root_.Go.Proofs.YtnlaiiophongmaaDoor.fuseelaw35_num_some c w w (St.refl hgL)

/-! ### slot_Share: function 23 -/
mutual
def slot_Share.j0 : Nat → ByteArray → Bool → Int → List ByteArray → Option (Int)
 | 0, _, _, _, _ => none
 | k + 1, x1, x14, x135000, x135001 => if x14 = true then (some 0) else (slot_Share.l0 k x1 0 x135001 (x135001.length : Int) 0 x135000 x135001)
def slot_Share.l0 : Nat → ByteArray → Int → List ByteArray → Int → Int → Int → List ByteArray → Option (Int)
 | 0, _, _, _, _, _, _, _ => none
 | k + 1, x1, x5, x16, x17, x18, x135000, x135001 => if x18 < x17 then (if 0 ≤ x18 then (if x18 < (x16.length : Int) then (if (rdOf ByteArray.empty x16 x18).toList = x1.toList then (slot_Share.l0 k x1 (wrap64 (x5 + x135000)) x16 x17 (wrap64 (x18 + 1)) x135000 x135001) else (slot_Share.l0 k x1 x5 x16 x17 (wrap64 (x18 + 1)) x135000 x135001)) else (none)) else (none)) else (some x5)
end
def slot_Share.f (k : Nat) (a0_0 : Int) (l0_1 : List ByteArray) (a1 : ByteArray) : Option (Int) := (slot_Check.f k a0_0 l0_1).bind fun t135 => (if t135.isNone = true then (slot_Share.j0 k a1 (a1.toList == ([] : List UInt8)) a0_0 l0_1) else (slot_Share.j0 k a1 true a0_0 l0_1))
theorem slot_Share.mono_l : ∀ k, (∀ y0 y1 y2 y3, LeO (slot_Share.j0 k y0 y1 y2 y3) (slot_Share.j0 (k + 1) y0 y1 y2 y3)) ∧ (∀ y0 y1 y2 y3 y4 y5 y6, LeO (slot_Share.l0 k y0 y1 y2 y3 y4 y5 y6) (slot_Share.l0 (k + 1) y0 y1 y2 y3 y4 y5 y6))
 | 0 => ⟨fun _ _ _ _ r h => by simp [slot_Share.j0] at h, fun _ _ _ _ _ _ _ r h => by simp [slot_Share.l0] at h⟩
 | k + 1 => by
  obtain ⟨ih0, ih1⟩ := slot_Share.mono_l k
  refine ⟨?_, ?_⟩
  ·intro y0 y1 y2 y3
   unfold slot_Share.j0
   repeat' first
   | (with_reducible exact ih0 _ _ _ _)
   | (with_reducible exact ih1 _ _ _ _ _ _ _)
   | (with_reducible exact slot_Check.mono _ _ _)
   | (with_reducible exact LeO.refl _)
   | (with_reducible exact LeO.none _)
   | (with_reducible refine LeO.ite ?_ ?_)
   | (with_reducible refine LeO.bind ?_ (fun _ => ?_))
   | exact ih0 _ _ _ _
   | exact ih1 _ _ _ _ _ _ _
   | exact slot_Check.mono _ _ _
   | exact LeO.none _
   | refine LeO.ite ?_ ?_
   | refine LeO.bind ?_ (fun _ => ?_)
  ·intro y0 y1 y2 y3 y4 y5 y6
   unfold slot_Share.l0
   repeat' first
   | (with_reducible exact ih0 _ _ _ _)
   | (with_reducible exact ih1 _ _ _ _ _ _ _)
   | (with_reducible exact slot_Check.mono _ _ _)
   | (with_reducible exact LeO.refl _)
   | (with_reducible exact LeO.none _)
   | (with_reducible refine LeO.ite ?_ ?_)
   | (with_reducible refine LeO.bind ?_ (fun _ => ?_))
   | exact ih0 _ _ _ _
   | exact ih1 _ _ _ _ _ _ _
   | exact slot_Check.mono _ _ _
   | exact LeO.none _
   | refine LeO.ite ?_ ?_
   | refine LeO.bind ?_ (fun _ => ?_)
theorem slot_Share.mono : ∀ a0 a1 a2 k, LeO (slot_Share.f k a0 a1 a2) (slot_Share.f (k + 1) a0 a1 a2) := by
 intro a0 a1 a2 k
 obtain ⟨ih0, ih1⟩ := slot_Share.mono_l k
 unfold slot_Share.f
 repeat' first
   | (with_reducible exact ih0 _ _ _ _)
   | (with_reducible exact ih1 _ _ _ _ _ _ _)
   | (with_reducible exact slot_Check.mono _ _ _)
   | (with_reducible exact LeO.refl _)
   | (with_reducible exact LeO.none _)
   | (with_reducible refine LeO.ite ?_ ?_)
   | (with_reducible refine LeO.bind ?_ (fun _ => ?_))
   | exact ih0 _ _ _ _
   | exact ih1 _ _ _ _ _ _ _
   | exact slot_Check.mono _ _ _
   | exact LeO.none _
   | refine LeO.ite ?_ ?_
   | refine LeO.bind ?_ (fun _ => ?_)
set_option maxHeartbeats 8000000 in
set_option maxRecDepth 100000 in
theorem slot_Share.calls (k : Nat) (a0_0 : Int) (A0_1 : Option Addr) (c0_1 : Nat) (l0_1 : List ByteArray) (a1 : ByteArray) (r : Int) (w : World) (hr0_1 : Kd.C Kd.string w A0_1 l0_1.length l0_1) (hc0_1 : l0_1.length ≤ c0_1) (h : slot_Share.f k a0_0 l0_1 a1 = some r) :
  Calls Tryd.prog 23 #[.agg #[.int .i64 a0_0, .slice A0_1 l0_1.length c0_1], .string a1] w fun e w' => e = .returned (.int .i64 r) ∧ Below w.heap.size w w' := by
 have hu26 := Tryd.underlying26
 have hu28 := Tryd.underlying28
 have hu128 := Tryd.underlying128
 have HR0_1 := qS hr0_1
 have HC0_1 := qS hc0_1
 clear hr0_1 hc0_1
 have HB := qS (Below.refl w.heap.size w)
 have H : ((slot_Check.f k a0_0 l0_1).bind fun t135 => (if t135.isNone = true then (slot_Share.j0 k a1 (a1.toList == ([] : List UInt8)) a0_0 l0_1) else (slot_Share.j0 k a1 true a0_0 l0_1))) = some r := h
 clear h
 have HC3 := qS H
 clear H
 go_enter Tryd.func23, Tryd.ntmps23
 go_upto_region 1 with (first | ((with_reducible refine gate_dst (N := 2) rfl ?_); refine box_event ?hg (N := 2) ?hd (cs := #[.int .i64 a0_0, .slice A0_1 l0_1.length c0_1]) (t := 26) ?hr ?_; (case hd => rfl); (case hg => rfl); (case hr => first | (go_simp; done) | (go_simp; rfl)); intro gb134 hg w4 hbox hb; have n0_ := qS (below_step (by repeat (first | (with_reducible first | exact HB.out | apply qpA | apply qpN | apply qp1) | exact HB.out)) hb); have n1_ := qS (hbox); have n2_ := qS ((by rw [hg]; exact (below_size (by repeat (first | (with_reducible first | exact HB.out | apply qpA | apply qpN | apply qp1) | exact HB.out))) : w.heap.size ≤ gb134)); have n3_ := qS ((by rw [hg]; exact (below_size (by repeat (first | (with_reducible first | exact HB.out | apply qpA | apply qpN | apply qp1) | exact HB.out))) : w.heap.size ≤ gb134)); clear HB; have HB := n0_; have BK134 := n1_; have GW134 := n2_; have GE134 := n3_; clear n0_ n1_ n2_ n3_; clear hb hbox hg))
 (try simp only [Act.put, List.setIfInBounds_toArray, List.set_cons_zero, List.set_cons_succ])
 go_cut [14] (fun v14 wc => ∃ (kq : Nat) (x14_2 : Bool), v14 = .bool x14_2 ∧ Aside0 (slot_Share.j0 kq a1 x14_2 a0_0 l0_1 = some r) ∧ Aside0 (kq ≤ k) ∧ Aside0 (wc.heap[gb134]? = some (.cells #[.int .i64 a0_0, (.slice A0_1 l0_1.length c0_1)] 26 (0, 0))) ∧ Aside0 (Below w.heap.size w wc))
 case first =>
  have H := HC3.out
  clear HC3
  replace H := Option.bind_eq_some_iff.mp H
  obtain ⟨t135, A50, H⟩ := H
  replace H : (if t135.isNone = true then (slot_Share.j0 k a1 (a1.toList == ([] : List UInt8)) a0_0 l0_1) else (slot_Share.j0 k a1 true a0_0 l0_1)) = some r := H
  have A5 := qS A50
  clear A50
  rcases t135 with _ | q136
  ·have H1 : (slot_Share.j0 k a1 (a1.toList == ([] : List UInt8)) a0_0 l0_1) = some r := by rw [if_pos (show (none : Option Int).isNone = true by rfl)] at H; exact H
   clear H
   have H := H1
   clear H1
   try simp only [errW_none, errW_some]
   as_aux_lemma =>
    have H' := qS H
    clear H
    have hcz6_0 : w4.cell? ⟨gb134, 0, none⟩ = some (.int .i64 a0_0) := (qC BK134.out 0).trans rfl
    have hcz6_1 : w4.cell? ⟨gb134, 1, none⟩ = some (.slice A0_1 l0_1.length c0_1) := (qC BK134.out 1).trans rfl
    have hfz6_0 := qF BK134.out 0
    have hfz6_1 := qF BK134.out 1
    go_wp2_with (first | ((with_reducible refine gate_callee (f := 24) rfl ?_); refine goesL_ (some 9) rfl rfl Tryd.func24 (by kernel_rfl) rfl #[.agg #[.int .i64 a0_0, .slice A0_1 l0_1.length c0_1]] rfl (by (try simp only [List.map_toArray, List.map_cons, List.map_nil]); first | done | rfl | (simp only [*]; done) | (simp only [List.length_drop, List.length_take]; rfl)) ?_; (with_reducible refine (slot_Check.calls k a0_0 _ _ l0_1 none _ ?side1 ?side2 A5.out).mono ?_); (case side1 => repeat (first | exact (Kd.C_below HR0_1.out HB.out) | (with_reducible refine Kd.C_alloc ?_ _) | (with_reducible refine Kd.C_drewN ?_ _) | (with_reducible refine Kd.C_drew ?_))); (case side2 => exact HC0_1.out); rintro e w7 ⟨rfl, hb⟩; refine ⟨_, rfl, ?_⟩; have n0_ := qS (qB (g := gb134) (o := .cells #[.int .i64 a0_0, .slice A0_1 l0_1.length c0_1] 26 (0, 0)) (by (with_reducible repeat (first | refine qN ?_ _ | refine qD ?_ | refine qA ?_ _)); exact BK134.out) hb); have n1_ := qS (below_step (by repeat (first | (with_reducible first | exact HB.out | apply qpA | apply qpN | apply qp1 | refine qpS ?_ GE134.out) | exact HB.out)) hb); clear BK134; clear HB; have BK134 := n0_; have HB := n1_; clear n0_ n1_; (try clear hb); (try clear hb2); (try clear hk); (try clear hi); (try simp only [errW_none, errW_some])))
    go_meet
    case rel => exact ⟨_, ((a1.toList == ([] : List UInt8))), (by first | rfl | (simp; done) | (simp [*]; done) | (simp; cases a1.toList <;> rfl)), H', ⟨by first | omega | exact Nat.le_refl _⟩, ⟨by (with_reducible repeat (first | refine qN ?_ _ | refine qD ?_ | refine qA ?_ _)); exact BK134.out⟩, ⟨by repeat (first | (with_reducible first | exact HB.out | apply qpA | apply qpN | apply qp1 | refine qpS ?_ GE134.out) | exact HB.out)⟩⟩
  ·have H1 : (slot_Share.j0 k a1 true a0_0 l0_1) = some r := by rw [if_neg (show ¬ (some q136).isNone = true by simp)] at H; exact H
   clear H
   have H := H1
   clear H1
   try simp only [errW_none, errW_some]
   as_aux_lemma =>
    have H' := qS H
    clear H
    have hcz8_0 : w4.cell? ⟨gb134, 0, none⟩ = some (.int .i64 a0_0) := (qC BK134.out 0).trans rfl
    have hcz8_1 : w4.cell? ⟨gb134, 1, none⟩ = some (.slice A0_1 l0_1.length c0_1) := (qC BK134.out 1).trans rfl
    have hfz8_0 := qF BK134.out 0
    have hfz8_1 := qF BK134.out 1
    go_wp2_with (first | ((with_reducible refine gate_callee (f := 24) rfl ?_); refine goesL_ (some 9) rfl rfl Tryd.func24 (by kernel_rfl) rfl #[.agg #[.int .i64 a0_0, .slice A0_1 l0_1.length c0_1]] rfl (by (try simp only [List.map_toArray, List.map_cons, List.map_nil]); first | done | rfl | (simp only [*]; done) | (simp only [List.length_drop, List.length_take]; rfl)) ?_; (with_reducible refine (slot_Check.calls k a0_0 _ _ l0_1 (some q136) _ ?side1 ?side2 A5.out).mono ?_); (case side1 => repeat (first | exact (Kd.C_below HR0_1.out HB.out) | (with_reducible refine Kd.C_alloc ?_ _) | (with_reducible refine Kd.C_drewN ?_ _) | (with_reducible refine Kd.C_drew ?_))); (case side2 => exact HC0_1.out); rintro e w9 ⟨rfl, hb⟩; refine ⟨_, rfl, ?_⟩; have n0_ := qS (qB (g := gb134) (o := .cells #[.int .i64 a0_0, .slice A0_1 l0_1.length c0_1] 26 (0, 0)) (by (with_reducible repeat (first | refine qN ?_ _ | refine qD ?_ | refine qA ?_ _)); exact BK134.out) hb); have n1_ := qS (below_step (by repeat (first | (with_reducible first | exact HB.out | apply qpA | apply qpN | apply qp1 | refine qpS ?_ GE134.out) | exact HB.out)) hb); clear BK134; clear HB; have BK134 := n0_; have HB := n1_; clear n0_ n1_; (try clear hb); (try clear hb2); (try clear hk); (try clear hi); (try simp only [errW_none, errW_some])))
    go_meet
    case rel => exact ⟨_, (true), (by first | rfl | (simp; done) | (simp [*]; done)), H', ⟨by first | omega | exact Nat.le_refl _⟩, ⟨by (with_reducible repeat (first | refine qN ?_ _ | refine qD ?_ | refine qA ?_ _)); exact BK134.out⟩, ⟨by repeat (first | (with_reducible first | exact HB.out | apply qpA | apply qpN | apply qp1 | refine qpS ?_ GE134.out) | exact HB.out)⟩⟩
 case rest =>
  clear HC3
  try clear q1
  try clear c2
  try clear p2
  try clear hcz6_0
  try clear hcz6_1
  try clear hcz8_0
  try clear hcz8_1
  try clear hfz6_0
  try clear hfz6_1
  try clear hfz8_0
  try clear hfz8_1
  try clear q136
  obtain ⟨kq, x14_2, rfl, HA, HJ2, BK134, HB⟩ := hcut
  cases kq with
  | zero => exact absurd HA.out (by simp [slot_Share.j0])
  | succ kj2 =>
   have H := HA.out
   clear HA
   simp only [slot_Share.j0] at H
   by_cases c10 : x14_2 = true
   ·subst c10
    have H1 : (some 0) = some r := by rw [if_pos rfl] at H; exact H
    clear H
    have H := H1
    clear H1
    as_aux_lemma =>
     obtain rfl := Option.some.inj H
     go_wp2
     go_ret
     exact ⟨by first | rfl | (simp [errW_none, errW_some] <;> rfl) | (simp [*, errW_none, errW_some] <;> rfl), by repeat (first | (with_reducible first | exact HB.out | apply qpA | apply qpN | apply qp1 | refine qpS ?_ GE134.out) | exact HB.out)⟩
   ·replace c10 := Bool.eq_false_iff.mpr c10
    subst c10
    have H1 : (slot_Share.l0 kj2 a1 0 l0_1 (l0_1.length : Int) 0 a0_0 l0_1) = some r := by rw [if_neg (show ¬ (false = true) by decide)] at H; exact H
    clear H
    have H := H1
    clear H1
    have H' := qS H
    clear H
    have hcz11_0 : wc.cell? ⟨gb134, 0, none⟩ = some (.int .i64 a0_0) := (qC BK134.out 0).trans rfl
    have hcz11_1 : wc.cell? ⟨gb134, 1, none⟩ = some (.slice A0_1 l0_1.length c0_1) := (qC BK134.out 1).trans rfl
    have hfz11_0 := qF BK134.out 0
    have hfz11_1 := qF BK134.out 1
    go_wp2
    go_loopg [5, 18] kj2 (fun kq v5 v18 w' => ∃ (x5_2 : Int) (x18_2 : Int), v5 = .int .i64 x5_2 ∧ v18 = .int .i64 x18_2 ∧ Aside0 (slot_Share.l0 kq a1 x5_2 l0_1 (l0_1.length : Int) x18_2 a0_0 l0_1 = some r) ∧ Aside0 (kq ≤ kj2) ∧ Aside0 (w'.heap[gb134]? = some (.cells #[.int .i64 a0_0, (.slice A0_1 l0_1.length c0_1)] 26 (0, 0))) ∧ Aside0 (Below w.heap.size w w'))
    case atStart => exact ⟨(0), (0), (by first | rfl | (simp; done) | (simp [*]; done)), (by first | rfl | (simp; done) | (simp [*]; done)), H', ⟨Nat.le_refl _⟩, ⟨by (with_reducible repeat (first | refine qN ?_ _ | refine qD ?_ | refine qA ?_ _)); exact BK134.out⟩, ⟨by repeat (first | (with_reducible first | exact HB.out | apply qpA | apply qpN | apply qp1 | refine qpS ?_ GE134.out) | exact HB.out)⟩⟩
    case round =>
     clear H'
     try clear c1
     try clear q1
     try clear c2
     try clear p2
     try clear c10
     try clear hcz11_0
     try clear hcz11_1
     try clear hcz6_0
     try clear hcz6_1
     try clear hcz8_0
     try clear hcz8_1
     try clear hfz11_0
     try clear hfz11_1
     try clear hfz6_0
     try clear hfz6_1
     try clear hfz8_0
     try clear hfz8_1
     try clear p2
     try clear q1
     try clear q136
     obtain ⟨x5_2, x18_2, rfl, rfl, HA, HK2, BK134, HB⟩ := hrel
     cases gk with
     | zero => exact absurd HA.out (by simp [slot_Share.l0])
     | succ k2 =>
      have H := HA.out
      clear HA
      simp only [slot_Share.l0] at H
      by_cases c12 : x18_2 < (l0_1.length : Int)
      ·rw [if_pos c12] at H
       have c12b0 : decide (x18_2 < (l0_1.length : Int)) = true := decide_eq_true c12
       clear c12
       by_cases c13 : 0 ≤ x18_2
       ·rw [if_pos c13] at H
        have c13b0 : decide (0 ≤ x18_2) = true := decide_eq_true c13
        clear c13
        by_cases c14 : x18_2 < (l0_1.length : Int)
        ·rw [if_pos c14] at H
         have c14b0 : decide (x18_2 < (l0_1.length : Int)) = true := decide_eq_true c14
         clear c14
         by_cases c15 : (rdOf ByteArray.empty l0_1 x18_2).toList = a1.toList
         ·rw [if_pos c15] at H
          have c15b0 : ((rdOf ByteArray.empty l0_1 x18_2).toList == a1.toList) = true := beq_iff_eq.mpr c15
          have c15b1 : ((rdOf ByteArray.empty l0_1 x18_2).toList != a1.toList) = false := bne_eq_false_iff_eq.mpr c15
          clear c15
          as_aux_lemma =>
           have H' := qS H
           clear H
           have p137 : 0 ≤ (x18_2 : Int) := of_decide_eq_true (by first | (with_reducible assumption) | assumption)
           have q137 : x18_2 < (l0_1.length : Int) := of_decide_eq_true (by first | (with_reducible assumption) | assumption)
           obtain ⟨ad137, e137, hx137_0⟩ := Kd.at_string HR0_1.out x18_2 p137 q137
           cases e137
           replace hx137_0 := (HB.out.cell (World.block_lt_of_cell? w _ hx137_0)).trans hx137_0
           replace p137 := eq_true p137
           replace q137 := eq_true q137
           have hcz16_0 : wr.cell? ⟨gb134, 0, none⟩ = some (.int .i64 a0_0) := (qC BK134.out 0).trans rfl
           have hcz16_1 : wr.cell? ⟨gb134, 1, none⟩ = some (.slice (some ad137) l0_1.length c0_1) := (qC BK134.out 1).trans rfl
           have hfz16_0 := qF BK134.out 0
           have hfz16_1 := qF BK134.out 1
           go_wp2
           go_roundg k2
           case measure => have := HJ2.out; have := HK2.out; omega
           case rel => exact ⟨(wrap64 (x5_2 + a0_0)), (wrap64 (x18_2 + 1)), (by first | rfl | (simp; done) | (simp [*]; done)), (by first | rfl | (simp; done) | (simp [*]; done)), H', ⟨by have := HJ2.out; have := HK2.out; omega⟩, ⟨by (with_reducible repeat (first | refine qN ?_ _ | refine qD ?_ | refine qA ?_ _)); exact BK134.out⟩, ⟨by repeat (first | (with_reducible first | exact HB.out | apply qpA | apply qpN | apply qp1 | refine qpS ?_ GE134.out) | exact HB.out)⟩⟩
         ·rw [if_neg c15] at H
          have c15b0 : ((rdOf ByteArray.empty l0_1 x18_2).toList == a1.toList) = false := beq_eq_false_iff_ne.mpr c15
          have c15b1 : ((rdOf ByteArray.empty l0_1 x18_2).toList != a1.toList) = true := bne_iff_ne.mpr c15
          as_aux_lemma =>
           have H' := qS H
           clear H
           have p137 : 0 ≤ (x18_2 : Int) := of_decide_eq_true (by first | (with_reducible assumption) | assumption)
           have q137 : x18_2 < (l0_1.length : Int) := of_decide_eq_true (by first | (with_reducible assumption) | assumption)
           obtain ⟨ad137, e137, hx137_0⟩ := Kd.at_string HR0_1.out x18_2 p137 q137
           cases e137
           replace hx137_0 := (HB.out.cell (World.block_lt_of_cell? w _ hx137_0)).trans hx137_0
           replace p137 := eq_true p137
           replace q137 := eq_true q137
           go_wp2
           go_roundg k2
           case measure => have := HJ2.out; have := HK2.out; omega
           case rel => exact ⟨(x5_2), (wrap64 (x18_2 + 1)), (by first | rfl | (simp; done) | (simp [*]; done)), (by first | rfl | (simp; done) | (simp [*]; done)), H', ⟨by have := HJ2.out; have := HK2.out; omega⟩, ⟨by (with_reducible repeat (first | refine qN ?_ _ | refine qD ?_ | refine qA ?_ _)); exact BK134.out⟩, ⟨by repeat (first | (with_reducible first | exact HB.out | apply qpA | apply qpN | apply qp1 | refine qpS ?_ GE134.out) | exact HB.out)⟩⟩
        ·rw [if_neg c14] at H
         exact absurd H (by simp)
       ·rw [if_neg c13] at H
        exact absurd H (by simp)
      ·rw [if_neg c12] at H
       have c12b0 : decide (x18_2 < (l0_1.length : Int)) = false := decide_eq_false c12
       clear c12
       as_aux_lemma =>
        obtain rfl := Option.some.inj H
        go_wp2
        go_ret
        exact ⟨by first | rfl | (simp [errW_none, errW_some] <;> rfl) | (simp [*, errW_none, errW_some] <;> rfl), by repeat (first | (with_reducible first | exact HB.out | apply qpA | apply qpN | apply qp1 | refine qpS ?_ GE134.out) | exact HB.out)⟩

/-! ### fuseelaw35_sure: function 14 -/
def fuseelaw35_sure.f (k : Nat)  : Option (Bool) := (some (([(⟨#[97]⟩ : ByteArray), (⟨#[98]⟩ : ByteArray)] : List ByteArray) : List ByteArray)).bind fun y138 => ((slot_Who.f k 10 y138 15).bind fun bt142 => ((slot_Left.f k 10 y138 15).bind fun bt144 => ((slot_Next.f k 10 y138 (⟨#[97]⟩ : ByteArray) 15).bind fun bt146 => ((slot_Next.f k 10 y138 (⟨#[99]⟩ : ByteArray) 15).bind fun bt148 => (if bt142.2.isNone = true then (if bt144.2.isNone = true then (if bt146.2.isNone = true then (if bt142.1.toList = ([98] : List UInt8) then (if bt144.1 = 5 then (if bt146.1 = 20 then ((fuseelaw35_num.f bt148.2).bind fun t153 => (if t153 = 6 then ((slot_Share.f k 10 y138 (⟨#[97]⟩ : ByteArray)).bind fun t154 => (some (t154 == 10))) else (none))) else (none)) else (none)) else (none)) else (none)) else (none)) else (none))))))
theorem fuseelaw35_sure.mono : ∀ k, LeO (fuseelaw35_sure.f k ) (fuseelaw35_sure.f (k + 1) ) := by
 intro  k
 unfold fuseelaw35_sure.f
 repeat' first
   | (with_reducible exact slot_Left.mono _ _ _ _)
   | (with_reducible exact slot_Next.mono _ _ _ _ _)
   | (with_reducible exact slot_Share.mono _ _ _ _)
   | (with_reducible exact slot_Who.mono _ _ _ _)
   | (with_reducible exact LeO.refl _)
   | (with_reducible exact LeO.none _)
   | (with_reducible refine LeO.ite ?_ ?_)
   | (with_reducible refine LeO.bind ?_ (fun _ => ?_))
   | exact slot_Left.mono _ _ _ _
   | exact slot_Next.mono _ _ _ _ _
   | exact slot_Share.mono _ _ _ _
   | exact slot_Who.mono _ _ _ _
   | exact LeO.none _
   | refine LeO.ite ?_ ?_
   | refine LeO.bind ?_ (fun _ => ?_)
set_option maxHeartbeats 8000000 in
set_option maxRecDepth 100000 in
theorem fuseelaw35_sure.calls (k : Nat)  (r : Bool) (w : World) (hgL : HG w) (h : fuseelaw35_sure.f k  = some r) :
  Calls Tryd.prog 14 #[] w fun e w' => e = .returned (.bool r) ∧ Below w.heap.size w w' := by
 have hu26 := Tryd.underlying26
 have hu28 := Tryd.underlying28
 have hu128 := Tryd.underlying128
 have HB := qS (Below.refl w.heap.size w)
 have H : ((some (([(⟨#[97]⟩ : ByteArray), (⟨#[98]⟩ : ByteArray)] : List ByteArray) : List ByteArray)).bind fun y138 => ((slot_Who.f k 10 y138 15).bind fun bt142 => ((slot_Left.f k 10 y138 15).bind fun bt144 => ((slot_Next.f k 10 y138 (⟨#[97]⟩ : ByteArray) 15).bind fun bt146 => ((slot_Next.f k 10 y138 (⟨#[99]⟩ : ByteArray) 15).bind fun bt148 => (if bt142.2.isNone = true then (if bt144.2.isNone = true then (if bt146.2.isNone = true then (if bt142.1.toList = ([98] : List UInt8) then (if bt144.1 = 5 then (if bt146.1 = 20 then ((fuseelaw35_num.f bt148.2).bind fun t153 => (if t153 = 6 then ((slot_Share.f k 10 y138 (⟨#[97]⟩ : ByteArray)).bind fun t154 => (some (t154 == 10))) else (none))) else (none)) else (none)) else (none)) else (none)) else (none)) else (none))))))) = some r := h
 clear h
 obtain ⟨y138, hy138⟩ : ∃ y_ : List ByteArray, y_ = (([(⟨#[97]⟩ : ByteArray), (⟨#[98]⟩ : ByteArray)] : List ByteArray)) := ⟨_, rfl⟩
 replace H : ((slot_Who.f k 10 y138 15).bind fun bt142 => ((slot_Left.f k 10 y138 15).bind fun bt144 => ((slot_Next.f k 10 y138 (⟨#[97]⟩ : ByteArray) 15).bind fun bt146 => ((slot_Next.f k 10 y138 (⟨#[99]⟩ : ByteArray) 15).bind fun bt148 => (if bt142.2.isNone = true then (if bt144.2.isNone = true then (if bt146.2.isNone = true then (if bt142.1.toList = ([98] : List UInt8) then (if bt144.1 = 5 then (if bt146.1 = 20 then ((fuseelaw35_num.f bt148.2).bind fun t153 => (if t153 = 6 then ((slot_Share.f k 10 y138 (⟨#[97]⟩ : ByteArray)).bind fun t154 => (some (t154 == 10))) else (none))) else (none)) else (none)) else (none)) else (none)) else (none)) else (none)))))) = some r := by first | (rw [hy138]; with_reducible exact H) | (have H2_ := (Option.bind_some _ _).symm.trans H; rw [hy138]; with_reducible exact H2_) | (have H2_ := (Option.bind_some _ _).symm.trans H; with_reducible exact H2_) | with_reducible exact H | (rw [hy138]; exact H) | exact H
 have Ny138 := qS hy138
 clear hy138
 replace H := Option.bind_eq_some_iff.mp H
 obtain ⟨⟨t142, t143⟩, A10, H⟩ := H
 replace H : ((slot_Left.f k 10 y138 15).bind fun bt144 => ((slot_Next.f k 10 y138 (⟨#[97]⟩ : ByteArray) 15).bind fun bt146 => ((slot_Next.f k 10 y138 (⟨#[99]⟩ : ByteArray) 15).bind fun bt148 => (if t143.isNone = true then (if bt144.2.isNone = true then (if bt146.2.isNone = true then (if t142.toList = ([98] : List UInt8) then (if bt144.1 = 5 then (if bt146.1 = 20 then ((fuseelaw35_num.f bt148.2).bind fun t153 => (if t153 = 6 then ((slot_Share.f k 10 y138 (⟨#[97]⟩ : ByteArray)).bind fun t154 => (some (t154 == 10))) else (none))) else (none)) else (none)) else (none)) else (none)) else (none)) else (none))))) = some r := H
 have A1 := qS A10
 clear A10
 replace H := Option.bind_eq_some_iff.mp H
 obtain ⟨⟨t144, t145⟩, A20, H⟩ := H
 replace H : ((slot_Next.f k 10 y138 (⟨#[97]⟩ : ByteArray) 15).bind fun bt146 => ((slot_Next.f k 10 y138 (⟨#[99]⟩ : ByteArray) 15).bind fun bt148 => (if t143.isNone = true then (if t145.isNone = true then (if bt146.2.isNone = true then (if t142.toList = ([98] : List UInt8) then (if t144 = 5 then (if bt146.1 = 20 then ((fuseelaw35_num.f bt148.2).bind fun t153 => (if t153 = 6 then ((slot_Share.f k 10 y138 (⟨#[97]⟩ : ByteArray)).bind fun t154 => (some (t154 == 10))) else (none))) else (none)) else (none)) else (none)) else (none)) else (none)) else (none)))) = some r := H
 have A2 := qS A20
 clear A20
 replace H := Option.bind_eq_some_iff.mp H
 obtain ⟨⟨t146, t147⟩, A30, H⟩ := H
 replace H : ((slot_Next.f k 10 y138 (⟨#[99]⟩ : ByteArray) 15).bind fun bt148 => (if t143.isNone = true then (if t145.isNone = true then (if t147.isNone = true then (if t142.toList = ([98] : List UInt8) then (if t144 = 5 then (if t146 = 20 then ((fuseelaw35_num.f bt148.2).bind fun t153 => (if t153 = 6 then ((slot_Share.f k 10 y138 (⟨#[97]⟩ : ByteArray)).bind fun t154 => (some (t154 == 10))) else (none))) else (none)) else (none)) else (none)) else (none)) else (none)) else (none))) = some r := H
 have A3 := qS A30
 clear A30
 replace H := Option.bind_eq_some_iff.mp H
 obtain ⟨⟨t148, t149⟩, A40, H⟩ := H
 replace H : (if t143.isNone = true then (if t145.isNone = true then (if t147.isNone = true then (if t142.toList = ([98] : List UInt8) then (if t144 = 5 then (if t146 = 20 then ((fuseelaw35_num.f t149).bind fun t153 => (if t153 = 6 then ((slot_Share.f k 10 y138 (⟨#[97]⟩ : ByteArray)).bind fun t154 => (some (t154 == 10))) else (none))) else (none)) else (none)) else (none)) else (none)) else (none)) else (none)) = some r := H
 have A4 := qS A40
 clear A40
 rcases t143 with _ | q150
 ·have H1 : (if t145.isNone = true then (if t147.isNone = true then (if t142.toList = ([98] : List UInt8) then (if t144 = 5 then (if t146 = 20 then ((fuseelaw35_num.f t149).bind fun t153 => (if t153 = 6 then ((slot_Share.f k 10 y138 (⟨#[97]⟩ : ByteArray)).bind fun t154 => (some (t154 == 10))) else (none))) else (none)) else (none)) else (none)) else (none)) else (none)) = some r := by rw [if_pos (show (none : Option Int).isNone = true by rfl)] at H; exact H
  clear H
  have H := H1
  clear H1
  try simp only [errW_none, errW_some]
  rcases t145 with _ | q151
  ·have H1 : (if t147.isNone = true then (if t142.toList = ([98] : List UInt8) then (if t144 = 5 then (if t146 = 20 then ((fuseelaw35_num.f t149).bind fun t153 => (if t153 = 6 then ((slot_Share.f k 10 y138 (⟨#[97]⟩ : ByteArray)).bind fun t154 => (some (t154 == 10))) else (none))) else (none)) else (none)) else (none)) else (none)) = some r := by rw [if_pos (show (none : Option Int).isNone = true by rfl)] at H; exact H
   clear H
   have H := H1
   clear H1
   try simp only [errW_none, errW_some]
   rcases t147 with _ | q152
   ·have H1 : (if t142.toList = ([98] : List UInt8) then (if t144 = 5 then (if t146 = 20 then ((fuseelaw35_num.f t149).bind fun t153 => (if t153 = 6 then ((slot_Share.f k 10 y138 (⟨#[97]⟩ : ByteArray)).bind fun t154 => (some (t154 == 10))) else (none))) else (none)) else (none)) else (none)) = some r := by rw [if_pos (show (none : Option Int).isNone = true by rfl)] at H; exact H
    clear H
    have H := H1
    clear H1
    try simp only [errW_none, errW_some]
    by_cases c5 : t142.toList = ([98] : List UInt8)
    ·rw [if_pos c5] at H
     have c5b0 : (t142.toList == ([98] : List UInt8)) = true := beq_iff_eq.mpr c5
     have c5b1 : (t142.toList != ([98] : List UInt8)) = false := bne_eq_false_iff_eq.mpr c5
     clear c5
     by_cases c6 : t144 = 5
     ·rw [if_pos c6] at H
      have c6b0 : (t144 == 5) = true := beq_iff_eq.mpr c6
      have c6b1 : (t144 != 5) = false := bne_eq_false_iff_eq.mpr c6
      clear c6
      by_cases c7 : t146 = 20
      ·rw [if_pos c7] at H
       have c7b0 : (t146 == 20) = true := beq_iff_eq.mpr c7
       have c7b1 : (t146 != 20) = false := bne_eq_false_iff_eq.mpr c7
       clear c7
       replace H := Option.bind_eq_some_iff.mp H
       obtain ⟨t153, A80, H⟩ := H
       replace H : (if t153 = 6 then ((slot_Share.f k 10 y138 (⟨#[97]⟩ : ByteArray)).bind fun t154 => (some (t154 == 10))) else (none)) = some r := H
       have A8 := qS A80
       clear A80
       by_cases c9 : t153 = 6
       ·rw [if_pos c9] at H
        have c9b0 : (t153 == 6) = true := beq_iff_eq.mpr c9
        have c9b1 : (t153 != 6) = false := bne_eq_false_iff_eq.mpr c9
        clear c9
        replace H := Option.bind_eq_some_iff.mp H
        obtain ⟨t154, A100, H⟩ := H
        replace H : (some (t154 == 10)) = some r := H
        have A10 := qS A100
        clear A100
        obtain rfl := Option.some.inj H
        go_enter Tryd.func14, Tryd.ntmps14
        go_wp2_with (first | ((with_reducible refine gate_dst (N := 10) rfl ?_); refine Kd.R_lit Kd.string _ 9 ?hg (N := 10) ?hd (xs := ([(⟨#[97]⟩ : ByteArray), (⟨#[98]⟩ : ByteArray)] : List ByteArray)) (inner := [.string (⟨#[97]⟩ : ByteArray), .string (⟨#[98]⟩ : ByteArray)]) (ok := fun _ => True) (okp := fun _ => True) ?hr ?hp (fun _ hk => hk) trivial (Below.refl _ _) (Nat.le_refl _) (by simp) ?_; (case hd => rfl); (case hg => rfl); (case hr => first | (go_simp; done) | (go_simp; rfl)); (case hp => exact (Reps.one (show Kd.M Kd.string _ _ _ (⟨#[97]⟩ : ByteArray) [.string (⟨#[97]⟩ : ByteArray)] from rfl) (Reps.one (show Kd.M Kd.string _ _ _ (⟨#[98]⟩ : ByteArray) [.string (⟨#[98]⟩ : ByteArray)] from rfl) (Reps.none _ _)))); intro v139 w11 ho12 hb hg_ hnew_; clear hg_ hnew_; (first | rw [← Ny138.out] at ho12 | (simp only [Int.reduceToNat] at ho12; rw [← Ny138.out] at ho12)); have n0_ := qS (Kd.R_lower ho12 (below_size (by repeat (first | (with_reducible first | exact HB.out | apply qpA | apply qpN | apply qp1) | exact HB.out)))); have n1_ := qS (below_step (by repeat (first | (with_reducible first | exact HB.out | apply qpA | apply qpN | apply qp1) | exact HB.out)) hb); clear HB; have HO140 := n0_; have HB := n1_; clear n0_ n1_; clear hb ho12; obtain ⟨Ao13, co13, eo13⟩ := Kd.R_slice HO140.out; subst eo13) | ((with_reducible refine gate_dst (N := 1) rfl ?_); refine box_event ?hg (N := 1) ?hd (cs := #[.int .i64 0, .slice none 0 0]) (t := 26) ?hr ?_; (case hd => rfl); (case hg => rfl); (case hr => first | (go_simp; done) | (go_simp; rfl)); intro gb141 hg w14 hbox hb; have n0_ := qS (Kd.R_below (by (with_reducible repeat (first | apply Kd.R_alloc | apply Kd.R_drewN | apply Kd.R_drew)); exact HO140.out) hb); have n1_ := qS (below_step (by repeat (first | (with_reducible first | exact HB.out | apply qpA | apply qpN | apply qp1) | exact HB.out)) hb); have n2_ := qS (hbox); have n3_ := qS ((by rw [hg]; exact (below_size (by repeat (first | (with_reducible first | exact HB.out | apply qpA | apply qpN | apply qp1) | exact HB.out))) : w.heap.size ≤ gb141)); have n4_ := qS ((by rw [hg]; exact (below_size (by repeat (first | (with_reducible first | exact HB.out | apply qpA | apply qpN | apply qp1) | exact HB.out))) : w.heap.size ≤ gb141)); clear HO140; clear HB; have HO140 := n0_; have HB := n1_; have BK141 := n2_; have GW141 := n3_; have GE141 := n4_; clear n0_ n1_ n2_ n3_ n4_; clear hb hbox hg; have hcz15_0 : w14.cell? ⟨gb141, 0, none⟩ = some (.int .i64 0) := (qC BK141.out 0).trans rfl; have hcz15_1 : w14.cell? ⟨gb141, 1, none⟩ = some (.slice none 0 0) := (qC BK141.out 1).trans rfl; have hfz15_0 := qF BK141.out 0; have hfz15_1 := qF BK141.out 1) | ((with_reducible refine gate_callee (f := 15) rfl ?_); refine goesL_ (some 14) rfl rfl Tryd.func15 (by kernel_rfl) rfl #[.agg #[.int .i64 10, .slice Ao13 y138.length co13], .int .i64 15] rfl (by (try simp only [List.map_toArray, List.map_cons, List.map_nil]); first | done | rfl | (simp only [*]; done) | (simp only [List.length_drop, List.length_take]; rfl)) ?_; (with_reducible refine (slot_Who.calls k 10 _ _ y138 15 t142 none _ ?side1 ?side2 A1.out).mono ?_); (case side1 => refine (Kd.R_reads' (e := 9) (base := w.heap.size) (ok := fun k_ => True) (n := y138.length) (c := co13) ?_).2.2; exact (by (with_reducible repeat (first | apply Kd.R_alloc | apply Kd.R_drewN | apply Kd.R_drew)); exact (Kd.R_mono (Kd.R_far (p := ⟨gb141, 1, none⟩) (Kd.R_far (p := ⟨gb141, 0, none⟩) (Kd.R_types HO140.out BK141.out (by decide)) (fun _ hk => hk.2) (.int .i64 10)) (fun _ hk => hk.2) (.slice Ao13 y138.length co13)) (fun _ h_ => h_.1)))); (case side2 => exact (Kd.R_reads' HO140.out).2.1); rintro e w16 ⟨rfl, hb⟩; refine ⟨_, rfl, ?_⟩; have n0_ := qS (Kd.R_below (by (with_reducible repeat (first | apply Kd.R_alloc | apply Kd.R_drewN | apply Kd.R_drew)); exact (Kd.R_mono (Kd.R_far (p := ⟨gb141, 1, none⟩) (Kd.R_far (p := ⟨gb141, 0, none⟩) (Kd.R_types HO140.out BK141.out (by decide)) (fun _ hk => hk.2) (.int .i64 10)) (fun _ hk => hk.2) (.slice Ao13 y138.length co13)) (fun _ h_ => h_.1))) hb); have n1_ := qS (qB (g := gb141) (o := .cells #[.int .i64 10, .slice Ao13 y138.length co13] 26 (0, 0)) (by (with_reducible repeat (first | refine qN ?_ _ | refine qD ?_ | refine qA ?_ _)); refine blk_put (cs := #[.int .i64 10, .slice none 0 0]) ?_ 1 _ rfl; (with_reducible repeat (first | refine qN ?_ _ | refine qD ?_ | refine qA ?_ _)); refine blk_put (cs := #[.int .i64 0, .slice none 0 0]) ?_ 0 _ rfl; (with_reducible repeat (first | refine qN ?_ _ | refine qD ?_ | refine qA ?_ _)); exact BK141.out) hb); have n2_ := qS (below_step (by repeat (first | (with_reducible first | exact HB.out | apply qpA | apply qpN | apply qp1 | refine qpS ?_ GE141.out) | exact HB.out)) hb); clear HO140; clear BK141; clear HB; have HO140 := n0_; have BK141 := n1_; have HB := n2_; clear n0_ n1_ n2_; (try clear hb); (try clear hb2); (try clear hk); (try clear hi); (try simp only [errW_none, errW_some]); have hcz17_0 : w16.cell? ⟨gb141, 0, none⟩ = some (.int .i64 10) := (qC BK141.out 0).trans rfl; have hcz17_1 : w16.cell? ⟨gb141, 1, none⟩ = some (.slice Ao13 y138.length co13) := (qC BK141.out 1).trans rfl; have hfz17_0 := qF BK141.out 0; have hfz17_1 := qF BK141.out 1) | ((with_reducible refine gate_callee (f := 17) rfl ?_); refine goesL_ (some 19) rfl rfl Tryd.func17 (by kernel_rfl) rfl #[.agg #[.int .i64 10, .slice Ao13 y138.length co13], .int .i64 15] rfl (by (try simp only [List.map_toArray, List.map_cons, List.map_nil]); first | done | rfl | (simp only [*]; done) | (simp only [List.length_drop, List.length_take]; rfl)) ?_; (with_reducible refine (slot_Left.calls k 10 _ _ y138 15 t144 none _ ?side1 ?side2 A2.out).mono ?_); (case side1 => repeat (first | exact (Kd.R_reads' HO140.out).2.2 | (with_reducible refine Kd.C_alloc ?_ _) | (with_reducible refine Kd.C_drewN ?_ _) | (with_reducible refine Kd.C_drew ?_))); (case side2 => exact (Kd.R_reads' HO140.out).2.1); rintro e w18 ⟨rfl, hb⟩; refine ⟨_, rfl, ?_⟩; have n0_ := qS (Kd.R_below (by (with_reducible repeat (first | apply Kd.R_alloc | apply Kd.R_drewN | apply Kd.R_drew)); exact HO140.out) hb); have n1_ := qS (qB (g := gb141) (o := .cells #[.int .i64 10, .slice Ao13 y138.length co13] 26 (0, 0)) (by (with_reducible repeat (first | refine qN ?_ _ | refine qD ?_ | refine qA ?_ _)); exact BK141.out) hb); have n2_ := qS (below_step (by repeat (first | (with_reducible first | exact HB.out | apply qpA | apply qpN | apply qp1 | refine qpS ?_ GE141.out) | exact HB.out)) hb); clear HO140; clear BK141; clear HB; have HO140 := n0_; have BK141 := n1_; have HB := n2_; clear n0_ n1_ n2_; (try clear hb); (try clear hb2); (try clear hk); (try clear hi); (try simp only [errW_none, errW_some]); have hcz19_0 : w18.cell? ⟨gb141, 0, none⟩ = some (.int .i64 10) := (qC BK141.out 0).trans rfl; have hcz19_1 : w18.cell? ⟨gb141, 1, none⟩ = some (.slice Ao13 y138.length co13) := (qC BK141.out 1).trans rfl; have hfz19_0 := qF BK141.out 0; have hfz19_1 := qF BK141.out 1) | ((with_reducible refine gate_callee (f := 19) rfl ?_); refine goesL_ (some 24) rfl rfl Tryd.func19 (by kernel_rfl) rfl #[.agg #[.int .i64 10, .slice Ao13 y138.length co13], .string (⟨#[97]⟩ : ByteArray), .int .i64 15] rfl (by (try simp only [List.map_toArray, List.map_cons, List.map_nil]); first | done | rfl | (simp only [*]; done) | (simp only [List.length_drop, List.length_take]; rfl)) ?_; (with_reducible refine (slot_Next.calls k 10 _ _ y138 (⟨#[97]⟩ : ByteArray) 15 t146 none _ ?side1 ?side2 A3.out).mono ?_); (case side1 => repeat (first | exact (Kd.R_reads' HO140.out).2.2 | (with_reducible refine Kd.C_alloc ?_ _) | (with_reducible refine Kd.C_drewN ?_ _) | (with_reducible refine Kd.C_drew ?_))); (case side2 => exact (Kd.R_reads' HO140.out).2.1); rintro e w20 ⟨rfl, hb⟩; refine ⟨_, rfl, ?_⟩; have n0_ := qS (Kd.R_below (by (with_reducible repeat (first | apply Kd.R_alloc | apply Kd.R_drewN | apply Kd.R_drew)); exact HO140.out) hb); have n1_ := qS (qB (g := gb141) (o := .cells #[.int .i64 10, .slice Ao13 y138.length co13] 26 (0, 0)) (by (with_reducible repeat (first | refine qN ?_ _ | refine qD ?_ | refine qA ?_ _)); exact BK141.out) hb); have n2_ := qS (below_step (by repeat (first | (with_reducible first | exact HB.out | apply qpA | apply qpN | apply qp1 | refine qpS ?_ GE141.out) | exact HB.out)) hb); clear HO140; clear BK141; clear HB; have HO140 := n0_; have BK141 := n1_; have HB := n2_; clear n0_ n1_ n2_; (try clear hb); (try clear hb2); (try clear hk); (try clear hi); (try simp only [errW_none, errW_some]); have hcz21_0 : w20.cell? ⟨gb141, 0, none⟩ = some (.int .i64 10) := (qC BK141.out 0).trans rfl; have hcz21_1 : w20.cell? ⟨gb141, 1, none⟩ = some (.slice Ao13 y138.length co13) := (qC BK141.out 1).trans rfl; have hfz21_0 := qF BK141.out 0; have hfz21_1 := qF BK141.out 1) | ((with_reducible refine gate_callee (f := 19) rfl ?_); refine goesL_ (some 29) rfl rfl Tryd.func19 (by kernel_rfl) rfl #[.agg #[.int .i64 10, .slice Ao13 y138.length co13], .string (⟨#[99]⟩ : ByteArray), .int .i64 15] rfl (by (try simp only [List.map_toArray, List.map_cons, List.map_nil]); first | done | rfl | (simp only [*]; done) | (simp only [List.length_drop, List.length_take]; rfl)) ?_; (with_reducible refine (slot_Next.calls k 10 _ _ y138 (⟨#[99]⟩ : ByteArray) 15 t148 t149 _ ?side1 ?side2 A4.out).mono ?_); (case side1 => repeat (first | exact (Kd.R_reads' HO140.out).2.2 | (with_reducible refine Kd.C_alloc ?_ _) | (with_reducible refine Kd.C_drewN ?_ _) | (with_reducible refine Kd.C_drew ?_))); (case side2 => exact (Kd.R_reads' HO140.out).2.1); rintro e w22 ⟨rfl, hb⟩; refine ⟨_, rfl, ?_⟩; have n0_ := qS (Kd.R_below (by (with_reducible repeat (first | apply Kd.R_alloc | apply Kd.R_drewN | apply Kd.R_drew)); exact HO140.out) hb); have n1_ := qS (qB (g := gb141) (o := .cells #[.int .i64 10, .slice Ao13 y138.length co13] 26 (0, 0)) (by (with_reducible repeat (first | refine qN ?_ _ | refine qD ?_ | refine qA ?_ _)); exact BK141.out) hb); have n2_ := qS (below_step (by repeat (first | (with_reducible first | exact HB.out | apply qpA | apply qpN | apply qp1 | refine qpS ?_ GE141.out) | exact HB.out)) hb); clear HO140; clear BK141; clear HB; have HO140 := n0_; have BK141 := n1_; have HB := n2_; clear n0_ n1_ n2_; (try clear hb); (try clear hb2); (try clear hk); (try clear hi); (try simp only [errW_none, errW_some]); have CA8 := fun W (hgW : HG W) => fuseelaw35_num.calls t149 t153 W hgW A8.out; try simp only [errW_none, errW_some] at CA8) | (go_at_call 22; (with_reducible refine (CA8 _ (HG.below hgL (Nat.le_refl _) (by repeat (first | (with_reducible first | exact HB.out | apply qpA | apply qpN | apply qp1 | refine qpS ?_ GE141.out) | exact HB.out)))).mono ?_); rintro e w23 ⟨rfl, hb⟩; have n0_ := qS (Kd.R_below (by (with_reducible repeat (first | apply Kd.R_alloc | apply Kd.R_drewN | apply Kd.R_drew)); exact HO140.out) hb); have n1_ := qS (qB (g := gb141) (o := .cells #[.int .i64 10, .slice Ao13 y138.length co13] 26 (0, 0)) (by (with_reducible repeat (first | refine qN ?_ _ | refine qD ?_ | refine qA ?_ _)); exact BK141.out) hb); have n2_ := qS (below_step (by repeat (first | (with_reducible first | exact HB.out | apply qpA | apply qpN | apply qp1 | refine qpS ?_ GE141.out) | exact HB.out)) hb); clear HO140; clear BK141; clear HB; have HO140 := n0_; have BK141 := n1_; have HB := n2_; clear n0_ n1_ n2_; (try clear hb); (try clear hb2); (try clear hk); (try clear hi); have hcz24_0 : w23.cell? ⟨gb141, 0, none⟩ = some (.int .i64 10) := (qC BK141.out 0).trans rfl; have hcz24_1 : w23.cell? ⟨gb141, 1, none⟩ = some (.slice Ao13 y138.length co13) := (qC BK141.out 1).trans rfl; have hfz24_0 := qF BK141.out 0; have hfz24_1 := qF BK141.out 1) | (go_at_call 23; (with_reducible refine (slot_Share.calls k 10 _ _ y138 (⟨#[97]⟩ : ByteArray) t154 _ ?side1 ?side2 A10.out).mono ?_); (case side1 => repeat (first | exact (Kd.R_reads' HO140.out).2.2 | (with_reducible refine Kd.C_alloc ?_ _) | (with_reducible refine Kd.C_drewN ?_ _) | (with_reducible refine Kd.C_drew ?_))); (case side2 => exact (Kd.R_reads' HO140.out).2.1); rintro e w25 ⟨rfl, hb⟩; have n0_ := qS (Kd.R_below (by (with_reducible repeat (first | apply Kd.R_alloc | apply Kd.R_drewN | apply Kd.R_drew)); exact HO140.out) hb); have n1_ := qS (qB (g := gb141) (o := .cells #[.int .i64 10, .slice Ao13 y138.length co13] 26 (0, 0)) (by (with_reducible repeat (first | refine qN ?_ _ | refine qD ?_ | refine qA ?_ _)); exact BK141.out) hb); have n2_ := qS (below_step (by repeat (first | (with_reducible first | exact HB.out | apply qpA | apply qpN | apply qp1 | refine qpS ?_ GE141.out) | exact HB.out)) hb); clear HO140; clear BK141; clear HB; have HO140 := n0_; have BK141 := n1_; have HB := n2_; clear n0_ n1_ n2_; (try clear hb); (try clear hb2); (try clear hk); (try clear hi)))
        go_ret
        exact ⟨by first | rfl | (simp [errW_none, errW_some] <;> rfl) | (simp [*, errW_none, errW_some] <;> rfl), by repeat (first | (with_reducible first | exact HB.out | apply qpA | apply qpN | apply qp1 | refine qpS ?_ GE141.out) | exact HB.out)⟩
       ·rw [if_neg c9] at H
        exact absurd H (by simp)
      ·rw [if_neg c7] at H
       exact absurd H (by simp)
     ·rw [if_neg c6] at H
      exact absurd H (by simp)
    ·rw [if_neg c5] at H
     exact absurd H (by simp)
   ·have H1 : (none) = some r := by rw [if_neg (show ¬ (some q152).isNone = true by simp)] at H; exact H
    clear H
    have H := H1
    clear H1
    try simp only [errW_none, errW_some]
    exact absurd H (by simp)
  ·have H1 : (none) = some r := by rw [if_neg (show ¬ (some q151).isNone = true by simp)] at H; exact H
   clear H
   have H := H1
   clear H1
   try simp only [errW_none, errW_some]
   exact absurd H (by simp)
 ·have H1 : (none) = some r := by rw [if_neg (show ¬ (some q150).isNone = true by simp)] at H; exact H
  clear H
  have H := H1
  clear H1
  try simp only [errW_none, errW_some]
  exact absurd H (by simp)

end Go.Proofs.YtnlaiiophongmaaDoor.MSlotRound
