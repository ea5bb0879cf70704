/- Printed by wip/gen/mp.py: Go functions as plain Lean functions, and that the calls do what these say. -/
import Derived.Test.YtiljnlhmeolhfaaMAuditAlonex0
import Derived.Test.YtiljnlhmeolhfaaMAuditAlonex1
import Derived.Test.YtiljnlhmeolhfaaMAuditAlonex3
import Derived.Test.YtiljnlhmeolhfaaMAuditAlonex4
namespace Go.Proofs.Ytiljnlhmeolhfaa.MAuditAlone
open Go.RowKit Go.Proofs.YtiljnlhmeolhfaaW.PrintWords Go.Proofs.YtiljnlhmeolhfaaW.PrintLast Go.Proofs.YtiljnlhmeolhfaaW.PrintMore
attribute [local go_sem] max2_int min2_int max_two min_two max_three min_three max_four min_four   -- for this text's walks alone
set_option linter.unusedVariables false
set_option linter.unusedSimpArgs false

attribute [local go_sem high] eqA46
/-! ### fuseelaw38_AuditAlone: function 6 -/
mutual
def fuseelaw38_AuditAlone.j0 : Nat → ByteArray → List (S46) → List (S46) → Bool → Option (Bool)
 | 0, _, _, _, _ => none
 | k + 1, x1, x5, x6, x32 => if x32 = true then (none) else (fuseelaw38_AuditAlone.l0 k x1 x5 x6 0)
def fuseelaw38_AuditAlone.l0 : Nat → ByteArray → List (S46) → List (S46) → Int → Option (Bool)
 | 0, _, _, _, _ => none
 | k + 1, x1, x5, x6, x7 => if x7 < 3 then ((fuseelaw38_found.f x5 x1 x7).bind fun t192 => ((fuseelaw38_found.f x6 x1 x7).bind fun t193 => (if ((decide (t192 < 0)) != (decide (t193 < 0))) = true then (fuseelaw38_AuditAlone.j2 k x1 x5 x6 x7 t192 true) else (if t192 < (-1) then (fuseelaw38_AuditAlone.j2 k x1 x5 x6 x7 t192 true) else (if t193 < (-1) then (fuseelaw38_AuditAlone.j2 k x1 x5 x6 x7 t192 true) else (if t192 ≥ (x5.length : Int) then (fuseelaw38_AuditAlone.j2 k x1 x5 x6 x7 t192 true) else (if t193 ≥ (x6.length : Int) then (fuseelaw38_AuditAlone.j2 k x1 x5 x6 x7 t192 true) else (if t192 ≥ 0 then (if 0 ≤ t192 then (if t192 < (x5.length : Int) then (if 0 ≤ t193 then (if t193 < (x6.length : Int) then (fuseelaw38_AuditAlone.j2 k x1 x5 x6 x7 t192 (!(((rd_T46 x5 t192).f0) == ((rd_T46 x6 t193).f0)) || (!((((rd_T46 x5 t192).f1).toList) == (((rd_T46 x6 t193).f1).toList)) || (!(((rd_T46 x5 t192).f2) == ((rd_T46 x6 t193).f2)) || (!(((rd_T46 x5 t192).f3) == ((rd_T46 x6 t193).f3)) || ((!(((rd_T46 x5 t192).f4.f0) == ((rd_T46 x6 t193).f4.f0)) || (!(((rd_T46 x5 t192).f4.f1) == ((rd_T46 x6 t193).f4.f1)) || (!(((rd_T46 x5 t192).f4.f2) == ((rd_T46 x6 t193).f4.f2)) || (!(((rd_T46 x5 t192).f4.f3) == ((rd_T46 x6 t193).f4.f3)))))) || (!(((rd_T46 x5 t192).f5) == ((rd_T46 x6 t193).f5)) || (!(((rd_T46 x5 t192).f6) == ((rd_T46 x6 t193).f6)))))))))) else (none)) else (none)) else (none)) else (none)) else (fuseelaw38_AuditAlone.j2 k x1 x5 x6 x7 t192 false))))))))) else ((fuseelaw38_sure.f k).bind fun t191 => (some t191))
def fuseelaw38_AuditAlone.j2 : Nat → ByteArray → List (S46) → List (S46) → Int → Int → Bool → Option (Bool)
 | 0, _, _, _, _, _, _ => none
 | k + 1, x1, x5, x6, x7, x8, x84 => if x84 = true then (none) else (if x8 ≥ 0 then (if 0 ≤ x8 then (if x8 ≤ (x5.length : Int) then ((fuseelaw38_found.f (x5.take (x8 : Int).toNat) x1 x7).bind fun t200 => (if t200 = (-1) then (if 0 ≤ (wrap64 (x8 + 1)) then (if (wrap64 (x8 + 1)) ≤ (x5.length : Int) then ((fuseelaw38_found.f (x5.take ((wrap64 (x8 + 1)) : Int).toNat) x1 x7).bind fun t205 => (if t205 = x8 then (fuseelaw38_AuditAlone.l0 k x1 x5 x6 (wrap64 (x7 + 1))) else (none))) else (none)) else (none)) else (none))) else (none)) else (none)) else (fuseelaw38_AuditAlone.l0 k x1 x5 x6 (wrap64 (x7 + 1))))
end
def fuseelaw38_AuditAlone.f (k : Nat) (l0 : List (S68)) (a1 : ByteArray) : Option (Bool) := if (l0.length : Int) > 60 then ((fuseelaw38_sure.f k).bind fun t181 => (some t181)) else ((fuseelaw38_give.f k l0).bind fun t182 => ((audit_Seen.f t182 a1).bind fun t185 => ((audit_Same.f k t182 t185 a1).bind fun t188 => (if t188 = true then ((audit_Worst.f k t182 a1).bind fun t189 => ((audit_Worst.f k t185 a1).bind fun t190 => (fuseelaw38_AuditAlone.j0 k a1 t182 t185 (t189 != t190)))) else (fuseelaw38_AuditAlone.j0 k a1 t182 t185 true)))))
theorem fuseelaw38_AuditAlone.mono_l : ∀ k, (∀ y0 y1 y2 y3, LeO (fuseelaw38_AuditAlone.j0 k y0 y1 y2 y3) (fuseelaw38_AuditAlone.j0 (k + 1) y0 y1 y2 y3)) ∧ (∀ y0 y1 y2 y3, LeO (fuseelaw38_AuditAlone.l0 k y0 y1 y2 y3) (fuseelaw38_AuditAlone.l0 (k + 1) y0 y1 y2 y3)) ∧ (∀ y0 y1 y2 y3 y4 y5, LeO (fuseelaw38_AuditAlone.j2 k y0 y1 y2 y3 y4 y5) (fuseelaw38_AuditAlone.j2 (k + 1) y0 y1 y2 y3 y4 y5))
 | 0 => ⟨fun _ _ _ _ r h => by simp [fuseelaw38_AuditAlone.j0] at h, fun _ _ _ _ r h => by simp [fuseelaw38_AuditAlone.l0] at h, fun _ _ _ _ _ _ r h => by simp [fuseelaw38_AuditAlone.j2] at h⟩
 | k + 1 => by
  obtain ⟨ih0, ih1, ih2⟩ := fuseelaw38_AuditAlone.mono_l k
  refine ⟨?_, ?_, ?_⟩
  ·intro y0 y1 y2 y3
   unfold fuseelaw38_AuditAlone.j0
   repeat' first
   | (with_reducible exact ih0 _ _ _ _)
   | (with_reducible exact ih1 _ _ _ _)
   | (with_reducible exact ih2 _ _ _ _ _ _)
   | (with_reducible exact audit_Same.mono _ _ _ _)
   | (with_reducible exact audit_Worst.mono _ _ _)
   | (with_reducible exact fuseelaw38_give.mono _ _)
   | (with_reducible exact fuseelaw38_sure.mono _)
   | (with_reducible exact LeO.refl _)
   | (with_reducible exact LeO.none _)
   | (with_reducible refine LeO.ite ?_ ?_)
   | (with_reducible refine LeO.bind ?_ (fun _ => ?_))
   | exact ih0 _ _ _ _
   | exact ih1 _ _ _ _
   | exact ih2 _ _ _ _ _ _
   | exact audit_Same.mono _ _ _ _
   | exact audit_Worst.mono _ _ _
   | exact fuseelaw38_give.mono _ _
   | exact fuseelaw38_sure.mono _
   | exact LeO.none _
   | refine LeO.ite ?_ ?_
   | refine LeO.bind ?_ (fun _ => ?_)
  ·intro y0 y1 y2 y3
   unfold fuseelaw38_AuditAlone.l0
   repeat' first
   | (with_reducible exact ih0 _ _ _ _)
   | (with_reducible exact ih1 _ _ _ _)
   | (with_reducible exact ih2 _ _ _ _ _ _)
   | (with_reducible exact audit_Same.mono _ _ _ _)
   | (with_reducible exact audit_Worst.mono _ _ _)
   | (with_reducible exact fuseelaw38_give.mono _ _)
   | (with_reducible exact fuseelaw38_sure.mono _)
   | (with_reducible exact LeO.refl _)
   | (with_reducible exact LeO.none _)
   | (with_reducible refine LeO.ite ?_ ?_)
   | (with_reducible refine LeO.bind ?_ (fun _ => ?_))
   | exact ih0 _ _ _ _
   | exact ih1 _ _ _ _
   | exact ih2 _ _ _ _ _ _
   | exact audit_Same.mono _ _ _ _
   | exact audit_Worst.mono _ _ _
   | exact fuseelaw38_give.mono _ _
   | exact fuseelaw38_sure.mono _
   | exact LeO.none _
   | refine LeO.ite ?_ ?_
   | refine LeO.bind ?_ (fun _ => ?_)
  ·intro y0 y1 y2 y3 y4 y5
   unfold fuseelaw38_AuditAlone.j2
   repeat' first
   | (with_reducible exact ih0 _ _ _ _)
   | (with_reducible exact ih1 _ _ _ _)
   | (with_reducible exact ih2 _ _ _ _ _ _)
   | (with_reducible exact audit_Same.mono _ _ _ _)
   | (with_reducible exact audit_Worst.mono _ _ _)
   | (with_reducible exact fuseelaw38_give.mono _ _)
   | (with_reducible exact fuseelaw38_sure.mono _)
   | (with_reducible exact LeO.refl _)
   | (with_reducible exact LeO.none _)
   | (with_reducible refine LeO.ite ?_ ?_)
   | (with_reducible refine LeO.bind ?_ (fun _ => ?_))
   | exact ih0 _ _ _ _
   | exact ih1 _ _ _ _
   | exact ih2 _ _ _ _ _ _
   | exact audit_Same.mono _ _ _ _
   | exact audit_Worst.mono _ _ _
   | exact fuseelaw38_give.mono _ _
   | exact fuseelaw38_sure.mono _
   | exact LeO.none _
   | refine LeO.ite ?_ ?_
   | refine LeO.bind ?_ (fun _ => ?_)
theorem fuseelaw38_AuditAlone.mono : ∀ a0 a1 k, LeO (fuseelaw38_AuditAlone.f k a0 a1) (fuseelaw38_AuditAlone.f (k + 1) a0 a1) := by
 intro a0 a1 k
 obtain ⟨ih0, ih1, ih2⟩ := fuseelaw38_AuditAlone.mono_l k
 unfold fuseelaw38_AuditAlone.f
 repeat' first
   | (with_reducible exact ih0 _ _ _ _)
   | (with_reducible exact ih1 _ _ _ _)
   | (with_reducible exact ih2 _ _ _ _ _ _)
   | (with_reducible exact audit_Same.mono _ _ _ _)
   | (with_reducible exact audit_Worst.mono _ _ _)
   | (with_reducible exact fuseelaw38_give.mono _ _)
   | (with_reducible exact fuseelaw38_sure.mono _)
   | (with_reducible exact LeO.refl _)
   | (with_reducible exact LeO.none _)
   | (with_reducible refine LeO.ite ?_ ?_)
   | (with_reducible refine LeO.bind ?_ (fun _ => ?_))
   | exact ih0 _ _ _ _
   | exact ih1 _ _ _ _
   | exact ih2 _ _ _ _ _ _
   | exact audit_Same.mono _ _ _ _
   | exact audit_Worst.mono _ _ _
   | exact fuseelaw38_give.mono _ _
   | exact fuseelaw38_sure.mono _
   | exact LeO.none _
   | refine LeO.ite ?_ ?_
   | refine LeO.bind ?_ (fun _ => ?_)
set_option maxHeartbeats 8000000 in
set_option maxRecDepth 100000 in
theorem fuseelaw38_AuditAlone.calls (k : Nat) (A0 : Option Addr) (c0 : Nat) (l0 : List (S68)) (a1 : ByteArray) (r : Bool) (w : World) (hr0 : Kd.C k68 w A0 l0.length l0) (hc0 : l0.length ≤ c0) (h : fuseelaw38_AuditAlone.f k l0 a1 = some r) :
  Calls Try.prog 6 #[.slice A0 l0.length c0, .string a1] w fun e w' => e = .returned (.bool r) ∧ Below w.heap.size w w' := by
 have hu46 := Try.underlying46
 have HR0 := qS hr0
 have HC0 := qS hc0
 clear hr0 hc0
 have HB := qS (Below.refl w.heap.size w)
 have H : (if (l0.length : Int) > 60 then ((fuseelaw38_sure.f k).bind fun t181 => (some t181)) else ((fuseelaw38_give.f k l0).bind fun t182 => ((audit_Seen.f t182 a1).bind fun t185 => ((audit_Same.f k t182 t185 a1).bind fun t188 => (if t188 = true then ((audit_Worst.f k t182 a1).bind fun t189 => ((audit_Worst.f k t185 a1).bind fun t190 => (fuseelaw38_AuditAlone.j0 k a1 t182 t185 (t189 != t190)))) else (fuseelaw38_AuditAlone.j0 k a1 t182 t185 true)))))) = some r := h
 clear h
 by_cases c3 : (l0.length : Int) > 60
 ·rw [if_pos c3] at H
  have c3b0 : decide (60 < (l0.length : Int)) = true := decide_eq_true c3
  have c3b1 : decide (60 < l0.length) = true := decide_eq_true (by omega)
  clear c3
  replace H := Option.bind_eq_some_iff.mp H
  obtain ⟨t181, A40, H⟩ := H
  replace H : (some t181) = some r := H
  have A4 := qS A40
  clear A40
  obtain rfl := Option.some.inj H
  go_enter Try.func6, Try.ntmps6
  go_wp2_with (first | (go_at_call 14; (with_reducible refine (fuseelaw38_sure.calls k  t181 _ A4.out).mono ?_); rintro e w5 ⟨rfl, hb⟩; have n0_ := qS (below_step (by repeat (first | (with_reducible first | exact HB.out | apply qpA | apply qpN | apply qp1) | exact HB.out)) hb); clear HB; have HB := n0_; clear n0_; (try clear hb); (try clear hb2); (try clear hk); (try clear hi)))
  repeat (go_quiet (first | (go_at_call 14; (with_reducible refine (fuseelaw38_sure.calls k  t181 _ A4.out).mono ?_); rintro e w5 ⟨rfl, hb⟩; have n0_ := qS (below_step (by repeat (first | (with_reducible first | exact HB.out | apply qpA | apply qpN | apply qp1) | exact HB.out)) hb); clear HB; have HB := n0_; clear n0_; (try clear hb); (try clear hb2); (try clear hk); (try clear hi))); try go_wp2_with (first | (go_at_call 14; (with_reducible refine (fuseelaw38_sure.calls k  t181 _ A4.out).mono ?_); rintro e w5 ⟨rfl, hb⟩; have n0_ := qS (below_step (by repeat (first | (with_reducible first | exact HB.out | apply qpA | apply qpN | apply qp1) | exact HB.out)) hb); clear HB; have HB := n0_; clear n0_; (try clear hb); (try clear hb2); (try clear hk); (try clear hi))))
  go_ret
  exact ⟨by first | rfl | (simp [errW_none, errW_some] <;> rfl) | (simp [*, errW_none, errW_some] <;> rfl), by repeat (first | (with_reducible first | exact HB.out | apply qpA | apply qpN | apply qp1) | exact HB.out)⟩
 ·rw [if_neg c3] at H
  have c3b0 : decide (60 < (l0.length : Int)) = false := decide_eq_false c3
  have c3b1 : decide (60 < l0.length) = false := decide_eq_false (by omega)
  clear c3
  replace H := Option.bind_eq_some_iff.mp H
  obtain ⟨t182, A60, H⟩ := H
  replace H : ((audit_Seen.f t182 a1).bind fun t185 => ((audit_Same.f k t182 t185 a1).bind fun t188 => (if t188 = true then ((audit_Worst.f k t182 a1).bind fun t189 => ((audit_Worst.f k t185 a1).bind fun t190 => (fuseelaw38_AuditAlone.j0 k a1 t182 t185 (t189 != t190)))) else (fuseelaw38_AuditAlone.j0 k a1 t182 t185 true)))) = some r := H
  have A6 := qS A60
  clear A60
  replace H := Option.bind_eq_some_iff.mp H
  obtain ⟨t185, A70, H⟩ := H
  replace H : ((audit_Same.f k t182 t185 a1).bind fun t188 => (if t188 = true then ((audit_Worst.f k t182 a1).bind fun t189 => ((audit_Worst.f k t185 a1).bind fun t190 => (fuseelaw38_AuditAlone.j0 k a1 t182 t185 (t189 != t190)))) else (fuseelaw38_AuditAlone.j0 k a1 t182 t185 true))) = some r := H
  have A7 := qS A70
  clear A70
  have HC8 := qS H
  clear H
  go_enter Try.func6, Try.ntmps6
  go_upto_region 5 with (first | (go_at_call 15; (with_reducible refine (fuseelaw38_give.calls k _ _ l0 t182 _ ?side1 ?side2 A6.out).mono ?_); (case side1 => repeat (first | exact HR0.out | (with_reducible refine Kd.C_alloc ?_ _) | (with_reducible refine Kd.C_drewN ?_ _) | (with_reducible refine Kd.C_drew ?_))); (case side2 => exact HC0.out); rintro e w9 ⟨v183, rfl, ho0, hb⟩; have n0_ := qS (Kd.R_lower ho0 (below_size (by repeat (first | (with_reducible first | exact HB.out | apply qpA | apply qpN | apply qp1) | exact HB.out)))); have n1_ := qS (below_step (by repeat (first | (with_reducible first | exact HB.out | apply qpA | apply qpN | apply qp1) | exact HB.out)) hb); clear HB; have HO184 := n0_; have HB := n1_; clear n0_ n1_; (try clear hb); (try clear hb2); (try clear hk); (try clear hi); (try clear ho0); obtain ⟨Ao10, co10, eo10⟩ := Kd.R_slice HO184.out; subst eo10) | (go_at_call 16; (with_reducible refine (audit_Seen.calls _ _ t182 a1 t185 _ ?side1 ?side2 A7.out).mono ?_); (case side1 => repeat (first | exact (Kd.R_reads' HO184.out).2.2 | (with_reducible refine Kd.C_alloc ?_ _) | (with_reducible refine Kd.C_drewN ?_ _) | (with_reducible refine Kd.C_drew ?_))); (case side2 => exact (Kd.R_reads' HO184.out).2.1); rintro e w11 ⟨v186, rfl, ho0, hb⟩; have n0_ := qS (Kd.R_elder' (by (with_reducible repeat (first | apply Kd.R_alloc | apply Kd.R_drewN | apply Kd.R_drew)); exact HO184.out) (Kd.R_base ho0) hb); have n1_ := qS (Kd.R_lower (Kd.R_new' ho0 (Kd.R_lt (by (with_reducible repeat (first | apply Kd.R_alloc | apply Kd.R_drewN | apply Kd.R_drew)); exact HO184.out))) (below_size (by repeat (first | (with_reducible first | exact HB.out | apply qpA | apply qpN | apply qp1) | exact HB.out)))); have n2_ := qS (below_step (by repeat (first | (with_reducible first | exact HB.out | apply qpA | apply qpN | apply qp1) | exact HB.out)) hb); clear HO184; clear HB; have HO184 := n0_; have HO187 := n1_; have HB := n2_; clear n0_ n1_ n2_; (try clear hb); (try clear hb2); (try clear hk); (try clear hi); (try clear ho0)))
  repeat (go_quiet (first | (go_at_call 15; (with_reducible refine (fuseelaw38_give.calls k _ _ l0 t182 _ ?side1 ?side2 A6.out).mono ?_); (case side1 => repeat (first | exact HR0.out | (with_reducible refine Kd.C_alloc ?_ _) | (with_reducible refine Kd.C_drewN ?_ _) | (with_reducible refine Kd.C_drew ?_))); (case side2 => exact HC0.out); rintro e w9 ⟨v183, rfl, ho0, hb⟩; have n0_ := qS (Kd.R_lower ho0 (below_size (by repeat (first | (with_reducible first | exact HB.out | apply qpA | apply qpN | apply qp1) | exact HB.out)))); have n1_ := qS (below_step (by repeat (first | (with_reducible first | exact HB.out | apply qpA | apply qpN | apply qp1) | exact HB.out)) hb); clear HB; have HO184 := n0_; have HB := n1_; clear n0_ n1_; (try clear hb); (try clear hb2); (try clear hk); (try clear hi); (try clear ho0); obtain ⟨Ao10, co10, eo10⟩ := Kd.R_slice HO184.out; subst eo10) | (go_at_call 16; (with_reducible refine (audit_Seen.calls _ _ t182 a1 t185 _ ?side1 ?side2 A7.out).mono ?_); (case side1 => repeat (first | exact (Kd.R_reads' HO184.out).2.2 | (with_reducible refine Kd.C_alloc ?_ _) | (with_reducible refine Kd.C_drewN ?_ _) | (with_reducible refine Kd.C_drew ?_))); (case side2 => exact (Kd.R_reads' HO184.out).2.1); rintro e w11 ⟨v186, rfl, ho0, hb⟩; have n0_ := qS (Kd.R_elder' (by (with_reducible repeat (first | apply Kd.R_alloc | apply Kd.R_drewN | apply Kd.R_drew)); exact HO184.out) (Kd.R_base ho0) hb); have n1_ := qS (Kd.R_lower (Kd.R_new' ho0 (Kd.R_lt (by (with_reducible repeat (first | apply Kd.R_alloc | apply Kd.R_drewN | apply Kd.R_drew)); exact HO184.out))) (below_size (by repeat (first | (with_reducible first | exact HB.out | apply qpA | apply qpN | apply qp1) | exact HB.out)))); have n2_ := qS (below_step (by repeat (first | (with_reducible first | exact HB.out | apply qpA | apply qpN | apply qp1) | exact HB.out)) hb); clear HO184; clear HB; have HO184 := n0_; have HO187 := n1_; have HB := n2_; clear n0_ n1_ n2_; (try clear hb); (try clear hb2); (try clear hk); (try clear hi); (try clear ho0))); go_upto_region 5 with (first | (go_at_call 15; (with_reducible refine (fuseelaw38_give.calls k _ _ l0 t182 _ ?side1 ?side2 A6.out).mono ?_); (case side1 => repeat (first | exact HR0.out | (with_reducible refine Kd.C_alloc ?_ _) | (with_reducible refine Kd.C_drewN ?_ _) | (with_reducible refine Kd.C_drew ?_))); (case side2 => exact HC0.out); rintro e w9 ⟨v183, rfl, ho0, hb⟩; have n0_ := qS (Kd.R_lower ho0 (below_size (by repeat (first | (with_reducible first | exact HB.out | apply qpA | apply qpN | apply qp1) | exact HB.out)))); have n1_ := qS (below_step (by repeat (first | (with_reducible first | exact HB.out | apply qpA | apply qpN | apply qp1) | exact HB.out)) hb); clear HB; have HO184 := n0_; have HB := n1_; clear n0_ n1_; (try clear hb); (try clear hb2); (try clear hk); (try clear hi); (try clear ho0); obtain ⟨Ao10, co10, eo10⟩ := Kd.R_slice HO184.out; subst eo10) | (go_at_call 16; (with_reducible refine (audit_Seen.calls _ _ t182 a1 t185 _ ?side1 ?side2 A7.out).mono ?_); (case side1 => repeat (first | exact (Kd.R_reads' HO184.out).2.2 | (with_reducible refine Kd.C_alloc ?_ _) | (with_reducible refine Kd.C_drewN ?_ _) | (with_reducible refine Kd.C_drew ?_))); (case side2 => exact (Kd.R_reads' HO184.out).2.1); rintro e w11 ⟨v186, rfl, ho0, hb⟩; have n0_ := qS (Kd.R_elder' (by (with_reducible repeat (first | apply Kd.R_alloc | apply Kd.R_drewN | apply Kd.R_drew)); exact HO184.out) (Kd.R_base ho0) hb); have n1_ := qS (Kd.R_lower (Kd.R_new' ho0 (Kd.R_lt (by (with_reducible repeat (first | apply Kd.R_alloc | apply Kd.R_drewN | apply Kd.R_drew)); exact HO184.out))) (below_size (by repeat (first | (with_reducible first | exact HB.out | apply qpA | apply qpN | apply qp1) | exact HB.out)))); have n2_ := qS (below_step (by repeat (first | (with_reducible first | exact HB.out | apply qpA | apply qpN | apply qp1) | exact HB.out)) hb); clear HO184; clear HB; have HO184 := n0_; have HO187 := n1_; have HB := n2_; clear n0_ n1_ n2_; (try clear hb); (try clear hb2); (try clear hk); (try clear hi); (try clear ho0))))
  (try simp only [Act.put, List.setIfInBounds_toArray, List.set_cons_zero, List.set_cons_succ])
  go_cut [32] (fun v32 wc => ∃ (kq : Nat) (x32_7 : Bool), v32 = .bool x32_7 ∧ Aside0 (fuseelaw38_AuditAlone.j0 kq a1 t182 t185 x32_7 = some r) ∧ Aside0 (kq ≤ k) ∧ Aside0 (Kd.R k46 46 wc w.heap.size (fun k_ => some k_ ≠ (v186 : Value).ownBlock) (.slice Ao10 t182.length co10) t182) ∧ Aside0 (Kd.R k46 46 wc w.heap.size (fun k_ => some k_ ≠ ((.slice Ao10 t182.length co10) : Value).ownBlock) v186 t185) ∧ Aside0 (Below w.heap.size w wc))
  case first =>
   have H := HC8.out
   clear HC8
   replace H := Option.bind_eq_some_iff.mp H
   obtain ⟨t188, A120, H⟩ := H
   replace H : (if t188 = true then ((audit_Worst.f k t182 a1).bind fun t189 => ((audit_Worst.f k t185 a1).bind fun t190 => (fuseelaw38_AuditAlone.j0 k a1 t182 t185 (t189 != t190)))) else (fuseelaw38_AuditAlone.j0 k a1 t182 t185 true)) = some r := H
   have A12 := qS A120
   clear A120
   by_cases c13 : t188 = true
   ·subst c13
    have H1 : ((audit_Worst.f k t182 a1).bind fun t189 => ((audit_Worst.f k t185 a1).bind fun t190 => (fuseelaw38_AuditAlone.j0 k a1 t182 t185 (t189 != t190)))) = some r := by rw [if_pos rfl] at H; exact H
    clear H
    have H := H1
    clear H1
    replace H := Option.bind_eq_some_iff.mp H
    obtain ⟨t189, A140, H⟩ := H
    replace H : ((audit_Worst.f k t185 a1).bind fun t190 => (fuseelaw38_AuditAlone.j0 k a1 t182 t185 (t189 != t190))) = some r := H
    have A14 := qS A140
    clear A140
    replace H := Option.bind_eq_some_iff.mp H
    obtain ⟨t190, A150, H⟩ := H
    replace H : (fuseelaw38_AuditAlone.j0 k a1 t182 t185 (t189 != t190)) = some r := H
    have A15 := qS A150
    clear A150
    have H' := qS H
    clear H
    obtain ⟨Ao16, co16, eo16⟩ := Kd.R_slice HO187.out
    subst eo16
    go_wp2_with (first | (go_at_call 24; (with_reducible refine (audit_Same.calls k _ _ t182 _ _ t185 a1 true _ ?side1 ?side2 ?side3 ?side4 A12.out).mono ?_); (case side1 => repeat (first | exact (Kd.R_reads' HO184.out).2.2 | (with_reducible refine Kd.C_alloc ?_ _) | (with_reducible refine Kd.C_drewN ?_ _) | (with_reducible refine Kd.C_drew ?_))); (case side2 => exact (Kd.R_reads' HO184.out).2.1); (case side3 => repeat (first | exact (Kd.R_reads' HO187.out).2.2 | (with_reducible refine Kd.C_alloc ?_ _) | (with_reducible refine Kd.C_drewN ?_ _) | (with_reducible refine Kd.C_drew ?_))); (case side4 => exact (Kd.R_reads' HO187.out).2.1); rintro e w17 ⟨rfl, hb⟩; have n0_ := qS (Kd.R_below (by (with_reducible repeat (first | apply Kd.R_alloc | apply Kd.R_drewN | apply Kd.R_drew)); exact HO184.out) hb); have n1_ := qS (Kd.R_below (by (with_reducible repeat (first | apply Kd.R_alloc | apply Kd.R_drewN | apply Kd.R_drew)); exact HO187.out) hb); have n2_ := qS (below_step (by repeat (first | (with_reducible first | exact HB.out | apply qpA | apply qpN | apply qp1) | exact HB.out)) hb); clear HO184; clear HO187; clear HB; have HO184 := n0_; have HO187 := n1_; have HB := n2_; clear n0_ n1_ n2_; (try clear hb); (try clear hb2); (try clear hk); (try clear hi)) | (go_at_call 26; (with_reducible refine (audit_Worst.calls k _ _ t182 a1 t189 _ ?side1 ?side2 A14.out).mono ?_); (case side1 => repeat (first | exact (Kd.R_reads' HO184.out).2.2 | (with_reducible refine Kd.C_alloc ?_ _) | (with_reducible refine Kd.C_drewN ?_ _) | (with_reducible refine Kd.C_drew ?_))); (case side2 => exact (Kd.R_reads' HO184.out).2.1); rintro e w18 ⟨rfl, hb⟩; have n0_ := qS (Kd.R_below (by (with_reducible repeat (first | apply Kd.R_alloc | apply Kd.R_drewN | apply Kd.R_drew)); exact HO184.out) hb); have n1_ := qS (Kd.R_below (by (with_reducible repeat (first | apply Kd.R_alloc | apply Kd.R_drewN | apply Kd.R_drew)); exact HO187.out) hb); have n2_ := qS (below_step (by repeat (first | (with_reducible first | exact HB.out | apply qpA | apply qpN | apply qp1) | exact HB.out)) hb); clear HO184; clear HO187; clear HB; have HO184 := n0_; have HO187 := n1_; have HB := n2_; clear n0_ n1_ n2_; (try clear hb); (try clear hb2); (try clear hk); (try clear hi)) | (go_at_call 26; (with_reducible refine (audit_Worst.calls k _ _ t185 a1 t190 _ ?side1 ?side2 A15.out).mono ?_); (case side1 => repeat (first | exact (Kd.R_reads' HO187.out).2.2 | (with_reducible refine Kd.C_alloc ?_ _) | (with_reducible refine Kd.C_drewN ?_ _) | (with_reducible refine Kd.C_drew ?_))); (case side2 => exact (Kd.R_reads' HO187.out).2.1); rintro e w19 ⟨rfl, hb⟩; have n0_ := qS (Kd.R_below (by (with_reducible repeat (first | apply Kd.R_alloc | apply Kd.R_drewN | apply Kd.R_drew)); exact HO184.out) hb); have n1_ := qS (Kd.R_below (by (with_reducible repeat (first | apply Kd.R_alloc | apply Kd.R_drewN | apply Kd.R_drew)); exact HO187.out) hb); have n2_ := qS (below_step (by repeat (first | (with_reducible first | exact HB.out | apply qpA | apply qpN | apply qp1) | exact HB.out)) hb); clear HO184; clear HO187; clear HB; have HO184 := n0_; have HO187 := n1_; have HB := n2_; clear n0_ n1_ n2_; (try clear hb); (try clear hb2); (try clear hk); (try clear hi)))
    repeat (go_quiet (first | (go_at_call 24; (with_reducible refine (audit_Same.calls k _ _ t182 _ _ t185 a1 true _ ?side1 ?side2 ?side3 ?side4 A12.out).mono ?_); (case side1 => repeat (first | exact (Kd.R_reads' HO184.out).2.2 | (with_reducible refine Kd.C_alloc ?_ _) | (with_reducible refine Kd.C_drewN ?_ _) | (with_reducible refine Kd.C_drew ?_))); (case side2 => exact (Kd.R_reads' HO184.out).2.1); (case side3 => repeat (first | exact (Kd.R_reads' HO187.out).2.2 | (with_reducible refine Kd.C_alloc ?_ _) | (with_reducible refine Kd.C_drewN ?_ _) | (with_reducible refine Kd.C_drew ?_))); (case side4 => exact (Kd.R_reads' HO187.out).2.1); rintro e w17 ⟨rfl, hb⟩; have n0_ := qS (Kd.R_below (by (with_reducible repeat (first | apply Kd.R_alloc | apply Kd.R_drewN | apply Kd.R_drew)); exact HO184.out) hb); have n1_ := qS (Kd.R_below (by (with_reducible repeat (first | apply Kd.R_alloc | apply Kd.R_drewN | apply Kd.R_drew)); exact HO187.out) hb); have n2_ := qS (below_step (by repeat (first | (with_reducible first | exact HB.out | apply qpA | apply qpN | apply qp1) | exact HB.out)) hb); clear HO184; clear HO187; clear HB; have HO184 := n0_; have HO187 := n1_; have HB := n2_; clear n0_ n1_ n2_; (try clear hb); (try clear hb2); (try clear hk); (try clear hi)) | (go_at_call 26; (with_reducible refine (audit_Worst.calls k _ _ t182 a1 t189 _ ?side1 ?side2 A14.out).mono ?_); (case side1 => repeat (first | exact (Kd.R_reads' HO184.out).2.2 | (with_reducible refine Kd.C_alloc ?_ _) | (with_reducible refine Kd.C_drewN ?_ _) | (with_reducible refine Kd.C_drew ?_))); (case side2 => exact (Kd.R_reads' HO184.out).2.1); rintro e w18 ⟨rfl, hb⟩; have n0_ := qS (Kd.R_below (by (with_reducible repeat (first | apply Kd.R_alloc | apply Kd.R_drewN | apply Kd.R_drew)); exact HO184.out) hb); have n1_ := qS (Kd.R_below (by (with_reducible repeat (first | apply Kd.R_alloc | apply Kd.R_drewN | apply Kd.R_drew)); exact HO187.out) hb); have n2_ := qS (below_step (by repeat (first | (with_reducible first | exact HB.out | apply qpA | apply qpN | apply qp1) | exact HB.out)) hb); clear HO184; clear HO187; clear HB; have HO184 := n0_; have HO187 := n1_; have HB := n2_; clear n0_ n1_ n2_; (try clear hb); (try clear hb2); (try clear hk); (try clear hi)) | (go_at_call 26; (with_reducible refine (audit_Worst.calls k _ _ t185 a1 t190 _ ?side1 ?side2 A15.out).mono ?_); (case side1 => repeat (first | exact (Kd.R_reads' HO187.out).2.2 | (with_reducible refine Kd.C_alloc ?_ _) | (with_reducible refine Kd.C_drewN ?_ _) | (with_reducible refine Kd.C_drew ?_))); (case side2 => exact (Kd.R_reads' HO187.out).2.1); rintro e w19 ⟨rfl, hb⟩; have n0_ := qS (Kd.R_below (by (with_reducible repeat (first | apply Kd.R_alloc | apply Kd.R_drewN | apply Kd.R_drew)); exact HO184.out) hb); have n1_ := qS (Kd.R_below (by (with_reducible repeat (first | apply Kd.R_alloc | apply Kd.R_drewN | apply Kd.R_drew)); exact HO187.out) hb); have n2_ := qS (below_step (by repeat (first | (with_reducible first | exact HB.out | apply qpA | apply qpN | apply qp1) | exact HB.out)) hb); clear HO184; clear HO187; clear HB; have HO184 := n0_; have HO187 := n1_; have HB := n2_; clear n0_ n1_ n2_; (try clear hb); (try clear hb2); (try clear hk); (try clear hi))); try go_wp2_with (first | (go_at_call 24; (with_reducible refine (audit_Same.calls k _ _ t182 _ _ t185 a1 true _ ?side1 ?side2 ?side3 ?side4 A12.out).mono ?_); (case side1 => repeat (first | exact (Kd.R_reads' HO184.out).2.2 | (with_reducible refine Kd.C_alloc ?_ _) | (with_reducible refine Kd.C_drewN ?_ _) | (with_reducible refine Kd.C_drew ?_))); (case side2 => exact (Kd.R_reads' HO184.out).2.1); (case side3 => repeat (first | exact (Kd.R_reads' HO187.out).2.2 | (with_reducible refine Kd.C_alloc ?_ _) | (with_reducible refine Kd.C_drewN ?_ _) | (with_reducible refine Kd.C_drew ?_))); (case side4 => exact (Kd.R_reads' HO187.out).2.1); rintro e w17 ⟨rfl, hb⟩; have n0_ := qS (Kd.R_below (by (with_reducible repeat (first | apply Kd.R_alloc | apply Kd.R_drewN | apply Kd.R_drew)); exact HO184.out) hb); have n1_ := qS (Kd.R_below (by (with_reducible repeat (first | apply Kd.R_alloc | apply Kd.R_drewN | apply Kd.R_drew)); exact HO187.out) hb); have n2_ := qS (below_step (by repeat (first | (with_reducible first | exact HB.out | apply qpA | apply qpN | apply qp1) | exact HB.out)) hb); clear HO184; clear HO187; clear HB; have HO184 := n0_; have HO187 := n1_; have HB := n2_; clear n0_ n1_ n2_; (try clear hb); (try clear hb2); (try clear hk); (try clear hi)) | (go_at_call 26; (with_reducible refine (audit_Worst.calls k _ _ t182 a1 t189 _ ?side1 ?side2 A14.out).mono ?_); (case side1 => repeat (first | exact (Kd.R_reads' HO184.out).2.2 | (with_reducible refine Kd.C_alloc ?_ _) | (with_reducible refine Kd.C_drewN ?_ _) | (with_reducible refine Kd.C_drew ?_))); (case side2 => exact (Kd.R_reads' HO184.out).2.1); rintro e w18 ⟨rfl, hb⟩; have n0_ := qS (Kd.R_below (by (with_reducible repeat (first | apply Kd.R_alloc | apply Kd.R_drewN | apply Kd.R_drew)); exact HO184.out) hb); have n1_ := qS (Kd.R_below (by (with_reducible repeat (first | apply Kd.R_alloc | apply Kd.R_drewN | apply Kd.R_drew)); exact HO187.out) hb); have n2_ := qS (below_step (by repeat (first | (with_reducible first | exact HB.out | apply qpA | apply qpN | apply qp1) | exact HB.out)) hb); clear HO184; clear HO187; clear HB; have HO184 := n0_; have HO187 := n1_; have HB := n2_; clear n0_ n1_ n2_; (try clear hb); (try clear hb2); (try clear hk); (try clear hi)) | (go_at_call 26; (with_reducible refine (audit_Worst.calls k _ _ t185 a1 t190 _ ?side1 ?side2 A15.out).mono ?_); (case side1 => repeat (first | exact (Kd.R_reads' HO187.out).2.2 | (with_reducible refine Kd.C_alloc ?_ _) | (with_reducible refine Kd.C_drewN ?_ _) | (with_reducible refine Kd.C_drew ?_))); (case side2 => exact (Kd.R_reads' HO187.out).2.1); rintro e w19 ⟨rfl, hb⟩; have n0_ := qS (Kd.R_below (by (with_reducible repeat (first | apply Kd.R_alloc | apply Kd.R_drewN | apply Kd.R_drew)); exact HO184.out) hb); have n1_ := qS (Kd.R_below (by (with_reducible repeat (first | apply Kd.R_alloc | apply Kd.R_drewN | apply Kd.R_drew)); exact HO187.out) hb); have n2_ := qS (below_step (by repeat (first | (with_reducible first | exact HB.out | apply qpA | apply qpN | apply qp1) | exact HB.out)) hb); clear HO184; clear HO187; clear HB; have HO184 := n0_; have HO187 := n1_; have HB := n2_; clear n0_ n1_ n2_; (try clear hb); (try clear hb2); (try clear hk); (try clear hi))))
    go_meet
    case rel => exact ⟨_, ((t189 != t190)), (by first | rfl | (simp; done) | (simp [*]; done)), H', ⟨by first | omega | exact Nat.le_refl _⟩, ⟨by (with_reducible repeat (first | apply Kd.R_alloc | apply Kd.R_drewN | apply Kd.R_drew)); exact Kd.R_mono HO184.out (fun _ hk => by first | exact hk.2 | exact True.intro)⟩, ⟨by (with_reducible repeat (first | apply Kd.R_alloc | apply Kd.R_drewN | apply Kd.R_drew)); exact Kd.R_mono HO187.out (fun _ hk => by first | exact hk.2 | exact True.intro)⟩, ⟨by repeat (first | (with_reducible first | exact HB.out | apply qpA | apply qpN | apply qp1) | exact HB.out)⟩⟩
   ·replace c13 := Bool.eq_false_iff.mpr c13
    subst c13
    have H1 : (fuseelaw38_AuditAlone.j0 k a1 t182 t185 true) = some r := by rw [if_neg (show ¬ (false = true) by decide)] at H; exact H
    clear H
    have H := H1
    clear H1
    have H' := qS H
    clear H
    obtain ⟨Ao20, co20, eo20⟩ := Kd.R_slice HO187.out
    subst eo20
    go_wp2_with (first | (go_at_call 24; (with_reducible refine (audit_Same.calls k _ _ t182 _ _ t185 a1 false _ ?side1 ?side2 ?side3 ?side4 A12.out).mono ?_); (case side1 => repeat (first | exact (Kd.R_reads' HO184.out).2.2 | (with_reducible refine Kd.C_alloc ?_ _) | (with_reducible refine Kd.C_drewN ?_ _) | (with_reducible refine Kd.C_drew ?_))); (case side2 => exact (Kd.R_reads' HO184.out).2.1); (case side3 => repeat (first | exact (Kd.R_reads' HO187.out).2.2 | (with_reducible refine Kd.C_alloc ?_ _) | (with_reducible refine Kd.C_drewN ?_ _) | (with_reducible refine Kd.C_drew ?_))); (case side4 => exact (Kd.R_reads' HO187.out).2.1); rintro e w21 ⟨rfl, hb⟩; have n0_ := qS (Kd.R_below (by (with_reducible repeat (first | apply Kd.R_alloc | apply Kd.R_drewN | apply Kd.R_drew)); exact HO184.out) hb); have n1_ := qS (Kd.R_below (by (with_reducible repeat (first | apply Kd.R_alloc | apply Kd.R_drewN | apply Kd.R_drew)); exact HO187.out) hb); have n2_ := qS (below_step (by repeat (first | (with_reducible first | exact HB.out | apply qpA | apply qpN | apply qp1) | exact HB.out)) hb); clear HO184; clear HO187; clear HB; have HO184 := n0_; have HO187 := n1_; have HB := n2_; clear n0_ n1_ n2_; (try clear hb); (try clear hb2); (try clear hk); (try clear hi)))
    repeat (go_quiet (first | (go_at_call 24; (with_reducible refine (audit_Same.calls k _ _ t182 _ _ t185 a1 false _ ?side1 ?side2 ?side3 ?side4 A12.out).mono ?_); (case side1 => repeat (first | exact (Kd.R_reads' HO184.out).2.2 | (with_reducible refine Kd.C_alloc ?_ _) | (with_reducible refine Kd.C_drewN ?_ _) | (with_reducible refine Kd.C_drew ?_))); (case side2 => exact (Kd.R_reads' HO184.out).2.1); (case side3 => repeat (first | exact (Kd.R_reads' HO187.out).2.2 | (with_reducible refine Kd.C_alloc ?_ _) | (with_reducible refine Kd.C_drewN ?_ _) | (with_reducible refine Kd.C_drew ?_))); (case side4 => exact (Kd.R_reads' HO187.out).2.1); rintro e w21 ⟨rfl, hb⟩; have n0_ := qS (Kd.R_below (by (with_reducible repeat (first | apply Kd.R_alloc | apply Kd.R_drewN | apply Kd.R_drew)); exact HO184.out) hb); have n1_ := qS (Kd.R_below (by (with_reducible repeat (first | apply Kd.R_alloc | apply Kd.R_drewN | apply Kd.R_drew)); exact HO187.out) hb); have n2_ := qS (below_step (by repeat (first | (with_reducible first | exact HB.out | apply qpA | apply qpN | apply qp1) | exact HB.out)) hb); clear HO184; clear HO187; clear HB; have HO184 := n0_; have HO187 := n1_; have HB := n2_; clear n0_ n1_ n2_; (try clear hb); (try clear hb2); (try clear hk); (try clear hi))); try go_wp2_with (first | (go_at_call 24; (with_reducible refine (audit_Same.calls k _ _ t182 _ _ t185 a1 false _ ?side1 ?side2 ?side3 ?side4 A12.out).mono ?_); (case side1 => repeat (first | exact (Kd.R_reads' HO184.out).2.2 | (with_reducible refine Kd.C_alloc ?_ _) | (with_reducible refine Kd.C_drewN ?_ _) | (with_reducible refine Kd.C_drew ?_))); (case side2 => exact (Kd.R_reads' HO184.out).2.1); (case side3 => repeat (first | exact (Kd.R_reads' HO187.out).2.2 | (with_reducible refine Kd.C_alloc ?_ _) | (with_reducible refine Kd.C_drewN ?_ _) | (with_reducible refine Kd.C_drew ?_))); (case side4 => exact (Kd.R_reads' HO187.out).2.1); rintro e w21 ⟨rfl, hb⟩; have n0_ := qS (Kd.R_below (by (with_reducible repeat (first | apply Kd.R_alloc | apply Kd.R_drewN | apply Kd.R_drew)); exact HO184.out) hb); have n1_ := qS (Kd.R_below (by (with_reducible repeat (first | apply Kd.R_alloc | apply Kd.R_drewN | apply Kd.R_drew)); exact HO187.out) hb); have n2_ := qS (below_step (by repeat (first | (with_reducible first | exact HB.out | apply qpA | apply qpN | apply qp1) | exact HB.out)) hb); clear HO184; clear HO187; clear HB; have HO184 := n0_; have HO187 := n1_; have HB := n2_; clear n0_ n1_ n2_; (try clear hb); (try clear hb2); (try clear hk); (try clear hi))))
    go_meet
    case rel => exact ⟨_, (true), (by first | rfl | (simp; done) | (simp [*]; done)), H', ⟨by first | omega | exact Nat.le_refl _⟩, ⟨by (with_reducible repeat (first | apply Kd.R_alloc | apply Kd.R_drewN | apply Kd.R_drew)); exact Kd.R_mono HO184.out (fun _ hk => by first | exact hk.2 | exact True.intro)⟩, ⟨by (with_reducible repeat (first | apply Kd.R_alloc | apply Kd.R_drewN | apply Kd.R_drew)); exact Kd.R_mono HO187.out (fun _ hk => by first | exact hk.2 | exact True.intro)⟩, ⟨by repeat (first | (with_reducible first | exact HB.out | apply qpA | apply qpN | apply qp1) | exact HB.out)⟩⟩
  case rest =>
   clear HC8
   try clear c1
   try clear p2
   try clear c3
   try clear c3b0
   try clear c3b1
   try clear c6
   try clear c13
   obtain ⟨kq, x32_7, rfl, HA, HJ7, HO_5, HO_6, HB⟩ := hcut
   cases kq with
   | zero => exact absurd HA.out (by simp [fuseelaw38_AuditAlone.j0])
   | succ kj7 =>
    have H := HA.out
    clear HA
    simp only [fuseelaw38_AuditAlone.j0] at H
    by_cases c22 : x32_7 = true
    ·subst c22
     have H1 : (none) = some r := by rw [if_pos rfl] at H; exact H
     clear H
     have H := H1
     clear H1
     exact absurd H (by simp)
    ·replace c22 := Bool.eq_false_iff.mpr c22
     subst c22
     have H1 : (fuseelaw38_AuditAlone.l0 kj7 a1 t182 t185 0) = some r := by rw [if_neg (show ¬ (false = true) by decide)] at H; exact H
     clear H
     have H := H1
     clear H1
     have H' := qS H
     clear H
     go_wp2
     repeat (go_quiet (fail); try go_wp2)
     go_loopg [7] kj7 (fun kq v7 w' => ∃ (x7_2 : Int), v7 = .int .i64 x7_2 ∧ Aside0 (fuseelaw38_AuditAlone.l0 kq a1 t182 t185 x7_2 = some r) ∧ Aside0 (kq ≤ kj7) ∧ Aside0 (Kd.R k46 46 w' w.heap.size (fun k_ => some k_ ≠ (v186 : Value).ownBlock) (.slice Ao10 t182.length co10) t182) ∧ Aside0 (Kd.R k46 46 w' w.heap.size (fun k_ => some k_ ≠ ((.slice Ao10 t182.length co10) : Value).ownBlock) v186 t185) ∧ Aside0 (Below w.heap.size w w'))
     case atStart => exact ⟨(0), (by first | rfl | (simp; done) | (simp [*]; done)), H', ⟨Nat.le_refl _⟩, ⟨by (with_reducible repeat (first | apply Kd.R_alloc | apply Kd.R_drewN | apply Kd.R_drew)); exact HO_5.out⟩, ⟨by (with_reducible repeat (first | apply Kd.R_alloc | apply Kd.R_drewN | apply Kd.R_drew)); exact HO_6.out⟩, ⟨by repeat (first | (with_reducible first | exact HB.out | apply qpA | apply qpN | apply qp1) | exact HB.out)⟩⟩
     case round =>
      clear H'
      try clear c1
      try clear c2
      try clear p2
      try clear c3
      try clear c3b0
      try clear c3b1
      try clear c6
      try clear c13
      try clear c22
      try clear p2
      obtain ⟨x7_2, rfl, HA, HK2, HO_5, HO_6, HB⟩ := hrel
      cases gk with
      | zero => exact absurd HA.out (by simp [fuseelaw38_AuditAlone.l0])
      | succ k2 =>
       have H := HA.out
       clear HA
       simp only [fuseelaw38_AuditAlone.l0] at H
       by_cases c23 : x7_2 < 3
       ·rw [if_pos c23] at H
        have c23b0 : decide (x7_2 < 3) = true := decide_eq_true c23
        clear c23
        replace H := Option.bind_eq_some_iff.mp H
        obtain ⟨t192, A240, H⟩ := H
        replace H : ((fuseelaw38_found.f t185 a1 x7_2).bind fun t193 => (if ((decide (t192 < 0)) != (decide (t193 < 0))) = true then (fuseelaw38_AuditAlone.j2 k2 a1 t182 t185 x7_2 t192 true) else (if t192 < (-1) then (fuseelaw38_AuditAlone.j2 k2 a1 t182 t185 x7_2 t192 true) else (if t193 < (-1) then (fuseelaw38_AuditAlone.j2 k2 a1 t182 t185 x7_2 t192 true) else (if t192 ≥ (t182.length : Int) then (fuseelaw38_AuditAlone.j2 k2 a1 t182 t185 x7_2 t192 true) else (if t193 ≥ (t185.length : Int) then (fuseelaw38_AuditAlone.j2 k2 a1 t182 t185 x7_2 t192 true) else (if t192 ≥ 0 then (if 0 ≤ t192 then (if t192 < (t182.length : Int) then (if 0 ≤ t193 then (if t193 < (t185.length : Int) then (fuseelaw38_AuditAlone.j2 k2 a1 t182 t185 x7_2 t192 (!(((rd_T46 t182 t192).f0) == ((rd_T46 t185 t193).f0)) || (!((((rd_T46 t182 t192).f1).toList) == (((rd_T46 t185 t193).f1).toList)) || (!(((rd_T46 t182 t192).f2) == ((rd_T46 t185 t193).f2)) || (!(((rd_T46 t182 t192).f3) == ((rd_T46 t185 t193).f3)) || ((!(((rd_T46 t182 t192).f4.f0) == ((rd_T46 t185 t193).f4.f0)) || (!(((rd_T46 t182 t192).f4.f1) == ((rd_T46 t185 t193).f4.f1)) || (!(((rd_T46 t182 t192).f4.f2) == ((rd_T46 t185 t193).f4.f2)) || (!(((rd_T46 t182 t192).f4.f3) == ((rd_T46 t185 t193).f4.f3)))))) || (!(((rd_T46 t182 t192).f5) == ((rd_T46 t185 t193).f5)) || (!(((rd_T46 t182 t192).f6) == ((rd_T46 t185 t193).f6)))))))))) else (none)) else (none)) else (none)) else (none)) else (fuseelaw38_AuditAlone.j2 k2 a1 t182 t185 x7_2 t192 false)))))))) = some r := H
        have A24 := qS A240
        clear A240
        replace H := Option.bind_eq_some_iff.mp H
        obtain ⟨t193, A250, H⟩ := H
        replace H : (if ((decide (t192 < 0)) != (decide (t193 < 0))) = true then (fuseelaw38_AuditAlone.j2 k2 a1 t182 t185 x7_2 t192 true) else (if t192 < (-1) then (fuseelaw38_AuditAlone.j2 k2 a1 t182 t185 x7_2 t192 true) else (if t193 < (-1) then (fuseelaw38_AuditAlone.j2 k2 a1 t182 t185 x7_2 t192 true) else (if t192 ≥ (t182.length : Int) then (fuseelaw38_AuditAlone.j2 k2 a1 t182 t185 x7_2 t192 true) else (if t193 ≥ (t185.length : Int) then (fuseelaw38_AuditAlone.j2 k2 a1 t182 t185 x7_2 t192 true) else (if t192 ≥ 0 then (if 0 ≤ t192 then (if t192 < (t182.length : Int) then (if 0 ≤ t193 then (if t193 < (t185.length : Int) then (fuseelaw38_AuditAlone.j2 k2 a1 t182 t185 x7_2 t192 (!(((rd_T46 t182 t192).f0) == ((rd_T46 t185 t193).f0)) || (!((((rd_T46 t182 t192).f1).toList) == (((rd_T46 t185 t193).f1).toList)) || (!(((rd_T46 t182 t192).f2) == ((rd_T46 t185 t193).f2)) || (!(((rd_T46 t182 t192).f3) == ((rd_T46 t185 t193).f3)) || ((!(((rd_T46 t182 t192).f4.f0) == ((rd_T46 t185 t193).f4.f0)) || (!(((rd_T46 t182 t192).f4.f1) == ((rd_T46 t185 t193).f4.f1)) || (!(((rd_T46 t182 t192).f4.f2) == ((rd_T46 t185 t193).f4.f2)) || (!(((rd_T46 t182 t192).f4.f3) == ((rd_T46 t185 t193).f4.f3)))))) || (!(((rd_T46 t182 t192).f5) == ((rd_T46 t185 t193).f5)) || (!(((rd_T46 t182 t192).f6) == ((rd_T46 t185 t193).f6)))))))))) else (none)) else (none)) else (none)) else (none)) else (fuseelaw38_AuditAlone.j2 k2 a1 t182 t185 x7_2 t192 false))))))) = some r := H
        have A25 := qS A250
        clear A250
        have HC26 := qS H
        clear H
        go_upto_region 11 with (first | (go_at_call 28; (with_reducible refine (fuseelaw38_found.calls _ _ t182 a1 x7_2 t192 _ ?side1 ?side2 A24.out).mono ?_); (case side1 => repeat (first | exact (Kd.R_reads' HO_5.out).2.2 | (with_reducible refine Kd.C_alloc ?_ _) | (with_reducible refine Kd.C_drewN ?_ _) | (with_reducible refine Kd.C_drew ?_))); (case side2 => exact (Kd.R_reads' HO_5.out).2.1); rintro e w27 ⟨rfl, hb⟩; have n0_ := qS (Kd.R_below (by (with_reducible repeat (first | apply Kd.R_alloc | apply Kd.R_drewN | apply Kd.R_drew)); exact HO_5.out) hb); have n1_ := qS (Kd.R_below (by (with_reducible repeat (first | apply Kd.R_alloc | apply Kd.R_drewN | apply Kd.R_drew)); exact HO_6.out) hb); have n2_ := qS (below_step (by repeat (first | (with_reducible first | exact HB.out | apply qpA | apply qpN | apply qp1) | exact HB.out)) hb); clear HO_5; clear HO_6; clear HB; have HO_5 := n0_; have HO_6 := n1_; have HB := n2_; clear n0_ n1_ n2_; (try clear hb); (try clear hb2); (try clear hk); (try clear hi); obtain ⟨Ao28, co28, eo28⟩ := Kd.R_slice HO_6.out; subst eo28) | (go_at_call 28; (with_reducible refine (fuseelaw38_found.calls _ _ t185 a1 x7_2 t193 _ ?side1 ?side2 A25.out).mono ?_); (case side1 => repeat (first | exact (Kd.R_reads' HO_6.out).2.2 | (with_reducible refine Kd.C_alloc ?_ _) | (with_reducible refine Kd.C_drewN ?_ _) | (with_reducible refine Kd.C_drew ?_))); (case side2 => exact (Kd.R_reads' HO_6.out).2.1); rintro e w29 ⟨rfl, hb⟩; have n0_ := qS (Kd.R_below (by (with_reducible repeat (first | apply Kd.R_alloc | apply Kd.R_drewN | apply Kd.R_drew)); exact HO_5.out) hb); have n1_ := qS (Kd.R_below (by (with_reducible repeat (first | apply Kd.R_alloc | apply Kd.R_drewN | apply Kd.R_drew)); exact HO_6.out) hb); have n2_ := qS (below_step (by repeat (first | (with_reducible first | exact HB.out | apply qpA | apply qpN | apply qp1) | exact HB.out)) hb); clear HO_5; clear HO_6; clear HB; have HO_5 := n0_; have HO_6 := n1_; have HB := n2_; clear n0_ n1_ n2_; (try clear hb); (try clear hb2); (try clear hk); (try clear hi)))
        repeat (go_quiet (first | (go_at_call 28; (with_reducible refine (fuseelaw38_found.calls _ _ t182 a1 x7_2 t192 _ ?side1 ?side2 A24.out).mono ?_); (case side1 => repeat (first | exact (Kd.R_reads' HO_5.out).2.2 | (with_reducible refine Kd.C_alloc ?_ _) | (with_reducible refine Kd.C_drewN ?_ _) | (with_reducible refine Kd.C_drew ?_))); (case side2 => exact (Kd.R_reads' HO_5.out).2.1); rintro e w27 ⟨rfl, hb⟩; have n0_ := qS (Kd.R_below (by (with_reducible repeat (first | apply Kd.R_alloc | apply Kd.R_drewN | apply Kd.R_drew)); exact HO_5.out) hb); have n1_ := qS (Kd.R_below (by (with_reducible repeat (first | apply Kd.R_alloc | apply Kd.R_drewN | apply Kd.R_drew)); exact HO_6.out) hb); have n2_ := qS (below_step (by repeat (first | (with_reducible first | exact HB.out | apply qpA | apply qpN | apply qp1) | exact HB.out)) hb); clear HO_5; clear HO_6; clear HB; have HO_5 := n0_; have HO_6 := n1_; have HB := n2_; clear n0_ n1_ n2_; (try clear hb); (try clear hb2); (try clear hk); (try clear hi); obtain ⟨Ao28, co28, eo28⟩ := Kd.R_slice HO_6.out; subst eo28) | (go_at_call 28; (with_reducible refine (fuseelaw38_found.calls _ _ t185 a1 x7_2 t193 _ ?side1 ?side2 A25.out).mono ?_); (case side1 => repeat (first | exact (Kd.R_reads' HO_6.out).2.2 | (with_reducible refine Kd.C_alloc ?_ _) | (with_reducible refine Kd.C_drewN ?_ _) | (with_reducible refine Kd.C_drew ?_))); (case side2 => exact (Kd.R_reads' HO_6.out).2.1); rintro e w29 ⟨rfl, hb⟩; have n0_ := qS (Kd.R_below (by (with_reducible repeat (first | apply Kd.R_alloc | apply Kd.R_drewN | apply Kd.R_drew)); exact HO_5.out) hb); have n1_ := qS (Kd.R_below (by (with_reducible repeat (first | apply Kd.R_alloc | apply Kd.R_drewN | apply Kd.R_drew)); exact HO_6.out) hb); have n2_ := qS (below_step (by repeat (first | (with_reducible first | exact HB.out | apply qpA | apply qpN | apply qp1) | exact HB.out)) hb); clear HO_5; clear HO_6; clear HB; have HO_5 := n0_; have HO_6 := n1_; have HB := n2_; clear n0_ n1_ n2_; (try clear hb); (try clear hb2); (try clear hk); (try clear hi))); go_upto_region 11 with (first | (go_at_call 28; (with_reducible refine (fuseelaw38_found.calls _ _ t182 a1 x7_2 t192 _ ?side1 ?side2 A24.out).mono ?_); (case side1 => repeat (first | exact (Kd.R_reads' HO_5.out).2.2 | (with_reducible refine Kd.C_alloc ?_ _) | (with_reducible refine Kd.C_drewN ?_ _) | (with_reducible refine Kd.C_drew ?_))); (case side2 => exact (Kd.R_reads' HO_5.out).2.1); rintro e w27 ⟨rfl, hb⟩; have n0_ := qS (Kd.R_below (by (with_reducible repeat (first | apply Kd.R_alloc | apply Kd.R_drewN | apply Kd.R_drew)); exact HO_5.out) hb); have n1_ := qS (Kd.R_below (by (with_reducible repeat (first | apply Kd.R_alloc | apply Kd.R_drewN | apply Kd.R_drew)); exact HO_6.out) hb); have n2_ := qS (below_step (by repeat (first | (with_reducible first | exact HB.out | apply qpA | apply qpN | apply qp1) | exact HB.out)) hb); clear HO_5; clear HO_6; clear HB; have HO_5 := n0_; have HO_6 := n1_; have HB := n2_; clear n0_ n1_ n2_; (try clear hb); (try clear hb2); (try clear hk); (try clear hi); obtain ⟨Ao28, co28, eo28⟩ := Kd.R_slice HO_6.out; subst eo28) | (go_at_call 28; (with_reducible refine (fuseelaw38_found.calls _ _ t185 a1 x7_2 t193 _ ?side1 ?side2 A25.out).mono ?_); (case side1 => repeat (first | exact (Kd.R_reads' HO_6.out).2.2 | (with_reducible refine Kd.C_alloc ?_ _) | (with_reducible refine Kd.C_drewN ?_ _) | (with_reducible refine Kd.C_drew ?_))); (case side2 => exact (Kd.R_reads' HO_6.out).2.1); rintro e w29 ⟨rfl, hb⟩; have n0_ := qS (Kd.R_below (by (with_reducible repeat (first | apply Kd.R_alloc | apply Kd.R_drewN | apply Kd.R_drew)); exact HO_5.out) hb); have n1_ := qS (Kd.R_below (by (with_reducible repeat (first | apply Kd.R_alloc | apply Kd.R_drewN | apply Kd.R_drew)); exact HO_6.out) hb); have n2_ := qS (below_step (by repeat (first | (with_reducible first | exact HB.out | apply qpA | apply qpN | apply qp1) | exact HB.out)) hb); clear HO_5; clear HO_6; clear HB; have HO_5 := n0_; have HO_6 := n1_; have HB := n2_; clear n0_ n1_ n2_; (try clear hb); (try clear hb2); (try clear hk); (try clear hi))))
        (try simp only [Act.put, List.setIfInBounds_toArray, List.set_cons_zero, List.set_cons_succ])
        go_cut [84] (fun v84 wc => ∃ (kq : Nat) (x84_25 : Bool), v84 = .bool x84_25 ∧ Aside0 (fuseelaw38_AuditAlone.j2 kq a1 t182 t185 x7_2 t192 x84_25 = some r) ∧ Aside0 (kq ≤ k2) ∧ Aside0 (Kd.R k46 46 wc w.heap.size (fun k_ => some k_ ≠ ((.slice Ao28 t185.length co28) : Value).ownBlock) (.slice Ao10 t182.length co10) t182) ∧ Aside0 (Kd.R k46 46 wc w.heap.size (fun k_ => some k_ ≠ ((.slice Ao10 t182.length co10) : Value).ownBlock) (.slice Ao28 t185.length co28) t185) ∧ Aside0 (Below w.heap.size w wc))
        case first =>
         have H := HC26.out
         clear HC26
         by_cases c30 : ((decide (t192 < 0)) != (decide (t193 < 0))) = true
         ·rw [if_pos c30] at H
          have c30b0 : ((decide (t192 < 0)) != (decide (t193 < 0))) = true := c30
          (try (have c30b1 : decide ((decide (t192 < 0)) = (decide (t193 < 0))) = false := by simpa using c30))
          (try (have c30b2 : ((decide (t192 < 0)) == (decide (t193 < 0))) = false := by simpa using c30))
          (try (have c30b3 : ¬ ((decide (t192 < 0)) = (decide (t193 < 0))) := by simpa using c30))
          clear c30
          (first | rw [c30b0] | (simp only [i64_w, i32_w]; rw [c30b0]) | skip)
          have H' := qS H
          clear H
          go_wp2
          repeat (go_quiet (fail); try go_wp2)
          go_meet
          case rel => exact ⟨_, (true), (by first | rfl | (simp; done) | (simp [*]; done)), H', ⟨by have := HJ7.out; have := HK2.out; first | omega | exact Nat.le_refl _⟩, ⟨by (with_reducible repeat (first | apply Kd.R_alloc | apply Kd.R_drewN | apply Kd.R_drew)); exact HO_5.out⟩, ⟨by (with_reducible repeat (first | apply Kd.R_alloc | apply Kd.R_drewN | apply Kd.R_drew)); exact HO_6.out⟩, ⟨by repeat (first | (with_reducible first | exact HB.out | apply qpA | apply qpN | apply qp1) | exact HB.out)⟩⟩
         ·rw [if_neg c30] at H
          have c30b0 : ((decide (t192 < 0)) != (decide (t193 < 0))) = false := by simpa using c30
          (try (have c30b1 : decide ((decide (t192 < 0)) = (decide (t193 < 0))) = true := by simpa using c30))
          (try (have c30b2 : ((decide (t192 < 0)) == (decide (t193 < 0))) = true := by simpa using c30))
          clear c30
          (first | rw [c30b0] | (simp only [i64_w, i32_w]; rw [c30b0]) | skip)
          by_cases c31 : t192 < (-1)
          ·rw [if_pos c31] at H
           have c31b0 : decide (t192 < (-1)) = true := decide_eq_true c31
           clear c31
           have H' := qS H
           clear H
           go_wp2
           repeat (go_quiet (fail); try go_wp2)
           go_meet
           case rel => exact ⟨_, (true), (by first | rfl | (simp; done) | (simp [*]; done)), H', ⟨by have := HJ7.out; have := HK2.out; first | omega | exact Nat.le_refl _⟩, ⟨by (with_reducible repeat (first | apply Kd.R_alloc | apply Kd.R_drewN | apply Kd.R_drew)); exact HO_5.out⟩, ⟨by (with_reducible repeat (first | apply Kd.R_alloc | apply Kd.R_drewN | apply Kd.R_drew)); exact HO_6.out⟩, ⟨by repeat (first | (with_reducible first | exact HB.out | apply qpA | apply qpN | apply qp1) | exact HB.out)⟩⟩
          ·rw [if_neg c31] at H
           have c31b0 : decide (t192 < (-1)) = false := decide_eq_false c31
           clear c31
           by_cases c32 : t193 < (-1)
           ·rw [if_pos c32] at H
            have c32b0 : decide (t193 < (-1)) = true := decide_eq_true c32
            clear c32
            have H' := qS H
            clear H
            go_wp2
            repeat (go_quiet (fail); try go_wp2)
            go_meet
            case rel => exact ⟨_, (true), (by first | rfl | (simp; done) | (simp [*]; done)), H', ⟨by have := HJ7.out; have := HK2.out; first | omega | exact Nat.le_refl _⟩, ⟨by (with_reducible repeat (first | apply Kd.R_alloc | apply Kd.R_drewN | apply Kd.R_drew)); exact HO_5.out⟩, ⟨by (with_reducible repeat (first | apply Kd.R_alloc | apply Kd.R_drewN | apply Kd.R_drew)); exact HO_6.out⟩, ⟨by repeat (first | (with_reducible first | exact HB.out | apply qpA | apply qpN | apply qp1) | exact HB.out)⟩⟩
           ·rw [if_neg c32] at H
            have c32b0 : decide (t193 < (-1)) = false := decide_eq_false c32
            clear c32
            by_cases c33 : t192 ≥ (t182.length : Int)
            ·rw [if_pos c33] at H
             have c33b0 : decide ((t182.length : Int) ≤ t192) = true := decide_eq_true c33
             clear c33
             have H' := qS H
             clear H
             go_wp2
             repeat (go_quiet (fail); try go_wp2)
             go_meet
             case rel => exact ⟨_, (true), (by first | rfl | (simp; done) | (simp [*]; done)), H', ⟨by have := HJ7.out; have := HK2.out; first | omega | exact Nat.le_refl _⟩, ⟨by (with_reducible repeat (first | apply Kd.R_alloc | apply Kd.R_drewN | apply Kd.R_drew)); exact HO_5.out⟩, ⟨by (with_reducible repeat (first | apply Kd.R_alloc | apply Kd.R_drewN | apply Kd.R_drew)); exact HO_6.out⟩, ⟨by repeat (first | (with_reducible first | exact HB.out | apply qpA | apply qpN | apply qp1) | exact HB.out)⟩⟩
            ·rw [if_neg c33] at H
             have c33b0 : decide ((t182.length : Int) ≤ t192) = false := decide_eq_false c33
             clear c33
             by_cases c34 : t193 ≥ (t185.length : Int)
             ·rw [if_pos c34] at H
              have c34b0 : decide ((t185.length : Int) ≤ t193) = true := decide_eq_true c34
              clear c34
              have H' := qS H
              clear H
              go_wp2
              repeat (go_quiet (fail); try go_wp2)
              go_meet
              case rel => exact ⟨_, (true), (by first | rfl | (simp; done) | (simp [*]; done)), H', ⟨by have := HJ7.out; have := HK2.out; first | omega | exact Nat.le_refl _⟩, ⟨by (with_reducible repeat (first | apply Kd.R_alloc | apply Kd.R_drewN | apply Kd.R_drew)); exact HO_5.out⟩, ⟨by (with_reducible repeat (first | apply Kd.R_alloc | apply Kd.R_drewN | apply Kd.R_drew)); exact HO_6.out⟩, ⟨by repeat (first | (with_reducible first | exact HB.out | apply qpA | apply qpN | apply qp1) | exact HB.out)⟩⟩
             ·rw [if_neg c34] at H
              have c34b0 : decide ((t185.length : Int) ≤ t193) = false := decide_eq_false c34
              clear c34
              by_cases c35 : t192 ≥ 0
              ·rw [if_pos c35] at H
               have c35b0 : decide (0 ≤ t192) = true := decide_eq_true c35
               clear c35
               by_cases c36 : 0 ≤ t192
               ·rw [if_pos c36] at H
                have c36b0 : decide (0 ≤ t192) = true := decide_eq_true c36
                clear c36
                by_cases c37 : t192 < (t182.length : Int)
                ·rw [if_pos c37] at H
                 have c37b0 : decide (t192 < (t182.length : Int)) = true := decide_eq_true c37
                 clear c37
                 by_cases c38 : 0 ≤ t193
                 ·rw [if_pos c38] at H
                  have c38b0 : decide (0 ≤ t193) = true := decide_eq_true c38
                  clear c38
                  by_cases c39 : t193 < (t185.length : Int)
                  ·rw [if_pos c39] at H
                   have c39b0 : decide (t193 < (t185.length : Int)) = true := decide_eq_true c39
                   clear c39
                   have H' := qS H
                   clear H
                   have p194 : 0 ≤ (t192 : Int) := of_decide_eq_true (by first | (with_reducible assumption) | assumption)
                   have q194 : t192 < (t182.length : Int) := of_decide_eq_true (by first | (with_reducible assumption) | assumption)
                   obtain ⟨ad194, e194, hx194_0, hx194_1, hx194_2, hx194_3, hx194_4, hx194_5, hx194_6, hx194_7, hx194_8, hx194_9⟩ := at_T46 (Kd.R_reads' HO_5.out).2.2 t192 p194 q194
                   cases e194
                   replace p194 := eq_true p194
                   replace q194 := eq_true q194
                   have p195 : 0 ≤ (t193 : Int) := of_decide_eq_true (by first | (with_reducible assumption) | assumption)
                   have q195 : t193 < (t185.length : Int) := of_decide_eq_true (by first | (with_reducible assumption) | assumption)
                   obtain ⟨ad195, e195, hx195_0, hx195_1, hx195_2, hx195_3, hx195_4, hx195_5, hx195_6, hx195_7, hx195_8, hx195_9⟩ := at_T46 (Kd.R_reads' HO_6.out).2.2 t193 p195 q195
                   cases e195
                   replace p195 := eq_true p195
                   replace q195 := eq_true q195
                   go_wp2
                   repeat (go_quiet (fail); try go_wp2)
                   go_meet
                   case rel => exact ⟨_, ((!(((rd_T46 t182 t192).f0) == ((rd_T46 t185 t193).f0)) || (!((((rd_T46 t182 t192).f1).toList) == (((rd_T46 t185 t193).f1).toList)) || (!(((rd_T46 t182 t192).f2) == ((rd_T46 t185 t193).f2)) || (!(((rd_T46 t182 t192).f3) == ((rd_T46 t185 t193).f3)) || ((!(((rd_T46 t182 t192).f4.f0) == ((rd_T46 t185 t193).f4.f0)) || (!(((rd_T46 t182 t192).f4.f1) == ((rd_T46 t185 t193).f4.f1)) || (!(((rd_T46 t182 t192).f4.f2) == ((rd_T46 t185 t193).f4.f2)) || (!(((rd_T46 t182 t192).f4.f3) == ((rd_T46 t185 t193).f4.f3)))))) || (!(((rd_T46 t182 t192).f5) == ((rd_T46 t185 t193).f5)) || (!(((rd_T46 t182 t192).f6) == ((rd_T46 t185 t193).f6)))))))))), (by first | rfl | (simp; done) | (simp [*]; done)), H', ⟨by have := HJ7.out; have := HK2.out; first | omega | exact Nat.le_refl _⟩, ⟨by (with_reducible repeat (first | apply Kd.R_alloc | apply Kd.R_drewN | apply Kd.R_drew)); exact HO_5.out⟩, ⟨by (with_reducible repeat (first | apply Kd.R_alloc | apply Kd.R_drewN | apply Kd.R_drew)); exact HO_6.out⟩, ⟨by repeat (first | (with_reducible first | exact HB.out | apply qpA | apply qpN | apply qp1) | exact HB.out)⟩⟩
                  ·rw [if_neg c39] at H
                   exact absurd H (by simp)
                 ·rw [if_neg c38] at H
                  exact absurd H (by simp)
                ·rw [if_neg c37] at H
                 exact absurd H (by simp)
               ·rw [if_neg c36] at H
                exact absurd H (by simp)
              ·rw [if_neg c35] at H
               have c35b0 : decide (0 ≤ t192) = false := decide_eq_false c35
               clear c35
               have H' := qS H
               clear H
               go_wp2
               repeat (go_quiet (fail); try go_wp2)
               go_meet
               case rel => exact ⟨_, (false), (by first | rfl | (simp; done) | (simp [*]; done)), H', ⟨by have := HJ7.out; have := HK2.out; first | omega | exact Nat.le_refl _⟩, ⟨by (with_reducible repeat (first | apply Kd.R_alloc | apply Kd.R_drewN | apply Kd.R_drew)); exact HO_5.out⟩, ⟨by (with_reducible repeat (first | apply Kd.R_alloc | apply Kd.R_drewN | apply Kd.R_drew)); exact HO_6.out⟩, ⟨by repeat (first | (with_reducible first | exact HB.out | apply qpA | apply qpN | apply qp1) | exact HB.out)⟩⟩
        case rest =>
         clear HC26
         try clear c1
         try clear p1
         try clear q1
         try clear hx1
         try clear c2
         try clear p2
         try clear c3
         try clear c3b0
         try clear c3b1
         try clear c6
         try clear c13
         try clear p19
         try clear q19
         try clear hx19
         try clear c22
         try clear c23
         try clear c23b0
         try clear c30
         try clear c30b0
         try clear c30b1
         try clear c30b2
         try clear c31
         try clear c31b0
         try clear c32
         try clear c32b0
         try clear c33
         try clear c33b0
         try clear c34
         try clear c34b0
         try clear c35
         try clear c35b0
         try clear c36
         try clear c36b0
         try clear c37
         try clear c37b0
         try clear c38
         try clear c38b0
         try clear c39
         try clear c39b0
         try clear hx194_0
         try clear hx194_1
         try clear hx194_2
         try clear hx194_3
         try clear hx194_4
         try clear hx194_5
         try clear hx194_6
         try clear hx194_7
         try clear hx194_8
         try clear hx194_9
         try clear hx195_0
         try clear hx195_1
         try clear hx195_2
         try clear hx195_3
         try clear hx195_4
         try clear hx195_5
         try clear hx195_6
         try clear hx195_7
         try clear hx195_8
         try clear hx195_9
         try clear p194
         try clear p195
         try clear p2
         try clear q194
         try clear q195
         obtain ⟨kq, x84_25, rfl, HA, HJ25, HO_5, HO_6, HB⟩ := hcut
         cases kq with
         | zero => exact absurd HA.out (by simp [fuseelaw38_AuditAlone.j2])
         | succ kj25 =>
          have H := HA.out
          clear HA
          simp only [fuseelaw38_AuditAlone.j2] at H
          by_cases c40 : x84_25 = true
          ·subst c40
           have H1 : (none) = some r := by rw [if_pos rfl] at H; exact H
           clear H
           have H := H1
           clear H1
           exact absurd H (by simp)
          ·replace c40 := Bool.eq_false_iff.mpr c40
           subst c40
           have H1 : (if t192 ≥ 0 then (if 0 ≤ t192 then (if t192 ≤ (t182.length : Int) then ((fuseelaw38_found.f (t182.take (t192 : Int).toNat) a1 x7_2).bind fun t200 => (if t200 = (-1) then (if 0 ≤ (wrap64 (t192 + 1)) then (if (wrap64 (t192 + 1)) ≤ (t182.length : Int) then ((fuseelaw38_found.f (t182.take ((wrap64 (t192 + 1)) : Int).toNat) a1 x7_2).bind fun t205 => (if t205 = t192 then (fuseelaw38_AuditAlone.l0 kj25 a1 t182 t185 (wrap64 (x7_2 + 1))) else (none))) else (none)) else (none)) else (none))) else (none)) else (none)) else (fuseelaw38_AuditAlone.l0 kj25 a1 t182 t185 (wrap64 (x7_2 + 1)))) = some r := by rw [if_neg (show ¬ (false = true) by decide)] at H; exact H
           clear H
           have H := H1
           clear H1
           by_cases c41 : t192 ≥ 0
           ·rw [if_pos c41] at H
            have c41b0 : decide (0 ≤ t192) = true := decide_eq_true c41
            clear c41
            by_cases c42 : 0 ≤ t192
            ·rw [if_pos c42] at H
             have c42b0 := eq_true c42
             have c42b1 : decide (0 ≤ t192) = true := decide_eq_true c42
             clear c42
             by_cases c43 : t192 ≤ (t182.length : Int)
             ·rw [if_pos c43] at H
              have c43b0 := eq_true c43
              have c43b1 : decide (t192 ≤ (t182.length : Int)) = true := decide_eq_true c43
              clear c43
              obtain ⟨y196, hy196⟩ : ∃ y_ : List (S46), y_ = (t182.take (t192 : Int).toNat) := ⟨_, rfl⟩
              replace H : ((fuseelaw38_found.f y196 a1 x7_2).bind fun t200 => (if t200 = (-1) then (if 0 ≤ (wrap64 (t192 + 1)) then (if (wrap64 (t192 + 1)) ≤ (t182.length : Int) then ((fuseelaw38_found.f (t182.take ((wrap64 (t192 + 1)) : Int).toNat) a1 x7_2).bind fun t205 => (if t205 = t192 then (fuseelaw38_AuditAlone.l0 kj25 a1 t182 t185 (wrap64 (x7_2 + 1))) else (none))) else (none)) else (none)) else (none))) = some r := by first | (rw [hy196]; with_reducible exact H) | (have H2_ := (Option.bind_some _ _).symm.trans H; rw [hy196]; with_reducible exact H2_) | (have H2_ := (Option.bind_some _ _).symm.trans H; with_reducible exact H2_) | with_reducible exact H | (rw [hy196]; exact H) | exact H
              have Ny196 := qS hy196
              clear hy196
              replace H := Option.bind_eq_some_iff.mp H
              obtain ⟨t200, A440, H⟩ := H
              replace H : (if t200 = (-1) then (if 0 ≤ (wrap64 (t192 + 1)) then (if (wrap64 (t192 + 1)) ≤ (t182.length : Int) then ((fuseelaw38_found.f (t182.take ((wrap64 (t192 + 1)) : Int).toNat) a1 x7_2).bind fun t205 => (if t205 = t192 then (fuseelaw38_AuditAlone.l0 kj25 a1 t182 t185 (wrap64 (x7_2 + 1))) else (none))) else (none)) else (none)) else (none)) = some r := H
              have A44 := qS A440
              clear A440
              by_cases c45 : t200 = (-1)
              ·rw [if_pos c45] at H
               have c45b0 : (t200 == (-1)) = true := beq_iff_eq.mpr c45
               have c45b1 : (t200 != (-1)) = false := bne_eq_false_iff_eq.mpr c45
               clear c45
               obtain ⟨ji46, hji46⟩ : ∃ j_ : Int, (wrap64 (t192 + 1)) = j_ := ⟨_, rfl⟩
               replace H : (if 0 ≤ (ji46) then (if (ji46) ≤ (t182.length : Int) then ((fuseelaw38_found.f (t182.take ((ji46) : Int).toNat) a1 x7_2).bind fun t205 => (if t205 = t192 then (fuseelaw38_AuditAlone.l0 kj25 a1 t182 t185 (wrap64 (x7_2 + 1))) else (none))) else (none)) else (none)) = some r := by first | (rw [hji46] at H; exact H) | (simp only [hji46] at H ⊢; exact H)
               (try rw [hji46] at A44)
               have hji46w : (IntKind.i64.wrap (t192 + 1)) = ji46 := (i64_w _).trans hji46
               by_cases c47 : 0 ≤ (ji46)
               ·rw [if_pos c47] at H
                have c47b0 := eq_true c47
                have c47b1 : decide (0 ≤ (ji46)) = true := decide_eq_true c47
                clear c47
                by_cases c48 : (ji46) ≤ (t182.length : Int)
                ·rw [if_pos c48] at H
                 have c48b0 := eq_true c48
                 have c48b1 : decide ((ji46) ≤ (t182.length : Int)) = true := decide_eq_true c48
                 clear c48
                 obtain ⟨y201, hy201⟩ : ∃ y_ : List (S46), y_ = (t182.take ((ji46) : Int).toNat) := ⟨_, rfl⟩
                 replace H : ((fuseelaw38_found.f y201 a1 x7_2).bind fun t205 => (if t205 = t192 then (fuseelaw38_AuditAlone.l0 kj25 a1 t182 t185 (wrap64 (x7_2 + 1))) else (none))) = some r := by first | (rw [hy201]; with_reducible exact H) | (have H2_ := (Option.bind_some _ _).symm.trans H; rw [hy201]; with_reducible exact H2_) | (have H2_ := (Option.bind_some _ _).symm.trans H; with_reducible exact H2_) | with_reducible exact H | (rw [hy201]; exact H) | exact H
                 have Ny201 := qS hy201
                 clear hy201
                 replace H := Option.bind_eq_some_iff.mp H
                 obtain ⟨t205, A490, H⟩ := H
                 replace H : (if t205 = t192 then (fuseelaw38_AuditAlone.l0 kj25 a1 t182 t185 (wrap64 (x7_2 + 1))) else (none)) = some r := H
                 have A49 := qS A490
                 clear A490
                 by_cases c50 : t205 = t192
                 ·rw [if_pos c50] at H
                  have c50b0 : (t205 == t192) = true := beq_iff_eq.mpr c50
                  have c50b1 : (t205 != t192) = false := bne_eq_false_iff_eq.mpr c50
                  clear c50
                  have H' := qS H
                  clear H
                  have q51 : (t192 : Int) ≤ ((t182.length : Int) : Int) := of_decide_eq_true (by first | (with_reducible assumption) | assumption)
                  obtain ⟨i051, hi051, _, hsz51, _⟩ := info_parts info46
                  have hroom51 : t182.length ≤ co10 := (Kd.R_reads' HO_5.out).2.1
                  have hC51 : Kd.C k46 _ Ao10 t182.length t182 := (Kd.R_reads' HO_5.out).2.2
                  have hcut51 := cut_to (P := Try.prog) 39 46 .i64 Try.underlying39 hi051 Ao10 t182.length co10 t192 (of_decide_eq_true (by first | (with_reducible assumption) | assumption)) q51 hroom51
                  have hr51 := Kd.C_take (m := (t192 : Int).toNat) hC51 (by omega)
                  have hy51 : y196.length = (t192 : Int).toNat := (by rw [Ny196.out, List.length_take]; omega)
                  rw [← Ny196.out] at hr51
                  rw [← hy51] at hcut51
                  have HR199 := qS hr51
                  have HC199 := qS (show y196.length ≤ co10 from by omega)
                  clear hr51 hC51 hroom51 hi051 hsz51
                  have KY51 := qS hy51
                  clear hy51
                  have KL51 := qS (show (t192 : Int).toNat ≤ t182.length from by omega)
                  replace q51 := eq_true q51
                  go_wp2_with (first | (go_at_call 28; (with_reducible refine (fuseelaw38_found.calls _ _ y196 a1 x7_2 t200 _ ?side1 ?side2 A44.out).mono ?_); (case side1 => repeat (first | exact (by repeat (first | (with_reducible exact HR199.out) | (with_reducible refine Kd.C_alloc ?_ _) | (with_reducible refine Kd.C_drewN ?_ _) | (with_reducible refine Kd.C_drew ?_) | exact HR199.out)) | (with_reducible refine Kd.C_alloc ?_ _) | (with_reducible refine Kd.C_drewN ?_ _) | (with_reducible refine Kd.C_drew ?_))); (case side2 => exact HC199.out); rintro e w52 ⟨rfl, hb⟩; have n0_ := qS (Kd.R_below (by (with_reducible repeat (first | apply Kd.R_alloc | apply Kd.R_drewN | apply Kd.R_drew)); exact HO_5.out) hb); have n1_ := qS (Kd.R_below (by (with_reducible repeat (first | apply Kd.R_alloc | apply Kd.R_drewN | apply Kd.R_drew)); exact HO_6.out) hb); have n2_ := qS (Kd.C_below (by repeat (first | (with_reducible exact HR199.out) | (with_reducible refine Kd.C_alloc ?_ _) | (with_reducible refine Kd.C_drewN ?_ _) | (with_reducible refine Kd.C_drew ?_) | exact HR199.out)) hb); have n3_ := qS (below_step (by repeat (first | (with_reducible first | exact HB.out | apply qpA | apply qpN | apply qp1) | exact HB.out)) hb); clear HO_5; clear HO_6; clear HR199; clear HB; have HO_5 := n0_; have HO_6 := n1_; have HR199 := n2_; have HB := n3_; clear n0_ n1_ n2_ n3_; (try clear hb); (try clear hb2); (try clear hk); (try clear hi); have q53 : ((ji46) : Int) ≤ ((t182.length : Int) : Int) := of_decide_eq_true (by first | (with_reducible assumption) | assumption); obtain ⟨i053, hi053, _, hsz53, _⟩ := info_parts info46; have hroom53 : t182.length ≤ co10 := (Kd.R_reads' HO_5.out).2.1; have hC53 : Kd.C k46 _ Ao10 t182.length t182 := (Kd.R_reads' HO_5.out).2.2; have hcut53 := cut_to (P := Try.prog) 39 46 .i64 Try.underlying39 hi053 Ao10 t182.length co10 (ji46) (of_decide_eq_true (by first | (with_reducible assumption) | assumption)) q53 hroom53; have hr53 := Kd.C_take (m := ((ji46) : Int).toNat) hC53 (by omega); have hy53 : y201.length = ((ji46) : Int).toNat := (by rw [Ny201.out, List.length_take]; omega); rw [← Ny201.out] at hr53; rw [← hy53] at hcut53; have HR204 := qS hr53; have HC204 := qS (show y201.length ≤ co10 from by omega); clear hr53 hC53 hroom53 hi053 hsz53; have KY53 := qS hy53; clear hy53; have KL53 := qS (show ((ji46) : Int).toNat ≤ t182.length from by omega); replace q53 := eq_true q53) | (go_at_call 28; (with_reducible refine (fuseelaw38_found.calls _ _ y201 a1 x7_2 t205 _ ?side1 ?side2 A49.out).mono ?_); (case side1 => repeat (first | exact (by repeat (first | (with_reducible exact HR204.out) | (with_reducible refine Kd.C_alloc ?_ _) | (with_reducible refine Kd.C_drewN ?_ _) | (with_reducible refine Kd.C_drew ?_) | exact HR204.out)) | (with_reducible refine Kd.C_alloc ?_ _) | (with_reducible refine Kd.C_drewN ?_ _) | (with_reducible refine Kd.C_drew ?_))); (case side2 => exact HC204.out); rintro e w54 ⟨rfl, hb⟩; have n0_ := qS (Kd.R_below (by (with_reducible repeat (first | apply Kd.R_alloc | apply Kd.R_drewN | apply Kd.R_drew)); exact HO_5.out) hb); have n1_ := qS (Kd.R_below (by (with_reducible repeat (first | apply Kd.R_alloc | apply Kd.R_drewN | apply Kd.R_drew)); exact HO_6.out) hb); have n2_ := qS (Kd.C_below (by repeat (first | (with_reducible exact HR199.out) | (with_reducible refine Kd.C_alloc ?_ _) | (with_reducible refine Kd.C_drewN ?_ _) | (with_reducible refine Kd.C_drew ?_) | exact HR199.out)) hb); have n3_ := qS (Kd.C_below (by repeat (first | (with_reducible exact HR204.out) | (with_reducible refine Kd.C_alloc ?_ _) | (with_reducible refine Kd.C_drewN ?_ _) | (with_reducible refine Kd.C_drew ?_) | exact HR204.out)) hb); have n4_ := qS (below_step (by repeat (first | (with_reducible first | exact HB.out | apply qpA | apply qpN | apply qp1) | exact HB.out)) hb); clear HO_5; clear HO_6; clear HR199; clear HR204; clear HB; have HO_5 := n0_; have HO_6 := n1_; have HR199 := n2_; have HR204 := n3_; have HB := n4_; clear n0_ n1_ n2_ n3_ n4_; (try clear hb); (try clear hb2); (try clear hk); (try clear hi)))
                  repeat (go_quiet (first | (go_at_call 28; (with_reducible refine (fuseelaw38_found.calls _ _ y196 a1 x7_2 t200 _ ?side1 ?side2 A44.out).mono ?_); (case side1 => repeat (first | exact (by repeat (first | (with_reducible exact HR199.out) | (with_reducible refine Kd.C_alloc ?_ _) | (with_reducible refine Kd.C_drewN ?_ _) | (with_reducible refine Kd.C_drew ?_) | exact HR199.out)) | (with_reducible refine Kd.C_alloc ?_ _) | (with_reducible refine Kd.C_drewN ?_ _) | (with_reducible refine Kd.C_drew ?_))); (case side2 => exact HC199.out); rintro e w52 ⟨rfl, hb⟩; have n0_ := qS (Kd.R_below (by (with_reducible repeat (first | apply Kd.R_alloc | apply Kd.R_drewN | apply Kd.R_drew)); exact HO_5.out) hb); have n1_ := qS (Kd.R_below (by (with_reducible repeat (first | apply Kd.R_alloc | apply Kd.R_drewN | apply Kd.R_drew)); exact HO_6.out) hb); have n2_ := qS (Kd.C_below (by repeat (first | (with_reducible exact HR199.out) | (with_reducible refine Kd.C_alloc ?_ _) | (with_reducible refine Kd.C_drewN ?_ _) | (with_reducible refine Kd.C_drew ?_) | exact HR199.out)) hb); have n3_ := qS (below_step (by repeat (first | (with_reducible first | exact HB.out | apply qpA | apply qpN | apply qp1) | exact HB.out)) hb); clear HO_5; clear HO_6; clear HR199; clear HB; have HO_5 := n0_; have HO_6 := n1_; have HR199 := n2_; have HB := n3_; clear n0_ n1_ n2_ n3_; (try clear hb); (try clear hb2); (try clear hk); (try clear hi); have q53 : ((ji46) : Int) ≤ ((t182.length : Int) : Int) := of_decide_eq_true (by first | (with_reducible assumption) | assumption); obtain ⟨i053, hi053, _, hsz53, _⟩ := info_parts info46; have hroom53 : t182.length ≤ co10 := (Kd.R_reads' HO_5.out).2.1; have hC53 : Kd.C k46 _ Ao10 t182.length t182 := (Kd.R_reads' HO_5.out).2.2; have hcut53 := cut_to (P := Try.prog) 39 46 .i64 Try.underlying39 hi053 Ao10 t182.length co10 (ji46) (of_decide_eq_true (by first | (with_reducible assumption) | assumption)) q53 hroom53; have hr53 := Kd.C_take (m := ((ji46) : Int).toNat) hC53 (by omega); have hy53 : y201.length = ((ji46) : Int).toNat := (by rw [Ny201.out, List.length_take]; omega); rw [← Ny201.out] at hr53; rw [← hy53] at hcut53; have HR204 := qS hr53; have HC204 := qS (show y201.length ≤ co10 from by omega); clear hr53 hC53 hroom53 hi053 hsz53; have KY53 := qS hy53; clear hy53; have KL53 := qS (show ((ji46) : Int).toNat ≤ t182.length from by omega); replace q53 := eq_true q53) | (go_at_call 28; (with_reducible refine (fuseelaw38_found.calls _ _ y201 a1 x7_2 t205 _ ?side1 ?side2 A49.out).mono ?_); (case side1 => repeat (first | exact (by repeat (first | (with_reducible exact HR204.out) | (with_reducible refine Kd.C_alloc ?_ _) | (with_reducible refine Kd.C_drewN ?_ _) | (with_reducible refine Kd.C_drew ?_) | exact HR204.out)) | (with_reducible refine Kd.C_alloc ?_ _) | (with_reducible refine Kd.C_drewN ?_ _) | (with_reducible refine Kd.C_drew ?_))); (case side2 => exact HC204.out); rintro e w54 ⟨rfl, hb⟩; have n0_ := qS (Kd.R_below (by (with_reducible repeat (first | apply Kd.R_alloc | apply Kd.R_drewN | apply Kd.R_drew)); exact HO_5.out) hb); have n1_ := qS (Kd.R_below (by (with_reducible repeat (first | apply Kd.R_alloc | apply Kd.R_drewN | apply Kd.R_drew)); exact HO_6.out) hb); have n2_ := qS (Kd.C_below (by repeat (first | (with_reducible exact HR199.out) | (with_reducible refine Kd.C_alloc ?_ _) | (with_reducible refine Kd.C_drewN ?_ _) | (with_reducible refine Kd.C_drew ?_) | exact HR199.out)) hb); have n3_ := qS (Kd.C_below (by repeat (first | (with_reducible exact HR204.out) | (with_reducible refine Kd.C_alloc ?_ _) | (with_reducible refine Kd.C_drewN ?_ _) | (with_reducible refine Kd.C_drew ?_) | exact HR204.out)) hb); have n4_ := qS (below_step (by repeat (first | (with_reducible first | exact HB.out | apply qpA | apply qpN | apply qp1) | exact HB.out)) hb); clear HO_5; clear HO_6; clear HR199; clear HR204; clear HB; have HO_5 := n0_; have HO_6 := n1_; have HR199 := n2_; have HR204 := n3_; have HB := n4_; clear n0_ n1_ n2_ n3_ n4_; (try clear hb); (try clear hb2); (try clear hk); (try clear hi))); try go_wp2_with (first | (go_at_call 28; (with_reducible refine (fuseelaw38_found.calls _ _ y196 a1 x7_2 t200 _ ?side1 ?side2 A44.out).mono ?_); (case side1 => repeat (first | exact (by repeat (first | (with_reducible exact HR199.out) | (with_reducible refine Kd.C_alloc ?_ _) | (with_reducible refine Kd.C_drewN ?_ _) | (with_reducible refine Kd.C_drew ?_) | exact HR199.out)) | (with_reducible refine Kd.C_alloc ?_ _) | (with_reducible refine Kd.C_drewN ?_ _) | (with_reducible refine Kd.C_drew ?_))); (case side2 => exact HC199.out); rintro e w52 ⟨rfl, hb⟩; have n0_ := qS (Kd.R_below (by (with_reducible repeat (first | apply Kd.R_alloc | apply Kd.R_drewN | apply Kd.R_drew)); exact HO_5.out) hb); have n1_ := qS (Kd.R_below (by (with_reducible repeat (first | apply Kd.R_alloc | apply Kd.R_drewN | apply Kd.R_drew)); exact HO_6.out) hb); have n2_ := qS (Kd.C_below (by repeat (first | (with_reducible exact HR199.out) | (with_reducible refine Kd.C_alloc ?_ _) | (with_reducible refine Kd.C_drewN ?_ _) | (with_reducible refine Kd.C_drew ?_) | exact HR199.out)) hb); have n3_ := qS (below_step (by repeat (first | (with_reducible first | exact HB.out | apply qpA | apply qpN | apply qp1) | exact HB.out)) hb); clear HO_5; clear HO_6; clear HR199; clear HB; have HO_5 := n0_; have HO_6 := n1_; have HR199 := n2_; have HB := n3_; clear n0_ n1_ n2_ n3_; (try clear hb); (try clear hb2); (try clear hk); (try clear hi); have q53 : ((ji46) : Int) ≤ ((t182.length : Int) : Int) := of_decide_eq_true (by first | (with_reducible assumption) | assumption); obtain ⟨i053, hi053, _, hsz53, _⟩ := info_parts info46; have hroom53 : t182.length ≤ co10 := (Kd.R_reads' HO_5.out).2.1; have hC53 : Kd.C k46 _ Ao10 t182.length t182 := (Kd.R_reads' HO_5.out).2.2; have hcut53 := cut_to (P := Try.prog) 39 46 .i64 Try.underlying39 hi053 Ao10 t182.length co10 (ji46) (of_decide_eq_true (by first | (with_reducible assumption) | assumption)) q53 hroom53; have hr53 := Kd.C_take (m := ((ji46) : Int).toNat) hC53 (by omega); have hy53 : y201.length = ((ji46) : Int).toNat := (by rw [Ny201.out, List.length_take]; omega); rw [← Ny201.out] at hr53; rw [← hy53] at hcut53; have HR204 := qS hr53; have HC204 := qS (show y201.length ≤ co10 from by omega); clear hr53 hC53 hroom53 hi053 hsz53; have KY53 := qS hy53; clear hy53; have KL53 := qS (show ((ji46) : Int).toNat ≤ t182.length from by omega); replace q53 := eq_true q53) | (go_at_call 28; (with_reducible refine (fuseelaw38_found.calls _ _ y201 a1 x7_2 t205 _ ?side1 ?side2 A49.out).mono ?_); (case side1 => repeat (first | exact (by repeat (first | (with_reducible exact HR204.out) | (with_reducible refine Kd.C_alloc ?_ _) | (with_reducible refine Kd.C_drewN ?_ _) | (with_reducible refine Kd.C_drew ?_) | exact HR204.out)) | (with_reducible refine Kd.C_alloc ?_ _) | (with_reducible refine Kd.C_drewN ?_ _) | (with_reducible refine Kd.C_drew ?_))); (case side2 => exact HC204.out); rintro e w54 ⟨rfl, hb⟩; have n0_ := qS (Kd.R_below (by (with_reducible repeat (first | apply Kd.R_alloc | apply Kd.R_drewN | apply Kd.R_drew)); exact HO_5.out) hb); have n1_ := qS (Kd.R_below (by (with_reducible repeat (first | apply Kd.R_alloc | apply Kd.R_drewN | apply Kd.R_drew)); exact HO_6.out) hb); have n2_ := qS (Kd.C_below (by repeat (first | (with_reducible exact HR199.out) | (with_reducible refine Kd.C_alloc ?_ _) | (with_reducible refine Kd.C_drewN ?_ _) | (with_reducible refine Kd.C_drew ?_) | exact HR199.out)) hb); have n3_ := qS (Kd.C_below (by repeat (first | (with_reducible exact HR204.out) | (with_reducible refine Kd.C_alloc ?_ _) | (with_reducible refine Kd.C_drewN ?_ _) | (with_reducible refine Kd.C_drew ?_) | exact HR204.out)) hb); have n4_ := qS (below_step (by repeat (first | (with_reducible first | exact HB.out | apply qpA | apply qpN | apply qp1) | exact HB.out)) hb); clear HO_5; clear HO_6; clear HR199; clear HR204; clear HB; have HO_5 := n0_; have HO_6 := n1_; have HR199 := n2_; have HR204 := n3_; have HB := n4_; clear n0_ n1_ n2_ n3_ n4_; (try clear hb); (try clear hb2); (try clear hk); (try clear hi))))
                  go_roundg kj25
                  case measure => have := HJ7.out; have := HK2.out; have := HJ25.out; omega
                  case rel => exact ⟨(wrap64 (x7_2 + 1)), (by first | rfl | (simp; done) | (simp [*]; done)), H', ⟨by have := HJ7.out; have := HK2.out; have := HJ25.out; omega⟩, ⟨by (with_reducible repeat (first | apply Kd.R_alloc | apply Kd.R_drewN | apply Kd.R_drew)); exact HO_5.out⟩, ⟨by (with_reducible repeat (first | apply Kd.R_alloc | apply Kd.R_drewN | apply Kd.R_drew)); exact HO_6.out⟩, ⟨by repeat (first | (with_reducible first | exact HB.out | apply qpA | apply qpN | apply qp1) | exact HB.out)⟩⟩
                 ·rw [if_neg c50] at H
                  exact absurd H (by simp)
                ·rw [if_neg c48] at H
                 exact absurd H (by simp)
               ·rw [if_neg c47] at H
                exact absurd H (by simp)
              ·rw [if_neg c45] at H
               exact absurd H (by simp)
             ·rw [if_neg c43] at H
              exact absurd H (by simp)
            ·rw [if_neg c42] at H
             exact absurd H (by simp)
           ·rw [if_neg c41] at H
            have c41b0 : decide (0 ≤ t192) = false := decide_eq_false c41
            clear c41
            have H' := qS H
            clear H
            go_wp2
            repeat (go_quiet (fail); try go_wp2)
            go_roundg kj25
            case measure => have := HJ7.out; have := HK2.out; have := HJ25.out; omega
            case rel => exact ⟨(wrap64 (x7_2 + 1)), (by first | rfl | (simp; done) | (simp [*]; done)), H', ⟨by have := HJ7.out; have := HK2.out; have := HJ25.out; omega⟩, ⟨by (with_reducible repeat (first | apply Kd.R_alloc | apply Kd.R_drewN | apply Kd.R_drew)); exact HO_5.out⟩, ⟨by (with_reducible repeat (first | apply Kd.R_alloc | apply Kd.R_drewN | apply Kd.R_drew)); exact HO_6.out⟩, ⟨by repeat (first | (with_reducible first | exact HB.out | apply qpA | apply qpN | apply qp1) | exact HB.out)⟩⟩
       ·rw [if_neg c23] at H
        have c23b0 : decide (x7_2 < 3) = false := decide_eq_false c23
        clear c23
        replace H := Option.bind_eq_some_iff.mp H
        obtain ⟨t191, A550, H⟩ := H
        replace H : (some t191) = some r := H
        have A55 := qS A550
        clear A550
        obtain rfl := Option.some.inj H
        go_wp2_with (first | (go_at_call 14; (with_reducible refine (fuseelaw38_sure.calls k2  t191 _ A55.out).mono ?_); rintro e w56 ⟨rfl, hb⟩; have n0_ := qS (Kd.R_below (by (with_reducible repeat (first | apply Kd.R_alloc | apply Kd.R_drewN | apply Kd.R_drew)); exact HO_5.out) hb); have n1_ := qS (Kd.R_below (by (with_reducible repeat (first | apply Kd.R_alloc | apply Kd.R_drewN | apply Kd.R_drew)); exact HO_6.out) hb); have n2_ := qS (below_step (by repeat (first | (with_reducible first | exact HB.out | apply qpA | apply qpN | apply qp1) | exact HB.out)) hb); clear HO_5; clear HO_6; clear HB; have HO_5 := n0_; have HO_6 := n1_; have HB := n2_; clear n0_ n1_ n2_; (try clear hb); (try clear hb2); (try clear hk); (try clear hi)))
        repeat (go_quiet (first | (go_at_call 14; (with_reducible refine (fuseelaw38_sure.calls k2  t191 _ A55.out).mono ?_); rintro e w56 ⟨rfl, hb⟩; have n0_ := qS (Kd.R_below (by (with_reducible repeat (first | apply Kd.R_alloc | apply Kd.R_drewN | apply Kd.R_drew)); exact HO_5.out) hb); have n1_ := qS (Kd.R_below (by (with_reducible repeat (first | apply Kd.R_alloc | apply Kd.R_drewN | apply Kd.R_drew)); exact HO_6.out) hb); have n2_ := qS (below_step (by repeat (first | (with_reducible first | exact HB.out | apply qpA | apply qpN | apply qp1) | exact HB.out)) hb); clear HO_5; clear HO_6; clear HB; have HO_5 := n0_; have HO_6 := n1_; have HB := n2_; clear n0_ n1_ n2_; (try clear hb); (try clear hb2); (try clear hk); (try clear hi))); try go_wp2_with (first | (go_at_call 14; (with_reducible refine (fuseelaw38_sure.calls k2  t191 _ A55.out).mono ?_); rintro e w56 ⟨rfl, hb⟩; have n0_ := qS (Kd.R_below (by (with_reducible repeat (first | apply Kd.R_alloc | apply Kd.R_drewN | apply Kd.R_drew)); exact HO_5.out) hb); have n1_ := qS (Kd.R_below (by (with_reducible repeat (first | apply Kd.R_alloc | apply Kd.R_drewN | apply Kd.R_drew)); exact HO_6.out) hb); have n2_ := qS (below_step (by repeat (first | (with_reducible first | exact HB.out | apply qpA | apply qpN | apply qp1) | exact HB.out)) hb); clear HO_5; clear HO_6; clear HB; have HO_5 := n0_; have HO_6 := n1_; have HB := n2_; clear n0_ n1_ n2_; (try clear hb); (try clear hb2); (try clear hk); (try clear hi))))
        go_ret
        exact ⟨by first | rfl | (simp [errW_none, errW_some] <;> rfl) | (simp [*, errW_none, errW_some] <;> rfl), by repeat (first | (with_reducible first | exact HB.out | apply qpA | apply qpN | apply qp1) | exact HB.out)⟩

end Go.Proofs.Ytiljnlhmeolhfaa.MAuditAlone
