/- Printed by wip/gen/mp.py: Go functions as plain Lean functions, and that the calls do what these say. -/
import Derived.Test.YtfipgpfmlkfkfaaDoorMSpanStepsx0
import Derived.Test.YtfipgpfmlkfkfaaDoorMSpanStepsx1
import Derived.Test.YtfipgpfmlkfkfaaDoorMSpanStepsx2
import Derived.Test.YtfipgpfmlkfkfaaDoorMSpanStepsx3
namespace Go.Proofs.YtfipgpfmlkfkfaaDoor.MSpanSteps
open Go.RowKit Go.Proofs.YtfipgpfmlkfkfaaDoorW.PrintWords Go.Proofs.YtfipgpfmlkfkfaaDoorW.PrintLast Go.Proofs.YtfipgpfmlkfkfaaDoorW.PrintMore
attribute [local go_sem] max2_int min2_int max_two min_two max_three min_three max_four min_four   -- for this text's walks alone
set_option linter.unusedVariables false
set_option linter.unusedSimpArgs false

attribute [local go_sem high] eqA68
/-! ### fuseelaw13_sure: function 34 -/
def fuseelaw13_sure.f (k : Nat)  : Option (Bool) := (span_Vote.f k (([(⟨1, 5⟩ : S68), (⟨4, 9⟩ : S68), (⟨5, 7⟩ : S68)] : List (S68)))).bind fun bt142 => ((span_Mid.f (-3) 4).bind fun bt147 => ((span_Vote.f k ([] : List (S68))).bind fun bt150 => ((span_Meet.f 1 5 4 9).bind fun bt155 => (if bt142.2.2.2.isNone = true then (if bt147.2.2.isNone = true then (if (bt142.1 == 5 && (bt142.2.1 == 5)) = true then (if bt142.2.2.1 = 3 then (if bt147.1 = 0 then (if bt147.2.1 = 4 then ((fuseelaw13_num.f bt150.2.2.2).bind fun t161 => (if t161 = 6 then (if bt155.2.2 = true then (some (bt155.1 == 4 && (bt155.2.1 == 5))) else (none)) else (none))) else (none)) else (none)) else (none)) else (none)) else (none)) else (none)))))
theorem fuseelaw13_sure.mono : ∀ k, LeO (fuseelaw13_sure.f k ) (fuseelaw13_sure.f (k + 1) ) := by
 intro  k
 unfold fuseelaw13_sure.f
 repeat' first
   | (with_reducible exact span_Vote.mono _ _)
   | (with_reducible exact LeO.refl _)
   | (with_reducible exact LeO.none _)
   | (with_reducible refine LeO.ite ?_ ?_)
   | (with_reducible refine LeO.bind ?_ (fun _ => ?_))
   | exact span_Vote.mono _ _
   | exact LeO.none _
   | refine LeO.ite ?_ ?_
   | refine LeO.bind ?_ (fun _ => ?_)
set_option maxHeartbeats 8000000 in
set_option maxRecDepth 100000 in
theorem fuseelaw13_sure.calls (k : Nat)  (r : Bool) (w : World) (hgL : HG w) (h : fuseelaw13_sure.f k  = some r) :
  Calls Tryd.prog 34 #[] w fun e w' => e = .returned (.bool r) ∧ Below w.heap.size w w' := by
 have hu68 := Tryd.underlying68
 have hu29 := Tryd.underlying29
 have hu115 := Tryd.underlying115
 have HB := qS (Below.refl w.heap.size w)
 have H : ((span_Vote.f k (([(⟨1, 5⟩ : S68), (⟨4, 9⟩ : S68), (⟨5, 7⟩ : S68)] : List (S68)))).bind fun bt142 => ((span_Mid.f (-3) 4).bind fun bt147 => ((span_Vote.f k ([] : List (S68))).bind fun bt150 => ((span_Meet.f 1 5 4 9).bind fun bt155 => (if bt142.2.2.2.isNone = true then (if bt147.2.2.isNone = true then (if (bt142.1 == 5 && (bt142.2.1 == 5)) = true then (if bt142.2.2.1 = 3 then (if bt147.1 = 0 then (if bt147.2.1 = 4 then ((fuseelaw13_num.f bt150.2.2.2).bind fun t161 => (if t161 = 6 then (if bt155.2.2 = true then (some (bt155.1 == 4 && (bt155.2.1 == 5))) else (none)) else (none))) else (none)) else (none)) else (none)) else (none)) else (none)) else (none)))))) = some r := h
 clear h
 obtain ⟨y139, hy139⟩ : ∃ y_ : List (S68), y_ = (([(⟨1, 5⟩ : S68), (⟨4, 9⟩ : S68), (⟨5, 7⟩ : S68)] : List (S68))) := ⟨_, rfl⟩
 replace H : ((span_Vote.f k y139).bind fun bt142 => ((span_Mid.f (-3) 4).bind fun bt147 => ((span_Vote.f k ([] : List (S68))).bind fun bt150 => ((span_Meet.f 1 5 4 9).bind fun bt155 => (if bt142.2.2.2.isNone = true then (if bt147.2.2.isNone = true then (if (bt142.1 == 5 && (bt142.2.1 == 5)) = true then (if bt142.2.2.1 = 3 then (if bt147.1 = 0 then (if bt147.2.1 = 4 then ((fuseelaw13_num.f bt150.2.2.2).bind fun t161 => (if t161 = 6 then (if bt155.2.2 = true then (some (bt155.1 == 4 && (bt155.2.1 == 5))) else (none)) else (none))) else (none)) else (none)) else (none)) else (none)) else (none)) else (none)))))) = some r := by first | (rw [hy139]; with_reducible exact H) | (have H2_ := (Option.bind_some _ _).symm.trans H; rw [hy139]; with_reducible exact H2_) | (have H2_ := (Option.bind_some _ _).symm.trans H; with_reducible exact H2_) | with_reducible exact H | (rw [hy139]; exact H) | exact H
 have Ny139 := qS hy139
 clear hy139
 replace H := Option.bind_eq_some_iff.mp H
 obtain ⟨⟨t142, t143, t144, t145⟩, A10, H⟩ := H
 replace H : ((span_Mid.f (-3) 4).bind fun bt147 => ((span_Vote.f k ([] : List (S68))).bind fun bt150 => ((span_Meet.f 1 5 4 9).bind fun bt155 => (if t145.isNone = true then (if bt147.2.2.isNone = true then (if (t142 == 5 && (t143 == 5)) = true then (if t144 = 3 then (if bt147.1 = 0 then (if bt147.2.1 = 4 then ((fuseelaw13_num.f bt150.2.2.2).bind fun t161 => (if t161 = 6 then (if bt155.2.2 = true then (some (bt155.1 == 4 && (bt155.2.1 == 5))) else (none)) else (none))) else (none)) else (none)) else (none)) else (none)) else (none)) else (none))))) = some r := H
 have A1 := qS A10
 clear A10
 replace H := Option.bind_eq_some_iff.mp H
 obtain ⟨⟨t147, t148, t149⟩, A20, H⟩ := H
 replace H : ((span_Vote.f k ([] : List (S68))).bind fun bt150 => ((span_Meet.f 1 5 4 9).bind fun bt155 => (if t145.isNone = true then (if t149.isNone = true then (if (t142 == 5 && (t143 == 5)) = true then (if t144 = 3 then (if t147 = 0 then (if t148 = 4 then ((fuseelaw13_num.f bt150.2.2.2).bind fun t161 => (if t161 = 6 then (if bt155.2.2 = true then (some (bt155.1 == 4 && (bt155.2.1 == 5))) else (none)) else (none))) else (none)) else (none)) else (none)) else (none)) else (none)) else (none)))) = some r := H
 have A2 := qS A20
 clear A20
 replace H := Option.bind_eq_some_iff.mp H
 obtain ⟨⟨t150, t151, t152, t153⟩, A30, H⟩ := H
 replace H : ((span_Meet.f 1 5 4 9).bind fun bt155 => (if t145.isNone = true then (if t149.isNone = true then (if (t142 == 5 && (t143 == 5)) = true then (if t144 = 3 then (if t147 = 0 then (if t148 = 4 then ((fuseelaw13_num.f t153).bind fun t161 => (if t161 = 6 then (if bt155.2.2 = true then (some (bt155.1 == 4 && (bt155.2.1 == 5))) else (none)) else (none))) else (none)) else (none)) else (none)) else (none)) else (none)) else (none))) = some r := H
 have A3 := qS A30
 clear A30
 replace H := Option.bind_eq_some_iff.mp H
 obtain ⟨⟨t155, t156, t157⟩, A40, H⟩ := H
 replace H : (if t145.isNone = true then (if t149.isNone = true then (if (t142 == 5 && (t143 == 5)) = true then (if t144 = 3 then (if t147 = 0 then (if t148 = 4 then ((fuseelaw13_num.f t153).bind fun t161 => (if t161 = 6 then (if t157 = true then (some (t155 == 4 && (t156 == 5))) else (none)) else (none))) else (none)) else (none)) else (none)) else (none)) else (none)) else (none)) = some r := H
 have A4 := qS A40
 clear A40
 rcases t145 with _ | q159
 ·have H1 : (if t149.isNone = true then (if (t142 == 5 && (t143 == 5)) = true then (if t144 = 3 then (if t147 = 0 then (if t148 = 4 then ((fuseelaw13_num.f t153).bind fun t161 => (if t161 = 6 then (if t157 = true then (some (t155 == 4 && (t156 == 5))) else (none)) else (none))) else (none)) else (none)) else (none)) else (none)) else (none)) = some r := by rw [if_pos (show (none : Option Int).isNone = true by rfl)] at H; exact H
  clear H
  have H := H1
  clear H1
  try simp only [errW_none, errW_some]
  rcases t149 with _ | q160
  ·have H1 : (if (t142 == 5 && (t143 == 5)) = true then (if t144 = 3 then (if t147 = 0 then (if t148 = 4 then ((fuseelaw13_num.f t153).bind fun t161 => (if t161 = 6 then (if t157 = true then (some (t155 == 4 && (t156 == 5))) else (none)) else (none))) else (none)) else (none)) else (none)) else (none)) = some r := by rw [if_pos (show (none : Option Int).isNone = true by rfl)] at H; exact H
   clear H
   have H := H1
   clear H1
   try simp only [errW_none, errW_some]
   by_cases c5 : (t142 == 5 && (t143 == 5)) = true
   ·rw [if_pos c5] at H
    have c5b0 : (t142 == 5 && (t143 == 5)) = true := c5
    (try (have c5b1 : decide (t142 = 5 && (t143 == 5)) = true := by simpa using c5))
    (try (have c5b2 : (t142 == 5 && (t143 == 5)) = true := by simpa using c5))
    clear c5
    by_cases c6 : t144 = 3
    ·rw [if_pos c6] at H
     have c6b0 : (t144 == 3) = true := beq_iff_eq.mpr c6
     have c6b1 : (t144 != 3) = false := bne_eq_false_iff_eq.mpr c6
     clear c6
     by_cases c7 : t147 = 0
     ·rw [if_pos c7] at H
      have c7b0 : (t147 == 0) = true := beq_iff_eq.mpr c7
      have c7b1 : (t147 != 0) = false := bne_eq_false_iff_eq.mpr c7
      clear c7
      by_cases c8 : t148 = 4
      ·rw [if_pos c8] at H
       have c8b0 : (t148 == 4) = true := beq_iff_eq.mpr c8
       have c8b1 : (t148 != 4) = false := bne_eq_false_iff_eq.mpr c8
       clear c8
       replace H := Option.bind_eq_some_iff.mp H
       obtain ⟨t161, A90, H⟩ := H
       replace H : (if t161 = 6 then (if t157 = true then (some (t155 == 4 && (t156 == 5))) else (none)) else (none)) = some r := H
       have A9 := qS A90
       clear A90
       by_cases c10 : t161 = 6
       ·rw [if_pos c10] at H
        have c10b0 : (t161 == 6) = true := beq_iff_eq.mpr c10
        have c10b1 : (t161 != 6) = false := bne_eq_false_iff_eq.mpr c10
        clear c10
        by_cases c11 : t157 = true
        ·subst c11
         have H1 : (some (t155 == 4 && (t156 == 5))) = some r := by rw [if_pos rfl] at H; exact H
         clear H
         have H := H1
         clear H1
         obtain rfl := Option.some.inj H
         go_enter Tryd.func34, Tryd.ntmps34
         go_wp2_with (first | ((with_reducible refine gate_dst (N := 16) rfl ?_); refine Kd.R_lit k68 _ 68 ?hg (N := 16) ?hd (xs := ([(⟨1, 5⟩ : S68), (⟨4, 9⟩ : S68), (⟨5, 7⟩ : S68)] : List (S68))) (inner := [.int .i64 1, .int .i64 5, .int .i64 4, .int .i64 9, .int .i64 5, .int .i64 7]) (ok := fun _ => True) (okp := fun _ => True) ?hr ?hp (fun _ hk => hk) trivial (Below.refl _ _) (Nat.le_refl _) (by simp) ?_; (case hd => rfl); (case hg => rfl); (case hr => first | (go_simp; done) | (go_simp; rfl)); (case hp => exact (Reps.c2 (show Kd.M k68 _ _ _ (⟨1, 5⟩ : S68) [.int .i64 1, .int .i64 5] from (k68_mkM _ _ _ (⟨1, 5⟩ : S68) )) (Reps.c2 (show Kd.M k68 _ _ _ (⟨4, 9⟩ : S68) [.int .i64 4, .int .i64 9] from (k68_mkM _ _ _ (⟨4, 9⟩ : S68) )) (Reps.c2 (show Kd.M k68 _ _ _ (⟨5, 7⟩ : S68) [.int .i64 5, .int .i64 7] from (k68_mkM _ _ _ (⟨5, 7⟩ : S68) )) (Reps.none _ _))))); intro v140 w12 ho13 hb hg_ hnew_; clear hg_ hnew_; (first | rw [← Ny139.out] at ho13 | (simp only [Int.reduceToNat] at ho13; rw [← Ny139.out] at ho13)); have n0_ := qS (Kd.R_lower ho13 (below_size (by repeat (first | (with_reducible first | exact HB.out | apply qpA | apply qpN | apply qp1) | exact HB.out)))); have n1_ := qS (below_step (by repeat (first | (with_reducible first | exact HB.out | apply qpA | apply qpN | apply qp1) | exact HB.out)) hb); clear HB; have HO141 := n0_; have HB := n1_; clear n0_ n1_; clear hb ho13; obtain ⟨Ao14, co14, eo14⟩ := Kd.R_slice HO141.out; subst eo14) | ((with_reducible refine gate_callee (f := 35) rfl ?_); refine goesL_ (some 17) rfl rfl Tryd.func35 (by kernel_rfl) rfl #[.slice Ao14 y139.length co14] rfl (by (try simp only [List.map_toArray, List.map_cons, List.map_nil]); first | done | rfl | (simp only [*]; done) | (simp only [List.length_drop, List.length_take]; rfl)) ?_; (with_reducible refine (span_Vote.calls k _ _ y139 t142 t143 t144 none _ ?side1 ?side2 A1.out).mono ?_); (case side1 => repeat (first | exact (Kd.R_reads' HO141.out).2.2 | (with_reducible refine Kd.C_alloc ?_ _) | (with_reducible refine Kd.C_drewN ?_ _) | (with_reducible refine Kd.C_drew ?_))); (case side2 => exact (Kd.R_reads' HO141.out).2.1); rintro e w15 ⟨rfl, hb⟩; refine ⟨_, rfl, ?_⟩; have n0_ := qS (Kd.R_below (by (with_reducible repeat (first | apply Kd.R_alloc | apply Kd.R_drewN | apply Kd.R_drew)); exact HO141.out) hb); have n1_ := qS (below_step (by repeat (first | (with_reducible first | exact HB.out | apply qpA | apply qpN | apply qp1) | exact HB.out)) hb); clear HO141; clear HB; have HO141 := n0_; have HB := n1_; clear n0_ n1_; (try clear hb); (try clear hb2); (try clear hk); (try clear hi); (try simp only [errW_none, errW_some])) | ((with_reducible refine gate_dst (N := 1) rfl ?_); refine box_event ?hg (N := 1) ?hd (cs := #[.int .i64 0, .int .i64 0]) (t := 68) ?hr ?_; (case hd => rfl); (case hg => rfl); (case hr => first | (go_simp; done) | (go_simp; rfl)); intro gb146 hg w16 hbox hb; have n0_ := qS (Kd.R_below (Kd.R_elderB (by (with_reducible repeat (first | apply Kd.R_alloc | apply Kd.R_drewN | apply Kd.R_drew)); exact HO141.out) gb146 (Nat.le_of_eq hg.symm)) hb); have n1_ := qS (below_step (by repeat (first | (with_reducible first | exact HB.out | apply qpA | apply qpN | apply qp1) | exact HB.out)) hb); have n2_ := qS (hbox); have n3_ := qS ((by rw [hg]; exact (below_size (by repeat (first | (with_reducible first | exact HB.out | apply qpA | apply qpN | apply qp1) | exact HB.out))) : w.heap.size ≤ gb146)); have n4_ := qS ((by rw [hg]; exact (below_size (by repeat (first | (with_reducible first | exact HB.out | apply qpA | apply qpN | apply qp1) | exact HB.out))) : w.heap.size ≤ gb146)); clear HO141; clear HB; have HO141 := n0_; have HB := n1_; have BK146 := n2_; have GW146 := n3_; have GE146 := n4_; clear n0_ n1_ n2_ n3_ n4_; clear hb hbox hg; have hcz17_0 : w16.cell? ⟨gb146, 0, none⟩ = some (.int .i64 0) := (qC BK146.out 0).trans rfl; have hcz17_1 : w16.cell? ⟨gb146, 1, none⟩ = some (.int .i64 0) := (qC BK146.out 1).trans rfl; have hfz17_0 := qF BK146.out 0; have hfz17_1 := qF BK146.out 1) | ((with_reducible refine gate_callee (f := 52) rfl ?_); refine goesL_ (some 23) rfl rfl Tryd.func52 (by kernel_rfl) rfl #[.agg #[.int .i64 (-3), .int .i64 4]] rfl (by (try simp only [List.map_toArray, List.map_cons, List.map_nil]); first | done | rfl | (simp only [*]; done) | (simp only [List.length_drop, List.length_take]; rfl)) ?_; (with_reducible refine (span_Mid.calls (-3) 4 t147 t148 none _ A2.out).mono ?_); rintro e w18 ⟨rfl, hb⟩; refine ⟨_, rfl, ?_⟩; have n0_ := qS (Kd.R_below (by (with_reducible repeat (first | apply Kd.R_alloc | apply Kd.R_drewN | apply Kd.R_drew)); exact (Kd.R_mono (Kd.R_far (p := ⟨gb146, 1, none⟩) (Kd.R_far (p := ⟨gb146, 0, none⟩) (Kd.R_mono HO141.out (fun k_ hk => (⟨hk, hk.2⟩ : _ ∧ k_ ≠ gb146))) (fun _ hk => hk.2) (.int .i64 t142)) (fun _ hk => hk.2) (.int .i64 t143)) (fun _ h_ => h_.1))) hb); have n1_ := qS (qB (g := gb146) (o := .cells #[.int .i64 t142, .int .i64 t143] 68 (0, 0)) (by (with_reducible repeat (first | refine qN ?_ _ | refine qD ?_ | refine qA ?_ _)); refine blk_put (cs := #[.int .i64 t142, .int .i64 0]) ?_ 1 _ rfl; (with_reducible repeat (first | refine qN ?_ _ | refine qD ?_ | refine qA ?_ _)); refine blk_put (cs := #[.int .i64 0, .int .i64 0]) ?_ 0 _ rfl; (with_reducible repeat (first | refine qN ?_ _ | refine qD ?_ | refine qA ?_ _)); exact BK146.out) hb); have n2_ := qS (below_step (by repeat (first | (with_reducible first | exact HB.out | apply qpA | apply qpN | apply qp1 | refine qpS ?_ GE146.out) | exact HB.out)) hb); clear HO141; clear BK146; clear HB; have HO141 := n0_; have BK146 := n1_; have HB := n2_; clear n0_ n1_ n2_; (try clear hb); (try clear hb2); (try clear hk); (try clear hi); (try simp only [errW_none, errW_some])) | ((with_reducible refine gate_callee (f := 35) rfl ?_); refine goesL_ (some 28) rfl rfl Tryd.func35 (by kernel_rfl) rfl #[.slice none 0 0] rfl (by (try simp only [List.map_toArray, List.map_cons, List.map_nil]); first | done | rfl | (simp only [*]; done) | (simp only [List.length_drop, List.length_take]; rfl)) ?_; (refine (span_Vote.calls k _ _ ([] : List (S68)) t150 t151 t152 t153 _ ?side1 ?side2 A3.out).mono ?_); (case side1 => exact Kd.C_nil _ _); (case side2 => exact Nat.le_refl _); rintro e w19 ⟨rfl, hb⟩; refine ⟨_, rfl, ?_⟩; have n0_ := qS (Kd.R_below (by (with_reducible repeat (first | apply Kd.R_alloc | apply Kd.R_drewN | apply Kd.R_drew)); exact HO141.out) hb); have n1_ := qS (qB (g := gb146) (o := .cells #[.int .i64 t142, .int .i64 t143] 68 (0, 0)) (by (with_reducible repeat (first | refine qN ?_ _ | refine qD ?_ | refine qA ?_ _)); exact BK146.out) hb); have n2_ := qS (below_step (by repeat (first | (with_reducible first | exact HB.out | apply qpA | apply qpN | apply qp1 | refine qpS ?_ GE146.out) | exact HB.out)) hb); clear HO141; clear BK146; clear HB; have HO141 := n0_; have BK146 := n1_; have HB := n2_; clear n0_ n1_ n2_; (try clear hb); (try clear hb2); (try clear hk); (try clear hi); (try simp only [errW_none, errW_some])) | ((with_reducible refine gate_dst (N := 7) rfl ?_); refine box_event ?hg (N := 7) ?hd (cs := #[.int .i64 0, .int .i64 0]) (t := 68) ?hr ?_; (case hd => rfl); (case hg => rfl); (case hr => first | (go_simp; done) | (go_simp; rfl)); intro gb154 hg w20 hbox hb; have n0_ := qS (Kd.R_below (Kd.R_elderB (by (with_reducible repeat (first | apply Kd.R_alloc | apply Kd.R_drewN | apply Kd.R_drew)); exact HO141.out) gb154 (Nat.le_of_eq hg.symm)) hb); have n1_ := qS (qB (g := gb146) (o := .cells #[.int .i64 t142, .int .i64 t143] 68 (0, 0)) (by (with_reducible repeat (first | refine qN ?_ _ | refine qD ?_ | refine qA ?_ _)); exact BK146.out) hb); have n2_ := qS (below_step (by repeat (first | (with_reducible first | exact HB.out | apply qpA | apply qpN | apply qp1 | refine qpS ?_ GE146.out) | exact HB.out)) hb); have n3_ := qS (hbox); have n4_ := qS ((by rw [hg]; exact (below_size (by repeat (first | (with_reducible first | exact HB.out | apply qpA | apply qpN | apply qp1 | refine qpS ?_ GE146.out) | exact HB.out))) : w.heap.size ≤ gb154)); have n5_ := qS ((by rw [hg]; exact (below_size (by repeat (first | (with_reducible first | exact HB.out | apply qpA | apply qpN | apply qp1 | refine qpS ?_ GE146.out) | exact HB.out))) : w.heap.size ≤ gb154)); have n6_ := qS ((by rw [hg]; exact Nat.ne_of_lt (blk_lt (g := gb146) (o := .cells #[.int .i64 t142, .int .i64 t143] 68 (0, 0)) (by (with_reducible repeat (first | refine qN ?_ _ | refine qD ?_ | refine qA ?_ _)); exact BK146.out)) : gb146 ≠ gb154)); have n7_ := qS ((by rw [hg]; exact Nat.ne_of_gt (blk_lt (g := gb146) (o := .cells #[.int .i64 t142, .int .i64 t143] 68 (0, 0)) (by (with_reducible repeat (first | refine qN ?_ _ | refine qD ?_ | refine qA ?_ _)); exact BK146.out)) : gb154 ≠ gb146)); clear HO141; clear BK146; clear HB; have HO141 := n0_; have BK146 := n1_; have HB := n2_; have BK154 := n3_; have GW154 := n4_; have GE154 := n5_; have NB146_154 := n6_; have NB154_146 := n7_; clear n0_ n1_ n2_ n3_ n4_ n5_ n6_ n7_; clear hb hbox hg; have hnb21 := NB154_146.out; have hnc21 := NB146_154.out; have hcz22_0 : w20.cell? ⟨gb154, 0, none⟩ = some (.int .i64 0) := (qC BK154.out 0).trans rfl; have hcz22_1 : w20.cell? ⟨gb154, 1, none⟩ = some (.int .i64 0) := (qC BK154.out 1).trans rfl; have hfz22_0 := qF BK154.out 0; have hfz22_1 := qF BK154.out 1) | ((with_reducible refine gate_callee (f := 50) rfl ?_); refine goesL_ (some 35) rfl rfl Tryd.func50 (by kernel_rfl) rfl #[.agg #[.int .i64 1, .int .i64 5], .agg #[.int .i64 4, .int .i64 9]] rfl (by (try simp only [List.map_toArray, List.map_cons, List.map_nil]); first | done | rfl | (simp only [*]; done) | (simp only [List.length_drop, List.length_take]; rfl)) ?_; (with_reducible refine (span_Meet.calls 1 5 4 9 t155 t156 true _ A4.out).mono ?_); rintro e w23 ⟨rfl, hb⟩; refine ⟨_, rfl, ?_⟩; have n0_ := qS (Kd.R_below (by (with_reducible repeat (first | apply Kd.R_alloc | apply Kd.R_drewN | apply Kd.R_drew)); exact (Kd.R_mono (Kd.R_far (p := ⟨gb154, 1, none⟩) (Kd.R_far (p := ⟨gb154, 0, none⟩) (Kd.R_mono HO141.out (fun k_ hk => (⟨hk, hk.2⟩ : _ ∧ k_ ≠ gb154))) (fun _ hk => hk.2) (.int .i64 t150)) (fun _ hk => hk.2) (.int .i64 t151)) (fun _ h_ => h_.1))) hb); have n1_ := qS (qB (g := gb146) (o := .cells #[.int .i64 t142, .int .i64 t143] 68 (0, 0)) (by (with_reducible repeat (first | refine qN ?_ _ | refine qD ?_ | refine qA ?_ _)); refine blk_far ?_ NB146_154.out _; (with_reducible repeat (first | refine qN ?_ _ | refine qD ?_ | refine qA ?_ _)); refine blk_far ?_ NB146_154.out _; (with_reducible repeat (first | refine qN ?_ _ | refine qD ?_ | refine qA ?_ _)); exact BK146.out) hb); have n2_ := qS (qB (g := gb154) (o := .cells #[.int .i64 t150, .int .i64 t151] 68 (0, 0)) (by (with_reducible repeat (first | refine qN ?_ _ | refine qD ?_ | refine qA ?_ _)); refine blk_put (cs := #[.int .i64 t150, .int .i64 0]) ?_ 1 _ rfl; (with_reducible repeat (first | refine qN ?_ _ | refine qD ?_ | refine qA ?_ _)); refine blk_put (cs := #[.int .i64 0, .int .i64 0]) ?_ 0 _ rfl; (with_reducible repeat (first | refine qN ?_ _ | refine qD ?_ | refine qA ?_ _)); exact BK154.out) hb); have n3_ := qS (below_step (by repeat (first | (with_reducible first | exact HB.out | apply qpA | apply qpN | apply qp1 | refine qpS ?_ GE146.out | refine qpS ?_ GE154.out) | exact HB.out)) hb); clear HO141; clear BK146; clear BK154; clear HB; have HO141 := n0_; have BK146 := n1_; have BK154 := n2_; have HB := n3_; clear n0_ n1_ n2_ n3_; (try clear hb); (try clear hb2); (try clear hk); (try clear hi)) | ((with_reducible refine gate_dst (N := 10) rfl ?_); refine box_event ?hg (N := 10) ?hd (cs := #[.int .i64 0, .int .i64 0]) (t := 68) ?hr ?_; (case hd => rfl); (case hg => rfl); (case hr => first | (go_simp; done) | (go_simp; rfl)); intro gb158 hg w24 hbox hb; have n0_ := qS (Kd.R_below (Kd.R_elderB (by (with_reducible repeat (first | apply Kd.R_alloc | apply Kd.R_drewN | apply Kd.R_drew)); exact HO141.out) gb158 (Nat.le_of_eq hg.symm)) hb); have n1_ := qS (qB (g := gb146) (o := .cells #[.int .i64 t142, .int .i64 t143] 68 (0, 0)) (by (with_reducible repeat (first | refine qN ?_ _ | refine qD ?_ | refine qA ?_ _)); exact BK146.out) hb); have n2_ := qS (qB (g := gb154) (o := .cells #[.int .i64 t150, .int .i64 t151] 68 (0, 0)) (by (with_reducible repeat (first | refine qN ?_ _ | refine qD ?_ | refine qA ?_ _)); exact BK154.out) hb); have n3_ := qS (below_step (by repeat (first | (with_reducible first | exact HB.out | apply qpA | apply qpN | apply qp1 | refine qpS ?_ GE146.out | refine qpS ?_ GE154.out) | exact HB.out)) hb); have n4_ := qS (hbox); have n5_ := qS ((by rw [hg]; exact (below_size (by repeat (first | (with_reducible first | exact HB.out | apply qpA | apply qpN | apply qp1 | refine qpS ?_ GE146.out | refine qpS ?_ GE154.out) | exact HB.out))) : w.heap.size ≤ gb158)); have n6_ := qS ((by rw [hg]; exact (below_size (by repeat (first | (with_reducible first | exact HB.out | apply qpA | apply qpN | apply qp1 | refine qpS ?_ GE146.out | refine qpS ?_ GE154.out) | exact HB.out))) : w.heap.size ≤ gb158)); have n7_ := qS ((by rw [hg]; exact Nat.ne_of_lt (blk_lt (g := gb146) (o := .cells #[.int .i64 t142, .int .i64 t143] 68 (0, 0)) (by (with_reducible repeat (first | refine qN ?_ _ | refine qD ?_ | refine qA ?_ _)); exact BK146.out)) : gb146 ≠ gb158)); have n8_ := qS ((by rw [hg]; exact Nat.ne_of_gt (blk_lt (g := gb146) (o := .cells #[.int .i64 t142, .int .i64 t143] 68 (0, 0)) (by (with_reducible repeat (first | refine qN ?_ _ | refine qD ?_ | refine qA ?_ _)); exact BK146.out)) : gb158 ≠ gb146)); have n9_ := qS ((by rw [hg]; exact Nat.ne_of_lt (blk_lt (g := gb154) (o := .cells #[.int .i64 t150, .int .i64 t151] 68 (0, 0)) (by (with_reducible repeat (first | refine qN ?_ _ | refine qD ?_ | refine qA ?_ _)); exact BK154.out)) : gb154 ≠ gb158)); have n10_ := qS ((by rw [hg]; exact Nat.ne_of_gt (blk_lt (g := gb154) (o := .cells #[.int .i64 t150, .int .i64 t151] 68 (0, 0)) (by (with_reducible repeat (first | refine qN ?_ _ | refine qD ?_ | refine qA ?_ _)); exact BK154.out)) : gb158 ≠ gb154)); clear HO141; clear BK146; clear BK154; clear HB; have HO141 := n0_; have BK146 := n1_; have BK154 := n2_; have HB := n3_; have BK158 := n4_; have GW158 := n5_; have GE158 := n6_; have NB146_158 := n7_; have NB158_146 := n8_; have NB154_158 := n9_; have NB158_154 := n10_; clear n0_ n1_ n2_ n3_ n4_ n5_ n6_ n7_ n8_ n9_ n10_; clear hb hbox hg; have hnb25 := NB158_146.out; have hnc25 := NB146_158.out; have hnb26 := NB158_154.out; have hnc26 := NB154_158.out; have hcz27_0 : w24.cell? ⟨gb158, 0, none⟩ = some (.int .i64 0) := (qC BK158.out 0).trans rfl; have hcz27_1 : w24.cell? ⟨gb158, 1, none⟩ = some (.int .i64 0) := (qC BK158.out 1).trans rfl; have hfz27_0 := qF BK158.out 0; have hfz27_1 := qF BK158.out 1; have hcz28_0 : w24.cell? ⟨gb146, 0, none⟩ = some (.int .i64 t142) := (qC BK146.out 0).trans rfl; have hcz28_1 : w24.cell? ⟨gb146, 1, none⟩ = some (.int .i64 t143) := (qC BK146.out 1).trans rfl; have hfz28_0 := qF BK146.out 0; have hfz28_1 := qF BK146.out 1; have CA9 := fun W (hgW : HG W) => fuseelaw13_num.calls t153 t161 W hgW A9.out; try simp only [errW_none, errW_some] at CA9) | (go_at_call 38; (with_reducible refine (CA9 _ (HG.below hgL (Nat.le_refl _) (by repeat (first | (with_reducible first | exact HB.out | apply qpA | apply qpN | apply qp1 | refine qpS ?_ GE146.out | refine qpS ?_ GE154.out | refine qpS ?_ GE158.out) | exact HB.out)))).mono ?_); rintro e w29 ⟨rfl, hb⟩; have n0_ := qS (Kd.R_below (by (with_reducible repeat (first | apply Kd.R_alloc | apply Kd.R_drewN | apply Kd.R_drew)); exact (Kd.R_mono (Kd.R_far (p := ⟨gb158, 1, none⟩) (Kd.R_far (p := ⟨gb158, 0, none⟩) (Kd.R_mono HO141.out (fun k_ hk => (⟨hk, hk.2⟩ : _ ∧ k_ ≠ gb158))) (fun _ hk => hk.2) (.int .i64 t155)) (fun _ hk => hk.2) (.int .i64 t156)) (fun _ h_ => h_.1))) hb); have n1_ := qS (qB (g := gb146) (o := .cells #[.int .i64 t142, .int .i64 t143] 68 (0, 0)) (by (with_reducible repeat (first | refine qN ?_ _ | refine qD ?_ | refine qA ?_ _)); refine blk_far ?_ NB146_158.out _; (with_reducible repeat (first | refine qN ?_ _ | refine qD ?_ | refine qA ?_ _)); refine blk_far ?_ NB146_158.out _; (with_reducible repeat (first | refine qN ?_ _ | refine qD ?_ | refine qA ?_ _)); exact BK146.out) hb); have n2_ := qS (qB (g := gb154) (o := .cells #[.int .i64 t150, .int .i64 t151] 68 (0, 0)) (by (with_reducible repeat (first | refine qN ?_ _ | refine qD ?_ | refine qA ?_ _)); refine blk_far ?_ NB154_158.out _; (with_reducible repeat (first | refine qN ?_ _ | refine qD ?_ | refine qA ?_ _)); refine blk_far ?_ NB154_158.out _; (with_reducible repeat (first | refine qN ?_ _ | refine qD ?_ | refine qA ?_ _)); exact BK154.out) hb); have n3_ := qS (qB (g := gb158) (o := .cells #[.int .i64 t155, .int .i64 t156] 68 (0, 0)) (by (with_reducible repeat (first | refine qN ?_ _ | refine qD ?_ | refine qA ?_ _)); refine blk_put (cs := #[.int .i64 t155, .int .i64 0]) ?_ 1 _ rfl; (with_reducible repeat (first | refine qN ?_ _ | refine qD ?_ | refine qA ?_ _)); refine blk_put (cs := #[.int .i64 0, .int .i64 0]) ?_ 0 _ rfl; (with_reducible repeat (first | refine qN ?_ _ | refine qD ?_ | refine qA ?_ _)); exact BK158.out) hb); have n4_ := qS (below_step (by repeat (first | (with_reducible first | exact HB.out | apply qpA | apply qpN | apply qp1 | refine qpS ?_ GE146.out | refine qpS ?_ GE154.out | refine qpS ?_ GE158.out) | exact HB.out)) hb); clear HO141; clear BK146; clear BK154; clear BK158; clear HB; have HO141 := n0_; have BK146 := n1_; have BK154 := n2_; have BK158 := n3_; have HB := n4_; clear n0_ n1_ n2_ n3_ n4_; (try clear hb); (try clear hb2); (try clear hk); (try clear hi); have hcz30_0 : w29.cell? ⟨gb158, 0, none⟩ = some (.int .i64 t155) := (qC BK158.out 0).trans rfl; have hcz30_1 : w29.cell? ⟨gb158, 1, none⟩ = some (.int .i64 t156) := (qC BK158.out 1).trans rfl; have hfz30_0 := qF BK158.out 0; have hfz30_1 := qF BK158.out 1))
         go_ret
         exact ⟨by first | rfl | (simp [errW_none, errW_some] <;> rfl) | (simp [*, errW_none, errW_some] <;> rfl), by repeat (first | (with_reducible first | exact HB.out | apply qpA | apply qpN | apply qp1 | refine qpS ?_ GE146.out | refine qpS ?_ GE154.out | refine qpS ?_ GE158.out) | exact HB.out)⟩
        ·replace c11 := Bool.eq_false_iff.mpr c11
         subst c11
         have H1 : (none) = some r := by rw [if_neg (show ¬ (false = true) by decide)] at H; exact H
         clear H
         have H := H1
         clear H1
         exact absurd H (by simp)
       ·rw [if_neg c10] at H
        exact absurd H (by simp)
      ·rw [if_neg c8] at H
       exact absurd H (by simp)
     ·rw [if_neg c7] at H
      exact absurd H (by simp)
    ·rw [if_neg c6] at H
     exact absurd H (by simp)
   ·rw [if_neg c5] at H
    exact absurd H (by simp)
  ·have H1 : (none) = some r := by rw [if_neg (show ¬ (some q160).isNone = true by simp)] at H; exact H
   clear H
   have H := H1
   clear H1
   try simp only [errW_none, errW_some]
   exact absurd H (by simp)
 ·have H1 : (none) = some r := by rw [if_neg (show ¬ (some q159).isNone = true by simp)] at H; exact H
  clear H
  have H := H1
  clear H1
  try simp only [errW_none, errW_some]
  exact absurd H (by simp)

/-! ### num_Add: function 88 -/
def num_Add.f (a0 : Int) (a1 : Int) : Option (Int × Option Int) := if ((decide ((wrap64 (a0 + a1)) < a0)) != (decide (a1 < 0))) = true then (some (0, some 2)) else (some (wrap64 (a0 + a1), none))
set_option maxHeartbeats 8000000 in
set_option maxRecDepth 100000 in
theorem num_Add.calls (a0 : Int) (a1 : Int) (r1 : Int) (r2 : Option Int) (w : World) (h : num_Add.f a0 a1 = some (r1, r2)) :
  Calls Tryd.prog 88 #[.int .i64 a0, .int .i64 a1] w fun e w' => e = .returned (.tuple #[.int .i64 r1, errW r2]) ∧ Drawn0 w w' := by
 have hu29 := Tryd.underlying29
 have hu115 := Tryd.underlying115
 have H : (if ((decide ((wrap64 (a0 + a1)) < a0)) != (decide (a1 < 0))) = true then (some (0, some 2)) else (some (wrap64 (a0 + a1), none))) = some (r1, r2) := h
 clear h
 by_cases c3 : ((decide ((wrap64 (a0 + a1)) < a0)) != (decide (a1 < 0))) = true
 ·rw [if_pos c3] at H
  have c3b0 : ((decide ((wrap64 (a0 + a1)) < a0)) != (decide (a1 < 0))) = true := c3
  (try (have c3b1 : decide ((decide ((wrap64 (a0 + a1)) < a0)) = (decide (a1 < 0))) = false := by simpa using c3))
  (try (have c3b2 : ((decide ((wrap64 (a0 + a1)) < a0)) == (decide (a1 < 0))) = false := by simpa using c3))
  (try (have c3b3 : ¬ ((decide ((wrap64 (a0 + a1)) < a0)) = (decide (a1 < 0))) := by simpa using c3))
  clear c3
  as_aux_lemma =>
   simp only [Option.some.injEq, Prod.mk.injEq] at H
   obtain ⟨rfl, rfl⟩ := H
   go_enter Tryd.func88, Tryd.ntmps88
   go_wp2
   go_ret2
   exact ⟨by first | rfl | (simp; done) | (simp [*]; done), by repeat (first | exact Drawn0.refl _ | apply Drawn0.step)⟩
 ·rw [if_neg c3] at H
  have c3b0 : ((decide ((wrap64 (a0 + a1)) < a0)) != (decide (a1 < 0))) = false := by simpa using c3
  (try (have c3b1 : decide ((decide ((wrap64 (a0 + a1)) < a0)) = (decide (a1 < 0))) = true := by simpa using c3))
  (try (have c3b2 : ((decide ((wrap64 (a0 + a1)) < a0)) == (decide (a1 < 0))) = true := by simpa using c3))
  clear c3
  as_aux_lemma =>
   simp only [Option.some.injEq, Prod.mk.injEq] at H
   obtain ⟨rfl, rfl⟩ := H
   go_enter Tryd.func88, Tryd.ntmps88
   go_wp2
   go_ret2
   exact ⟨by first | rfl | (simp; done) | (simp [*]; done), by repeat (first | exact Drawn0.refl _ | apply Drawn0.step)⟩

/-! ### num_AddSat: function 76 -/
def num_AddSat.f (a0 : Int) (a1 : Int) : Option (Int) := (num_Add.f a0 a1).bind fun bt162 => (if bt162.2.isNone = true then (some bt162.1) else ((num_edge.f (decide (a1 < 0))).bind fun t165 => (some t165)))
set_option maxHeartbeats 8000000 in
set_option maxRecDepth 100000 in
theorem num_AddSat.calls (a0 : Int) (a1 : Int) (r : Int) (w : World) (h : num_AddSat.f a0 a1 = some r) :
  Calls Tryd.prog 76 #[.int .i64 a0, .int .i64 a1] w fun e w' => e = .returned (.int .i64 r) ∧ Drawn0 w w' := by
 have hu29 := Tryd.underlying29
 have hu115 := Tryd.underlying115
 have H : ((num_Add.f a0 a1).bind fun bt162 => (if bt162.2.isNone = true then (some bt162.1) else ((num_edge.f (decide (a1 < 0))).bind fun t165 => (some t165)))) = some r := h
 clear h
 replace H := Option.bind_eq_some_iff.mp H
 obtain ⟨⟨t162, t163⟩, A30, H⟩ := H
 replace H : (if t163.isNone = true then (some t162) else ((num_edge.f (decide (a1 < 0))).bind fun t165 => (some t165))) = some r := H
 have A3 := qS A30
 clear A30
 rcases t163 with _ | q164
 ·have H1 : (some t162) = some r := by rw [if_pos (show (none : Option Int).isNone = true by rfl)] at H; exact H
  clear H
  have H := H1
  clear H1
  try simp only [errW_none, errW_some]
  as_aux_lemma =>
   obtain rfl := Option.some.inj H
   go_enter Tryd.func76, Tryd.ntmps76
   go_wp2_with (first | ((with_reducible refine gate_callee (f := 88) rfl ?_); refine goesL_ (some 10) rfl rfl Tryd.func88 (by kernel_rfl) rfl #[.int .i64 a0, .int .i64 a1] rfl (by (try simp only [List.map_toArray, List.map_cons, List.map_nil]); first | done | rfl | (simp only [*]; done) | (simp only [List.length_drop, List.length_take]; rfl)) ?_; (with_reducible refine (num_Add.calls a0 a1 t162 none _ A3.out).mono ?_); rintro e w' ⟨rfl, ⟨nd, rfl⟩⟩; refine ⟨_, rfl, ?_⟩; (try simp only [errW_none, errW_some])))
   go_ret
   exact ⟨by first | rfl | (simp; done) | (simp [*]; done), by repeat (first | exact Drawn0.refl _ | apply Drawn0.step)⟩
 ·have H1 : ((num_edge.f (decide (a1 < 0))).bind fun t165 => (some t165)) = some r := by rw [if_neg (show ¬ (some q164).isNone = true by simp)] at H; exact H
  clear H
  have H := H1
  clear H1
  try simp only [errW_none, errW_some]
  replace H := Option.bind_eq_some_iff.mp H
  obtain ⟨t165, A40, H⟩ := H
  replace H : (some t165) = some r := H
  have A4 := qS A40
  clear A40
  as_aux_lemma =>
   obtain rfl := Option.some.inj H
   go_enter Tryd.func76, Tryd.ntmps76
   go_wp2_with (first | ((with_reducible refine gate_callee (f := 88) rfl ?_); refine goesL_ (some 10) rfl rfl Tryd.func88 (by kernel_rfl) rfl #[.int .i64 a0, .int .i64 a1] rfl (by (try simp only [List.map_toArray, List.map_cons, List.map_nil]); first | done | rfl | (simp only [*]; done) | (simp only [List.length_drop, List.length_take]; rfl)) ?_; (with_reducible refine (num_Add.calls a0 a1 t162 (some q164) _ A3.out).mono ?_); rintro e w' ⟨rfl, ⟨nd, rfl⟩⟩; refine ⟨_, rfl, ?_⟩; (try simp only [errW_none, errW_some])) | (go_at_call 81; refine calls_of_args (args' := #[.bool (decide (a1 < 0))]) ?_ ?_; (focus (first | rfl | (simp only [*]; done) | (simp [*]; done) | (clear H'; simp_all; done) | (simp_all; done))); (with_reducible refine (num_edge.calls (decide (a1 < 0)) t165 _ A4.out).mono ?_); rintro e w' ⟨rfl, ⟨nd, rfl⟩⟩))
   go_ret
   exact ⟨by first | rfl | (simp; done) | (simp [*]; done), by repeat (first | exact Drawn0.refl _ | apply Drawn0.step)⟩

/-! ### span_Grow: function 51 -/
def span_Grow.j0 : Nat → Int → Bool → Int → Int → Option (Int × Int × Option Int)
 | 0, _, _, _, _ => none
 | k + 1, x1, x12, x167000, x167001 => if x12 = true then (some (0, 0, some 1)) else ((num_SubSat.f x167000 x1).bind fun t170 => ((num_AddSat.f x167001 x1).bind fun t171 => (some (t170, t171, none))))
def span_Grow.f (k : Nat) (a0_0 : Int) (a0_1 : Int) (a1 : Int) : Option (Int × Int × Option Int) := (span_Check.f a0_0 a0_1).bind fun t168 => (if t168.isNone = true then (span_Grow.j0 k a1 (decide (a1 < 0)) a0_0 a0_1) else (span_Grow.j0 k a1 true a0_0 a0_1))
theorem span_Grow.mono_l : ∀ k, (∀ y0 y1 y2 y3, LeO (span_Grow.j0 k y0 y1 y2 y3) (span_Grow.j0 (k + 1) y0 y1 y2 y3))
 | 0 => fun _ _ _ _ r h => by simp [span_Grow.j0] at h
 | k + 1 => by
  have ih0 := span_Grow.mono_l k
  ·intro y0 y1 y2 y3
   unfold span_Grow.j0
   repeat' first
   | (with_reducible exact ih0 _ _ _ _)
   | (with_reducible exact LeO.refl _)
   | (with_reducible exact LeO.none _)
   | (with_reducible refine LeO.ite ?_ ?_)
   | (with_reducible refine LeO.bind ?_ (fun _ => ?_))
   | exact ih0 _ _ _ _
   | exact LeO.none _
   | refine LeO.ite ?_ ?_
   | refine LeO.bind ?_ (fun _ => ?_)
theorem span_Grow.mono : ∀ a0 a1 a2 k, LeO (span_Grow.f k a0 a1 a2) (span_Grow.f (k + 1) a0 a1 a2) := by
 intro a0 a1 a2 k
 have ih0 := span_Grow.mono_l k
 unfold span_Grow.f
 repeat' first
   | (with_reducible exact ih0 _ _ _ _)
   | (with_reducible exact LeO.refl _)
   | (with_reducible exact LeO.none _)
   | (with_reducible refine LeO.ite ?_ ?_)
   | (with_reducible refine LeO.bind ?_ (fun _ => ?_))
   | exact ih0 _ _ _ _
   | exact LeO.none _
   | refine LeO.ite ?_ ?_
   | refine LeO.bind ?_ (fun _ => ?_)
def span_Grow.T3 : Bool × List (List Nat × List Nat) := (true, [([], []), ([0], [0]), ([], []), ([1, 2], [1, 2]), ([], []), ([4], [4]), ([], []), ([5, 6, 3], [5, 6]), ([3, 7], [3, 7]), ([8, 7, 0, 1, 2, 3, 4, 5, 6, 7, 8], [8]), ([9, 0, 1, 2, 3, 4, 5, 6, 7, 8, 9], [])])
def span_Grow.B3 : List Nat := [0, 1, 0, 7, 0, 16, 0, 127, 255, 511, 1023]
theorem span_Grow.tab3 : rtab .any (opsOf Tryd.f51 3) = span_Grow.T3 := by kernel_rfl
theorem span_Grow.bits3 : waitsOk span_Grow.T3.2 span_Grow.B3 = true := by kernel_rfl
set_option maxHeartbeats 8000000 in
set_option maxRecDepth 100000 in
theorem span_Grow.calls (k : Nat) (a0_0 : Int) (a0_1 : Int) (a1 : Int) (r1 : Int) (r2 : Int) (r3 : Option Int) (w : World) (h : span_Grow.f k a0_0 a0_1 a1 = some (r1, r2, r3)) :
  Calls Tryd.prog 51 #[.agg #[.int .i64 a0_0, .int .i64 a0_1], .int .i64 a1] w fun e w' => e = .returned (.tuple #[.agg #[.int .i64 r1, .int .i64 r2], errW r3]) ∧ Below w.heap.size w w' := by
 have hu68 := Tryd.underlying68
 have hu29 := Tryd.underlying29
 have hu115 := Tryd.underlying115
 have HB := qS (Below.refl w.heap.size w)
 have H : ((span_Check.f a0_0 a0_1).bind fun t168 => (if t168.isNone = true then (span_Grow.j0 k a1 (decide (a1 < 0)) a0_0 a0_1) else (span_Grow.j0 k a1 true a0_0 a0_1))) = some (r1, r2, r3) := h
 clear h
 have HC3 := qS H
 clear H
 go_enter Tryd.func51, Tryd.ntmps51
 go_upto_region 1 with (first | ((with_reducible refine gate_dst (N := 2) rfl ?_); refine box_event ?hg (N := 2) ?hd (cs := #[.int .i64 a0_0, .int .i64 a0_1]) (t := 68) ?hr ?_; (case hd => rfl); (case hg => rfl); (case hr => first | (go_simp; done) | (go_simp; rfl)); intro gb166 hg w4 hbox hb; have n0_ := qS (below_step (by repeat (first | (with_reducible first | exact HB.out | apply qpA | apply qpN | apply qp1) | exact HB.out)) hb); have n1_ := qS (hbox); have n2_ := qS ((by rw [hg]; exact (below_size (by repeat (first | (with_reducible first | exact HB.out | apply qpA | apply qpN | apply qp1) | exact HB.out))) : w.heap.size ≤ gb166)); have n3_ := qS ((by rw [hg]; exact (below_size (by repeat (first | (with_reducible first | exact HB.out | apply qpA | apply qpN | apply qp1) | exact HB.out))) : w.heap.size ≤ gb166)); clear HB; have HB := n0_; have BK166 := n1_; have GW166 := n2_; have GE166 := n3_; clear n0_ n1_ n2_ n3_; clear hb hbox hg) | ((with_reducible refine gate_dst (N := 4) rfl ?_); refine box_event ?hg (N := 4) ?hd (cs := #[.int .i64 0, .int .i64 0]) (t := 68) ?hr ?_; (case hd => rfl); (case hg => rfl); (case hr => first | (go_simp; done) | (go_simp; rfl)); intro gb167 hg w5 hbox hb; have n0_ := qS (qB (g := gb166) (o := .cells #[.int .i64 a0_0, .int .i64 a0_1] 68 (0, 0)) (by (with_reducible repeat (first | refine qN ?_ _ | refine qD ?_ | refine qA ?_ _)); exact BK166.out) hb); have n1_ := qS (below_step (by repeat (first | (with_reducible first | exact HB.out | apply qpA | apply qpN | apply qp1 | refine qpS ?_ GE166.out) | exact HB.out)) hb); have n2_ := qS (hbox); have n3_ := qS ((by rw [hg]; exact (below_size (by repeat (first | (with_reducible first | exact HB.out | apply qpA | apply qpN | apply qp1 | refine qpS ?_ GE166.out) | exact HB.out))) : w.heap.size ≤ gb167)); have n4_ := qS ((by rw [hg]; exact (below_size (by repeat (first | (with_reducible first | exact HB.out | apply qpA | apply qpN | apply qp1 | refine qpS ?_ GE166.out) | exact HB.out))) : w.heap.size ≤ gb167)); have n5_ := qS ((by rw [hg]; exact Nat.ne_of_lt (blk_lt (g := gb166) (o := .cells #[.int .i64 a0_0, .int .i64 a0_1] 68 (0, 0)) (by (with_reducible repeat (first | refine qN ?_ _ | refine qD ?_ | refine qA ?_ _)); exact BK166.out)) : gb166 ≠ gb167)); have n6_ := qS ((by rw [hg]; exact Nat.ne_of_gt (blk_lt (g := gb166) (o := .cells #[.int .i64 a0_0, .int .i64 a0_1] 68 (0, 0)) (by (with_reducible repeat (first | refine qN ?_ _ | refine qD ?_ | refine qA ?_ _)); exact BK166.out)) : gb167 ≠ gb166)); clear BK166; clear HB; have BK166 := n0_; have HB := n1_; have BK167 := n2_; have GW167 := n3_; have GE167 := n4_; have NB166_167 := n5_; have NB167_166 := n6_; clear n0_ n1_ n2_ n3_ n4_ n5_ n6_; clear hb hbox hg))
 (try simp only [Act.put, List.setIfInBounds_toArray, List.set_cons_zero, List.set_cons_succ])
 go_cut [12] (fun v12 wc => ∃ (kq : Nat) (x12_2 : Bool), v12 = .bool x12_2 ∧ Aside0 (span_Grow.j0 kq a1 x12_2 a0_0 a0_1 = some (r1, r2, r3)) ∧ Aside0 (kq ≤ k) ∧ Aside0 (wc.heap[gb166]? = some (.cells #[.int .i64 a0_0, .int .i64 a0_1] 68 (0, 0))) ∧ Aside0 (wc.heap[gb167]? = some (.cells #[.int .i64 0, .int .i64 0] 68 (0, 0))) ∧ Aside0 (Below w.heap.size w wc))
 case first =>
  have H := HC3.out
  clear HC3
  replace H := Option.bind_eq_some_iff.mp H
  obtain ⟨t168, A60, H⟩ := H
  replace H : (if t168.isNone = true then (span_Grow.j0 k a1 (decide (a1 < 0)) a0_0 a0_1) else (span_Grow.j0 k a1 true a0_0 a0_1)) = some (r1, r2, r3) := H
  have A6 := qS A60
  clear A60
  rcases t168 with _ | q169
  ·have H1 : (span_Grow.j0 k a1 (decide (a1 < 0)) a0_0 a0_1) = some (r1, r2, r3) := by rw [if_pos (show (none : Option Int).isNone = true by rfl)] at H; exact H
   clear H
   have H := H1
   clear H1
   try simp only [errW_none, errW_some]
   as_aux_lemma =>
    have H' := qS H
    clear H
    have hnb7 := NB166_167.out
    have hnc7 := NB167_166.out
    have hcz8_0 : w5.cell? ⟨gb166, 0, none⟩ = some (.int .i64 a0_0) := (qC BK166.out 0).trans rfl
    have hcz8_1 : w5.cell? ⟨gb166, 1, none⟩ = some (.int .i64 a0_1) := (qC BK166.out 1).trans rfl
    have hfz8_0 := qF BK166.out 0
    have hfz8_1 := qF BK166.out 1
    go_wp2_with (first | ((with_reducible refine gate_callee (f := 53) rfl ?_); refine goesL_ (some 7) rfl rfl Tryd.func53 (by kernel_rfl) rfl #[.agg #[.int .i64 a0_0, .int .i64 a0_1]] rfl (by (try simp only [List.map_toArray, List.map_cons, List.map_nil]); first | done | rfl | (simp only [*]; done) | (simp only [List.length_drop, List.length_take]; rfl)) ?_; (with_reducible refine (span_Check.calls a0_0 a0_1 none _ A6.out).mono ?_); rintro e w9 ⟨rfl, hb⟩; refine ⟨_, rfl, ?_⟩; have n0_ := qS (qB (g := gb166) (o := .cells #[.int .i64 a0_0, .int .i64 a0_1] 68 (0, 0)) (by (with_reducible repeat (first | refine qN ?_ _ | refine qD ?_ | refine qA ?_ _)); exact BK166.out) hb); have n1_ := qS (qB (g := gb167) (o := .cells #[.int .i64 0, .int .i64 0] 68 (0, 0)) (by (with_reducible repeat (first | refine qN ?_ _ | refine qD ?_ | refine qA ?_ _)); exact BK167.out) hb); have n2_ := qS (below_step (by repeat (first | (with_reducible first | exact HB.out | apply qpA | apply qpN | apply qp1 | refine qpS ?_ GE166.out | refine qpS ?_ GE167.out) | exact HB.out)) hb); clear BK166; clear BK167; clear HB; have BK166 := n0_; have BK167 := n1_; have HB := n2_; clear n0_ n1_ n2_; (try clear hb); (try clear hb2); (try clear hk); (try clear hi); (try simp only [errW_none, errW_some])))
    go_meet
    case rel => exact ⟨_, (decide (a1 < 0)), (by first | rfl | (simp; done) | (simp [*]; done)), H', ⟨by first | omega | exact Nat.le_refl _⟩, ⟨by (with_reducible repeat (first | refine qN ?_ _ | refine qD ?_ | refine qA ?_ _)); exact BK166.out⟩, ⟨by (with_reducible repeat (first | refine qN ?_ _ | refine qD ?_ | refine qA ?_ _)); exact BK167.out⟩, ⟨by repeat (first | (with_reducible first | exact HB.out | apply qpA | apply qpN | apply qp1 | refine qpS ?_ GE166.out | refine qpS ?_ GE167.out) | exact HB.out)⟩⟩
  ·have H1 : (span_Grow.j0 k a1 true a0_0 a0_1) = some (r1, r2, r3) := by rw [if_neg (show ¬ (some q169).isNone = true by simp)] at H; exact H
   clear H
   have H := H1
   clear H1
   try simp only [errW_none, errW_some]
   as_aux_lemma =>
    have H' := qS H
    clear H
    have hnb10 := NB166_167.out
    have hnc10 := NB167_166.out
    have hcz11_0 : w5.cell? ⟨gb166, 0, none⟩ = some (.int .i64 a0_0) := (qC BK166.out 0).trans rfl
    have hcz11_1 : w5.cell? ⟨gb166, 1, none⟩ = some (.int .i64 a0_1) := (qC BK166.out 1).trans rfl
    have hfz11_0 := qF BK166.out 0
    have hfz11_1 := qF BK166.out 1
    go_wp2_with (first | ((with_reducible refine gate_callee (f := 53) rfl ?_); refine goesL_ (some 7) rfl rfl Tryd.func53 (by kernel_rfl) rfl #[.agg #[.int .i64 a0_0, .int .i64 a0_1]] rfl (by (try simp only [List.map_toArray, List.map_cons, List.map_nil]); first | done | rfl | (simp only [*]; done) | (simp only [List.length_drop, List.length_take]; rfl)) ?_; (with_reducible refine (span_Check.calls a0_0 a0_1 (some q169) _ A6.out).mono ?_); rintro e w12 ⟨rfl, hb⟩; refine ⟨_, rfl, ?_⟩; have n0_ := qS (qB (g := gb166) (o := .cells #[.int .i64 a0_0, .int .i64 a0_1] 68 (0, 0)) (by (with_reducible repeat (first | refine qN ?_ _ | refine qD ?_ | refine qA ?_ _)); exact BK166.out) hb); have n1_ := qS (qB (g := gb167) (o := .cells #[.int .i64 0, .int .i64 0] 68 (0, 0)) (by (with_reducible repeat (first | refine qN ?_ _ | refine qD ?_ | refine qA ?_ _)); exact BK167.out) hb); have n2_ := qS (below_step (by repeat (first | (with_reducible first | exact HB.out | apply qpA | apply qpN | apply qp1 | refine qpS ?_ GE166.out | refine qpS ?_ GE167.out) | exact HB.out)) hb); clear BK166; clear BK167; clear HB; have BK166 := n0_; have BK167 := n1_; have HB := n2_; clear n0_ n1_ n2_; (try clear hb); (try clear hb2); (try clear hk); (try clear hi); (try simp only [errW_none, errW_some])))
    go_meet
    case rel => exact ⟨_, (true), (by first | rfl | (simp; done) | (simp [*]; done)), H', ⟨by first | omega | exact Nat.le_refl _⟩, ⟨by (with_reducible repeat (first | refine qN ?_ _ | refine qD ?_ | refine qA ?_ _)); exact BK166.out⟩, ⟨by (with_reducible repeat (first | refine qN ?_ _ | refine qD ?_ | refine qA ?_ _)); exact BK167.out⟩, ⟨by repeat (first | (with_reducible first | exact HB.out | apply qpA | apply qpN | apply qp1 | refine qpS ?_ GE166.out | refine qpS ?_ GE167.out) | exact HB.out)⟩⟩
 case rest =>
  clear HC3
  try clear c1
  try clear q1
  try clear p2
  try clear c5
  try clear c7
  try clear c10
  try clear hcz11_0
  try clear hcz11_1
  try clear hcz8_0
  try clear hcz8_1
  try clear hfz11_0
  try clear hfz11_1
  try clear hfz8_0
  try clear hfz8_1
  try clear q169
  obtain ⟨kq, x12_2, rfl, HA, HJ2, BK166, BK167, HB⟩ := hcut
  cases kq with
  | zero => exact absurd HA.out (by simp [span_Grow.j0])
  | succ kj2 =>
   have H := HA.out
   clear HA
   simp only [span_Grow.j0] at H
   by_cases c13 : x12_2 = true
   ·subst c13
    have H1 : (some (0, 0, some 1)) = some (r1, r2, r3) := by rw [if_pos rfl] at H; exact H
    clear H
    have H := H1
    clear H1
    as_aux_lemma =>
     simp only [Option.some.injEq, Prod.mk.injEq] at H
     obtain ⟨rfl, rfl, rfl⟩ := H
     have hnb14 := NB167_166.out
     have hnc14 := NB166_167.out
     have hcz15_0 : wc.cell? ⟨gb167, 0, none⟩ = some (.int .i64 0) := (qC BK167.out 0).trans rfl
     have hcz15_1 : wc.cell? ⟨gb167, 1, none⟩ = some (.int .i64 0) := (qC BK167.out 1).trans rfl
     have hfz15_0 := qF BK167.out 0
     have hfz15_1 := qF BK167.out 1
     go_wp2
     refine bodyPost_ret (results_ct rfl _ _ gb167 68 #[.int .i64 0, .int .i64 0] (0, 0) _ rfl (by (with_reducible repeat (first | refine qN ?_ _ | refine qD ?_ | refine qA ?_ _)); refine blk_put (cs := #[.int .i64 0, .int .i64 0]) ?_ 1 _ rfl; (with_reducible repeat (first | refine qN ?_ _ | refine qD ?_ | refine qA ?_ _)); refine blk_put (cs := #[.int .i64 0, .int .i64 0]) ?_ 0 _ rfl; (with_reducible repeat (first | refine qN ?_ _ | refine qD ?_ | refine qA ?_ _)); exact BK167.out) Tryd.underlying68 rfl (by kernel_rfl)) rfl ?_
     exact ⟨by first | rfl | (simp [errW_none, errW_some] <;> rfl) | (simp [*, errW_none, errW_some] <;> rfl), by repeat (first | (with_reducible first | exact HB.out | apply qpA | apply qpN | apply qp1 | refine qpS ?_ GE166.out | refine qpS ?_ GE167.out) | exact HB.out)⟩
   ·replace c13 := Bool.eq_false_iff.mpr c13
    subst c13
    have H1 : ((num_SubSat.f a0_0 a1).bind fun t170 => ((num_AddSat.f a0_1 a1).bind fun t171 => (some (t170, t171, none)))) = some (r1, r2, r3) := by rw [if_neg (show ¬ (false = true) by decide)] at H; exact H
    clear H
    have H := H1
    clear H1
    replace H := Option.bind_eq_some_iff.mp H
    obtain ⟨t170, A160, H⟩ := H
    replace H : ((num_AddSat.f a0_1 a1).bind fun t171 => (some (t170, t171, none))) = some (r1, r2, r3) := H
    have A16 := qS A160
    clear A160
    replace H := Option.bind_eq_some_iff.mp H
    obtain ⟨t171, A170, H⟩ := H
    replace H : (some (t170, t171, none)) = some (r1, r2, r3) := H
    have A17 := qS A170
    clear A170
    as_aux_lemma =>
     simp only [Option.some.injEq, Prod.mk.injEq] at H
     obtain ⟨rfl, rfl, rfl⟩ := H
     try go_wp2
     have n0_ := qS (qD BK166.out)
     have n1_ := qS (qD BK167.out)
     have n2_ := qS (qp1 HB.out)
     clear BK166
     clear BK167
     clear HB
     have BK166 := n0_
     have BK167 := n1_
     have HB := n2_
     clear n0_ n1_ n2_
     refine start_ (n := 11) (S := fun w' => w'.cell? ⟨gb166, 0, none⟩ = some (.int .i64 a0_0) ∧ w'.cell? ⟨gb166, 1, none⟩ = some (.int .i64 a0_1)) (ds := []) #[false, false, false, false, false, false, false, false, false, false, false] (by kernel_rfl) rfl rfl ⟨(qC BK166.out 0).trans rfl, (qC BK166.out 1).trans rfl⟩ (fun hHeld => ?_); refine with_tabW span_Grow.tab3 span_Grow.bits3 (fun HT_ HW_ => ?_)
     generalize wc.drew = w18 at BK166 BK167 HB hHeld ⊢
     refine pure_ (i := 0) (N := some 15) (v := ?_) (a' := ?_) #[true, false, false, false, false, false, false, false, false, false, false] rfl rfl (any_of HT_.out (by kernel_rfl)) (fun _ _ _ h => h) (Or.inl ⟨by rfl, ?_⟩) ?_ ?_
     rotate_left
     ·intro w'
      go_simp
      with_reducible rfl
     rotate_left
     ·simp only [Act.put, List.setIfInBounds_toArray, List.set_cons_zero, List.set_cons_succ, i64_w, i32_w]
      rfl
     refine pure_ (i := 2) (N := some 17) (v := ?_) (a' := ?_) #[true, false, true, false, false, false, false, false, false, false, false] rfl rfl (any_of HT_.out (by kernel_rfl)) (fun _ _ _ h => h) (Or.inl ⟨by rfl, ?_⟩) ?_ ?_
     rotate_left
     ·intro w'
      go_simp
      with_reducible rfl
     rotate_left
     ·simp only [Act.put, List.setIfInBounds_toArray, List.set_cons_zero, List.set_cons_succ, i64_w, i32_w]
      rfl
     refine pure_ (i := 4) (N := some 19) (v := ?_) (a' := ?_) #[true, false, true, false, true, false, false, false, false, false, false] rfl rfl (any_of HT_.out (by kernel_rfl)) (fun _ _ _ h => h) (Or.inl ⟨by rfl, ?_⟩) ?_ ?_
     rotate_left
     ·intro w'
      go_simp
      with_reducible rfl
     rotate_left
     ·simp only [Act.put, List.setIfInBounds_toArray, List.set_cons_zero, List.set_cons_succ, i64_w, i32_w]
      rfl
     refine pure_ (i := 6) (N := some 21) (v := ?_) (a' := ?_) #[true, false, true, false, true, false, true, false, false, false, false] rfl rfl (any_of HT_.out (by kernel_rfl)) (fun _ _ _ h => h) (Or.inl ⟨by rfl, ?_⟩) ?_ ?_
     rotate_left
     ·intro w'
      go_simp
      with_reducible rfl
     rotate_left
     ·simp only [Act.put, List.setIfInBounds_toArray, List.set_cons_zero, List.set_cons_succ, i64_w, i32_w]
      rfl
     refine take_ (i := 1) (N := some 16) (v := ?_) (a' := ?_) #[true, true, true, false, true, false, true, false, false, false, false] rfl rfl (take_ofW HT_.out HW_.out (by kernel_rfl)) (fun _ _ _ h => h) (Or.inl ⟨by rfl, ?_⟩) hHeld ?_ ?_
     rotate_left
     ·rintro w' ⟨s0, s1⟩
      go_simp
      with_reducible rfl
     rotate_left
     ·simp only [Act.put, List.setIfInBounds_toArray, List.set_cons_zero, List.set_cons_succ, i64_w, i32_w]
      rfl
     refine take_ (i := 5) (N := some 20) (v := ?_) (a' := ?_) #[true, true, true, false, true, true, true, false, false, false, false] rfl rfl (take_ofW HT_.out HW_.out (by kernel_rfl)) (fun _ _ _ h => h) (Or.inl ⟨by rfl, ?_⟩) hHeld ?_ ?_
     rotate_left
     ·rintro w' ⟨s0, s1⟩
      go_simp
      with_reducible rfl
     rotate_left
     ·simp only [Act.put, List.setIfInBounds_toArray, List.set_cons_zero, List.set_cons_succ, i64_w, i32_w]
      rfl
     refine one_ (i := 3) (N := some 18) #[true, true, true, true, true, true, true, false, false, false, false] rfl rfl (one_of HT_.out (by kernel_rfl)) (by decide) (fun K hK => ?_)
     refine goes_ Tryd.func61 (by kernel_rfl) rfl #[.int .i64 a0_0, .int .i64 a1] (by rfl) rfl rfl (by (try simp only [List.map_toArray, List.map_cons, List.map_nil]); first | done | rfl | (simp only [*]; done) | (simp only [List.length_drop, List.length_take]; rfl)) ?_
     with_reducible refine (num_SubSat.calls a0_0 a1 t170 _ A16.out).mono ?_
     rintro e w' ⟨rfl, ⟨nd, rfl⟩⟩
     refine ⟨_, rfl, ?_⟩
     refine hK.out _ _ ⟨(qC BK166.out 0).trans rfl, (qC BK166.out 1).trans rfl⟩ (fun hHeld => ?_)
     clear hK K
     refine norm_ (a' := ?_) ?_ ?_
     rotate_left
     ·show Act.put _ (some 18) _ = _
      simp only [Act.put, List.setIfInBounds_toArray, List.set_cons_zero, List.set_cons_succ, i64_w, i32_w]
      rfl
     refine one_ (i := 7) (N := some 22) #[true, true, true, true, true, true, true, true, false, false, false] rfl rfl (one_of HT_.out (by kernel_rfl)) (by decide) (fun K hK => ?_)
     refine goes_ Tryd.func76 (by kernel_rfl) rfl #[.int .i64 a0_1, .int .i64 a1] (by rfl) rfl rfl (by (try simp only [List.map_toArray, List.map_cons, List.map_nil]); first | done | rfl | (simp only [*]; done) | (simp only [List.length_drop, List.length_take]; rfl)) ?_
     with_reducible refine (num_AddSat.calls a0_1 a1 t171 _ A17.out).mono ?_
     rintro e w' ⟨rfl, ⟨nd, rfl⟩⟩
     refine ⟨_, rfl, ?_⟩
     refine hK.out _ _ ⟨(qC BK166.out 0).trans rfl, (qC BK166.out 1).trans rfl⟩ (fun hHeld => ?_)
     clear hK K
     refine norm_ (a' := ?_) ?_ ?_
     rotate_left
     ·show Act.put _ (some 22) _ = _
      simp only [Act.put, List.setIfInBounds_toArray, List.set_cons_zero, List.set_cons_succ, i64_w, i32_w]
      rfl
     refine pure_ (i := 8) (N := some 23) (v := ?_) (a' := ?_) #[true, true, true, true, true, true, true, true, true, false, false] rfl rfl (any_of HT_.out (by kernel_rfl)) (fun _ _ _ h => h) (Or.inl ⟨by rfl, ?_⟩) ?_ ?_
     rotate_left
     ·intro w'
      go_simp
      with_reducible rfl
     rotate_left
     ·simp only [Act.put, List.setIfInBounds_toArray, List.set_cons_zero, List.set_cons_succ, i64_w, i32_w]
      rfl
     refine one_ (i := 9) (N := none) #[true, true, true, true, true, true, true, true, true, true, false] rfl rfl (one_of HT_.out (by kernel_rfl)) (by decide) (fun K hK => ?_)
     have hs19 : w18.cell? ⟨gb167, 0, none⟩ = some (.int .i64 0) := (qC BK167.out 0).trans rfl
     have hfs19 := qF BK167.out 0
     have hns19_0 := NB166_167.out
     have hms19_0 := NB167_166.out
     have hs20 : w18.cell? ⟨gb167, 1, none⟩ = some (.int .i64 0) := (qC BK167.out 1).trans rfl
     have hfs20 := qF BK167.out 1
     have hns20_0 := NB166_167.out
     have hms20_0 := NB167_166.out
     refine skip_ (w1 := ?_) (by rfl) rfl ?_ ?_
     rotate_left
     ·go_simp
      rfl
     refine hK.out _ _ ⟨((cell_far (p := ⟨gb167, _, none⟩) NB166_167.out _).trans (((cell_far (p := ⟨gb167, _, none⟩) NB166_167.out _).trans (hHeld.1)))), ((cell_far (p := ⟨gb167, _, none⟩) NB166_167.out _).trans (((cell_far (p := ⟨gb167, _, none⟩) NB166_167.out _).trans (hHeld.2))))⟩ (fun hHeld => ?_)
     clear hK K
     refine pure_ (i := 10) (N := some 5) (v := ?_) (a' := ?_) #[true, true, true, true, true, true, true, true, true, true, true] rfl rfl (any_of HT_.out (by kernel_rfl)) (fun _ _ _ h => h) (Or.inl ⟨by rfl, ?_⟩) ?_ ?_
     rotate_left
     ·intro w'
      go_simp
      with_reducible rfl
     rotate_left
     ·simp only [Act.put, List.setIfInBounds_toArray, List.set_cons_zero, List.set_cons_succ, i64_w, i32_w]
      rfl
     refine done_ (done_of HT_.out (by kernel_rfl)) ?_
     try go_wp2
     refine bodyPost_ret (results_ct rfl _ _ gb167 68 #[.int .i64 t170, .int .i64 t171] (0, 0) _ rfl (by (with_reducible repeat (first | refine qN ?_ _ | refine qD ?_ | refine qA ?_ _)); refine blk_put (cs := #[.int .i64 t170, .int .i64 0]) ?_ 1 _ rfl; (with_reducible repeat (first | refine qN ?_ _ | refine qD ?_ | refine qA ?_ _)); refine blk_put (cs := #[.int .i64 0, .int .i64 0]) ?_ 0 _ rfl; (with_reducible repeat (first | refine qN ?_ _ | refine qD ?_ | refine qA ?_ _)); exact BK167.out) Tryd.underlying68 rfl (by kernel_rfl)) rfl ?_
     exact ⟨by first | rfl | (simp [errW_none, errW_some] <;> rfl) | (simp [*, errW_none, errW_some] <;> rfl), by repeat (first | (with_reducible first | exact HB.out | apply qpA | apply qpN | apply qp1 | refine qpS ?_ GE166.out | refine qpS ?_ GE167.out) | exact HB.out)⟩

/-! ### fuseeref01_Div: function 59 -/
def fuseeref01_Div.f (a0 : Int) (a1 : Int) : Option (Int × Int) := if a1 = 0 then (none) else (if a0 < 0 then (if (wrap64 ((wrap64 (Int.tdiv a0 a1)) * a1)) = a0 then (some (wrap64 (Int.tdiv a0 a1), wrap64 (a0 - (wrap64 ((wrap64 (Int.tdiv a0 a1)) * a1))))) else (some (wrap64 ((wrap64 (Int.tdiv a0 a1)) - 1), wrap64 (a0 - (wrap64 ((wrap64 ((wrap64 (Int.tdiv a0 a1)) - 1)) * a1)))))) else (some (wrap64 (Int.tdiv a0 a1), wrap64 (a0 - (wrap64 ((wrap64 (Int.tdiv a0 a1)) * a1))))))
set_option maxHeartbeats 8000000 in
set_option maxRecDepth 100000 in
theorem fuseeref01_Div.calls (a0 : Int) (a1 : Int) (r1 : Int) (r2 : Int) (w : World) (h : fuseeref01_Div.f a0 a1 = some (r1, r2)) :
  Calls Tryd.prog 59 #[.int .i64 a0, .int .i64 a1] w fun e w' => e = .returned (.tuple #[.int .i64 r1, .int .i64 r2]) ∧ Drawn0 w w' := by
 have H : (if a1 = 0 then (none) else (if a0 < 0 then (if (wrap64 ((wrap64 (Int.tdiv a0 a1)) * a1)) = a0 then (some (wrap64 (Int.tdiv a0 a1), wrap64 (a0 - (wrap64 ((wrap64 (Int.tdiv a0 a1)) * a1))))) else (some (wrap64 ((wrap64 (Int.tdiv a0 a1)) - 1), wrap64 (a0 - (wrap64 ((wrap64 ((wrap64 (Int.tdiv a0 a1)) - 1)) * a1)))))) else (some (wrap64 (Int.tdiv a0 a1), wrap64 (a0 - (wrap64 ((wrap64 (Int.tdiv a0 a1)) * a1))))))) = some (r1, r2) := h
 clear h
 by_cases c3 : a1 = 0
 ·rw [if_pos c3] at H
  exact absurd H (by simp)
 ·rw [if_neg c3] at H
  have c3b0 : (a1 == 0) = false := beq_eq_false_iff_ne.mpr c3
  have c3b1 : (a1 != 0) = true := bne_iff_ne.mpr c3
  by_cases c4 : a0 < 0
  ·rw [if_pos c4] at H
   have c4b0 : decide (a0 < 0) = true := decide_eq_true c4
   clear c4
   by_cases c5 : (wrap64 ((wrap64 (Int.tdiv a0 a1)) * a1)) = a0
   ·rw [if_pos c5] at H
    have c5b0 : ((wrap64 ((wrap64 (Int.tdiv a0 a1)) * a1)) == a0) = true := beq_iff_eq.mpr c5
    have c5b1 : ((wrap64 ((wrap64 (Int.tdiv a0 a1)) * a1)) != a0) = false := bne_eq_false_iff_eq.mpr c5
    clear c5
    as_aux_lemma =>
     simp only [Option.some.injEq, Prod.mk.injEq] at H
     obtain ⟨rfl, rfl⟩ := H
     go_enter Tryd.func59, Tryd.ntmps59
     go_wp2
     go_ret2
     exact ⟨by first | rfl | (simp; done) | (simp [*]; done), by repeat (first | exact Drawn0.refl _ | apply Drawn0.step)⟩
   ·rw [if_neg c5] at H
    have c5b0 : ((wrap64 ((wrap64 (Int.tdiv a0 a1)) * a1)) == a0) = false := beq_eq_false_iff_ne.mpr c5
    have c5b1 : ((wrap64 ((wrap64 (Int.tdiv a0 a1)) * a1)) != a0) = true := bne_iff_ne.mpr c5
    as_aux_lemma =>
     simp only [Option.some.injEq, Prod.mk.injEq] at H
     obtain ⟨rfl, rfl⟩ := H
     go_enter Tryd.func59, Tryd.ntmps59
     go_wp2
     go_ret2
     exact ⟨by first | rfl | (simp; done) | (simp [*]; done), by repeat (first | exact Drawn0.refl _ | apply Drawn0.step)⟩
  ·rw [if_neg c4] at H
   have c4b0 : decide (a0 < 0) = false := decide_eq_false c4
   clear c4
   as_aux_lemma =>
    simp only [Option.some.injEq, Prod.mk.injEq] at H
    obtain ⟨rfl, rfl⟩ := H
    go_enter Tryd.func59, Tryd.ntmps59
    go_wp2
    go_ret2
    exact ⟨by first | rfl | (simp; done) | (simp [*]; done), by repeat (first | exact Drawn0.refl _ | apply Drawn0.step)⟩

/-! ### fuseeref01_Less: function 62 -/
def fuseeref01_Less.j0 : Nat → Int → Int → Bool → Option (Int × Int)
 | 0, _, _, _ => none
 | k + 1, x0, x1, x13 => if x13 = true then (some (0, 1)) else (if x1 > 0 then (if x0 < (wrap64 ((-9223372036854775808) + x1)) then (some (0, (-1))) else (some (wrap64 (x0 - x1), 0))) else (some (wrap64 (x0 - x1), 0)))
def fuseeref01_Less.f (k : Nat) (a0 : Int) (a1 : Int) : Option (Int × Int) := if a1 < 0 then (fuseeref01_Less.j0 k a0 a1 (decide (a0 > (wrap64 (9223372036854775807 + a1))))) else (fuseeref01_Less.j0 k a0 a1 false)
theorem fuseeref01_Less.mono_l : ∀ k, (∀ y0 y1 y2, LeO (fuseeref01_Less.j0 k y0 y1 y2) (fuseeref01_Less.j0 (k + 1) y0 y1 y2))
 | 0 => fun _ _ _ r h => by simp [fuseeref01_Less.j0] at h
 | k + 1 => by
  have ih0 := fuseeref01_Less.mono_l k
  ·intro y0 y1 y2
   unfold fuseeref01_Less.j0
   repeat' first
   | (with_reducible exact ih0 _ _ _)
   | (with_reducible exact LeO.refl _)
   | (with_reducible exact LeO.none _)
   | (with_reducible refine LeO.ite ?_ ?_)
   | (with_reducible refine LeO.bind ?_ (fun _ => ?_))
   | exact ih0 _ _ _
   | exact LeO.none _
   | refine LeO.ite ?_ ?_
   | refine LeO.bind ?_ (fun _ => ?_)
theorem fuseeref01_Less.mono : ∀ a0 a1 k, LeO (fuseeref01_Less.f k a0 a1) (fuseeref01_Less.f (k + 1) a0 a1) := by
 intro a0 a1 k
 have ih0 := fuseeref01_Less.mono_l k
 unfold fuseeref01_Less.f
 repeat' first
   | (with_reducible exact ih0 _ _ _)
   | (with_reducible exact LeO.refl _)
   | (with_reducible exact LeO.none _)
   | (with_reducible refine LeO.ite ?_ ?_)
   | (with_reducible refine LeO.bind ?_ (fun _ => ?_))
   | exact ih0 _ _ _
   | exact LeO.none _
   | refine LeO.ite ?_ ?_
   | refine LeO.bind ?_ (fun _ => ?_)
set_option maxHeartbeats 8000000 in
set_option maxRecDepth 100000 in
theorem fuseeref01_Less.calls (k : Nat) (a0 : Int) (a1 : Int) (r1 : Int) (r2 : Int) (w : World) (h : fuseeref01_Less.f k a0 a1 = some (r1, r2)) :
  Calls Tryd.prog 62 #[.int .i64 a0, .int .i64 a1] w fun e w' => e = .returned (.tuple #[.int .i64 r1, .int .i64 r2]) ∧ Drawn0 w w' := by
 have H : (if a1 < 0 then (fuseeref01_Less.j0 k a0 a1 (decide (a0 > (wrap64 (9223372036854775807 + a1))))) else (fuseeref01_Less.j0 k a0 a1 false)) = some (r1, r2) := h
 clear h
 have HC3 := qS H
 clear H
 go_enter Tryd.func62, Tryd.ntmps62
 go_upto_region 1 with (fail)
 go_cut [13] (fun v13 wc => ∃ (kq : Nat) (x13_2 : Bool), v13 = .bool x13_2 ∧ Aside0 (fuseeref01_Less.j0 kq a0 a1 x13_2 = some (r1, r2)) ∧ Aside0 (kq ≤ k) ∧ Drawn0 w wc)
 case first =>
  have H := HC3.out
  clear HC3
  by_cases c4 : a1 < 0
  ·rw [if_pos c4] at H
   have c4b0 : decide (a1 < 0) = true := decide_eq_true c4
   clear c4
   (first | rw [c4b0] | (simp only [i64_w, i32_w]; rw [c4b0]) | skip)
   as_aux_lemma =>
    have H' := qS H
    clear H
    go_wp2
    go_meet
    case rel => exact ⟨_, (decide (a0 > (wrap64 (9223372036854775807 + a1)))), (by first | rfl | (simp; done) | (simp [*]; done)), H', ⟨by first | omega | exact Nat.le_refl _⟩, by repeat (first | exact Drawn0.refl _ | apply Drawn0.step)⟩
  ·rw [if_neg c4] at H
   have c4b0 : decide (a1 < 0) = false := decide_eq_false c4
   clear c4
   (first | rw [c4b0] | (simp only [i64_w, i32_w]; rw [c4b0]) | skip)
   as_aux_lemma =>
    have H' := qS H
    clear H
    go_wp2
    go_meet
    case rel => exact ⟨_, (false), (by first | rfl | (simp; done) | (simp [*]; done)), H', ⟨by first | omega | exact Nat.le_refl _⟩, by repeat (first | exact Drawn0.refl _ | apply Drawn0.step)⟩
 case rest =>
  clear HC3
  try clear p2
  try clear c4
  try clear c4b0
  obtain ⟨kq, x13_2, rfl, HA, HJ2, ⟨mc2, rfl⟩⟩ := hcut
  cases kq with
  | zero => exact absurd HA.out (by simp [fuseeref01_Less.j0])
  | succ kj2 =>
   have H := HA.out
   clear HA
   simp only [fuseeref01_Less.j0] at H
   by_cases c5 : x13_2 = true
   ·subst c5
    have H1 : (some (0, 1)) = some (r1, r2) := by rw [if_pos rfl] at H; exact H
    clear H
    have H := H1
    clear H1
    as_aux_lemma =>
     simp only [Option.some.injEq, Prod.mk.injEq] at H
     obtain ⟨rfl, rfl⟩ := H
     go_wp2
     go_ret2
     exact ⟨by first | rfl | (simp; done) | (simp [*]; done), by repeat (first | exact Drawn0.refl _ | apply Drawn0.step)⟩
   ·replace c5 := Bool.eq_false_iff.mpr c5
    subst c5
    have H1 : (if a1 > 0 then (if a0 < (wrap64 ((-9223372036854775808) + a1)) then (some (0, (-1))) else (some (wrap64 (a0 - a1), 0))) else (some (wrap64 (a0 - a1), 0))) = some (r1, r2) := by rw [if_neg (show ¬ (false = true) by decide)] at H; exact H
    clear H
    have H := H1
    clear H1
    by_cases c6 : a1 > 0
    ·rw [if_pos c6] at H
     have c6b0 : decide (0 < a1) = true := decide_eq_true c6
     clear c6
     by_cases c7 : a0 < (wrap64 ((-9223372036854775808) + a1))
     ·rw [if_pos c7] at H
      have c7b0 : decide (a0 < (wrap64 ((-9223372036854775808) + a1))) = true := decide_eq_true c7
      clear c7
      as_aux_lemma =>
       simp only [Option.some.injEq, Prod.mk.injEq] at H
       obtain ⟨rfl, rfl⟩ := H
       go_wp2
       go_ret2
       exact ⟨by first | rfl | (simp; done) | (simp [*]; done), by repeat (first | exact Drawn0.refl _ | apply Drawn0.step)⟩
     ·rw [if_neg c7] at H
      have c7b0 : decide (a0 < (wrap64 ((-9223372036854775808) + a1))) = false := decide_eq_false c7
      clear c7
      as_aux_lemma =>
       simp only [Option.some.injEq, Prod.mk.injEq] at H
       obtain ⟨rfl, rfl⟩ := H
       go_wp2
       go_ret2
       exact ⟨by first | rfl | (simp; done) | (simp [*]; done), by repeat (first | exact Drawn0.refl _ | apply Drawn0.step)⟩
    ·rw [if_neg c6] at H
     have c6b0 : decide (0 < a1) = false := decide_eq_false c6
     clear c6
     as_aux_lemma =>
      simp only [Option.some.injEq, Prod.mk.injEq] at H
      obtain ⟨rfl, rfl⟩ := H
      go_wp2
      go_ret2
      exact ⟨by first | rfl | (simp; done) | (simp [*]; done), by repeat (first | exact Drawn0.refl _ | apply Drawn0.step)⟩

/-! ### fuseeref01_Bounded: function 63 -/
def fuseeref01_Bounded.f (a0 : Int) (a1 : Int) : Option (Int) := if a1 > 0 then (some 9223372036854775807) else (if a1 < 0 then (some (-9223372036854775808)) else (some a0))
set_option maxHeartbeats 8000000 in
set_option maxRecDepth 100000 in
theorem fuseeref01_Bounded.calls (a0 : Int) (a1 : Int) (r : Int) (w : World) (h : fuseeref01_Bounded.f a0 a1 = some r) :
  Calls Tryd.prog 63 #[.int .i64 a0, .int .i64 a1] w fun e w' => e = .returned (.int .i64 r) ∧ Drawn0 w w' := by
 have H : (if a1 > 0 then (some 9223372036854775807) else (if a1 < 0 then (some (-9223372036854775808)) else (some a0))) = some r := h
 clear h
 by_cases c3 : a1 > 0
 ·rw [if_pos c3] at H
  have c3b0 : decide (0 < a1) = true := decide_eq_true c3
  clear c3
  as_aux_lemma =>
   obtain rfl := Option.some.inj H
   go_enter Tryd.func63, Tryd.ntmps63
   go_wp2
   go_ret
   exact ⟨by first | rfl | (simp; done) | (simp [*]; done), by repeat (first | exact Drawn0.refl _ | apply Drawn0.step)⟩
 ·rw [if_neg c3] at H
  have c3b0 : decide (0 < a1) = false := decide_eq_false c3
  clear c3
  by_cases c4 : a1 < 0
  ·rw [if_pos c4] at H
   have c4b0 : decide (a1 < 0) = true := decide_eq_true c4
   clear c4
   as_aux_lemma =>
    obtain rfl := Option.some.inj H
    go_enter Tryd.func63, Tryd.ntmps63
    go_wp2
    go_ret
    exact ⟨by first | rfl | (simp; done) | (simp [*]; done), by repeat (first | exact Drawn0.refl _ | apply Drawn0.step)⟩
  ·rw [if_neg c4] at H
   have c4b0 : decide (a1 < 0) = false := decide_eq_false c4
   clear c4
   as_aux_lemma =>
    obtain rfl := Option.some.inj H
    go_enter Tryd.func63, Tryd.ntmps63
    go_wp2
    go_ret
    exact ⟨by first | rfl | (simp; done) | (simp [*]; done), by repeat (first | exact Drawn0.refl _ | apply Drawn0.step)⟩

/-! ### fuseeref13_Mid: function 54 -/
def fuseeref13_Mid.f (k : Nat) (a0_0 : Int) (a0_1 : Int) : Option (Int × Int) := (fuseeref01_Div.f a0_0 2).bind fun bt173 => ((fuseeref01_Div.f a0_1 2).bind fun bt175 => ((fuseeref01_Less.f k a0_1 (wrap64 ((wrap64 (bt173.1 + bt175.1)) + (wrap64 (Int.tdiv (wrap64 (bt173.2 + bt175.2)) 2))))).bind fun bt177 => ((fuseeref01_Bounded.f bt177.1 bt177.2).bind fun t179 => (some (wrap64 ((wrap64 (bt173.1 + bt175.1)) + (wrap64 (Int.tdiv (wrap64 (bt173.2 + bt175.2)) 2))), t179)))))
theorem fuseeref13_Mid.mono : ∀ a0 a1 k, LeO (fuseeref13_Mid.f k a0 a1) (fuseeref13_Mid.f (k + 1) a0 a1) := by
 intro a0 a1 k
 unfold fuseeref13_Mid.f
 repeat' first
   | (with_reducible exact fuseeref01_Less.mono _ _ _)
   | (with_reducible exact LeO.refl _)
   | (with_reducible exact LeO.none _)
   | (with_reducible refine LeO.ite ?_ ?_)
   | (with_reducible refine LeO.bind ?_ (fun _ => ?_))
   | exact fuseeref01_Less.mono _ _ _
   | exact LeO.none _
   | refine LeO.ite ?_ ?_
   | refine LeO.bind ?_ (fun _ => ?_)
set_option maxHeartbeats 8000000 in
set_option maxRecDepth 100000 in
theorem fuseeref13_Mid.calls (k : Nat) (a0_0 : Int) (a0_1 : Int) (r1 : Int) (r2 : Int) (w : World) (h : fuseeref13_Mid.f k a0_0 a0_1 = some (r1, r2)) :
  Calls Tryd.prog 54 #[.agg #[.int .i64 a0_0, .int .i64 a0_1]] w fun e w' => e = .returned (.tuple #[.int .i64 r1, .int .i64 r2]) ∧ Below w.heap.size w w' := by
 have hu73 := Tryd.underlying73
 have HB := qS (Below.refl w.heap.size w)
 have H : ((fuseeref01_Div.f a0_0 2).bind fun bt173 => ((fuseeref01_Div.f a0_1 2).bind fun bt175 => ((fuseeref01_Less.f k a0_1 (wrap64 ((wrap64 (bt173.1 + bt175.1)) + (wrap64 (Int.tdiv (wrap64 (bt173.2 + bt175.2)) 2))))).bind fun bt177 => ((fuseeref01_Bounded.f bt177.1 bt177.2).bind fun t179 => (some (wrap64 ((wrap64 (bt173.1 + bt175.1)) + (wrap64 (Int.tdiv (wrap64 (bt173.2 + bt175.2)) 2))), t179)))))) = some (r1, r2) := h
 clear h
 replace H := Option.bind_eq_some_iff.mp H
 obtain ⟨⟨t173, t174⟩, A20, H⟩ := H
 replace H : ((fuseeref01_Div.f a0_1 2).bind fun bt175 => ((fuseeref01_Less.f k a0_1 (wrap64 ((wrap64 (t173 + bt175.1)) + (wrap64 (Int.tdiv (wrap64 (t174 + bt175.2)) 2))))).bind fun bt177 => ((fuseeref01_Bounded.f bt177.1 bt177.2).bind fun t179 => (some (wrap64 ((wrap64 (t173 + bt175.1)) + (wrap64 (Int.tdiv (wrap64 (t174 + bt175.2)) 2))), t179))))) = some (r1, r2) := H
 have A2 := qS A20
 clear A20
 replace H := Option.bind_eq_some_iff.mp H
 obtain ⟨⟨t175, t176⟩, A30, H⟩ := H
 replace H : ((fuseeref01_Less.f k a0_1 (wrap64 ((wrap64 (t173 + t175)) + (wrap64 (Int.tdiv (wrap64 (t174 + t176)) 2))))).bind fun bt177 => ((fuseeref01_Bounded.f bt177.1 bt177.2).bind fun t179 => (some (wrap64 ((wrap64 (t173 + t175)) + (wrap64 (Int.tdiv (wrap64 (t174 + t176)) 2))), t179)))) = some (r1, r2) := H
 have A3 := qS A30
 clear A30
 replace H := Option.bind_eq_some_iff.mp H
 obtain ⟨⟨t177, t178⟩, A40, H⟩ := H
 replace H : ((fuseeref01_Bounded.f t177 t178).bind fun t179 => (some (wrap64 ((wrap64 (t173 + t175)) + (wrap64 (Int.tdiv (wrap64 (t174 + t176)) 2))), t179))) = some (r1, r2) := H
 have A4 := qS A40
 clear A40
 replace H := Option.bind_eq_some_iff.mp H
 obtain ⟨t179, A50, H⟩ := H
 replace H : (some (wrap64 ((wrap64 (t173 + t175)) + (wrap64 (Int.tdiv (wrap64 (t174 + t176)) 2))), t179)) = some (r1, r2) := H
 have A5 := qS A50
 clear A50
 as_aux_lemma =>
  simp only [Option.some.injEq, Prod.mk.injEq] at H
  obtain ⟨rfl, rfl⟩ := H
  go_enter Tryd.func54, Tryd.ntmps54
  go_wp2_with (first | ((with_reducible refine gate_dst (N := 1) rfl ?_); refine box_event ?hg (N := 1) ?hd (cs := #[.int .i64 a0_0, .int .i64 a0_1]) (t := 73) ?hr ?_; (case hd => rfl); (case hg => rfl); (case hr => first | (go_simp; done) | (go_simp; rfl)); intro gb172 hg w6 hbox hb; have n0_ := qS (below_step (by repeat (first | (with_reducible first | exact HB.out | apply qpA | apply qpN | apply qp1) | exact HB.out)) hb); have n1_ := qS (hbox); have n2_ := qS ((by rw [hg]; exact (below_size (by repeat (first | (with_reducible first | exact HB.out | apply qpA | apply qpN | apply qp1) | exact HB.out))) : w.heap.size ≤ gb172)); have n3_ := qS ((by rw [hg]; exact (below_size (by repeat (first | (with_reducible first | exact HB.out | apply qpA | apply qpN | apply qp1) | exact HB.out))) : w.heap.size ≤ gb172)); clear HB; have HB := n0_; have BK172 := n1_; have GW172 := n2_; have GE172 := n3_; clear n0_ n1_ n2_ n3_; clear hb hbox hg; have hcz7_0 : w6.cell? ⟨gb172, 0, none⟩ = some (.int .i64 a0_0) := (qC BK172.out 0).trans rfl; have hcz7_1 : w6.cell? ⟨gb172, 1, none⟩ = some (.int .i64 a0_1) := (qC BK172.out 1).trans rfl; have hfz7_0 := qF BK172.out 0; have hfz7_1 := qF BK172.out 1) | ((with_reducible refine gate_callee (f := 59) rfl ?_); refine goesL_ (some 14) rfl rfl Tryd.func59 (by kernel_rfl) rfl #[.int .i64 a0_0, .int .i64 2] rfl (by (try simp only [List.map_toArray, List.map_cons, List.map_nil]); first | done | rfl | (simp only [*]; done) | (simp only [List.length_drop, List.length_take]; rfl)) ?_; (with_reducible refine (fuseeref01_Div.calls a0_0 2 t173 t174 _ A2.out).mono ?_); rintro e w' ⟨rfl, ⟨nd, rfl⟩⟩; refine ⟨_, rfl, ?_⟩) | ((with_reducible refine gate_callee (f := 59) rfl ?_); refine goesL_ (some 20) rfl rfl Tryd.func59 (by kernel_rfl) rfl #[.int .i64 a0_1, .int .i64 2] rfl (by (try simp only [List.map_toArray, List.map_cons, List.map_nil]); first | done | rfl | (simp only [*]; done) | (simp only [List.length_drop, List.length_take]; rfl)) ?_; (with_reducible refine (fuseeref01_Div.calls a0_1 2 t175 t176 _ A3.out).mono ?_); rintro e w' ⟨rfl, ⟨nd, rfl⟩⟩; refine ⟨_, rfl, ?_⟩) | ((with_reducible refine gate_callee (f := 62) rfl ?_); refine goesL_ (some 35) rfl rfl Tryd.func62 (by kernel_rfl) rfl #[.int .i64 a0_1, .int .i64 (wrap64 ((wrap64 (t173 + t175)) + (wrap64 (Int.tdiv (wrap64 (t174 + t176)) 2))))] rfl (by (try simp only [List.map_toArray, List.map_cons, List.map_nil]); first | done | rfl | (simp only [*]; done) | (simp only [List.length_drop, List.length_take]; rfl)) ?_; (with_reducible refine (fuseeref01_Less.calls k a0_1 (wrap64 ((wrap64 (t173 + t175)) + (wrap64 (Int.tdiv (wrap64 (t174 + t176)) 2)))) t177 t178 _ A4.out).mono ?_); rintro e w' ⟨rfl, ⟨nd, rfl⟩⟩; refine ⟨_, rfl, ?_⟩) | ((with_reducible refine gate_callee (f := 63) rfl ?_); refine goesL_ (some 41) rfl rfl Tryd.func63 (by kernel_rfl) rfl #[.int .i64 t177, .int .i64 t178] rfl (by (try simp only [List.map_toArray, List.map_cons, List.map_nil]); first | done | rfl | (simp only [*]; done) | (simp only [List.length_drop, List.length_take]; rfl)) ?_; (with_reducible refine (fuseeref01_Bounded.calls t177 t178 t179 _ A5.out).mono ?_); rintro e w' ⟨rfl, ⟨nd, rfl⟩⟩; refine ⟨_, rfl, ?_⟩))
  go_ret2
  exact ⟨by first | rfl | (simp [errW_none, errW_some] <;> rfl) | (simp [*, errW_none, errW_some] <;> rfl), by repeat (first | (with_reducible first | exact HB.out | apply qpA | apply qpN | apply qp1 | refine qpS ?_ GE172.out) | exact HB.out)⟩

/-! ### fuseeref01_Sum: function 78 -/
def fuseeref01_Sum.j0 : Nat → Int → Int → Bool → Option (Int × Int)
 | 0, _, _, _ => none
 | k + 1, x0, x1, x13 => if x13 = true then (some (0, 1)) else (if x1 < 0 then (if x0 < (wrap64 ((-9223372036854775808) - x1)) then (some (0, (-1))) else (some (wrap64 (x0 + x1), 0))) else (some (wrap64 (x0 + x1), 0)))
def fuseeref01_Sum.f (k : Nat) (a0 : Int) (a1 : Int) : Option (Int × Int) := if a1 > 0 then (fuseeref01_Sum.j0 k a0 a1 (decide (a0 > (wrap64 (9223372036854775807 - a1))))) else (fuseeref01_Sum.j0 k a0 a1 false)
theorem fuseeref01_Sum.mono_l : ∀ k, (∀ y0 y1 y2, LeO (fuseeref01_Sum.j0 k y0 y1 y2) (fuseeref01_Sum.j0 (k + 1) y0 y1 y2))
 | 0 => fun _ _ _ r h => by simp [fuseeref01_Sum.j0] at h
 | k + 1 => by
  have ih0 := fuseeref01_Sum.mono_l k
  ·intro y0 y1 y2
   unfold fuseeref01_Sum.j0
   repeat' first
   | (with_reducible exact ih0 _ _ _)
   | (with_reducible exact LeO.refl _)
   | (with_reducible exact LeO.none _)
   | (with_reducible refine LeO.ite ?_ ?_)
   | (with_reducible refine LeO.bind ?_ (fun _ => ?_))
   | exact ih0 _ _ _
   | exact LeO.none _
   | refine LeO.ite ?_ ?_
   | refine LeO.bind ?_ (fun _ => ?_)
theorem fuseeref01_Sum.mono : ∀ a0 a1 k, LeO (fuseeref01_Sum.f k a0 a1) (fuseeref01_Sum.f (k + 1) a0 a1) := by
 intro a0 a1 k
 have ih0 := fuseeref01_Sum.mono_l k
 unfold fuseeref01_Sum.f
 repeat' first
   | (with_reducible exact ih0 _ _ _)
   | (with_reducible exact LeO.refl _)
   | (with_reducible exact LeO.none _)
   | (with_reducible refine LeO.ite ?_ ?_)
   | (with_reducible refine LeO.bind ?_ (fun _ => ?_))
   | exact ih0 _ _ _
   | exact LeO.none _
   | refine LeO.ite ?_ ?_
   | refine LeO.bind ?_ (fun _ => ?_)
set_option maxHeartbeats 8000000 in
set_option maxRecDepth 100000 in
theorem fuseeref01_Sum.calls (k : Nat) (a0 : Int) (a1 : Int) (r1 : Int) (r2 : Int) (w : World) (h : fuseeref01_Sum.f k a0 a1 = some (r1, r2)) :
  Calls Tryd.prog 78 #[.int .i64 a0, .int .i64 a1] w fun e w' => e = .returned (.tuple #[.int .i64 r1, .int .i64 r2]) ∧ Drawn0 w w' := by
 have H : (if a1 > 0 then (fuseeref01_Sum.j0 k a0 a1 (decide (a0 > (wrap64 (9223372036854775807 - a1))))) else (fuseeref01_Sum.j0 k a0 a1 false)) = some (r1, r2) := h
 clear h
 have HC3 := qS H
 clear H
 go_enter Tryd.func78, Tryd.ntmps78
 go_upto_region 1 with (fail)
 go_cut [13] (fun v13 wc => ∃ (kq : Nat) (x13_2 : Bool), v13 = .bool x13_2 ∧ Aside0 (fuseeref01_Sum.j0 kq a0 a1 x13_2 = some (r1, r2)) ∧ Aside0 (kq ≤ k) ∧ Drawn0 w wc)
 case first =>
  have H := HC3.out
  clear HC3
  by_cases c4 : a1 > 0
  ·rw [if_pos c4] at H
   have c4b0 : decide (0 < a1) = true := decide_eq_true c4
   clear c4
   (first | rw [c4b0] | (simp only [i64_w, i32_w]; rw [c4b0]) | skip)
   as_aux_lemma =>
    have H' := qS H
    clear H
    go_wp2
    go_meet
    case rel => exact ⟨_, (decide (a0 > (wrap64 (9223372036854775807 - a1)))), (by first | rfl | (simp; done) | (simp [*]; done)), H', ⟨by first | omega | exact Nat.le_refl _⟩, by repeat (first | exact Drawn0.refl _ | apply Drawn0.step)⟩
  ·rw [if_neg c4] at H
   have c4b0 : decide (0 < a1) = false := decide_eq_false c4
   clear c4
   (first | rw [c4b0] | (simp only [i64_w, i32_w]; rw [c4b0]) | skip)
   as_aux_lemma =>
    have H' := qS H
    clear H
    go_wp2
    go_meet
    case rel => exact ⟨_, (false), (by first | rfl | (simp; done) | (simp [*]; done)), H', ⟨by first | omega | exact Nat.le_refl _⟩, by repeat (first | exact Drawn0.refl _ | apply Drawn0.step)⟩
 case rest =>
  clear HC3
  try clear p2
  try clear c4
  try clear c4b0
  obtain ⟨kq, x13_2, rfl, HA, HJ2, ⟨mc2, rfl⟩⟩ := hcut
  cases kq with
  | zero => exact absurd HA.out (by simp [fuseeref01_Sum.j0])
  | succ kj2 =>
   have H := HA.out
   clear HA
   simp only [fuseeref01_Sum.j0] at H
   by_cases c5 : x13_2 = true
   ·subst c5
    have H1 : (some (0, 1)) = some (r1, r2) := by rw [if_pos rfl] at H; exact H
    clear H
    have H := H1
    clear H1
    as_aux_lemma =>
     simp only [Option.some.injEq, Prod.mk.injEq] at H
     obtain ⟨rfl, rfl⟩ := H
     go_wp2
     go_ret2
     exact ⟨by first | rfl | (simp; done) | (simp [*]; done), by repeat (first | exact Drawn0.refl _ | apply Drawn0.step)⟩
   ·replace c5 := Bool.eq_false_iff.mpr c5
    subst c5
    have H1 : (if a1 < 0 then (if a0 < (wrap64 ((-9223372036854775808) - a1)) then (some (0, (-1))) else (some (wrap64 (a0 + a1), 0))) else (some (wrap64 (a0 + a1), 0))) = some (r1, r2) := by rw [if_neg (show ¬ (false = true) by decide)] at H; exact H
    clear H
    have H := H1
    clear H1
    by_cases c6 : a1 < 0
    ·rw [if_pos c6] at H
     have c6b0 : decide (a1 < 0) = true := decide_eq_true c6
     clear c6
     by_cases c7 : a0 < (wrap64 ((-9223372036854775808) - a1))
     ·rw [if_pos c7] at H
      have c7b0 : decide (a0 < (wrap64 ((-9223372036854775808) - a1))) = true := decide_eq_true c7
      clear c7
      as_aux_lemma =>
       simp only [Option.some.injEq, Prod.mk.injEq] at H
       obtain ⟨rfl, rfl⟩ := H
       go_wp2
       go_ret2
       exact ⟨by first | rfl | (simp; done) | (simp [*]; done), by repeat (first | exact Drawn0.refl _ | apply Drawn0.step)⟩
     ·rw [if_neg c7] at H
      have c7b0 : decide (a0 < (wrap64 ((-9223372036854775808) - a1))) = false := decide_eq_false c7
      clear c7
      as_aux_lemma =>
       simp only [Option.some.injEq, Prod.mk.injEq] at H
       obtain ⟨rfl, rfl⟩ := H
       go_wp2
       go_ret2
       exact ⟨by first | rfl | (simp; done) | (simp [*]; done), by repeat (first | exact Drawn0.refl _ | apply Drawn0.step)⟩
    ·rw [if_neg c6] at H
     have c6b0 : decide (a1 < 0) = false := decide_eq_false c6
     clear c6
     as_aux_lemma =>
      simp only [Option.some.injEq, Prod.mk.injEq] at H
      obtain ⟨rfl, rfl⟩ := H
      go_wp2
      go_ret2
      exact ⟨by first | rfl | (simp; done) | (simp [*]; done), by repeat (first | exact Drawn0.refl _ | apply Drawn0.step)⟩

end Go.Proofs.YtfipgpfmlkfkfaaDoor.MSpanSteps
