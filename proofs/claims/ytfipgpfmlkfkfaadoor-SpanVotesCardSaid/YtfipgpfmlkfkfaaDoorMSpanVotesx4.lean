/- Printed by wip/gen/mp.py: Go functions as plain Lean functions, and that the calls do what these say. -/
import Derived.Test.YtfipgpfmlkfkfaaDoorMSpanVotesx0
import Derived.Test.YtfipgpfmlkfkfaaDoorMSpanVotesx1
import Derived.Test.YtfipgpfmlkfkfaaDoorMSpanVotesx3
namespace Go.Proofs.YtfipgpfmlkfkfaaDoor.MSpanVotes
open Go.RowKit Go.Proofs.YtfipgpfmlkfkfaaDoorW.PrintWords Go.Proofs.YtfipgpfmlkfkfaaDoorW.PrintLast Go.Proofs.YtfipgpfmlkfkfaaDoorW.PrintMore
attribute [local go_sem] max2_int min2_int max_two min_two max_three min_three max_four min_four   -- for this text's walks alone
set_option linter.unusedVariables false
set_option linter.unusedSimpArgs false

attribute [local go_sem high] eqA68
/-! ### fuseelaw13_sure: function 34 -/
def fuseelaw13_sure.f (k : Nat)  : Option (Bool) := (span_Vote.f k (([(⟨1, 5⟩ : S68), (⟨4, 9⟩ : S68), (⟨5, 7⟩ : S68)] : List (S68)))).bind fun bt142 => ((span_Mid.f (-3) 4).bind fun bt147 => ((span_Vote.f k ([] : List (S68))).bind fun bt150 => ((span_Meet.f 1 5 4 9).bind fun bt155 => (if bt142.2.2.2.isNone = true then (if bt147.2.2.isNone = true then (if (bt142.1 == 5 && (bt142.2.1 == 5)) = true then (if bt142.2.2.1 = 3 then (if bt147.1 = 0 then (if bt147.2.1 = 4 then ((fuseelaw13_num.f bt150.2.2.2).bind fun t161 => (if t161 = 6 then (if bt155.2.2 = true then (some (bt155.1 == 4 && (bt155.2.1 == 5))) else (none)) else (none))) else (none)) else (none)) else (none)) else (none)) else (none)) else (none)))))
theorem fuseelaw13_sure.mono : ∀ k, LeO (fuseelaw13_sure.f k ) (fuseelaw13_sure.f (k + 1) ) := by
 intro  k
 unfold fuseelaw13_sure.f
 repeat' first
   | (with_reducible exact span_Vote.mono _ _)
   | (with_reducible exact LeO.refl _)
   | (with_reducible exact LeO.none _)
   | (with_reducible refine LeO.ite ?_ ?_)
   | (with_reducible refine LeO.bind ?_ (fun _ => ?_))
   | exact span_Vote.mono _ _
   | exact LeO.none _
   | refine LeO.ite ?_ ?_
   | refine LeO.bind ?_ (fun _ => ?_)
set_option maxHeartbeats 8000000 in
set_option maxRecDepth 100000 in
theorem fuseelaw13_sure.calls (k : Nat)  (r : Bool) (w : World) (hgL : HG w) (h : fuseelaw13_sure.f k  = some r) :
  Calls Tryd.prog 34 #[] w fun e w' => e = .returned (.bool r) ∧ Below w.heap.size w w' := by
 have hu68 := Tryd.underlying68
 have hu29 := Tryd.underlying29
 have hu115 := Tryd.underlying115
 have HB := qS (Below.refl w.heap.size w)
 have H : ((span_Vote.f k (([(⟨1, 5⟩ : S68), (⟨4, 9⟩ : S68), (⟨5, 7⟩ : S68)] : List (S68)))).bind fun bt142 => ((span_Mid.f (-3) 4).bind fun bt147 => ((span_Vote.f k ([] : List (S68))).bind fun bt150 => ((span_Meet.f 1 5 4 9).bind fun bt155 => (if bt142.2.2.2.isNone = true then (if bt147.2.2.isNone = true then (if (bt142.1 == 5 && (bt142.2.1 == 5)) = true then (if bt142.2.2.1 = 3 then (if bt147.1 = 0 then (if bt147.2.1 = 4 then ((fuseelaw13_num.f bt150.2.2.2).bind fun t161 => (if t161 = 6 then (if bt155.2.2 = true then (some (bt155.1 == 4 && (bt155.2.1 == 5))) else (none)) else (none))) else (none)) else (none)) else (none)) else (none)) else (none)) else (none)))))) = some r := h
 clear h
 obtain ⟨y139, hy139⟩ : ∃ y_ : List (S68), y_ = (([(⟨1, 5⟩ : S68), (⟨4, 9⟩ : S68), (⟨5, 7⟩ : S68)] : List (S68))) := ⟨_, rfl⟩
 replace H : ((span_Vote.f k y139).bind fun bt142 => ((span_Mid.f (-3) 4).bind fun bt147 => ((span_Vote.f k ([] : List (S68))).bind fun bt150 => ((span_Meet.f 1 5 4 9).bind fun bt155 => (if bt142.2.2.2.isNone = true then (if bt147.2.2.isNone = true then (if (bt142.1 == 5 && (bt142.2.1 == 5)) = true then (if bt142.2.2.1 = 3 then (if bt147.1 = 0 then (if bt147.2.1 = 4 then ((fuseelaw13_num.f bt150.2.2.2).bind fun t161 => (if t161 = 6 then (if bt155.2.2 = true then (some (bt155.1 == 4 && (bt155.2.1 == 5))) else (none)) else (none))) else (none)) else (none)) else (none)) else (none)) else (none)) else (none)))))) = some r := by first | (rw [hy139]; with_reducible exact H) | (have H2_ := (Option.bind_some _ _).symm.trans H; rw [hy139]; with_reducible exact H2_) | (have H2_ := (Option.bind_some _ _).symm.trans H; with_reducible exact H2_) | with_reducible exact H | (rw [hy139]; exact H) | exact H
 have Ny139 := qS hy139
 clear hy139
 replace H := Option.bind_eq_some_iff.mp H
 obtain ⟨⟨t142, t143, t144, t145⟩, A10, H⟩ := H
 replace H : ((span_Mid.f (-3) 4).bind fun bt147 => ((span_Vote.f k ([] : List (S68))).bind fun bt150 => ((span_Meet.f 1 5 4 9).bind fun bt155 => (if t145.isNone = true then (if bt147.2.2.isNone = true then (if (t142 == 5 && (t143 == 5)) = true then (if t144 = 3 then (if bt147.1 = 0 then (if bt147.2.1 = 4 then ((fuseelaw13_num.f bt150.2.2.2).bind fun t161 => (if t161 = 6 then (if bt155.2.2 = true then (some (bt155.1 == 4 && (bt155.2.1 == 5))) else (none)) else (none))) else (none)) else (none)) else (none)) else (none)) else (none)) else (none))))) = some r := H
 have A1 := qS A10
 clear A10
 replace H := Option.bind_eq_some_iff.mp H
 obtain ⟨⟨t147, t148, t149⟩, A20, H⟩ := H
 replace H : ((span_Vote.f k ([] : List (S68))).bind fun bt150 => ((span_Meet.f 1 5 4 9).bind fun bt155 => (if t145.isNone = true then (if t149.isNone = true then (if (t142 == 5 && (t143 == 5)) = true then (if t144 = 3 then (if t147 = 0 then (if t148 = 4 then ((fuseelaw13_num.f bt150.2.2.2).bind fun t161 => (if t161 = 6 then (if bt155.2.2 = true then (some (bt155.1 == 4 && (bt155.2.1 == 5))) else (none)) else (none))) else (none)) else (none)) else (none)) else (none)) else (none)) else (none)))) = some r := H
 have A2 := qS A20
 clear A20
 replace H := Option.bind_eq_some_iff.mp H
 obtain ⟨⟨t150, t151, t152, t153⟩, A30, H⟩ := H
 replace H : ((span_Meet.f 1 5 4 9).bind fun bt155 => (if t145.isNone = true then (if t149.isNone = true then (if (t142 == 5 && (t143 == 5)) = true then (if t144 = 3 then (if t147 = 0 then (if t148 = 4 then ((fuseelaw13_num.f t153).bind fun t161 => (if t161 = 6 then (if bt155.2.2 = true then (some (bt155.1 == 4 && (bt155.2.1 == 5))) else (none)) else (none))) else (none)) else (none)) else (none)) else (none)) else (none)) else (none))) = some r := H
 have A3 := qS A30
 clear A30
 replace H := Option.bind_eq_some_iff.mp H
 obtain ⟨⟨t155, t156, t157⟩, A40, H⟩ := H
 replace H : (if t145.isNone = true then (if t149.isNone = true then (if (t142 == 5 && (t143 == 5)) = true then (if t144 = 3 then (if t147 = 0 then (if t148 = 4 then ((fuseelaw13_num.f t153).bind fun t161 => (if t161 = 6 then (if t157 = true then (some (t155 == 4 && (t156 == 5))) else (none)) else (none))) else (none)) else (none)) else (none)) else (none)) else (none)) else (none)) = some r := H
 have A4 := qS A40
 clear A40
 rcases t145 with _ | q159
 ·have H1 : (if t149.isNone = true then (if (t142 == 5 && (t143 == 5)) = true then (if t144 = 3 then (if t147 = 0 then (if t148 = 4 then ((fuseelaw13_num.f t153).bind fun t161 => (if t161 = 6 then (if t157 = true then (some (t155 == 4 && (t156 == 5))) else (none)) else (none))) else (none)) else (none)) else (none)) else (none)) else (none)) = some r := by rw [if_pos (show (none : Option Int).isNone = true by rfl)] at H; exact H
  clear H
  have H := H1
  clear H1
  try simp only [errW_none, errW_some]
  rcases t149 with _ | q160
  ·have H1 : (if (t142 == 5 && (t143 == 5)) = true then (if t144 = 3 then (if t147 = 0 then (if t148 = 4 then ((fuseelaw13_num.f t153).bind fun t161 => (if t161 = 6 then (if t157 = true then (some (t155 == 4 && (t156 == 5))) else (none)) else (none))) else (none)) else (none)) else (none)) else (none)) = some r := by rw [if_pos (show (none : Option Int).isNone = true by rfl)] at H; exact H
   clear H
   have H := H1
   clear H1
   try simp only [errW_none, errW_some]
   by_cases c5 : (t142 == 5 && (t143 == 5)) = true
   ·rw [if_pos c5] at H
    have c5b0 : (t142 == 5 && (t143 == 5)) = true := c5
    (try (have c5b1 : decide (t142 = 5 && (t143 == 5)) = true := by simpa using c5))
    (try (have c5b2 : (t142 == 5 && (t143 == 5)) = true := by simpa using c5))
    clear c5
    by_cases c6 : t144 = 3
    ·rw [if_pos c6] at H
     have c6b0 : (t144 == 3) = true := beq_iff_eq.mpr c6
     have c6b1 : (t144 != 3) = false := bne_eq_false_iff_eq.mpr c6
     clear c6
     by_cases c7 : t147 = 0
     ·rw [if_pos c7] at H
      have c7b0 : (t147 == 0) = true := beq_iff_eq.mpr c7
      have c7b1 : (t147 != 0) = false := bne_eq_false_iff_eq.mpr c7
      clear c7
      by_cases c8 : t148 = 4
      ·rw [if_pos c8] at H
       have c8b0 : (t148 == 4) = true := beq_iff_eq.mpr c8
       have c8b1 : (t148 != 4) = false := bne_eq_false_iff_eq.mpr c8
       clear c8
       replace H := Option.bind_eq_some_iff.mp H
       obtain ⟨t161, A90, H⟩ := H
       replace H : (if t161 = 6 then (if t157 = true then (some (t155 == 4 && (t156 == 5))) else (none)) else (none)) = some r := H
       have A9 := qS A90
       clear A90
       by_cases c10 : t161 = 6
       ·rw [if_pos c10] at H
        have c10b0 : (t161 == 6) = true := beq_iff_eq.mpr c10
        have c10b1 : (t161 != 6) = false := bne_eq_false_iff_eq.mpr c10
        clear c10
        by_cases c11 : t157 = true
        ·subst c11
         have H1 : (some (t155 == 4 && (t156 == 5))) = some r := by rw [if_pos rfl] at H; exact H
         clear H
         have H := H1
         clear H1
         obtain rfl := Option.some.inj H
         go_enter Tryd.func34, Tryd.ntmps34
         go_wp2_with (first | ((with_reducible refine gate_dst (N := 16) rfl ?_); refine Kd.R_lit k68 _ 68 ?hg (N := 16) ?hd (xs := ([(⟨1, 5⟩ : S68), (⟨4, 9⟩ : S68), (⟨5, 7⟩ : S68)] : List (S68))) (inner := [.int .i64 1, .int .i64 5, .int .i64 4, .int .i64 9, .int .i64 5, .int .i64 7]) (ok := fun _ => True) (okp := fun _ => True) ?hr ?hp (fun _ hk => hk) trivial (Below.refl _ _) (Nat.le_refl _) (by simp) ?_; (case hd => rfl); (case hg => rfl); (case hr => first | (go_simp; done) | (go_simp; rfl)); (case hp => exact (Reps.c2 (show Kd.M k68 _ _ _ (⟨1, 5⟩ : S68) [.int .i64 1, .int .i64 5] from (k68_mkM _ _ _ (⟨1, 5⟩ : S68) )) (Reps.c2 (show Kd.M k68 _ _ _ (⟨4, 9⟩ : S68) [.int .i64 4, .int .i64 9] from (k68_mkM _ _ _ (⟨4, 9⟩ : S68) )) (Reps.c2 (show Kd.M k68 _ _ _ (⟨5, 7⟩ : S68) [.int .i64 5, .int .i64 7] from (k68_mkM _ _ _ (⟨5, 7⟩ : S68) )) (Reps.none _ _))))); intro v140 w12 ho13 hb hg_ hnew_; clear hg_ hnew_; (first | rw [← Ny139.out] at ho13 | (simp only [Int.reduceToNat] at ho13; rw [← Ny139.out] at ho13)); have n0_ := qS (Kd.R_lower ho13 (below_size (by repeat (first | (with_reducible first | exact HB.out | apply qpA | apply qpN | apply qp1) | exact HB.out)))); have n1_ := qS (below_step (by repeat (first | (with_reducible first | exact HB.out | apply qpA | apply qpN | apply qp1) | exact HB.out)) hb); clear HB; have HO141 := n0_; have HB := n1_; clear n0_ n1_; clear hb ho13; obtain ⟨Ao14, co14, eo14⟩ := Kd.R_slice HO141.out; subst eo14) | ((with_reducible refine gate_callee (f := 35) rfl ?_); refine goesL_ (some 17) rfl rfl Tryd.func35 (by kernel_rfl) rfl #[.slice Ao14 y139.length co14] rfl (by (try simp only [List.map_toArray, List.map_cons, List.map_nil]); first | done | rfl | (simp only [*]; done) | (simp only [List.length_drop, List.length_take]; rfl)) ?_; (with_reducible refine (span_Vote.calls k _ _ y139 t142 t143 t144 none _ ?side1 ?side2 A1.out).mono ?_); (case side1 => repeat (first | exact (Kd.R_reads' HO141.out).2.2 | (with_reducible refine Kd.C_alloc ?_ _) | (with_reducible refine Kd.C_drewN ?_ _) | (with_reducible refine Kd.C_drew ?_))); (case side2 => exact (Kd.R_reads' HO141.out).2.1); rintro e w15 ⟨rfl, hb⟩; refine ⟨_, rfl, ?_⟩; have n0_ := qS (Kd.R_below (by (with_reducible repeat (first | apply Kd.R_alloc | apply Kd.R_drewN | apply Kd.R_drew)); exact HO141.out) hb); have n1_ := qS (below_step (by repeat (first | (with_reducible first | exact HB.out | apply qpA | apply qpN | apply qp1) | exact HB.out)) hb); clear HO141; clear HB; have HO141 := n0_; have HB := n1_; clear n0_ n1_; (try clear hb); (try clear hb2); (try clear hk); (try clear hi); (try simp only [errW_none, errW_some])) | ((with_reducible refine gate_dst (N := 1) rfl ?_); refine box_event ?hg (N := 1) ?hd (cs := #[.int .i64 0, .int .i64 0]) (t := 68) ?hr ?_; (case hd => rfl); (case hg => rfl); (case hr => first | (go_simp; done) | (go_simp; rfl)); intro gb146 hg w16 hbox hb; have n0_ := qS (Kd.R_below (Kd.R_elderB (by (with_reducible repeat (first | apply Kd.R_alloc | apply Kd.R_drewN | apply Kd.R_drew)); exact HO141.out) gb146 (Nat.le_of_eq hg.symm)) hb); have n1_ := qS (below_step (by repeat (first | (with_reducible first | exact HB.out | apply qpA | apply qpN | apply qp1) | exact HB.out)) hb); have n2_ := qS (hbox); have n3_ := qS ((by rw [hg]; exact (below_size (by repeat (first | (with_reducible first | exact HB.out | apply qpA | apply qpN | apply qp1) | exact HB.out))) : w.heap.size ≤ gb146)); have n4_ := qS ((by rw [hg]; exact (below_size (by repeat (first | (with_reducible first | exact HB.out | apply qpA | apply qpN | apply qp1) | exact HB.out))) : w.heap.size ≤ gb146)); clear HO141; clear HB; have HO141 := n0_; have HB := n1_; have BK146 := n2_; have GW146 := n3_; have GE146 := n4_; clear n0_ n1_ n2_ n3_ n4_; clear hb hbox hg; have hcz17_0 : w16.cell? ⟨gb146, 0, none⟩ = some (.int .i64 0) := (qC BK146.out 0).trans rfl; have hcz17_1 : w16.cell? ⟨gb146, 1, none⟩ = some (.int .i64 0) := (qC BK146.out 1).trans rfl; have hfz17_0 := qF BK146.out 0; have hfz17_1 := qF BK146.out 1) | ((with_reducible refine gate_callee (f := 52) rfl ?_); refine goesL_ (some 23) rfl rfl Tryd.func52 (by kernel_rfl) rfl #[.agg #[.int .i64 (-3), .int .i64 4]] rfl (by (try simp only [List.map_toArray, List.map_cons, List.map_nil]); first | done | rfl | (simp only [*]; done) | (simp only [List.length_drop, List.length_take]; rfl)) ?_; (with_reducible refine (span_Mid.calls (-3) 4 t147 t148 none _ A2.out).mono ?_); rintro e w18 ⟨rfl, hb⟩; refine ⟨_, rfl, ?_⟩; have n0_ := qS (Kd.R_below (by (with_reducible repeat (first | apply Kd.R_alloc | apply Kd.R_drewN | apply Kd.R_drew)); exact (Kd.R_mono (Kd.R_far (p := ⟨gb146, 1, none⟩) (Kd.R_far (p := ⟨gb146, 0, none⟩) (Kd.R_mono HO141.out (fun k_ hk => (⟨hk, hk.2⟩ : _ ∧ k_ ≠ gb146))) (fun _ hk => hk.2) (.int .i64 t142)) (fun _ hk => hk.2) (.int .i64 t143)) (fun _ h_ => h_.1))) hb); have n1_ := qS (qB (g := gb146) (o := .cells #[.int .i64 t142, .int .i64 t143] 68 (0, 0)) (by (with_reducible repeat (first | refine qN ?_ _ | refine qD ?_ | refine qA ?_ _)); refine blk_put (cs := #[.int .i64 t142, .int .i64 0]) ?_ 1 _ rfl; (with_reducible repeat (first | refine qN ?_ _ | refine qD ?_ | refine qA ?_ _)); refine blk_put (cs := #[.int .i64 0, .int .i64 0]) ?_ 0 _ rfl; (with_reducible repeat (first | refine qN ?_ _ | refine qD ?_ | refine qA ?_ _)); exact BK146.out) hb); have n2_ := qS (below_step (by repeat (first | (with_reducible first | exact HB.out | apply qpA | apply qpN | apply qp1 | refine qpS ?_ GE146.out) | exact HB.out)) hb); clear HO141; clear BK146; clear HB; have HO141 := n0_; have BK146 := n1_; have HB := n2_; clear n0_ n1_ n2_; (try clear hb); (try clear hb2); (try clear hk); (try clear hi); (try simp only [errW_none, errW_some])) | ((with_reducible refine gate_callee (f := 35) rfl ?_); refine goesL_ (some 28) rfl rfl Tryd.func35 (by kernel_rfl) rfl #[.slice none 0 0] rfl (by (try simp only [List.map_toArray, List.map_cons, List.map_nil]); first | done | rfl | (simp only [*]; done) | (simp only [List.length_drop, List.length_take]; rfl)) ?_; (refine (span_Vote.calls k _ _ ([] : List (S68)) t150 t151 t152 t153 _ ?side1 ?side2 A3.out).mono ?_); (case side1 => exact Kd.C_nil _ _); (case side2 => exact Nat.le_refl _); rintro e w19 ⟨rfl, hb⟩; refine ⟨_, rfl, ?_⟩; have n0_ := qS (Kd.R_below (by (with_reducible repeat (first | apply Kd.R_alloc | apply Kd.R_drewN | apply Kd.R_drew)); exact HO141.out) hb); have n1_ := qS (qB (g := gb146) (o := .cells #[.int .i64 t142, .int .i64 t143] 68 (0, 0)) (by (with_reducible repeat (first | refine qN ?_ _ | refine qD ?_ | refine qA ?_ _)); exact BK146.out) hb); have n2_ := qS (below_step (by repeat (first | (with_reducible first | exact HB.out | apply qpA | apply qpN | apply qp1 | refine qpS ?_ GE146.out) | exact HB.out)) hb); clear HO141; clear BK146; clear HB; have HO141 := n0_; have BK146 := n1_; have HB := n2_; clear n0_ n1_ n2_; (try clear hb); (try clear hb2); (try clear hk); (try clear hi); (try simp only [errW_none, errW_some])) | ((with_reducible refine gate_dst (N := 7) rfl ?_); refine box_event ?hg (N := 7) ?hd (cs := #[.int .i64 0, .int .i64 0]) (t := 68) ?hr ?_; (case hd => rfl); (case hg => rfl); (case hr => first | (go_simp; done) | (go_simp; rfl)); intro gb154 hg w20 hbox hb; have n0_ := qS (Kd.R_below (Kd.R_elderB (by (with_reducible repeat (first | apply Kd.R_alloc | apply Kd.R_drewN | apply Kd.R_drew)); exact HO141.out) gb154 (Nat.le_of_eq hg.symm)) hb); have n1_ := qS (qB (g := gb146) (o := .cells #[.int .i64 t142, .int .i64 t143] 68 (0, 0)) (by (with_reducible repeat (first | refine qN ?_ _ | refine qD ?_ | refine qA ?_ _)); exact BK146.out) hb); have n2_ := qS (below_step (by repeat (first | (with_reducible first | exact HB.out | apply qpA | apply qpN | apply qp1 | refine qpS ?_ GE146.out) | exact HB.out)) hb); have n3_ := qS (hbox); have n4_ := qS ((by rw [hg]; exact (below_size (by repeat (first | (with_reducible first | exact HB.out | apply qpA | apply qpN | apply qp1 | refine qpS ?_ GE146.out) | exact HB.out))) : w.heap.size ≤ gb154)); have n5_ := qS ((by rw [hg]; exact (below_size (by repeat (first | (with_reducible first | exact HB.out | apply qpA | apply qpN | apply qp1 | refine qpS ?_ GE146.out) | exact HB.out))) : w.heap.size ≤ gb154)); have n6_ := qS ((by rw [hg]; exact Nat.ne_of_lt (blk_lt (g := gb146) (o := .cells #[.int .i64 t142, .int .i64 t143] 68 (0, 0)) (by (with_reducible repeat (first | refine qN ?_ _ | refine qD ?_ | refine qA ?_ _)); exact BK146.out)) : gb146 ≠ gb154)); have n7_ := qS ((by rw [hg]; exact Nat.ne_of_gt (blk_lt (g := gb146) (o := .cells #[.int .i64 t142, .int .i64 t143] 68 (0, 0)) (by (with_reducible repeat (first | refine qN ?_ _ | refine qD ?_ | refine qA ?_ _)); exact BK146.out)) : gb154 ≠ gb146)); clear HO141; clear BK146; clear HB; have HO141 := n0_; have BK146 := n1_; have HB := n2_; have BK154 := n3_; have GW154 := n4_; have GE154 := n5_; have NB146_154 := n6_; have NB154_146 := n7_; clear n0_ n1_ n2_ n3_ n4_ n5_ n6_ n7_; clear hb hbox hg; have hnb21 := NB154_146.out; have hnc21 := NB146_154.out; have hcz22_0 : w20.cell? ⟨gb154, 0, none⟩ = some (.int .i64 0) := (qC BK154.out 0).trans rfl; have hcz22_1 : w20.cell? ⟨gb154, 1, none⟩ = some (.int .i64 0) := (qC BK154.out 1).trans rfl; have hfz22_0 := qF BK154.out 0; have hfz22_1 := qF BK154.out 1) | ((with_reducible refine gate_callee (f := 50) rfl ?_); refine goesL_ (some 35) rfl rfl Tryd.func50 (by kernel_rfl) rfl #[.agg #[.int .i64 1, .int .i64 5], .agg #[.int .i64 4, .int .i64 9]] rfl (by (try simp only [List.map_toArray, List.map_cons, List.map_nil]); first | done | rfl | (simp only [*]; done) | (simp only [List.length_drop, List.length_take]; rfl)) ?_; (with_reducible refine (span_Meet.calls 1 5 4 9 t155 t156 true _ A4.out).mono ?_); rintro e w23 ⟨rfl, hb⟩; refine ⟨_, rfl, ?_⟩; have n0_ := qS (Kd.R_below (by (with_reducible repeat (first | apply Kd.R_alloc | apply Kd.R_drewN | apply Kd.R_drew)); exact (Kd.R_mono (Kd.R_far (p := ⟨gb154, 1, none⟩) (Kd.R_far (p := ⟨gb154, 0, none⟩) (Kd.R_mono HO141.out (fun k_ hk => (⟨hk, hk.2⟩ : _ ∧ k_ ≠ gb154))) (fun _ hk => hk.2) (.int .i64 t150)) (fun _ hk => hk.2) (.int .i64 t151)) (fun _ h_ => h_.1))) hb); have n1_ := qS (qB (g := gb146) (o := .cells #[.int .i64 t142, .int .i64 t143] 68 (0, 0)) (by (with_reducible repeat (first | refine qN ?_ _ | refine qD ?_ | refine qA ?_ _)); refine blk_far ?_ NB146_154.out _; (with_reducible repeat (first | refine qN ?_ _ | refine qD ?_ | refine qA ?_ _)); refine blk_far ?_ NB146_154.out _; (with_reducible repeat (first | refine qN ?_ _ | refine qD ?_ | refine qA ?_ _)); exact BK146.out) hb); have n2_ := qS (qB (g := gb154) (o := .cells #[.int .i64 t150, .int .i64 t151] 68 (0, 0)) (by (with_reducible repeat (first | refine qN ?_ _ | refine qD ?_ | refine qA ?_ _)); refine blk_put (cs := #[.int .i64 t150, .int .i64 0]) ?_ 1 _ rfl; (with_reducible repeat (first | refine qN ?_ _ | refine qD ?_ | refine qA ?_ _)); refine blk_put (cs := #[.int .i64 0, .int .i64 0]) ?_ 0 _ rfl; (with_reducible repeat (first | refine qN ?_ _ | refine qD ?_ | refine qA ?_ _)); exact BK154.out) hb); have n3_ := qS (below_step (by repeat (first | (with_reducible first | exact HB.out | apply qpA | apply qpN | apply qp1 | refine qpS ?_ GE146.out | refine qpS ?_ GE154.out) | exact HB.out)) hb); clear HO141; clear BK146; clear BK154; clear HB; have HO141 := n0_; have BK146 := n1_; have BK154 := n2_; have HB := n3_; clear n0_ n1_ n2_ n3_; (try clear hb); (try clear hb2); (try clear hk); (try clear hi)) | ((with_reducible refine gate_dst (N := 10) rfl ?_); refine box_event ?hg (N := 10) ?hd (cs := #[.int .i64 0, .int .i64 0]) (t := 68) ?hr ?_; (case hd => rfl); (case hg => rfl); (case hr => first | (go_simp; done) | (go_simp; rfl)); intro gb158 hg w24 hbox hb; have n0_ := qS (Kd.R_below (Kd.R_elderB (by (with_reducible repeat (first | apply Kd.R_alloc | apply Kd.R_drewN | apply Kd.R_drew)); exact HO141.out) gb158 (Nat.le_of_eq hg.symm)) hb); have n1_ := qS (qB (g := gb146) (o := .cells #[.int .i64 t142, .int .i64 t143] 68 (0, 0)) (by (with_reducible repeat (first | refine qN ?_ _ | refine qD ?_ | refine qA ?_ _)); exact BK146.out) hb); have n2_ := qS (qB (g := gb154) (o := .cells #[.int .i64 t150, .int .i64 t151] 68 (0, 0)) (by (with_reducible repeat (first | refine qN ?_ _ | refine qD ?_ | refine qA ?_ _)); exact BK154.out) hb); have n3_ := qS (below_step (by repeat (first | (with_reducible first | exact HB.out | apply qpA | apply qpN | apply qp1 | refine qpS ?_ GE146.out | refine qpS ?_ GE154.out) | exact HB.out)) hb); have n4_ := qS (hbox); have n5_ := qS ((by rw [hg]; exact (below_size (by repeat (first | (with_reducible first | exact HB.out | apply qpA | apply qpN | apply qp1 | refine qpS ?_ GE146.out | refine qpS ?_ GE154.out) | exact HB.out))) : w.heap.size ≤ gb158)); have n6_ := qS ((by rw [hg]; exact (below_size (by repeat (first | (with_reducible first | exact HB.out | apply qpA | apply qpN | apply qp1 | refine qpS ?_ GE146.out | refine qpS ?_ GE154.out) | exact HB.out))) : w.heap.size ≤ gb158)); have n7_ := qS ((by rw [hg]; exact Nat.ne_of_lt (blk_lt (g := gb146) (o := .cells #[.int .i64 t142, .int .i64 t143] 68 (0, 0)) (by (with_reducible repeat (first | refine qN ?_ _ | refine qD ?_ | refine qA ?_ _)); exact BK146.out)) : gb146 ≠ gb158)); have n8_ := qS ((by rw [hg]; exact Nat.ne_of_gt (blk_lt (g := gb146) (o := .cells #[.int .i64 t142, .int .i64 t143] 68 (0, 0)) (by (with_reducible repeat (first | refine qN ?_ _ | refine qD ?_ | refine qA ?_ _)); exact BK146.out)) : gb158 ≠ gb146)); have n9_ := qS ((by rw [hg]; exact Nat.ne_of_lt (blk_lt (g := gb154) (o := .cells #[.int .i64 t150, .int .i64 t151] 68 (0, 0)) (by (with_reducible repeat (first | refine qN ?_ _ | refine qD ?_ | refine qA ?_ _)); exact BK154.out)) : gb154 ≠ gb158)); have n10_ := qS ((by rw [hg]; exact Nat.ne_of_gt (blk_lt (g := gb154) (o := .cells #[.int .i64 t150, .int .i64 t151] 68 (0, 0)) (by (with_reducible repeat (first | refine qN ?_ _ | refine qD ?_ | refine qA ?_ _)); exact BK154.out)) : gb158 ≠ gb154)); clear HO141; clear BK146; clear BK154; clear HB; have HO141 := n0_; have BK146 := n1_; have BK154 := n2_; have HB := n3_; have BK158 := n4_; have GW158 := n5_; have GE158 := n6_; have NB146_158 := n7_; have NB158_146 := n8_; have NB154_158 := n9_; have NB158_154 := n10_; clear n0_ n1_ n2_ n3_ n4_ n5_ n6_ n7_ n8_ n9_ n10_; clear hb hbox hg; have hnb25 := NB158_146.out; have hnc25 := NB146_158.out; have hnb26 := NB158_154.out; have hnc26 := NB154_158.out; have hcz27_0 : w24.cell? ⟨gb158, 0, none⟩ = some (.int .i64 0) := (qC BK158.out 0).trans rfl; have hcz27_1 : w24.cell? ⟨gb158, 1, none⟩ = some (.int .i64 0) := (qC BK158.out 1).trans rfl; have hfz27_0 := qF BK158.out 0; have hfz27_1 := qF BK158.out 1; have hcz28_0 : w24.cell? ⟨gb146, 0, none⟩ = some (.int .i64 t142) := (qC BK146.out 0).trans rfl; have hcz28_1 : w24.cell? ⟨gb146, 1, none⟩ = some (.int .i64 t143) := (qC BK146.out 1).trans rfl; have hfz28_0 := qF BK146.out 0; have hfz28_1 := qF BK146.out 1; have CA9 := fun W (hgW : HG W) => fuseelaw13_num.calls t153 t161 W hgW A9.out; try simp only [errW_none, errW_some] at CA9) | (go_at_call 38; (with_reducible refine (CA9 _ (HG.below hgL (Nat.le_refl _) (by repeat (first | (with_reducible first | exact HB.out | apply qpA | apply qpN | apply qp1 | refine qpS ?_ GE146.out | refine qpS ?_ GE154.out | refine qpS ?_ GE158.out) | exact HB.out)))).mono ?_); rintro e w29 ⟨rfl, hb⟩; have n0_ := qS (Kd.R_below (by (with_reducible repeat (first | apply Kd.R_alloc | apply Kd.R_drewN | apply Kd.R_drew)); exact (Kd.R_mono (Kd.R_far (p := ⟨gb158, 1, none⟩) (Kd.R_far (p := ⟨gb158, 0, none⟩) (Kd.R_mono HO141.out (fun k_ hk => (⟨hk, hk.2⟩ : _ ∧ k_ ≠ gb158))) (fun _ hk => hk.2) (.int .i64 t155)) (fun _ hk => hk.2) (.int .i64 t156)) (fun _ h_ => h_.1))) hb); have n1_ := qS (qB (g := gb146) (o := .cells #[.int .i64 t142, .int .i64 t143] 68 (0, 0)) (by (with_reducible repeat (first | refine qN ?_ _ | refine qD ?_ | refine qA ?_ _)); refine blk_far ?_ NB146_158.out _; (with_reducible repeat (first | refine qN ?_ _ | refine qD ?_ | refine qA ?_ _)); refine blk_far ?_ NB146_158.out _; (with_reducible repeat (first | refine qN ?_ _ | refine qD ?_ | refine qA ?_ _)); exact BK146.out) hb); have n2_ := qS (qB (g := gb154) (o := .cells #[.int .i64 t150, .int .i64 t151] 68 (0, 0)) (by (with_reducible repeat (first | refine qN ?_ _ | refine qD ?_ | refine qA ?_ _)); refine blk_far ?_ NB154_158.out _; (with_reducible repeat (first | refine qN ?_ _ | refine qD ?_ | refine qA ?_ _)); refine blk_far ?_ NB154_158.out _; (with_reducible repeat (first | refine qN ?_ _ | refine qD ?_ | refine qA ?_ _)); exact BK154.out) hb); have n3_ := qS (qB (g := gb158) (o := .cells #[.int .i64 t155, .int .i64 t156] 68 (0, 0)) (by (with_reducible repeat (first | refine qN ?_ _ | refine qD ?_ | refine qA ?_ _)); refine blk_put (cs := #[.int .i64 t155, .int .i64 0]) ?_ 1 _ rfl; (with_reducible repeat (first | refine qN ?_ _ | refine qD ?_ | refine qA ?_ _)); refine blk_put (cs := #[.int .i64 0, .int .i64 0]) ?_ 0 _ rfl; (with_reducible repeat (first | refine qN ?_ _ | refine qD ?_ | refine qA ?_ _)); exact BK158.out) hb); have n4_ := qS (below_step (by repeat (first | (with_reducible first | exact HB.out | apply qpA | apply qpN | apply qp1 | refine qpS ?_ GE146.out | refine qpS ?_ GE154.out | refine qpS ?_ GE158.out) | exact HB.out)) hb); clear HO141; clear BK146; clear BK154; clear BK158; clear HB; have HO141 := n0_; have BK146 := n1_; have BK154 := n2_; have BK158 := n3_; have HB := n4_; clear n0_ n1_ n2_ n3_ n4_; (try clear hb); (try clear hb2); (try clear hk); (try clear hi); have hcz30_0 : w29.cell? ⟨gb158, 0, none⟩ = some (.int .i64 t155) := (qC BK158.out 0).trans rfl; have hcz30_1 : w29.cell? ⟨gb158, 1, none⟩ = some (.int .i64 t156) := (qC BK158.out 1).trans rfl; have hfz30_0 := qF BK158.out 0; have hfz30_1 := qF BK158.out 1))
         go_ret
         exact ⟨by first | rfl | (simp [errW_none, errW_some] <;> rfl) | (simp [*, errW_none, errW_some] <;> rfl), by repeat (first | (with_reducible first | exact HB.out | apply qpA | apply qpN | apply qp1 | refine qpS ?_ GE146.out | refine qpS ?_ GE154.out | refine qpS ?_ GE158.out) | exact HB.out)⟩
        ·replace c11 := Bool.eq_false_iff.mpr c11
         subst c11
         have H1 : (none) = some r := by rw [if_neg (show ¬ (false = true) by decide)] at H; exact H
         clear H
         have H := H1
         clear H1
         exact absurd H (by simp)
       ·rw [if_neg c10] at H
        exact absurd H (by simp)
      ·rw [if_neg c8] at H
       exact absurd H (by simp)
     ·rw [if_neg c7] at H
      exact absurd H (by simp)
    ·rw [if_neg c6] at H
     exact absurd H (by simp)
   ·rw [if_neg c5] at H
    exact absurd H (by simp)
  ·have H1 : (none) = some r := by rw [if_neg (show ¬ (some q160).isNone = true by simp)] at H; exact H
   clear H
   have H := H1
   clear H1
   try simp only [errW_none, errW_some]
   exact absurd H (by simp)
 ·have H1 : (none) = some r := by rw [if_neg (show ¬ (some q159).isNone = true by simp)] at H; exact H
  clear H
  have H := H1
  clear H1
  try simp only [errW_none, errW_some]
  exact absurd H (by simp)

/-! ### fuseelaw13_give: function 36 -/
def fuseelaw13_give.l0 : Nat → List (S73) → List (S68) → Int → Option ((List (S68)))
 | 0, _, _, _ => none
 | k + 1, x0, x3, x4 => if x4 < (x0.length : Int) then (if 0 ≤ x4 then (if x3.length < 8796093022208 then (fuseelaw13_give.l0 k x0 (x3 ++ [(⟨(rd_T73 x0 x4).f0, (rd_T73 x0 x4).f1⟩ : S68)]) (wrap64 (x4 + 1))) else (none)) else (none)) else (some x3)
def fuseelaw13_give.f (k : Nat) (l0 : List (S73)) : Option ((List (S68))) := fuseelaw13_give.l0 k l0 ([] : List (S68)) 0
theorem fuseelaw13_give.mono_l : ∀ k, (∀ y0 y1 y2, LeO (fuseelaw13_give.l0 k y0 y1 y2) (fuseelaw13_give.l0 (k + 1) y0 y1 y2))
 | 0 => fun _ _ _ r h => by simp [fuseelaw13_give.l0] at h
 | k + 1 => by
  have ih0 := fuseelaw13_give.mono_l k
  ·intro y0 y1 y2
   unfold fuseelaw13_give.l0
   repeat' first
   | (with_reducible exact ih0 _ _ _)
   | (with_reducible exact LeO.refl _)
   | (with_reducible exact LeO.none _)
   | (with_reducible refine LeO.ite ?_ ?_)
   | (with_reducible refine LeO.bind ?_ (fun _ => ?_))
   | exact ih0 _ _ _
   | exact LeO.none _
   | refine LeO.ite ?_ ?_
   | refine LeO.bind ?_ (fun _ => ?_)
theorem fuseelaw13_give.mono : ∀ a0 k, LeO (fuseelaw13_give.f k a0) (fuseelaw13_give.f (k + 1) a0) := by
 intro a0 k
 have ih0 := fuseelaw13_give.mono_l k
 unfold fuseelaw13_give.f
 repeat' first
   | (with_reducible exact ih0 _ _ _)
   | (with_reducible exact LeO.refl _)
   | (with_reducible exact LeO.none _)
   | (with_reducible refine LeO.ite ?_ ?_)
   | (with_reducible refine LeO.bind ?_ (fun _ => ?_))
   | exact ih0 _ _ _
   | exact LeO.none _
   | refine LeO.ite ?_ ?_
   | refine LeO.bind ?_ (fun _ => ?_)
set_option maxHeartbeats 8000000 in
set_option maxRecDepth 100000 in
theorem fuseelaw13_give.calls (k : Nat) (A0 : Option Addr) (c0 : Nat) (l0 : List (S73)) (r : List (S68)) (w : World) (hr0 : Kd.C k73 w A0 l0.length l0) (hc0 : l0.length ≤ c0) (h : fuseelaw13_give.f k l0 = some r) :
  Calls Tryd.prog 36 #[.slice A0 l0.length c0] w fun e w' => ∃ v0_ : Value, e = .returned (v0_) ∧ Kd.R k68 68 w' w.heap.size (fun _ => True) v0_ r ∧ Below w.heap.size w w' := by
 have hu73 := Tryd.underlying73
 have HR0 := qS hr0
 have HC0 := qS hc0
 clear hr0 hc0
 have HB := qS (Below.refl w.heap.size w)
 have H : (fuseelaw13_give.l0 k l0 ([] : List (S68)) 0) = some r := h
 clear h
 have H' := qS H
 clear H
 go_enter Tryd.func36, Tryd.ntmps36
 go_wp2
 go_loopg [3, 4] k (fun kq v3 v4 w' => ∃ (x3_1 : List (S68)) (x4_1 : Int), v4 = .int .i64 x4_1 ∧ Aside0 (fuseelaw13_give.l0 kq l0 x3_1 x4_1 = some r) ∧ Aside0 (kq ≤ k) ∧ Aside0 (Kd.R k68 68 w' w.heap.size (fun _ => True) v3 x3_1) ∧ Aside0 (Below w.heap.size w w'))
 case atStart => exact ⟨(([] : List (S68))), (0), (by first | rfl | (simp; done) | (simp [*]; done)), H', ⟨Nat.le_refl _⟩, ⟨by first | exact Kd.R_nil _ _ _ _ _ | exact Kd.N_nil _ _ _ _ _ | exact Kd.V_nil _ _ _ _ _ | exact Kd.Q_nil _ _ _ _ _ | exact Kd.S_nil _ _ _ _ _⟩, ⟨by repeat (first | (with_reducible first | exact HB.out | apply qpA | apply qpN | apply qp1) | exact HB.out)⟩⟩
 case round =>
  clear H'
  obtain ⟨x3_1, x4_1, rfl, HA, HK1, HO_3, HB⟩ := hrel
  cases gk with
  | zero => exact absurd HA.out (by simp [fuseelaw13_give.l0])
  | succ k1 =>
   have H := HA.out
   clear HA
   simp only [fuseelaw13_give.l0] at H
   by_cases c2 : x4_1 < (l0.length : Int)
   ·rw [if_pos c2] at H
    have c2b0 : decide (x4_1 < (l0.length : Int)) = true := decide_eq_true c2
    clear c2
    by_cases c3 : 0 ≤ x4_1
    ·rw [if_pos c3] at H
     have c3b0 : decide (0 ≤ x4_1) = true := decide_eq_true c3
     clear c3
     by_cases c4 : x3_1.length < 8796093022208
     ·rw [if_pos c4] at H
      have LMc4 := qS c4
      clear c4
      obtain ⟨y163, hy163⟩ : ∃ y_ : List (S68), y_ = (x3_1 ++ [(⟨(rd_T73 l0 x4_1).f0, (rd_T73 l0 x4_1).f1⟩ : S68)]) := ⟨_, rfl⟩
      replace H : (fuseelaw13_give.l0 k1 l0 y163 (wrap64 (x4_1 + 1))) = some r := by first | (rw [hy163]; with_reducible exact H) | (have H2_ := (Option.bind_some _ _).symm.trans H; rw [hy163]; with_reducible exact H2_) | (have H2_ := (Option.bind_some _ _).symm.trans H; with_reducible exact H2_) | with_reducible exact H | (rw [hy163]; exact H) | exact H
      have Ny163 := qS hy163
      clear hy163
      as_aux_lemma =>
       have H' := qS H
       clear H
       have p162 : 0 ≤ (x4_1 : Int) := of_decide_eq_true (by first | (with_reducible assumption) | assumption)
       have q162 : x4_1 < (l0.length : Int) := of_decide_eq_true (by first | (with_reducible assumption) | assumption)
       obtain ⟨ad162, e162, hx162_0, hx162_1⟩ := at_T73 HR0.out x4_1 p162 q162
       cases e162
       replace hx162_0 := (HB.out.cell (World.block_lt_of_cell? w _ hx162_0)).trans hx162_0
       replace hx162_1 := (HB.out.cell (World.block_lt_of_cell? w _ hx162_1)).trans hx162_1
       replace p162 := eq_true p162
       replace q162 := eq_true q162
       go_wp2_with (first | ((with_reducible refine gate_builtin (b := .append) (xs := #[.tmp 11, .tmp 16]) rfl ?_); at_builtin; refine Kd.R_append k68 (w0 := w) w.heap.size rfl (.tmp 11) (.tmp 16) 71 68 (.agg #[(.int .i64 0), (.int .i64 0)]) 16 rfl Tryd.underlying71 info68 rfl (by decide) (by omega) u3 x3_1 (⟨(rd_T73 l0 x4_1).f0, (rd_T73 l0 x4_1).f1⟩ : S68) [.int .i64 ((rd_T73 l0 x4_1).f0), .int .i64 ((rd_T73 l0 x4_1).f1)] (fun _ => True) (fun _ => False) rfl rfl ?aP (fun _ hk => hk.elim) ?aF ?aO ?aB ?aS ?aL ?_; (case aP => exact k68_mkM _ _ _ (⟨(rd_T73 l0 x4_1).f0, (rd_T73 l0 x4_1).f1⟩ : S68)); (case aB => exact (by repeat (first | (with_reducible first | exact HB.out | apply qpA | apply qpN | apply qp1) | exact HB.out))); (case aF => exact (fun _ _ => trivial)); (case aO => exact (by (with_reducible repeat (first | apply Kd.R_alloc | apply Kd.R_drewN | apply Kd.R_drew)); exact HO_3.out)); (case aS => exact (below_size (by repeat (first | (with_reducible first | exact HB.out | apply qpA | apply qpN | apply qp1) | exact HB.out)))); (case aL => have := LMc4.out; omega); intro v164 w5 ho hb hg hat; rw [← Ny163.out] at ho; have n0_ := qS (hb); have n1_ := qS (ho); clear HB; clear HO_3; have HB := n0_; have HO165 := n1_; clear n0_ n1_; clear ho hb hg hat))
       go_roundg k1
       case measure => have := HK1.out; omega
       case rel => exact ⟨(y163), (wrap64 (x4_1 + 1)), (by first | rfl | (simp; done) | (simp [*]; done)), H', ⟨by have := HK1.out; omega⟩, ⟨by (with_reducible repeat (first | apply Kd.R_alloc | apply Kd.R_drewN | apply Kd.R_drew)); exact HO165.out⟩, ⟨by repeat (first | (with_reducible first | exact HB.out | apply qpA | apply qpN | apply qp1) | exact HB.out)⟩⟩
     ·rw [if_neg c4] at H
      exact absurd H (by simp)
    ·rw [if_neg c3] at H
     exact absurd H (by simp)
   ·rw [if_neg c2] at H
    have c2b0 : decide (x4_1 < (l0.length : Int)) = false := decide_eq_false c2
    clear c2
    as_aux_lemma =>
     obtain rfl := Option.some.inj H
     go_wp2
     go_ret
     exact ⟨_, by first | rfl | (simp [errW_none, errW_some] <;> rfl) | (simp [*, errW_none, errW_some] <;> rfl), by (with_reducible repeat (first | apply Kd.R_alloc | apply Kd.R_drewN | apply Kd.R_drew)); exact HO_3.out, by repeat (first | (with_reducible first | exact HB.out | apply qpA | apply qpN | apply qp1) | exact HB.out)⟩

/-! ### fuseeref13_Of: function 72 -/
def fuseeref13_Of.l0 : Nat → List (S73) → Int → Int → Int → Option (Int)
 | 0, _, _, _, _ => none
 | k + 1, x0, x1, x5, x6 => if x6 < (x0.length : Int) then (if 0 ≤ x6 then (if ((rd_T73 x0 x6).f0) ≤ x1 then (if x1 ≤ ((rd_T73 x0 x6).f1) then (fuseeref13_Of.l0 k x0 x1 (wrap64 (x5 + 1)) (wrap64 (x6 + 1))) else (fuseeref13_Of.l0 k x0 x1 x5 (wrap64 (x6 + 1)))) else (fuseeref13_Of.l0 k x0 x1 x5 (wrap64 (x6 + 1)))) else (none)) else (some x5)
def fuseeref13_Of.f (k : Nat) (l0 : List (S73)) (a1 : Int) : Option (Int) := fuseeref13_Of.l0 k l0 a1 0 0
theorem fuseeref13_Of.mono_l : ∀ k, (∀ y0 y1 y2 y3, LeO (fuseeref13_Of.l0 k y0 y1 y2 y3) (fuseeref13_Of.l0 (k + 1) y0 y1 y2 y3))
 | 0 => fun _ _ _ _ r h => by simp [fuseeref13_Of.l0] at h
 | k + 1 => by
  have ih0 := fuseeref13_Of.mono_l k
  ·intro y0 y1 y2 y3
   unfold fuseeref13_Of.l0
   repeat' first
   | (with_reducible exact ih0 _ _ _ _)
   | (with_reducible exact LeO.refl _)
   | (with_reducible exact LeO.none _)
   | (with_reducible refine LeO.ite ?_ ?_)
   | (with_reducible refine LeO.bind ?_ (fun _ => ?_))
   | exact ih0 _ _ _ _
   | exact LeO.none _
   | refine LeO.ite ?_ ?_
   | refine LeO.bind ?_ (fun _ => ?_)
theorem fuseeref13_Of.mono : ∀ a0 a1 k, LeO (fuseeref13_Of.f k a0 a1) (fuseeref13_Of.f (k + 1) a0 a1) := by
 intro a0 a1 k
 have ih0 := fuseeref13_Of.mono_l k
 unfold fuseeref13_Of.f
 repeat' first
   | (with_reducible exact ih0 _ _ _ _)
   | (with_reducible exact LeO.refl _)
   | (with_reducible exact LeO.none _)
   | (with_reducible refine LeO.ite ?_ ?_)
   | (with_reducible refine LeO.bind ?_ (fun _ => ?_))
   | exact ih0 _ _ _ _
   | exact LeO.none _
   | refine LeO.ite ?_ ?_
   | refine LeO.bind ?_ (fun _ => ?_)
set_option maxHeartbeats 8000000 in
set_option maxRecDepth 100000 in
theorem fuseeref13_Of.calls (k : Nat) (A0 : Option Addr) (c0 : Nat) (l0 : List (S73)) (a1 : Int) (r : Int) (w : World) (hr0 : Kd.C k73 w A0 l0.length l0) (hc0 : l0.length ≤ c0) (h : fuseeref13_Of.f k l0 a1 = some r) :
  Calls Tryd.prog 72 #[.slice A0 l0.length c0, .int .i64 a1] w fun e w' => e = .returned (.int .i64 r) ∧ Drawn0 w w' := by
 have HR0 := qS hr0
 have HC0 := qS hc0
 clear hr0 hc0
 have H : (fuseeref13_Of.l0 k l0 a1 0 0) = some r := h
 clear h
 have H' := qS H
 clear H
 go_enter Tryd.func72, Tryd.ntmps72
 go_wp2
 go_loopg [5, 6] k (fun kq v5 v6 w' => ∃ (x5_1 : Int) (x6_1 : Int), v5 = .int .i64 x5_1 ∧ v6 = .int .i64 x6_1 ∧ Aside0 (fuseeref13_Of.l0 kq l0 a1 x5_1 x6_1 = some r) ∧ Aside0 (kq ≤ k) ∧ Drawn0 w w')
 case atStart => exact ⟨(0), (0), (by first | rfl | (simp; done) | (simp [*]; done)), (by first | rfl | (simp; done) | (simp [*]; done)), H', ⟨Nat.le_refl _⟩, by repeat (first | exact Drawn0.refl _ | apply Drawn0.step)⟩
 case round =>
  clear H'
  try clear p2
  obtain ⟨x5_1, x6_1, rfl, rfl, HA, HK1, ⟨m1, rfl⟩⟩ := hrel
  cases gk with
  | zero => exact absurd HA.out (by simp [fuseeref13_Of.l0])
  | succ k1 =>
   have H := HA.out
   clear HA
   simp only [fuseeref13_Of.l0] at H
   by_cases c3 : x6_1 < (l0.length : Int)
   ·rw [if_pos c3] at H
    have c3b0 : decide (x6_1 < (l0.length : Int)) = true := decide_eq_true c3
    clear c3
    by_cases c4 : 0 ≤ x6_1
    ·rw [if_pos c4] at H
     have c4b0 : decide (0 ≤ x6_1) = true := decide_eq_true c4
     clear c4
     by_cases c5 : ((rd_T73 l0 x6_1).f0) ≤ a1
     ·rw [if_pos c5] at H
      have c5b0 : decide (((rd_T73 l0 x6_1).f0) ≤ a1) = true := decide_eq_true c5
      clear c5
      by_cases c6 : a1 ≤ ((rd_T73 l0 x6_1).f1)
      ·rw [if_pos c6] at H
       have c6b0 : decide (a1 ≤ ((rd_T73 l0 x6_1).f1)) = true := decide_eq_true c6
       clear c6
       as_aux_lemma =>
        have H' := qS H
        clear H
        have p166 : 0 ≤ (x6_1 : Int) := of_decide_eq_true (by first | (with_reducible assumption) | assumption)
        have q166 : x6_1 < (l0.length : Int) := of_decide_eq_true (by first | (with_reducible assumption) | assumption)
        obtain ⟨ad166, e166, hx166_0, hx166_1⟩ := at_T73 HR0.out x6_1 p166 q166
        cases e166
        replace p166 := eq_true p166
        replace q166 := eq_true q166
        have p167 : 0 ≤ (x6_1 : Int) := of_decide_eq_true (by first | (with_reducible assumption) | assumption)
        have q167 : x6_1 < (l0.length : Int) := of_decide_eq_true (by first | (with_reducible assumption) | assumption)
        obtain ⟨ad167, e167, hx167_0, hx167_1⟩ := at_T73 HR0.out x6_1 p167 q167
        obtain rfl : ad166 = ad167 := (by injection e167)
        replace p167 := eq_true p167
        replace q167 := eq_true q167
        go_wp2
        go_roundg k1
        case measure => have := HK1.out; omega
        case rel => exact ⟨(wrap64 (x5_1 + 1)), (wrap64 (x6_1 + 1)), (by first | rfl | (simp; done) | (simp [*]; done)), (by first | rfl | (simp; done) | (simp [*]; done)), H', ⟨by have := HK1.out; omega⟩, by repeat (first | exact Drawn0.refl _ | apply Drawn0.step)⟩
      ·rw [if_neg c6] at H
       have c6b0 : decide (a1 ≤ ((rd_T73 l0 x6_1).f1)) = false := decide_eq_false c6
       clear c6
       as_aux_lemma =>
        have H' := qS H
        clear H
        have p166 : 0 ≤ (x6_1 : Int) := of_decide_eq_true (by first | (with_reducible assumption) | assumption)
        have q166 : x6_1 < (l0.length : Int) := of_decide_eq_true (by first | (with_reducible assumption) | assumption)
        obtain ⟨ad166, e166, hx166_0, hx166_1⟩ := at_T73 HR0.out x6_1 p166 q166
        cases e166
        replace p166 := eq_true p166
        replace q166 := eq_true q166
        have p167 : 0 ≤ (x6_1 : Int) := of_decide_eq_true (by first | (with_reducible assumption) | assumption)
        have q167 : x6_1 < (l0.length : Int) := of_decide_eq_true (by first | (with_reducible assumption) | assumption)
        obtain ⟨ad167, e167, hx167_0, hx167_1⟩ := at_T73 HR0.out x6_1 p167 q167
        obtain rfl : ad166 = ad167 := (by injection e167)
        replace p167 := eq_true p167
        replace q167 := eq_true q167
        go_wp2
        go_roundg k1
        case measure => have := HK1.out; omega
        case rel => exact ⟨(x5_1), (wrap64 (x6_1 + 1)), (by first | rfl | (simp; done) | (simp [*]; done)), (by first | rfl | (simp; done) | (simp [*]; done)), H', ⟨by have := HK1.out; omega⟩, by repeat (first | exact Drawn0.refl _ | apply Drawn0.step)⟩
     ·rw [if_neg c5] at H
      have c5b0 : decide (((rd_T73 l0 x6_1).f0) ≤ a1) = false := decide_eq_false c5
      clear c5
      as_aux_lemma =>
       have H' := qS H
       clear H
       have p166 : 0 ≤ (x6_1 : Int) := of_decide_eq_true (by first | (with_reducible assumption) | assumption)
       have q166 : x6_1 < (l0.length : Int) := of_decide_eq_true (by first | (with_reducible assumption) | assumption)
       obtain ⟨ad166, e166, hx166_0, hx166_1⟩ := at_T73 HR0.out x6_1 p166 q166
       cases e166
       replace p166 := eq_true p166
       replace q166 := eq_true q166
       go_wp2
       go_roundg k1
       case measure => have := HK1.out; omega
       case rel => exact ⟨(x5_1), (wrap64 (x6_1 + 1)), (by first | rfl | (simp; done) | (simp [*]; done)), (by first | rfl | (simp; done) | (simp [*]; done)), H', ⟨by have := HK1.out; omega⟩, by repeat (first | exact Drawn0.refl _ | apply Drawn0.step)⟩
    ·rw [if_neg c4] at H
     exact absurd H (by simp)
   ·rw [if_neg c3] at H
    have c3b0 : decide (x6_1 < (l0.length : Int)) = false := decide_eq_false c3
    clear c3
    as_aux_lemma =>
     obtain rfl := Option.some.inj H
     go_wp2
     go_ret
     exact ⟨by first | rfl | (simp; done) | (simp [*]; done), by repeat (first | exact Drawn0.refl _ | apply Drawn0.step)⟩

/-! ### fuseeref13_same: function 73 -/
def fuseeref13_same.l0 : Nat → List (S73) → Int → Int → Int → Option (Bool)
 | 0, _, _, _, _ => none
 | k + 1, x0, x1, x2, x7 => if x7 < (x0.length : Int) then (if 0 ≤ x7 then (if ((rd_T73 x0 x7).f0) ≤ x1 then (if ((rd_T73 x0 x7).f0) ≤ x2 then (if ((decide (x1 ≤ ((rd_T73 x0 x7).f1))) != (decide (x2 ≤ ((rd_T73 x0 x7).f1)))) = true then (some false) else (fuseeref13_same.l0 k x0 x1 x2 (wrap64 (x7 + 1)))) else (if x1 ≤ ((rd_T73 x0 x7).f1) then (some false) else (fuseeref13_same.l0 k x0 x1 x2 (wrap64 (x7 + 1))))) else (if ((rd_T73 x0 x7).f0) ≤ x2 then (if x2 ≤ ((rd_T73 x0 x7).f1) then (some false) else (fuseeref13_same.l0 k x0 x1 x2 (wrap64 (x7 + 1)))) else (fuseeref13_same.l0 k x0 x1 x2 (wrap64 (x7 + 1))))) else (none)) else (some true)
def fuseeref13_same.f (k : Nat) (l0 : List (S73)) (a1 : Int) (a2 : Int) : Option (Bool) := fuseeref13_same.l0 k l0 a1 a2 0
theorem fuseeref13_same.mono_l : ∀ k, (∀ y0 y1 y2 y3, LeO (fuseeref13_same.l0 k y0 y1 y2 y3) (fuseeref13_same.l0 (k + 1) y0 y1 y2 y3))
 | 0 => fun _ _ _ _ r h => by simp [fuseeref13_same.l0] at h
 | k + 1 => by
  have ih0 := fuseeref13_same.mono_l k
  ·intro y0 y1 y2 y3
   unfold fuseeref13_same.l0
   repeat' first
   | (with_reducible exact ih0 _ _ _ _)
   | (with_reducible exact LeO.refl _)
   | (with_reducible exact LeO.none _)
   | (with_reducible refine LeO.ite ?_ ?_)
   | (with_reducible refine LeO.bind ?_ (fun _ => ?_))
   | exact ih0 _ _ _ _
   | exact LeO.none _
   | refine LeO.ite ?_ ?_
   | refine LeO.bind ?_ (fun _ => ?_)
theorem fuseeref13_same.mono : ∀ a0 a1 a2 k, LeO (fuseeref13_same.f k a0 a1 a2) (fuseeref13_same.f (k + 1) a0 a1 a2) := by
 intro a0 a1 a2 k
 have ih0 := fuseeref13_same.mono_l k
 unfold fuseeref13_same.f
 repeat' first
   | (with_reducible exact ih0 _ _ _ _)
   | (with_reducible exact LeO.refl _)
   | (with_reducible exact LeO.none _)
   | (with_reducible refine LeO.ite ?_ ?_)
   | (with_reducible refine LeO.bind ?_ (fun _ => ?_))
   | exact ih0 _ _ _ _
   | exact LeO.none _
   | refine LeO.ite ?_ ?_
   | refine LeO.bind ?_ (fun _ => ?_)
set_option maxHeartbeats 8000000 in
set_option maxRecDepth 100000 in
theorem fuseeref13_same.calls (k : Nat) (A0 : Option Addr) (c0 : Nat) (l0 : List (S73)) (a1 : Int) (a2 : Int) (r : Bool) (w : World) (hr0 : Kd.C k73 w A0 l0.length l0) (hc0 : l0.length ≤ c0) (h : fuseeref13_same.f k l0 a1 a2 = some r) :
  Calls Tryd.prog 73 #[.slice A0 l0.length c0, .int .i64 a1, .int .i64 a2] w fun e w' => e = .returned (.bool r) ∧ Drawn0 w w' := by
 have HR0 := qS hr0
 have HC0 := qS hc0
 clear hr0 hc0
 have H : (fuseeref13_same.l0 k l0 a1 a2 0) = some r := h
 clear h
 have H' := qS H
 clear H
 go_enter Tryd.func73, Tryd.ntmps73
 go_wp2
 repeat (go_quiet (fail); try go_wp2)
 go_loopg [7] k (fun kq v7 w' => ∃ (x7_1 : Int), v7 = .int .i64 x7_1 ∧ Aside0 (fuseeref13_same.l0 kq l0 a1 a2 x7_1 = some r) ∧ Aside0 (kq ≤ k) ∧ Drawn0 w w')
 case atStart => exact ⟨(0), (by first | rfl | (simp; done) | (simp [*]; done)), H', ⟨Nat.le_refl _⟩, by repeat (first | exact Drawn0.refl _ | apply Drawn0.step)⟩
 case round =>
  clear H'
  try clear p2
  obtain ⟨x7_1, rfl, HA, HK1, ⟨m1, rfl⟩⟩ := hrel
  cases gk with
  | zero => exact absurd HA.out (by simp [fuseeref13_same.l0])
  | succ k1 =>
   have H := HA.out
   clear HA
   simp only [fuseeref13_same.l0] at H
   by_cases c4 : x7_1 < (l0.length : Int)
   ·rw [if_pos c4] at H
    have c4b0 : decide (x7_1 < (l0.length : Int)) = true := decide_eq_true c4
    clear c4
    by_cases c5 : 0 ≤ x7_1
    ·rw [if_pos c5] at H
     have c5b0 : decide (0 ≤ x7_1) = true := decide_eq_true c5
     clear c5
     by_cases c6 : ((rd_T73 l0 x7_1).f0) ≤ a1
     ·rw [if_pos c6] at H
      have c6b0 : decide (((rd_T73 l0 x7_1).f0) ≤ a1) = true := decide_eq_true c6
      clear c6
      by_cases c7 : ((rd_T73 l0 x7_1).f0) ≤ a2
      ·rw [if_pos c7] at H
       have c7b0 : decide (((rd_T73 l0 x7_1).f0) ≤ a2) = true := decide_eq_true c7
       clear c7
       by_cases c8 : ((decide (a1 ≤ ((rd_T73 l0 x7_1).f1))) != (decide (a2 ≤ ((rd_T73 l0 x7_1).f1)))) = true
       ·rw [if_pos c8] at H
        have c8b0 : ((decide (a1 ≤ ((rd_T73 l0 x7_1).f1))) != (decide (a2 ≤ ((rd_T73 l0 x7_1).f1)))) = true := c8
        (try (have c8b1 : decide ((decide (a1 ≤ ((rd_T73 l0 x7_1).f1))) = (decide (a2 ≤ ((rd_T73 l0 x7_1).f1)))) = false := by simpa using c8))
        (try (have c8b2 : ((decide (a1 ≤ ((rd_T73 l0 x7_1).f1))) == (decide (a2 ≤ ((rd_T73 l0 x7_1).f1)))) = false := by simpa using c8))
        (try (have c8b3 : ¬ ((decide (a1 ≤ ((rd_T73 l0 x7_1).f1))) = (decide (a2 ≤ ((rd_T73 l0 x7_1).f1)))) := by simpa using c8))
        clear c8
        as_aux_lemma =>
         obtain rfl := Option.some.inj H
         have p168 : 0 ≤ (x7_1 : Int) := of_decide_eq_true (by first | (with_reducible assumption) | assumption)
         have q168 : x7_1 < (l0.length : Int) := of_decide_eq_true (by first | (with_reducible assumption) | assumption)
         obtain ⟨ad168, e168, hx168_0, hx168_1⟩ := at_T73 HR0.out x7_1 p168 q168
         cases e168
         replace p168 := eq_true p168
         replace q168 := eq_true q168
         have p169 : 0 ≤ (x7_1 : Int) := of_decide_eq_true (by first | (with_reducible assumption) | assumption)
         have q169 : x7_1 < (l0.length : Int) := of_decide_eq_true (by first | (with_reducible assumption) | assumption)
         obtain ⟨ad169, e169, hx169_0, hx169_1⟩ := at_T73 HR0.out x7_1 p169 q169
         obtain rfl : ad168 = ad169 := (by injection e169)
         replace p169 := eq_true p169
         replace q169 := eq_true q169
         have p170 : 0 ≤ (x7_1 : Int) := of_decide_eq_true (by first | (with_reducible assumption) | assumption)
         have q170 : x7_1 < (l0.length : Int) := of_decide_eq_true (by first | (with_reducible assumption) | assumption)
         obtain ⟨ad170, e170, hx170_0, hx170_1⟩ := at_T73 HR0.out x7_1 p170 q170
         obtain rfl : ad168 = ad170 := (by injection e170)
         replace p170 := eq_true p170
         replace q170 := eq_true q170
         have p171 : 0 ≤ (x7_1 : Int) := of_decide_eq_true (by first | (with_reducible assumption) | assumption)
         have q171 : x7_1 < (l0.length : Int) := of_decide_eq_true (by first | (with_reducible assumption) | assumption)
         obtain ⟨ad171, e171, hx171_0, hx171_1⟩ := at_T73 HR0.out x7_1 p171 q171
         obtain rfl : ad168 = ad171 := (by injection e171)
         replace p171 := eq_true p171
         replace q171 := eq_true q171
         go_wp2
         repeat (go_quiet (fail); try go_wp2)
         go_ret
         exact ⟨by first | rfl | (simp; done) | (simp [*]; done), by repeat (first | exact Drawn0.refl _ | apply Drawn0.step)⟩
       ·rw [if_neg c8] at H
        have c8b0 : ((decide (a1 ≤ ((rd_T73 l0 x7_1).f1))) != (decide (a2 ≤ ((rd_T73 l0 x7_1).f1)))) = false := by simpa using c8
        (try (have c8b1 : decide ((decide (a1 ≤ ((rd_T73 l0 x7_1).f1))) = (decide (a2 ≤ ((rd_T73 l0 x7_1).f1)))) = true := by simpa using c8))
        (try (have c8b2 : ((decide (a1 ≤ ((rd_T73 l0 x7_1).f1))) == (decide (a2 ≤ ((rd_T73 l0 x7_1).f1)))) = true := by simpa using c8))
        clear c8
        as_aux_lemma =>
         have H' := qS H
         clear H
         have p168 : 0 ≤ (x7_1 : Int) := of_decide_eq_true (by first | (with_reducible assumption) | assumption)
         have q168 : x7_1 < (l0.length : Int) := of_decide_eq_true (by first | (with_reducible assumption) | assumption)
         obtain ⟨ad168, e168, hx168_0, hx168_1⟩ := at_T73 HR0.out x7_1 p168 q168
         cases e168
         replace p168 := eq_true p168
         replace q168 := eq_true q168
         have p169 : 0 ≤ (x7_1 : Int) := of_decide_eq_true (by first | (with_reducible assumption) | assumption)
         have q169 : x7_1 < (l0.length : Int) := of_decide_eq_true (by first | (with_reducible assumption) | assumption)
         obtain ⟨ad169, e169, hx169_0, hx169_1⟩ := at_T73 HR0.out x7_1 p169 q169
         obtain rfl : ad168 = ad169 := (by injection e169)
         replace p169 := eq_true p169
         replace q169 := eq_true q169
         have p170 : 0 ≤ (x7_1 : Int) := of_decide_eq_true (by first | (with_reducible assumption) | assumption)
         have q170 : x7_1 < (l0.length : Int) := of_decide_eq_true (by first | (with_reducible assumption) | assumption)
         obtain ⟨ad170, e170, hx170_0, hx170_1⟩ := at_T73 HR0.out x7_1 p170 q170
         obtain rfl : ad168 = ad170 := (by injection e170)
         replace p170 := eq_true p170
         replace q170 := eq_true q170
         have p171 : 0 ≤ (x7_1 : Int) := of_decide_eq_true (by first | (with_reducible assumption) | assumption)
         have q171 : x7_1 < (l0.length : Int) := of_decide_eq_true (by first | (with_reducible assumption) | assumption)
         obtain ⟨ad171, e171, hx171_0, hx171_1⟩ := at_T73 HR0.out x7_1 p171 q171
         obtain rfl : ad168 = ad171 := (by injection e171)
         replace p171 := eq_true p171
         replace q171 := eq_true q171
         go_wp2
         repeat (go_quiet (fail); try go_wp2)
         go_roundg k1
         case measure => have := HK1.out; omega
         case rel => exact ⟨(wrap64 (x7_1 + 1)), (by first | rfl | (simp; done) | (simp [*]; done)), H', ⟨by have := HK1.out; omega⟩, by repeat (first | exact Drawn0.refl _ | apply Drawn0.step)⟩
      ·rw [if_neg c7] at H
       have c7b0 : decide (((rd_T73 l0 x7_1).f0) ≤ a2) = false := decide_eq_false c7
       clear c7
       by_cases c9 : a1 ≤ ((rd_T73 l0 x7_1).f1)
       ·rw [if_pos c9] at H
        have c9b0 : decide (a1 ≤ ((rd_T73 l0 x7_1).f1)) = true := decide_eq_true c9
        clear c9
        as_aux_lemma =>
         obtain rfl := Option.some.inj H
         have p168 : 0 ≤ (x7_1 : Int) := of_decide_eq_true (by first | (with_reducible assumption) | assumption)
         have q168 : x7_1 < (l0.length : Int) := of_decide_eq_true (by first | (with_reducible assumption) | assumption)
         obtain ⟨ad168, e168, hx168_0, hx168_1⟩ := at_T73 HR0.out x7_1 p168 q168
         cases e168
         replace p168 := eq_true p168
         replace q168 := eq_true q168
         have p169 : 0 ≤ (x7_1 : Int) := of_decide_eq_true (by first | (with_reducible assumption) | assumption)
         have q169 : x7_1 < (l0.length : Int) := of_decide_eq_true (by first | (with_reducible assumption) | assumption)
         obtain ⟨ad169, e169, hx169_0, hx169_1⟩ := at_T73 HR0.out x7_1 p169 q169
         obtain rfl : ad168 = ad169 := (by injection e169)
         replace p169 := eq_true p169
         replace q169 := eq_true q169
         have p170 : 0 ≤ (x7_1 : Int) := of_decide_eq_true (by first | (with_reducible assumption) | assumption)
         have q170 : x7_1 < (l0.length : Int) := of_decide_eq_true (by first | (with_reducible assumption) | assumption)
         obtain ⟨ad170, e170, hx170_0, hx170_1⟩ := at_T73 HR0.out x7_1 p170 q170
         obtain rfl : ad168 = ad170 := (by injection e170)
         replace p170 := eq_true p170
         replace q170 := eq_true q170
         go_wp2
         repeat (go_quiet (fail); try go_wp2)
         go_ret
         exact ⟨by first | rfl | (simp; done) | (simp [*]; done), by repeat (first | exact Drawn0.refl _ | apply Drawn0.step)⟩
       ·rw [if_neg c9] at H
        have c9b0 : decide (a1 ≤ ((rd_T73 l0 x7_1).f1)) = false := decide_eq_false c9
        clear c9
        as_aux_lemma =>
         have H' := qS H
         clear H
         have p168 : 0 ≤ (x7_1 : Int) := of_decide_eq_true (by first | (with_reducible assumption) | assumption)
         have q168 : x7_1 < (l0.length : Int) := of_decide_eq_true (by first | (with_reducible assumption) | assumption)
         obtain ⟨ad168, e168, hx168_0, hx168_1⟩ := at_T73 HR0.out x7_1 p168 q168
         cases e168
         replace p168 := eq_true p168
         replace q168 := eq_true q168
         have p169 : 0 ≤ (x7_1 : Int) := of_decide_eq_true (by first | (with_reducible assumption) | assumption)
         have q169 : x7_1 < (l0.length : Int) := of_decide_eq_true (by first | (with_reducible assumption) | assumption)
         obtain ⟨ad169, e169, hx169_0, hx169_1⟩ := at_T73 HR0.out x7_1 p169 q169
         obtain rfl : ad168 = ad169 := (by injection e169)
         replace p169 := eq_true p169
         replace q169 := eq_true q169
         have p170 : 0 ≤ (x7_1 : Int) := of_decide_eq_true (by first | (with_reducible assumption) | assumption)
         have q170 : x7_1 < (l0.length : Int) := of_decide_eq_true (by first | (with_reducible assumption) | assumption)
         obtain ⟨ad170, e170, hx170_0, hx170_1⟩ := at_T73 HR0.out x7_1 p170 q170
         obtain rfl : ad168 = ad170 := (by injection e170)
         replace p170 := eq_true p170
         replace q170 := eq_true q170
         go_wp2
         repeat (go_quiet (fail); try go_wp2)
         go_roundg k1
         case measure => have := HK1.out; omega
         case rel => exact ⟨(wrap64 (x7_1 + 1)), (by first | rfl | (simp; done) | (simp [*]; done)), H', ⟨by have := HK1.out; omega⟩, by repeat (first | exact Drawn0.refl _ | apply Drawn0.step)⟩
     ·rw [if_neg c6] at H
      have c6b0 : decide (((rd_T73 l0 x7_1).f0) ≤ a1) = false := decide_eq_false c6
      clear c6
      by_cases c10 : ((rd_T73 l0 x7_1).f0) ≤ a2
      ·rw [if_pos c10] at H
       have c10b0 : decide (((rd_T73 l0 x7_1).f0) ≤ a2) = true := decide_eq_true c10
       clear c10
       by_cases c11 : a2 ≤ ((rd_T73 l0 x7_1).f1)
       ·rw [if_pos c11] at H
        have c11b0 : decide (a2 ≤ ((rd_T73 l0 x7_1).f1)) = true := decide_eq_true c11
        clear c11
        as_aux_lemma =>
         obtain rfl := Option.some.inj H
         have p168 : 0 ≤ (x7_1 : Int) := of_decide_eq_true (by first | (with_reducible assumption) | assumption)
         have q168 : x7_1 < (l0.length : Int) := of_decide_eq_true (by first | (with_reducible assumption) | assumption)
         obtain ⟨ad168, e168, hx168_0, hx168_1⟩ := at_T73 HR0.out x7_1 p168 q168
         cases e168
         replace p168 := eq_true p168
         replace q168 := eq_true q168
         have p172 : 0 ≤ (x7_1 : Int) := of_decide_eq_true (by first | (with_reducible assumption) | assumption)
         have q172 : x7_1 < (l0.length : Int) := of_decide_eq_true (by first | (with_reducible assumption) | assumption)
         obtain ⟨ad172, e172, hx172_0, hx172_1⟩ := at_T73 HR0.out x7_1 p172 q172
         obtain rfl : ad168 = ad172 := (by injection e172)
         replace p172 := eq_true p172
         replace q172 := eq_true q172
         have p173 : 0 ≤ (x7_1 : Int) := of_decide_eq_true (by first | (with_reducible assumption) | assumption)
         have q173 : x7_1 < (l0.length : Int) := of_decide_eq_true (by first | (with_reducible assumption) | assumption)
         obtain ⟨ad173, e173, hx173_0, hx173_1⟩ := at_T73 HR0.out x7_1 p173 q173
         obtain rfl : ad168 = ad173 := (by injection e173)
         replace p173 := eq_true p173
         replace q173 := eq_true q173
         go_wp2
         repeat (go_quiet (fail); try go_wp2)
         go_ret
         exact ⟨by first | rfl | (simp; done) | (simp [*]; done), by repeat (first | exact Drawn0.refl _ | apply Drawn0.step)⟩
       ·rw [if_neg c11] at H
        have c11b0 : decide (a2 ≤ ((rd_T73 l0 x7_1).f1)) = false := decide_eq_false c11
        clear c11
        as_aux_lemma =>
         have H' := qS H
         clear H
         have p168 : 0 ≤ (x7_1 : Int) := of_decide_eq_true (by first | (with_reducible assumption) | assumption)
         have q168 : x7_1 < (l0.length : Int) := of_decide_eq_true (by first | (with_reducible assumption) | assumption)
         obtain ⟨ad168, e168, hx168_0, hx168_1⟩ := at_T73 HR0.out x7_1 p168 q168
         cases e168
         replace p168 := eq_true p168
         replace q168 := eq_true q168
         have p172 : 0 ≤ (x7_1 : Int) := of_decide_eq_true (by first | (with_reducible assumption) | assumption)
         have q172 : x7_1 < (l0.length : Int) := of_decide_eq_true (by first | (with_reducible assumption) | assumption)
         obtain ⟨ad172, e172, hx172_0, hx172_1⟩ := at_T73 HR0.out x7_1 p172 q172
         obtain rfl : ad168 = ad172 := (by injection e172)
         replace p172 := eq_true p172
         replace q172 := eq_true q172
         have p173 : 0 ≤ (x7_1 : Int) := of_decide_eq_true (by first | (with_reducible assumption) | assumption)
         have q173 : x7_1 < (l0.length : Int) := of_decide_eq_true (by first | (with_reducible assumption) | assumption)
         obtain ⟨ad173, e173, hx173_0, hx173_1⟩ := at_T73 HR0.out x7_1 p173 q173
         obtain rfl : ad168 = ad173 := (by injection e173)
         replace p173 := eq_true p173
         replace q173 := eq_true q173
         go_wp2
         repeat (go_quiet (fail); try go_wp2)
         go_roundg k1
         case measure => have := HK1.out; omega
         case rel => exact ⟨(wrap64 (x7_1 + 1)), (by first | rfl | (simp; done) | (simp [*]; done)), H', ⟨by have := HK1.out; omega⟩, by repeat (first | exact Drawn0.refl _ | apply Drawn0.step)⟩
      ·rw [if_neg c10] at H
       have c10b0 : decide (((rd_T73 l0 x7_1).f0) ≤ a2) = false := decide_eq_false c10
       clear c10
       as_aux_lemma =>
        have H' := qS H
        clear H
        have p168 : 0 ≤ (x7_1 : Int) := of_decide_eq_true (by first | (with_reducible assumption) | assumption)
        have q168 : x7_1 < (l0.length : Int) := of_decide_eq_true (by first | (with_reducible assumption) | assumption)
        obtain ⟨ad168, e168, hx168_0, hx168_1⟩ := at_T73 HR0.out x7_1 p168 q168
        cases e168
        replace p168 := eq_true p168
        replace q168 := eq_true q168
        have p172 : 0 ≤ (x7_1 : Int) := of_decide_eq_true (by first | (with_reducible assumption) | assumption)
        have q172 : x7_1 < (l0.length : Int) := of_decide_eq_true (by first | (with_reducible assumption) | assumption)
        obtain ⟨ad172, e172, hx172_0, hx172_1⟩ := at_T73 HR0.out x7_1 p172 q172
        obtain rfl : ad168 = ad172 := (by injection e172)
        replace p172 := eq_true p172
        replace q172 := eq_true q172
        go_wp2
        repeat (go_quiet (fail); try go_wp2)
        go_roundg k1
        case measure => have := HK1.out; omega
        case rel => exact ⟨(wrap64 (x7_1 + 1)), (by first | rfl | (simp; done) | (simp [*]; done)), H', ⟨by have := HK1.out; omega⟩, by repeat (first | exact Drawn0.refl _ | apply Drawn0.step)⟩
    ·rw [if_neg c5] at H
     exact absurd H (by simp)
   ·rw [if_neg c4] at H
    have c4b0 : decide (x7_1 < (l0.length : Int)) = false := decide_eq_false c4
    clear c4
    as_aux_lemma =>
     obtain rfl := Option.some.inj H
     go_wp2
     repeat (go_quiet (fail); try go_wp2)
     go_ret
     exact ⟨by first | rfl | (simp; done) | (simp [*]; done), by repeat (first | exact Drawn0.refl _ | apply Drawn0.step)⟩

end Go.Proofs.YtfipgpfmlkfkfaaDoor.MSpanVotes
