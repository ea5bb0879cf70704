/- Printed by wip/gen/mp.py: Go functions as plain Lean functions, and that the calls do what these say. -/
import Derived.Test.YtiljnlhmeolhfaaMPrfSumsx0
import Derived.Test.YtiljnlhmeolhfaaMPrfSumsx4
namespace Go.Proofs.Ytiljnlhmeolhfaa.MPrfSums
open Go.RowKit Go.Proofs.YtiljnlhmeolhfaaW.PrintWords Go.Proofs.YtiljnlhmeolhfaaW.PrintLast Go.Proofs.YtiljnlhmeolhfaaW.PrintMore
attribute [local go_sem] max2_int min2_int max_two min_two max_three min_three max_four min_four   -- for this text's walks alone
set_option linter.unusedVariables false
set_option linter.unusedSimpArgs false

/-! ### fuseeref23_Number: function 11 -/
def fuseeref23_Number.f (k : Nat) (a0_0 : Int) (a0_1 : Int) (a0_2 : Int) (a0_3 : Int) (a0_4 : Int) (a0_5 : Int) (a0_6 : Int) (a0_7 : Int) (a0_8 : Int) (a0_9 : Int) (a0_10 : Int) (a0_11 : Int) (a0_12 : Int) (a0_13 : Int) (a0_14 : Int) (a0_15 : Int) (a1 : Int) (a2 : Int) : Option (Int) := (fuseeref05_Put.f k ([] : List Int) (IntKind.u64.wrap (a1)) 8).bind fun t166 => ((fuseeref23_Sum.f a0_0 a0_1 a0_2 a0_3 a0_4 a0_5 a0_6 a0_7 a0_8 a0_9 a0_10 a0_11 a0_12 a0_13 a0_14 a0_15 t166).bind fun t169 => (if a2 = 18446744073709551615 then (some t169) else (if (IntKind.u64.wrap (a2 + 1)) = 0 then (none) else (some (Int.tmod t169 (IntKind.u64.wrap (a2 + 1)))))))
theorem fuseeref23_Number.mono : ∀ a0 a1 a2 a3 a4 a5 a6 a7 a8 a9 a10 a11 a12 a13 a14 a15 a16 a17 k, LeO (fuseeref23_Number.f k a0 a1 a2 a3 a4 a5 a6 a7 a8 a9 a10 a11 a12 a13 a14 a15 a16 a17) (fuseeref23_Number.f (k + 1) a0 a1 a2 a3 a4 a5 a6 a7 a8 a9 a10 a11 a12 a13 a14 a15 a16 a17) := by
 intro a0 a1 a2 a3 a4 a5 a6 a7 a8 a9 a10 a11 a12 a13 a14 a15 a16 a17 k
 unfold fuseeref23_Number.f
 repeat' first
   | (with_reducible exact fuseeref05_Put.mono _ _ _ _)
   | (with_reducible exact LeO.refl _)
   | (with_reducible exact LeO.none _)
   | (with_reducible refine LeO.ite ?_ ?_)
   | (with_reducible refine LeO.bind ?_ (fun _ => ?_))
   | exact fuseeref05_Put.mono _ _ _ _
   | exact LeO.none _
   | refine LeO.ite ?_ ?_
   | refine LeO.bind ?_ (fun _ => ?_)
set_option maxHeartbeats 8000000 in
set_option maxRecDepth 100000 in
theorem fuseeref23_Number.calls (k : Nat) (a0_0 : Int) (a0_1 : Int) (a0_2 : Int) (a0_3 : Int) (a0_4 : Int) (a0_5 : Int) (a0_6 : Int) (a0_7 : Int) (a0_8 : Int) (a0_9 : Int) (a0_10 : Int) (a0_11 : Int) (a0_12 : Int) (a0_13 : Int) (a0_14 : Int) (a0_15 : Int) (a1 : Int) (a2 : Int) (r : Int) (w : World) (h : fuseeref23_Number.f k a0_0 a0_1 a0_2 a0_3 a0_4 a0_5 a0_6 a0_7 a0_8 a0_9 a0_10 a0_11 a0_12 a0_13 a0_14 a0_15 a1 a2 = some r) :
  Calls Try.prog 11 #[.agg #[.int .u8 a0_0, .int .u8 a0_1, .int .u8 a0_2, .int .u8 a0_3, .int .u8 a0_4, .int .u8 a0_5, .int .u8 a0_6, .int .u8 a0_7, .int .u8 a0_8, .int .u8 a0_9, .int .u8 a0_10, .int .u8 a0_11, .int .u8 a0_12, .int .u8 a0_13, .int .u8 a0_14, .int .u8 a0_15], .int .i64 a1, .int .u64 a2] w fun e w' => e = .returned (.int .u64 r) ∧ Below w.heap.size w w' := by
 have hu22 := Try.underlying22
 have HB := qS (Below.refl w.heap.size w)
 have H : ((fuseeref05_Put.f k ([] : List Int) (IntKind.u64.wrap (a1)) 8).bind fun t166 => ((fuseeref23_Sum.f a0_0 a0_1 a0_2 a0_3 a0_4 a0_5 a0_6 a0_7 a0_8 a0_9 a0_10 a0_11 a0_12 a0_13 a0_14 a0_15 t166).bind fun t169 => (if a2 = 18446744073709551615 then (some t169) else (if (IntKind.u64.wrap (a2 + 1)) = 0 then (none) else (some (Int.tmod t169 (IntKind.u64.wrap (a2 + 1)))))))) = some r := h
 clear h
 replace H := Option.bind_eq_some_iff.mp H
 obtain ⟨t166, A40, H⟩ := H
 replace H : ((fuseeref23_Sum.f a0_0 a0_1 a0_2 a0_3 a0_4 a0_5 a0_6 a0_7 a0_8 a0_9 a0_10 a0_11 a0_12 a0_13 a0_14 a0_15 t166).bind fun t169 => (if a2 = 18446744073709551615 then (some t169) else (if (IntKind.u64.wrap (a2 + 1)) = 0 then (none) else (some (Int.tmod t169 (IntKind.u64.wrap (a2 + 1))))))) = some r := H
 have A4 := qS A40
 clear A40
 replace H := Option.bind_eq_some_iff.mp H
 obtain ⟨t169, A50, H⟩ := H
 replace H : (if a2 = 18446744073709551615 then (some t169) else (if (IntKind.u64.wrap (a2 + 1)) = 0 then (none) else (some (Int.tmod t169 (IntKind.u64.wrap (a2 + 1)))))) = some r := H
 have A5 := qS A50
 clear A50
 by_cases c6 : a2 = 18446744073709551615
 ·rw [if_pos c6] at H
  have c6b0 : (a2 == 18446744073709551615) = true := beq_iff_eq.mpr c6
  have c6b1 : (a2 != 18446744073709551615) = false := bne_eq_false_iff_eq.mpr c6
  clear c6
  as_aux_lemma =>
   obtain rfl := Option.some.inj H
   go_enter Try.func11, Try.ntmps11
   try go_wp2_with (first | ((with_reducible refine gate_dst (N := 3) rfl ?_); refine box_event ?hg (N := 3) ?hd (cs := #[.int .u8 a0_0, .int .u8 a0_1, .int .u8 a0_2, .int .u8 a0_3, .int .u8 a0_4, .int .u8 a0_5, .int .u8 a0_6, .int .u8 a0_7, .int .u8 a0_8, .int .u8 a0_9, .int .u8 a0_10, .int .u8 a0_11, .int .u8 a0_12, .int .u8 a0_13, .int .u8 a0_14, .int .u8 a0_15]) (t := 22) ?hr ?_; (case hd => rfl); (case hg => rfl); (case hr => first | (go_simp; done) | (go_simp; rfl)); intro gb165 hg w7 hbox hb; have n0_ := qS (below_step (by repeat (first | (with_reducible first | exact HB.out | apply qpA | apply qpN | apply qp1) | exact HB.out)) hb); have n1_ := qS (hbox); have n2_ := qS ((by rw [hg]; exact (below_size (by repeat (first | (with_reducible first | exact HB.out | apply qpA | apply qpN | apply qp1) | exact HB.out))) : w.heap.size ≤ gb165)); have n3_ := qS ((by rw [hg]; exact (below_size (by repeat (first | (with_reducible first | exact HB.out | apply qpA | apply qpN | apply qp1) | exact HB.out))) : w.heap.size ≤ gb165)); clear HB; have HB := n0_; have BK165 := n1_; have GW165 := n2_; have GE165 := n3_; clear n0_ n1_ n2_ n3_; clear hb hbox hg))
   have n0_ := qS (qD BK165.out)
   have n1_ := qS (qp1 HB.out)
   clear BK165
   clear HB
   have BK165 := n0_
   have HB := n1_
   clear n0_ n1_
   refine start_ (n := 6) (S := fun w' => w'.cell? ⟨gb165, 0, none⟩ = some (.int .u8 a0_0) ∧ w'.cell? ⟨gb165, 1, none⟩ = some (.int .u8 a0_1) ∧ w'.cell? ⟨gb165, 2, none⟩ = some (.int .u8 a0_2) ∧ w'.cell? ⟨gb165, 3, none⟩ = some (.int .u8 a0_3) ∧ w'.cell? ⟨gb165, 4, none⟩ = some (.int .u8 a0_4) ∧ w'.cell? ⟨gb165, 5, none⟩ = some (.int .u8 a0_5) ∧ w'.cell? ⟨gb165, 6, none⟩ = some (.int .u8 a0_6) ∧ w'.cell? ⟨gb165, 7, none⟩ = some (.int .u8 a0_7) ∧ w'.cell? ⟨gb165, 8, none⟩ = some (.int .u8 a0_8) ∧ w'.cell? ⟨gb165, 9, none⟩ = some (.int .u8 a0_9) ∧ w'.cell? ⟨gb165, 10, none⟩ = some (.int .u8 a0_10) ∧ w'.cell? ⟨gb165, 11, none⟩ = some (.int .u8 a0_11) ∧ w'.cell? ⟨gb165, 12, none⟩ = some (.int .u8 a0_12) ∧ w'.cell? ⟨gb165, 13, none⟩ = some (.int .u8 a0_13) ∧ w'.cell? ⟨gb165, 14, none⟩ = some (.int .u8 a0_14) ∧ w'.cell? ⟨gb165, 15, none⟩ = some (.int .u8 a0_15)) (ds := []) #[false, false, false, false, false, false] (by kernel_rfl) rfl rfl ⟨(qC BK165.out 0).trans rfl, (qC BK165.out 1).trans rfl, (qC BK165.out 2).trans rfl, (qC BK165.out 3).trans rfl, (qC BK165.out 4).trans rfl, (qC BK165.out 5).trans rfl, (qC BK165.out 6).trans rfl, (qC BK165.out 7).trans rfl, (qC BK165.out 8).trans rfl, (qC BK165.out 9).trans rfl, (qC BK165.out 10).trans rfl, (qC BK165.out 11).trans rfl, (qC BK165.out 12).trans rfl, (qC BK165.out 13).trans rfl, (qC BK165.out 14).trans rfl, (qC BK165.out 15).trans rfl⟩ (fun hHeld => ?_)
   generalize w7.drew = w8 at BK165 HB hHeld ⊢
   refine pure_ (i := 1) (N := some 9) (v := ?_) (a' := ?_) #[false, true, false, false, false, false] rfl rfl (by kernel_rfl) (fun _ _ _ h => h) (Or.inl ⟨by rfl, ?_⟩) ?_ ?_
   rotate_left
   ·intro w'
    go_simp
    with_reducible rfl
   rotate_left
   ·simp only [Act.put, List.setIfInBounds_toArray, List.set_cons_zero, List.set_cons_succ, i64_w, i32_w]
    rfl
   refine pure_ (i := 2) (N := some 10) (v := ?_) (a' := ?_) #[false, true, true, false, false, false] rfl rfl (by kernel_rfl) (fun _ _ _ h => h) (Or.inl ⟨by rfl, ?_⟩) ?_ ?_
   rotate_left
   ·intro w'
    go_simp
    with_reducible rfl
   rotate_left
   ·simp only [Act.put, List.setIfInBounds_toArray, List.set_cons_zero, List.set_cons_succ, i64_w, i32_w]
    rfl
   refine take_ (i := 0) (N := some 8) (v := ?_) (a' := ?_) #[true, true, true, false, false, false] rfl rfl (by kernel_rfl) (fun _ _ _ h => h) (Or.inl ⟨by rfl, ?_⟩) hHeld ?_ ?_
   rotate_left
   ·rintro w' ⟨s0, s1, s2, s3, s4, s5, s6, s7, s8, s9, s10, s11, s12, s13, s14, s15⟩
    go_simp
    with_reducible rfl
   rotate_left
   ·simp only [Act.put, List.setIfInBounds_toArray, List.set_cons_zero, List.set_cons_succ, i64_w, i32_w]
    rfl
   refine one_ (i := 3) (N := some 11) #[true, true, true, true, false, false] rfl rfl (by kernel_rfl) (by decide) (fun K hK => ?_)
   refine goes_ Try.func35 (by kernel_rfl) rfl #[.slice none 0 0, .int .u64 (IntKind.u64.wrap (a1)), .int .i64 8] (by rfl) rfl rfl (by (try simp only [List.map_toArray, List.map_cons, List.map_nil]); first | done | rfl | (simp only [*]; done) | (simp only [List.length_drop, List.length_take]; rfl) | (simp only [Act.eval, Array.getD_eq_getD_getElem?, Option.getD_some, *])) ?_
   refine (fuseeref05_Put.calls k _ _ ([] : List Int) (IntKind.u64.wrap (a1)) 8 t166 _ ?side1 ?side2 A4.out).mono ?_
   (case side1 => exact Kd.C_nil _ _)
   (case side2 => exact Nat.le_refl _)
   rintro e w9 ⟨v167, rfl, ho0, hb⟩
   refine ⟨_, rfl, ?_⟩
   have n0_ := qS (Kd.R_lower ho0 (below_size (by repeat (first | (with_reducible first | exact HB.out | apply qpA | apply qpN | apply qp1 | refine qpS ?_ GE165.out) | exact HB.out))))
   have n1_ := qS (qB (g := gb165) (o := .cells #[.int .u8 a0_0, .int .u8 a0_1, .int .u8 a0_2, .int .u8 a0_3, .int .u8 a0_4, .int .u8 a0_5, .int .u8 a0_6, .int .u8 a0_7, .int .u8 a0_8, .int .u8 a0_9, .int .u8 a0_10, .int .u8 a0_11, .int .u8 a0_12, .int .u8 a0_13, .int .u8 a0_14, .int .u8 a0_15] 22 (0, 0)) (by (with_reducible repeat (first | refine qN ?_ _ | refine qD ?_ | refine qA ?_ _)); exact BK165.out) hb)
   have n2_ := qS (below_step (by repeat (first | (with_reducible first | exact HB.out | apply qpA | apply qpN | apply qp1 | refine qpS ?_ GE165.out) | exact HB.out)) hb)
   clear BK165
   clear HB
   have HO168 := n0_
   have BK165 := n1_
   have HB := n2_
   clear n0_ n1_ n2_
   (try clear hb)
   (try clear hb2)
   (try clear hk)
   (try clear hi)
   (try clear ho0)
   obtain ⟨Ao10, co10, eo10⟩ := Kd.R_slice HO168.out
   (first | subst eo10 | (injection eo10 with f1_ f2_ f3_; have f4_ := f1_.symm; have f5_ := f3_.symm; clear f1_ f2_ f3_; subst f4_; subst f5_))
   refine hK.out _ _ ⟨(qC BK165.out 0).trans rfl, (qC BK165.out 1).trans rfl, (qC BK165.out 2).trans rfl, (qC BK165.out 3).trans rfl, (qC BK165.out 4).trans rfl, (qC BK165.out 5).trans rfl, (qC BK165.out 6).trans rfl, (qC BK165.out 7).trans rfl, (qC BK165.out 8).trans rfl, (qC BK165.out 9).trans rfl, (qC BK165.out 10).trans rfl, (qC BK165.out 11).trans rfl, (qC BK165.out 12).trans rfl, (qC BK165.out 13).trans rfl, (qC BK165.out 14).trans rfl, (qC BK165.out 15).trans rfl⟩ (fun hHeld => ?_)
   clear hK K
   refine norm_ (a' := ?_) ?_ ?_
   rotate_left
   ·show Act.put _ (some 11) _ = _
    simp only [Act.put, List.setIfInBounds_toArray, List.set_cons_zero, List.set_cons_succ, i64_w, i32_w]
    rfl
   refine one_ (i := 4) (N := some 12) #[true, true, true, true, true, false] rfl rfl (by kernel_rfl) (by decide) (fun K hK => ?_)
   refine goes_ Try.func9 (by kernel_rfl) rfl #[.agg #[.int .u8 a0_0, .int .u8 a0_1, .int .u8 a0_2, .int .u8 a0_3, .int .u8 a0_4, .int .u8 a0_5, .int .u8 a0_6, .int .u8 a0_7, .int .u8 a0_8, .int .u8 a0_9, .int .u8 a0_10, .int .u8 a0_11, .int .u8 a0_12, .int .u8 a0_13, .int .u8 a0_14, .int .u8 a0_15], .slice Ao10 t166.length co10] (by rfl) rfl rfl (by (try simp only [List.map_toArray, List.map_cons, List.map_nil]); first | done | rfl | (simp only [*]; done) | (simp only [List.length_drop, List.length_take]; rfl) | (simp only [Act.eval, Array.getD_eq_getD_getElem?, Option.getD_some, *])) ?_
   with_reducible refine (fuseeref23_Sum.calls a0_0 a0_1 a0_2 a0_3 a0_4 a0_5 a0_6 a0_7 a0_8 a0_9 a0_10 a0_11 a0_12 a0_13 a0_14 a0_15 _ _ t166 t169 _ ?side1 ?side2 A5.out).mono ?_
   (case side1 => repeat (first | exact (Kd.R_reads' HO168.out).2.2 | (with_reducible refine Kd.C_alloc ?_ _) | (with_reducible refine Kd.C_drewN ?_ _) | (with_reducible refine Kd.C_drew ?_)))
   (case side2 => exact (Kd.R_reads' HO168.out).2.1)
   rintro e w11 ⟨rfl, hb⟩
   refine ⟨_, rfl, ?_⟩
   have n0_ := qS (Kd.R_below (by (with_reducible repeat (first | apply Kd.R_alloc | apply Kd.R_drewN | apply Kd.R_drew)); exact HO168.out) hb)
   have n1_ := qS (qB (g := gb165) (o := .cells #[.int .u8 a0_0, .int .u8 a0_1, .int .u8 a0_2, .int .u8 a0_3, .int .u8 a0_4, .int .u8 a0_5, .int .u8 a0_6, .int .u8 a0_7, .int .u8 a0_8, .int .u8 a0_9, .int .u8 a0_10, .int .u8 a0_11, .int .u8 a0_12, .int .u8 a0_13, .int .u8 a0_14, .int .u8 a0_15] 22 (0, 0)) (by (with_reducible repeat (first | refine qN ?_ _ | refine qD ?_ | refine qA ?_ _)); exact BK165.out) hb)
   have n2_ := qS (below_step (by repeat (first | (with_reducible first | exact HB.out | apply qpA | apply qpN | apply qp1 | refine qpS ?_ GE165.out) | exact HB.out)) hb)
   clear HO168
   clear BK165
   clear HB
   have HO168 := n0_
   have BK165 := n1_
   have HB := n2_
   clear n0_ n1_ n2_
   (try clear hb)
   (try clear hb2)
   (try clear hk)
   (try clear hi)
   refine hK.out _ _ ⟨(qC BK165.out 0).trans rfl, (qC BK165.out 1).trans rfl, (qC BK165.out 2).trans rfl, (qC BK165.out 3).trans rfl, (qC BK165.out 4).trans rfl, (qC BK165.out 5).trans rfl, (qC BK165.out 6).trans rfl, (qC BK165.out 7).trans rfl, (qC BK165.out 8).trans rfl, (qC BK165.out 9).trans rfl, (qC BK165.out 10).trans rfl, (qC BK165.out 11).trans rfl, (qC BK165.out 12).trans rfl, (qC BK165.out 13).trans rfl, (qC BK165.out 14).trans rfl, (qC BK165.out 15).trans rfl⟩ (fun hHeld => ?_)
   clear hK K
   refine norm_ (a' := ?_) ?_ ?_
   rotate_left
   ·show Act.put _ (some 12) _ = _
    simp only [Act.put, List.setIfInBounds_toArray, List.set_cons_zero, List.set_cons_succ, i64_w, i32_w]
    rfl
   refine pure_ (i := 5) (N := some 7) (v := ?_) (a' := ?_) #[true, true, true, true, true, true] rfl rfl (by kernel_rfl) (fun _ _ _ h => h) (Or.inl ⟨by rfl, ?_⟩) ?_ ?_
   rotate_left
   ·intro w'
    go_simp
    with_reducible rfl
   rotate_left
   ·simp only [Act.put, List.setIfInBounds_toArray, List.set_cons_zero, List.set_cons_succ, i64_w, i32_w]
    rfl
   refine done_ (by kernel_rfl) ?_
   try go_wp2
   go_ret
   exact ⟨by first | rfl | (simp [errW_none, errW_some] <;> rfl) | (simp [*, errW_none, errW_some] <;> rfl), by repeat (first | (with_reducible first | exact HB.out | apply qpA | apply qpN | apply qp1 | refine qpS ?_ GE165.out) | exact HB.out)⟩
 ·rw [if_neg c6] at H
  have c6b0 : (a2 == 18446744073709551615) = false := beq_eq_false_iff_ne.mpr c6
  have c6b1 : (a2 != 18446744073709551615) = true := bne_iff_ne.mpr c6
  by_cases c12 : (IntKind.u64.wrap (a2 + 1)) = 0
  ·rw [if_pos c12] at H
   exact absurd H (by simp)
  ·rw [if_neg c12] at H
   have c12b0 : ((IntKind.u64.wrap (a2 + 1)) == 0) = false := beq_eq_false_iff_ne.mpr c12
   have c12b1 : ((IntKind.u64.wrap (a2 + 1)) != 0) = true := bne_iff_ne.mpr c12
   as_aux_lemma =>
    obtain rfl := Option.some.inj H
    go_enter Try.func11, Try.ntmps11
    try go_wp2_with (first | ((with_reducible refine gate_dst (N := 3) rfl ?_); refine box_event ?hg (N := 3) ?hd (cs := #[.int .u8 a0_0, .int .u8 a0_1, .int .u8 a0_2, .int .u8 a0_3, .int .u8 a0_4, .int .u8 a0_5, .int .u8 a0_6, .int .u8 a0_7, .int .u8 a0_8, .int .u8 a0_9, .int .u8 a0_10, .int .u8 a0_11, .int .u8 a0_12, .int .u8 a0_13, .int .u8 a0_14, .int .u8 a0_15]) (t := 22) ?hr ?_; (case hd => rfl); (case hg => rfl); (case hr => first | (go_simp; done) | (go_simp; rfl)); intro gb165 hg w13 hbox hb; have n0_ := qS (below_step (by repeat (first | (with_reducible first | exact HB.out | apply qpA | apply qpN | apply qp1) | exact HB.out)) hb); have n1_ := qS (hbox); have n2_ := qS ((by rw [hg]; exact (below_size (by repeat (first | (with_reducible first | exact HB.out | apply qpA | apply qpN | apply qp1) | exact HB.out))) : w.heap.size ≤ gb165)); have n3_ := qS ((by rw [hg]; exact (below_size (by repeat (first | (with_reducible first | exact HB.out | apply qpA | apply qpN | apply qp1) | exact HB.out))) : w.heap.size ≤ gb165)); clear HB; have HB := n0_; have BK165 := n1_; have GW165 := n2_; have GE165 := n3_; clear n0_ n1_ n2_ n3_; clear hb hbox hg))
    have n0_ := qS (qD BK165.out)
    have n1_ := qS (qp1 HB.out)
    clear BK165
    clear HB
    have BK165 := n0_
    have HB := n1_
    clear n0_ n1_
    refine start_ (n := 6) (S := fun w' => w'.cell? ⟨gb165, 0, none⟩ = some (.int .u8 a0_0) ∧ w'.cell? ⟨gb165, 1, none⟩ = some (.int .u8 a0_1) ∧ w'.cell? ⟨gb165, 2, none⟩ = some (.int .u8 a0_2) ∧ w'.cell? ⟨gb165, 3, none⟩ = some (.int .u8 a0_3) ∧ w'.cell? ⟨gb165, 4, none⟩ = some (.int .u8 a0_4) ∧ w'.cell? ⟨gb165, 5, none⟩ = some (.int .u8 a0_5) ∧ w'.cell? ⟨gb165, 6, none⟩ = some (.int .u8 a0_6) ∧ w'.cell? ⟨gb165, 7, none⟩ = some (.int .u8 a0_7) ∧ w'.cell? ⟨gb165, 8, none⟩ = some (.int .u8 a0_8) ∧ w'.cell? ⟨gb165, 9, none⟩ = some (.int .u8 a0_9) ∧ w'.cell? ⟨gb165, 10, none⟩ = some (.int .u8 a0_10) ∧ w'.cell? ⟨gb165, 11, none⟩ = some (.int .u8 a0_11) ∧ w'.cell? ⟨gb165, 12, none⟩ = some (.int .u8 a0_12) ∧ w'.cell? ⟨gb165, 13, none⟩ = some (.int .u8 a0_13) ∧ w'.cell? ⟨gb165, 14, none⟩ = some (.int .u8 a0_14) ∧ w'.cell? ⟨gb165, 15, none⟩ = some (.int .u8 a0_15)) (ds := []) #[false, false, false, false, false, false] (by kernel_rfl) rfl rfl ⟨(qC BK165.out 0).trans rfl, (qC BK165.out 1).trans rfl, (qC BK165.out 2).trans rfl, (qC BK165.out 3).trans rfl, (qC BK165.out 4).trans rfl, (qC BK165.out 5).trans rfl, (qC BK165.out 6).trans rfl, (qC BK165.out 7).trans rfl, (qC BK165.out 8).trans rfl, (qC BK165.out 9).trans rfl, (qC BK165.out 10).trans rfl, (qC BK165.out 11).trans rfl, (qC BK165.out 12).trans rfl, (qC BK165.out 13).trans rfl, (qC BK165.out 14).trans rfl, (qC BK165.out 15).trans rfl⟩ (fun hHeld => ?_)
    generalize w13.drew = w14 at BK165 HB hHeld ⊢
    refine pure_ (i := 1) (N := some 9) (v := ?_) (a' := ?_) #[false, true, false, false, false, false] rfl rfl (by kernel_rfl) (fun _ _ _ h => h) (Or.inl ⟨by rfl, ?_⟩) ?_ ?_
    rotate_left
    ·intro w'
     go_simp
     with_reducible rfl
    rotate_left
    ·simp only [Act.put, List.setIfInBounds_toArray, List.set_cons_zero, List.set_cons_succ, i64_w, i32_w]
     rfl
    refine pure_ (i := 2) (N := some 10) (v := ?_) (a' := ?_) #[false, true, true, false, false, false] rfl rfl (by kernel_rfl) (fun _ _ _ h => h) (Or.inl ⟨by rfl, ?_⟩) ?_ ?_
    rotate_left
    ·intro w'
     go_simp
     with_reducible rfl
    rotate_left
    ·simp only [Act.put, List.setIfInBounds_toArray, List.set_cons_zero, List.set_cons_succ, i64_w, i32_w]
     rfl
    refine take_ (i := 0) (N := some 8) (v := ?_) (a' := ?_) #[true, true, true, false, false, false] rfl rfl (by kernel_rfl) (fun _ _ _ h => h) (Or.inl ⟨by rfl, ?_⟩) hHeld ?_ ?_
    rotate_left
    ·rintro w' ⟨s0, s1, s2, s3, s4, s5, s6, s7, s8, s9, s10, s11, s12, s13, s14, s15⟩
     go_simp
     with_reducible rfl
    rotate_left
    ·simp only [Act.put, List.setIfInBounds_toArray, List.set_cons_zero, List.set_cons_succ, i64_w, i32_w]
     rfl
    refine one_ (i := 3) (N := some 11) #[true, true, true, true, false, false] rfl rfl (by kernel_rfl) (by decide) (fun K hK => ?_)
    refine goes_ Try.func35 (by kernel_rfl) rfl #[.slice none 0 0, .int .u64 (IntKind.u64.wrap (a1)), .int .i64 8] (by rfl) rfl rfl (by (try simp only [List.map_toArray, List.map_cons, List.map_nil]); first | done | rfl | (simp only [*]; done) | (simp only [List.length_drop, List.length_take]; rfl) | (simp only [Act.eval, Array.getD_eq_getD_getElem?, Option.getD_some, *])) ?_
    refine (fuseeref05_Put.calls k _ _ ([] : List Int) (IntKind.u64.wrap (a1)) 8 t166 _ ?side1 ?side2 A4.out).mono ?_
    (case side1 => exact Kd.C_nil _ _)
    (case side2 => exact Nat.le_refl _)
    rintro e w15 ⟨v167, rfl, ho0, hb⟩
    refine ⟨_, rfl, ?_⟩
    have n0_ := qS (Kd.R_lower ho0 (below_size (by repeat (first | (with_reducible first | exact HB.out | apply qpA | apply qpN | apply qp1 | refine qpS ?_ GE165.out) | exact HB.out))))
    have n1_ := qS (qB (g := gb165) (o := .cells #[.int .u8 a0_0, .int .u8 a0_1, .int .u8 a0_2, .int .u8 a0_3, .int .u8 a0_4, .int .u8 a0_5, .int .u8 a0_6, .int .u8 a0_7, .int .u8 a0_8, .int .u8 a0_9, .int .u8 a0_10, .int .u8 a0_11, .int .u8 a0_12, .int .u8 a0_13, .int .u8 a0_14, .int .u8 a0_15] 22 (0, 0)) (by (with_reducible repeat (first | refine qN ?_ _ | refine qD ?_ | refine qA ?_ _)); exact BK165.out) hb)
    have n2_ := qS (below_step (by repeat (first | (with_reducible first | exact HB.out | apply qpA | apply qpN | apply qp1 | refine qpS ?_ GE165.out) | exact HB.out)) hb)
    clear BK165
    clear HB
    have HO168 := n0_
    have BK165 := n1_
    have HB := n2_
    clear n0_ n1_ n2_
    (try clear hb)
    (try clear hb2)
    (try clear hk)
    (try clear hi)
    (try clear ho0)
    obtain ⟨Ao16, co16, eo16⟩ := Kd.R_slice HO168.out
    (first | subst eo16 | (injection eo16 with f1_ f2_ f3_; have f4_ := f1_.symm; have f5_ := f3_.symm; clear f1_ f2_ f3_; subst f4_; subst f5_))
    refine hK.out _ _ ⟨(qC BK165.out 0).trans rfl, (qC BK165.out 1).trans rfl, (qC BK165.out 2).trans rfl, (qC BK165.out 3).trans rfl, (qC BK165.out 4).trans rfl, (qC BK165.out 5).trans rfl, (qC BK165.out 6).trans rfl, (qC BK165.out 7).trans rfl, (qC BK165.out 8).trans rfl, (qC BK165.out 9).trans rfl, (qC BK165.out 10).trans rfl, (qC BK165.out 11).trans rfl, (qC BK165.out 12).trans rfl, (qC BK165.out 13).trans rfl, (qC BK165.out 14).trans rfl, (qC BK165.out 15).trans rfl⟩ (fun hHeld => ?_)
    clear hK K
    refine norm_ (a' := ?_) ?_ ?_
    rotate_left
    ·show Act.put _ (some 11) _ = _
     simp only [Act.put, List.setIfInBounds_toArray, List.set_cons_zero, List.set_cons_succ, i64_w, i32_w]
     rfl
    refine one_ (i := 4) (N := some 12) #[true, true, true, true, true, false] rfl rfl (by kernel_rfl) (by decide) (fun K hK => ?_)
    refine goes_ Try.func9 (by kernel_rfl) rfl #[.agg #[.int .u8 a0_0, .int .u8 a0_1, .int .u8 a0_2, .int .u8 a0_3, .int .u8 a0_4, .int .u8 a0_5, .int .u8 a0_6, .int .u8 a0_7, .int .u8 a0_8, .int .u8 a0_9, .int .u8 a0_10, .int .u8 a0_11, .int .u8 a0_12, .int .u8 a0_13, .int .u8 a0_14, .int .u8 a0_15], .slice Ao16 t166.length co16] (by rfl) rfl rfl (by (try simp only [List.map_toArray, List.map_cons, List.map_nil]); first | done | rfl | (simp only [*]; done) | (simp only [List.length_drop, List.length_take]; rfl) | (simp only [Act.eval, Array.getD_eq_getD_getElem?, Option.getD_some, *])) ?_
    with_reducible refine (fuseeref23_Sum.calls a0_0 a0_1 a0_2 a0_3 a0_4 a0_5 a0_6 a0_7 a0_8 a0_9 a0_10 a0_11 a0_12 a0_13 a0_14 a0_15 _ _ t166 t169 _ ?side1 ?side2 A5.out).mono ?_
    (case side1 => repeat (first | exact (Kd.R_reads' HO168.out).2.2 | (with_reducible refine Kd.C_alloc ?_ _) | (with_reducible refine Kd.C_drewN ?_ _) | (with_reducible refine Kd.C_drew ?_)))
    (case side2 => exact (Kd.R_reads' HO168.out).2.1)
    rintro e w17 ⟨rfl, hb⟩
    refine ⟨_, rfl, ?_⟩
    have n0_ := qS (Kd.R_below (by (with_reducible repeat (first | apply Kd.R_alloc | apply Kd.R_drewN | apply Kd.R_drew)); exact HO168.out) hb)
    have n1_ := qS (qB (g := gb165) (o := .cells #[.int .u8 a0_0, .int .u8 a0_1, .int .u8 a0_2, .int .u8 a0_3, .int .u8 a0_4, .int .u8 a0_5, .int .u8 a0_6, .int .u8 a0_7, .int .u8 a0_8, .int .u8 a0_9, .int .u8 a0_10, .int .u8 a0_11, .int .u8 a0_12, .int .u8 a0_13, .int .u8 a0_14, .int .u8 a0_15] 22 (0, 0)) (by (with_reducible repeat (first | refine qN ?_ _ | refine qD ?_ | refine qA ?_ _)); exact BK165.out) hb)
    have n2_ := qS (below_step (by repeat (first | (with_reducible first | exact HB.out | apply qpA | apply qpN | apply qp1 | refine qpS ?_ GE165.out) | exact HB.out)) hb)
    clear HO168
    clear BK165
    clear HB
    have HO168 := n0_
    have BK165 := n1_
    have HB := n2_
    clear n0_ n1_ n2_
    (try clear hb)
    (try clear hb2)
    (try clear hk)
    (try clear hi)
    refine hK.out _ _ ⟨(qC BK165.out 0).trans rfl, (qC BK165.out 1).trans rfl, (qC BK165.out 2).trans rfl, (qC BK165.out 3).trans rfl, (qC BK165.out 4).trans rfl, (qC BK165.out 5).trans rfl, (qC BK165.out 6).trans rfl, (qC BK165.out 7).trans rfl, (qC BK165.out 8).trans rfl, (qC BK165.out 9).trans rfl, (qC BK165.out 10).trans rfl, (qC BK165.out 11).trans rfl, (qC BK165.out 12).trans rfl, (qC BK165.out 13).trans rfl, (qC BK165.out 14).trans rfl, (qC BK165.out 15).trans rfl⟩ (fun hHeld => ?_)
    clear hK K
    refine norm_ (a' := ?_) ?_ ?_
    rotate_left
    ·show Act.put _ (some 12) _ = _
     simp only [Act.put, List.setIfInBounds_toArray, List.set_cons_zero, List.set_cons_succ, i64_w, i32_w]
     rfl
    refine pure_ (i := 5) (N := some 7) (v := ?_) (a' := ?_) #[true, true, true, true, true, true] rfl rfl (by kernel_rfl) (fun _ _ _ h => h) (Or.inl ⟨by rfl, ?_⟩) ?_ ?_
    rotate_left
    ·intro w'
     go_simp
     with_reducible rfl
    rotate_left
    ·simp only [Act.put, List.setIfInBounds_toArray, List.set_cons_zero, List.set_cons_succ, i64_w, i32_w]
     rfl
    refine done_ (by kernel_rfl) ?_
    try go_wp2
    go_ret
    exact ⟨by first | rfl | (simp [errW_none, errW_some] <;> rfl) | (simp [*, errW_none, errW_some] <;> rfl), by repeat (first | (with_reducible first | exact HB.out | apply qpA | apply qpN | apply qp1 | refine qpS ?_ GE165.out) | exact HB.out)⟩

end Go.Proofs.Ytiljnlhmeolhfaa.MPrfSums
