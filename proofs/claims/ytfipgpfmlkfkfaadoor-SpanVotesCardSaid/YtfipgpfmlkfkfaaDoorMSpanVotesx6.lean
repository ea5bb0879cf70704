/- Printed by wip/gen/mp.py: Go functions as plain Lean functions, and that the calls do what these say. -/
import Derived.Test.YtfipgpfmlkfkfaaDoorMSpanVotesx0
import Derived.Test.YtfipgpfmlkfkfaaDoorMSpanVotesx1
import Derived.Test.YtfipgpfmlkfkfaaDoorMSpanVotesx3
import Derived.Test.YtfipgpfmlkfkfaaDoorMSpanVotesx4
import Derived.Test.YtfipgpfmlkfkfaaDoorMSpanVotesx5
namespace Go.Proofs.YtfipgpfmlkfkfaaDoor.MSpanVotes
open Go.RowKit Go.Proofs.YtfipgpfmlkfkfaaDoorW.PrintWords Go.Proofs.YtfipgpfmlkfkfaaDoorW.PrintLast Go.Proofs.YtfipgpfmlkfkfaaDoorW.PrintMore
attribute [local go_sem] max2_int min2_int max_two min_two max_three min_three max_four min_four   -- for this text's walks alone
set_option linter.unusedVariables false
set_option linter.unusedSimpArgs false

attribute [local go_sem high] eqA68
/-! ### fuseelaw13_SpanVotes: function 8 -/
def fuseelaw13_SpanVotes.f (k : Nat) (l0 : List (S73)) : Option (Bool) := if (l0.length : Int) > 60 then ((fuseelaw13_sure.f k).bind fun t194 => (some t194)) else ((fuseelaw13_give.f k l0).bind fun t195 => ((span_Vote.f k t195).bind fun bt198 => ((fuseeref13_Vote.f k l0).bind fun bt203 => (if (bt198.1 == bt203.1 && (bt198.2.1 == bt203.2.1)) = true then (if bt198.2.2.1 = bt203.2.2.1 then ((fuseelaw13_num.f bt198.2.2.2).bind fun t208 => (if t208 = bt203.2.2.2 then ((fuseelaw13_sure.f k).bind fun t209 => (some t209)) else (none))) else (none)) else (none)))))
theorem fuseelaw13_SpanVotes.mono : ∀ a0 k, LeO (fuseelaw13_SpanVotes.f k a0) (fuseelaw13_SpanVotes.f (k + 1) a0) := by
 intro a0 k
 unfold fuseelaw13_SpanVotes.f
 repeat' first
   | (with_reducible exact fuseelaw13_give.mono _ _)
   | (with_reducible exact fuseelaw13_sure.mono _)
   | (with_reducible exact fuseeref13_Vote.mono _ _)
   | (with_reducible exact span_Vote.mono _ _)
   | (with_reducible exact LeO.refl _)
   | (with_reducible exact LeO.none _)
   | (with_reducible refine LeO.ite ?_ ?_)
   | (with_reducible refine LeO.bind ?_ (fun _ => ?_))
   | exact fuseelaw13_give.mono _ _
   | exact fuseelaw13_sure.mono _
   | exact fuseeref13_Vote.mono _ _
   | exact span_Vote.mono _ _
   | exact LeO.none _
   | refine LeO.ite ?_ ?_
   | refine LeO.bind ?_ (fun _ => ?_)
set_option maxHeartbeats 8000000 in
set_option maxRecDepth 100000 in
theorem fuseelaw13_SpanVotes.calls (k : Nat) (A0 : Option Addr) (c0 : Nat) (l0 : List (S73)) (r : Bool) (w : World) (hgL : HG w) (hr0 : Kd.C k73 w A0 l0.length l0) (hc0 : l0.length ≤ c0) (h : fuseelaw13_SpanVotes.f k l0 = some r) :
  Calls Tryd.prog 8 #[.slice A0 l0.length c0] w fun e w' => e = .returned (.bool r) ∧ Below w.heap.size w w' := by
 have hu68 := Tryd.underlying68
 have hu73 := Tryd.underlying73
 have HR0 := qS hr0
 have HC0 := qS hc0
 clear hr0 hc0
 have HB := qS (Below.refl w.heap.size w)
 have H : (if (l0.length : Int) > 60 then ((fuseelaw13_sure.f k).bind fun t194 => (some t194)) else ((fuseelaw13_give.f k l0).bind fun t195 => ((span_Vote.f k t195).bind fun bt198 => ((fuseeref13_Vote.f k l0).bind fun bt203 => (if (bt198.1 == bt203.1 && (bt198.2.1 == bt203.2.1)) = true then (if bt198.2.2.1 = bt203.2.2.1 then ((fuseelaw13_num.f bt198.2.2.2).bind fun t208 => (if t208 = bt203.2.2.2 then ((fuseelaw13_sure.f k).bind fun t209 => (some t209)) else (none))) else (none)) else (none)))))) = some r := h
 clear h
 by_cases c2 : (l0.length : Int) > 60
 ·rw [if_pos c2] at H
  have c2b0 : decide (60 < (l0.length : Int)) = true := decide_eq_true c2
  have c2b1 : decide (60 < l0.length) = true := decide_eq_true (by omega)
  clear c2
  replace H := Option.bind_eq_some_iff.mp H
  obtain ⟨t194, A30, H⟩ := H
  replace H : (some t194) = some r := H
  have A3 := qS A30
  clear A30
  as_aux_lemma =>
   obtain rfl := Option.some.inj H
   go_enter Tryd.func8, Tryd.ntmps8
   go_wp2_with (first | ((with_reducible refine gate_callee (f := 34) rfl ?_); refine goesL_ (some 12) rfl rfl Tryd.func34 (by kernel_rfl) rfl #[] rfl (by (try simp only [List.map_toArray, List.map_cons, List.map_nil]); first | done | rfl | (simp only [*]; done) | (simp only [List.length_drop, List.length_take]; rfl)) ?_; (with_reducible refine (fuseelaw13_sure.calls k  t194 _ ?side1 A3.out).mono ?_); (case side1 => exact HG.below hgL (Nat.le_refl _) (by repeat (first | (with_reducible first | exact HB.out | apply qpA | apply qpN | apply qp1) | exact HB.out))); rintro e w4 ⟨rfl, hb⟩; refine ⟨_, rfl, ?_⟩; have n0_ := qS (below_step (by repeat (first | (with_reducible first | exact HB.out | apply qpA | apply qpN | apply qp1) | exact HB.out)) hb); clear HB; have HB := n0_; clear n0_; (try clear hb); (try clear hb2); (try clear hk); (try clear hi)))
   go_ret
   exact ⟨by first | rfl | (simp [errW_none, errW_some] <;> rfl) | (simp [*, errW_none, errW_some] <;> rfl), by repeat (first | (with_reducible first | exact HB.out | apply qpA | apply qpN | apply qp1) | exact HB.out)⟩
 ·rw [if_neg c2] at H
  have c2b0 : decide (60 < (l0.length : Int)) = false := decide_eq_false c2
  have c2b1 : decide (60 < l0.length) = false := decide_eq_false (by omega)
  clear c2
  replace H := Option.bind_eq_some_iff.mp H
  obtain ⟨t195, A50, H⟩ := H
  replace H : ((span_Vote.f k t195).bind fun bt198 => ((fuseeref13_Vote.f k l0).bind fun bt203 => (if (bt198.1 == bt203.1 && (bt198.2.1 == bt203.2.1)) = true then (if bt198.2.2.1 = bt203.2.2.1 then ((fuseelaw13_num.f bt198.2.2.2).bind fun t208 => (if t208 = bt203.2.2.2 then ((fuseelaw13_sure.f k).bind fun t209 => (some t209)) else (none))) else (none)) else (none)))) = some r := H
  have A5 := qS A50
  clear A50
  replace H := Option.bind_eq_some_iff.mp H
  obtain ⟨⟨t198, t199, t200, t201⟩, A60, H⟩ := H
  replace H : ((fuseeref13_Vote.f k l0).bind fun bt203 => (if (t198 == bt203.1 && (t199 == bt203.2.1)) = true then (if t200 = bt203.2.2.1 then ((fuseelaw13_num.f t201).bind fun t208 => (if t208 = bt203.2.2.2 then ((fuseelaw13_sure.f k).bind fun t209 => (some t209)) else (none))) else (none)) else (none))) = some r := H
  have A6 := qS A60
  clear A60
  replace H := Option.bind_eq_some_iff.mp H
  obtain ⟨⟨t203, t204, t205, t206⟩, A70, H⟩ := H
  replace H : (if (t198 == t203 && (t199 == t204)) = true then (if t200 = t205 then ((fuseelaw13_num.f t201).bind fun t208 => (if t208 = t206 then ((fuseelaw13_sure.f k).bind fun t209 => (some t209)) else (none))) else (none)) else (none)) = some r := H
  have A7 := qS A70
  clear A70
  by_cases c8 : (t198 == t203 && (t199 == t204)) = true
  ·rw [if_pos c8] at H
   have c8b0 : (t198 == t203 && (t199 == t204)) = true := c8
   (try (have c8b1 : decide (t198 = t203 && (t199 == t204)) = true := by simpa using c8))
   (try (have c8b2 : (t198 == t203 && (t199 == t204)) = true := by simpa using c8))
   clear c8
   by_cases c9 : t200 = t205
   ·rw [if_pos c9] at H
    have c9b0 : (t200 == t205) = true := beq_iff_eq.mpr c9
    have c9b1 : (t200 != t205) = false := bne_eq_false_iff_eq.mpr c9
    clear c9
    replace H := Option.bind_eq_some_iff.mp H
    obtain ⟨t208, A100, H⟩ := H
    replace H : (if t208 = t206 then ((fuseelaw13_sure.f k).bind fun t209 => (some t209)) else (none)) = some r := H
    have A10 := qS A100
    clear A100
    by_cases c11 : t208 = t206
    ·rw [if_pos c11] at H
     have c11b0 : (t208 == t206) = true := beq_iff_eq.mpr c11
     have c11b1 : (t208 != t206) = false := bne_eq_false_iff_eq.mpr c11
     clear c11
     replace H := Option.bind_eq_some_iff.mp H
     obtain ⟨t209, A120, H⟩ := H
     replace H : (some t209) = some r := H
     have A12 := qS A120
     clear A120
     as_aux_lemma =>
      obtain rfl := Option.some.inj H
      go_enter Tryd.func8, Tryd.ntmps8
      go_wp2_with (first | ((with_reducible refine gate_callee (f := 36) rfl ?_); refine goesL_ (some 15) rfl rfl Tryd.func36 (by kernel_rfl) rfl #[.slice A0 l0.length c0] rfl (by (try simp only [List.map_toArray, List.map_cons, List.map_nil]); first | done | rfl | (simp only [*]; done) | (simp only [List.length_drop, List.length_take]; rfl)) ?_; (with_reducible refine (fuseelaw13_give.calls k _ _ l0 t195 _ ?side1 ?side2 A5.out).mono ?_); (case side1 => repeat (first | exact HR0.out | (with_reducible refine Kd.C_alloc ?_ _) | (with_reducible refine Kd.C_drewN ?_ _) | (with_reducible refine Kd.C_drew ?_))); (case side2 => exact HC0.out); rintro e w13 ⟨v196, rfl, ho0, hb⟩; refine ⟨_, rfl, ?_⟩; have n0_ := qS (Kd.R_lower ho0 (below_size (by repeat (first | (with_reducible first | exact HB.out | apply qpA | apply qpN | apply qp1) | exact HB.out)))); have n1_ := qS (below_step (by repeat (first | (with_reducible first | exact HB.out | apply qpA | apply qpN | apply qp1) | exact HB.out)) hb); clear HB; have HO197 := n0_; have HB := n1_; clear n0_ n1_; (try clear hb); (try clear hb2); (try clear hk); (try clear hi); (try clear ho0); obtain ⟨Ao14, co14, eo14⟩ := Kd.R_slice HO197.out; subst eo14) | ((with_reducible refine gate_callee (f := 35) rfl ?_); refine goesL_ (some 16) rfl rfl Tryd.func35 (by kernel_rfl) rfl #[.slice Ao14 t195.length co14] rfl (by (try simp only [List.map_toArray, List.map_cons, List.map_nil]); first | done | rfl | (simp only [*]; done) | (simp only [List.length_drop, List.length_take]; rfl)) ?_; (with_reducible refine (span_Vote.calls k _ _ t195 t198 t199 t200 t201 _ ?side1 ?side2 A6.out).mono ?_); (case side1 => repeat (first | exact (Kd.R_reads' HO197.out).2.2 | (with_reducible refine Kd.C_alloc ?_ _) | (with_reducible refine Kd.C_drewN ?_ _) | (with_reducible refine Kd.C_drew ?_))); (case side2 => exact (Kd.R_reads' HO197.out).2.1); rintro e w15 ⟨rfl, hb⟩; refine ⟨_, rfl, ?_⟩; have n0_ := qS (Kd.R_below (by (with_reducible repeat (first | apply Kd.R_alloc | apply Kd.R_drewN | apply Kd.R_drew)); exact HO197.out) hb); have n1_ := qS (below_step (by repeat (first | (with_reducible first | exact HB.out | apply qpA | apply qpN | apply qp1) | exact HB.out)) hb); clear HO197; clear HB; have HO197 := n0_; have HB := n1_; clear n0_ n1_; (try clear hb); (try clear hb2); (try clear hk); (try clear hi); (try simp only [errW_none, errW_some])) | ((with_reducible refine gate_dst (N := 3) rfl ?_); refine box_event ?hg (N := 3) ?hd (cs := #[.int .i64 0, .int .i64 0]) (t := 68) ?hr ?_; (case hd => rfl); (case hg => rfl); (case hr => first | (go_simp; done) | (go_simp; rfl)); intro gb202 hg w16 hbox hb; have n0_ := qS (Kd.R_below (Kd.R_elderB (by (with_reducible repeat (first | apply Kd.R_alloc | apply Kd.R_drewN | apply Kd.R_drew)); exact HO197.out) gb202 (Nat.le_of_eq hg.symm)) hb); have n1_ := qS (below_step (by repeat (first | (with_reducible first | exact HB.out | apply qpA | apply qpN | apply qp1) | exact HB.out)) hb); have n2_ := qS (hbox); have n3_ := qS ((by rw [hg]; exact (below_size (by repeat (first | (with_reducible first | exact HB.out | apply qpA | apply qpN | apply qp1) | exact HB.out))) : w.heap.size ≤ gb202)); have n4_ := qS ((by rw [hg]; exact (below_size (by repeat (first | (with_reducible first | exact HB.out | apply qpA | apply qpN | apply qp1) | exact HB.out))) : w.heap.size ≤ gb202)); clear HO197; clear HB; have HO197 := n0_; have HB := n1_; have BK202 := n2_; have GW202 := n3_; have GE202 := n4_; clear n0_ n1_ n2_ n3_ n4_; clear hb hbox hg; have hcz17_0 : w16.cell? ⟨gb202, 0, none⟩ = some (.int .i64 0) := (qC BK202.out 0).trans rfl; have hcz17_1 : w16.cell? ⟨gb202, 1, none⟩ = some (.int .i64 0) := (qC BK202.out 1).trans rfl; have hfz17_0 := qF BK202.out 0; have hfz17_1 := qF BK202.out 1) | ((with_reducible refine gate_callee (f := 37) rfl ?_); refine goesL_ (some 22) rfl rfl Tryd.func37 (by kernel_rfl) rfl #[.slice A0 l0.length c0] rfl (by (try simp only [List.map_toArray, List.map_cons, List.map_nil]); first | done | rfl | (simp only [*]; done) | (simp only [List.length_drop, List.length_take]; rfl)) ?_; (with_reducible refine (fuseeref13_Vote.calls k _ _ l0 t203 t204 t205 t206 _ ?side1 ?side2 A7.out).mono ?_); (case side1 => exact Kd.C_below HR0.out (by repeat (first | (with_reducible first | exact HB.out | apply qpA | apply qpN | apply qp1 | refine qpS ?_ GE202.out) | exact HB.out))); (case side2 => exact HC0.out); rintro e w18 ⟨rfl, hb⟩; refine ⟨_, rfl, ?_⟩; have n0_ := qS (Kd.R_below (by (with_reducible repeat (first | apply Kd.R_alloc | apply Kd.R_drewN | apply Kd.R_drew)); exact (Kd.R_mono (Kd.R_far (p := ⟨gb202, 1, none⟩) (Kd.R_far (p := ⟨gb202, 0, none⟩) (Kd.R_mono HO197.out (fun k_ hk => (⟨hk, hk.2⟩ : _ ∧ k_ ≠ gb202))) (fun _ hk => hk.2) (.int .i64 t198)) (fun _ hk => hk.2) (.int .i64 t199)) (fun _ h_ => h_.1))) hb); have n1_ := qS (qB (g := gb202) (o := .cells #[.int .i64 t198, .int .i64 t199] 68 (0, 0)) (by (with_reducible repeat (first | refine qN ?_ _ | refine qD ?_ | refine qA ?_ _)); refine blk_put (cs := #[.int .i64 t198, .int .i64 0]) ?_ 1 _ rfl; (with_reducible repeat (first | refine qN ?_ _ | refine qD ?_ | refine qA ?_ _)); refine blk_put (cs := #[.int .i64 0, .int .i64 0]) ?_ 0 _ rfl; (with_reducible repeat (first | refine qN ?_ _ | refine qD ?_ | refine qA ?_ _)); exact BK202.out) hb); have n2_ := qS (below_step (by repeat (first | (with_reducible first | exact HB.out | apply qpA | apply qpN | apply qp1 | refine qpS ?_ GE202.out) | exact HB.out)) hb); clear HO197; clear BK202; clear HB; have HO197 := n0_; have BK202 := n1_; have HB := n2_; clear n0_ n1_ n2_; (try clear hb); (try clear hb2); (try clear hk); (try clear hi)) | ((with_reducible refine gate_dst (N := 6) rfl ?_); refine box_event ?hg (N := 6) ?hd (cs := #[.int .i64 0, .int .i64 0]) (t := 73) ?hr ?_; (case hd => rfl); (case hg => rfl); (case hr => first | (go_simp; done) | (go_simp; rfl)); intro gb207 hg w19 hbox hb; have n0_ := qS (Kd.R_below (by (with_reducible repeat (first | apply Kd.R_alloc | apply Kd.R_drewN | apply Kd.R_drew)); exact HO197.out) hb); have n1_ := qS (qB (g := gb202) (o := .cells #[.int .i64 t198, .int .i64 t199] 68 (0, 0)) (by (with_reducible repeat (first | refine qN ?_ _ | refine qD ?_ | refine qA ?_ _)); exact BK202.out) hb); have n2_ := qS (below_step (by repeat (first | (with_reducible first | exact HB.out | apply qpA | apply qpN | apply qp1 | refine qpS ?_ GE202.out) | exact HB.out)) hb); have n3_ := qS (hbox); have n4_ := qS ((by rw [hg]; exact (below_size (by repeat (first | (with_reducible first | exact HB.out | apply qpA | apply qpN | apply qp1 | refine qpS ?_ GE202.out) | exact HB.out))) : w.heap.size ≤ gb207)); have n5_ := qS ((by rw [hg]; exact (below_size (by repeat (first | (with_reducible first | exact HB.out | apply qpA | apply qpN | apply qp1 | refine qpS ?_ GE202.out) | exact HB.out))) : w.heap.size ≤ gb207)); have n6_ := qS ((by rw [hg]; exact Nat.ne_of_lt (blk_lt (g := gb202) (o := .cells #[.int .i64 t198, .int .i64 t199] 68 (0, 0)) (by (with_reducible repeat (first | refine qN ?_ _ | refine qD ?_ | refine qA ?_ _)); exact BK202.out)) : gb202 ≠ gb207)); have n7_ := qS ((by rw [hg]; exact Nat.ne_of_gt (blk_lt (g := gb202) (o := .cells #[.int .i64 t198, .int .i64 t199] 68 (0, 0)) (by (with_reducible repeat (first | refine qN ?_ _ | refine qD ?_ | refine qA ?_ _)); exact BK202.out)) : gb207 ≠ gb202)); clear HO197; clear BK202; clear HB; have HO197 := n0_; have BK202 := n1_; have HB := n2_; have BK207 := n3_; have GW207 := n4_; have GE207 := n5_; have NB202_207 := n6_; have NB207_202 := n7_; clear n0_ n1_ n2_ n3_ n4_ n5_ n6_ n7_; clear hb hbox hg; have hnb20 := NB207_202.out; have hnc20 := NB202_207.out; have hcz21_0 : w19.cell? ⟨gb207, 0, none⟩ = some (.int .i64 0) := (qC BK207.out 0).trans rfl; have hcz21_1 : w19.cell? ⟨gb207, 1, none⟩ = some (.int .i64 0) := (qC BK207.out 1).trans rfl; have hfz21_0 := qF BK207.out 0; have hfz21_1 := qF BK207.out 1; have hcz22_0 : w19.cell? ⟨gb202, 0, none⟩ = some (.int .i64 t198) := (qC BK202.out 0).trans rfl; have hcz22_1 : w19.cell? ⟨gb202, 1, none⟩ = some (.int .i64 t199) := (qC BK202.out 1).trans rfl; have hfz22_0 := qF BK202.out 0; have hfz22_1 := qF BK202.out 1; have CA10 := fun W (hgW : HG W) => fuseelaw13_num.calls t201 t208 W hgW A10.out; try simp only [errW_none, errW_some] at CA10) | (go_at_call 38; (with_reducible refine (CA10 _ (HG.below hgL (Nat.le_refl _) (by repeat (first | (with_reducible first | exact HB.out | apply qpA | apply qpN | apply qp1 | refine qpS ?_ GE202.out | refine qpS ?_ GE207.out) | exact HB.out)))).mono ?_); rintro e w23 ⟨rfl, hb⟩; have n0_ := qS (Kd.R_below (by (with_reducible repeat (first | apply Kd.R_alloc | apply Kd.R_drewN | apply Kd.R_drew)); exact (Kd.R_mono (Kd.R_far (p := ⟨gb207, 1, none⟩) (Kd.R_far (p := ⟨gb207, 0, none⟩) (Kd.R_types HO197.out BK207.out (by decide)) (fun _ hk => hk.2) (.int .i64 t203)) (fun _ hk => hk.2) (.int .i64 t204)) (fun _ h_ => h_.1))) hb); have n1_ := qS (qB (g := gb202) (o := .cells #[.int .i64 t198, .int .i64 t199] 68 (0, 0)) (by (with_reducible repeat (first | refine qN ?_ _ | refine qD ?_ | refine qA ?_ _)); refine blk_far ?_ NB202_207.out _; (with_reducible repeat (first | refine qN ?_ _ | refine qD ?_ | refine qA ?_ _)); refine blk_far ?_ NB202_207.out _; (with_reducible repeat (first | refine qN ?_ _ | refine qD ?_ | refine qA ?_ _)); exact BK202.out) hb); have n2_ := qS (qB (g := gb207) (o := .cells #[.int .i64 t203, .int .i64 t204] 73 (0, 0)) (by (with_reducible repeat (first | refine qN ?_ _ | refine qD ?_ | refine qA ?_ _)); refine blk_put (cs := #[.int .i64 t203, .int .i64 0]) ?_ 1 _ rfl; (with_reducible repeat (first | refine qN ?_ _ | refine qD ?_ | refine qA ?_ _)); refine blk_put (cs := #[.int .i64 0, .int .i64 0]) ?_ 0 _ rfl; (with_reducible repeat (first | refine qN ?_ _ | refine qD ?_ | refine qA ?_ _)); exact BK207.out) hb); have n3_ := qS (below_step (by repeat (first | (with_reducible first | exact HB.out | apply qpA | apply qpN | apply qp1 | refine qpS ?_ GE202.out | refine qpS ?_ GE207.out) | exact HB.out)) hb); clear HO197; clear BK202; clear BK207; clear HB; have HO197 := n0_; have BK202 := n1_; have BK207 := n2_; have HB := n3_; clear n0_ n1_ n2_ n3_; (try clear hb); (try clear hb2); (try clear hk); (try clear hi)) | (go_at_call 34; (with_reducible refine (fuseelaw13_sure.calls k  t209 _ ?side1 A12.out).mono ?_); (case side1 => exact HG.below hgL (Nat.le_refl _) (by repeat (first | (with_reducible first | exact HB.out | apply qpA | apply qpN | apply qp1 | refine qpS ?_ GE202.out | refine qpS ?_ GE207.out) | exact HB.out))); rintro e w24 ⟨rfl, hb⟩; have n0_ := qS (Kd.R_below (by (with_reducible repeat (first | apply Kd.R_alloc | apply Kd.R_drewN | apply Kd.R_drew)); exact HO197.out) hb); have n1_ := qS (qB (g := gb202) (o := .cells #[.int .i64 t198, .int .i64 t199] 68 (0, 0)) (by (with_reducible repeat (first | refine qN ?_ _ | refine qD ?_ | refine qA ?_ _)); exact BK202.out) hb); have n2_ := qS (qB (g := gb207) (o := .cells #[.int .i64 t203, .int .i64 t204] 73 (0, 0)) (by (with_reducible repeat (first | refine qN ?_ _ | refine qD ?_ | refine qA ?_ _)); exact BK207.out) hb); have n3_ := qS (below_step (by repeat (first | (with_reducible first | exact HB.out | apply qpA | apply qpN | apply qp1 | refine qpS ?_ GE202.out | refine qpS ?_ GE207.out) | exact HB.out)) hb); clear HO197; clear BK202; clear BK207; clear HB; have HO197 := n0_; have BK202 := n1_; have BK207 := n2_; have HB := n3_; clear n0_ n1_ n2_ n3_; (try clear hb); (try clear hb2); (try clear hk); (try clear hi)))
      go_ret
      exact ⟨by first | rfl | (simp [errW_none, errW_some] <;> rfl) | (simp [*, errW_none, errW_some] <;> rfl), by repeat (first | (with_reducible first | exact HB.out | apply qpA | apply qpN | apply qp1 | refine qpS ?_ GE202.out | refine qpS ?_ GE207.out) | exact HB.out)⟩
    ·rw [if_neg c11] at H
     exact absurd H (by simp)
   ·rw [if_neg c9] at H
    exact absurd H (by simp)
  ·rw [if_neg c8] at H
   exact absurd H (by simp)

end Go.Proofs.YtfipgpfmlkfkfaaDoor.MSpanVotes
