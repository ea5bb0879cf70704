import Derived.Test.YtnlaiiophongmaaDoorMLeapMorex0
import Derived.Test.YtnlaiiophongmaaDoorMLeapMorex1
import Derived.Test.YtnlaiiophongmaaDoorMLeapMorex2
import Derived.Test.YtnlaiiophongmaaDoorMLeapMorex3
import Derived.Test.YtnlaiiophongmaaDoorMLeapMorex4
import Derived.Test.YtnlaiiophongmaaDoorMLeapMorex5
import Derived.Test.YtnlaiiophongmaaDoorMLeapMorex6
namespace Go.Proofs.YtnlaiiophongmaaDoor.MLeapMore
open Go.RowKit Go.Proofs.YtnlaiiophongmaaDoorW.PrintWords Go.Proofs.YtnlaiiophongmaaDoorW.PrintLast Go.Proofs.YtnlaiiophongmaaDoorW.PrintMore
attribute [local go_sem] max2_int min2_int max_two min_two max_three min_three max_four min_four   -- for this text's walks alone
set_option linter.unusedVariables false
set_option linter.unusedSimpArgs false
set_option maxHeartbeats 8000000 in
set_option maxRecDepth 100000 in
theorem fuseelaw09_LeapMore.calls (k : Nat) (a0_0 : Int) (a0_1 : Int) (A0_2 : Option Addr) (c0_2 : Nat) (l0_2 : List Int) (a1 : Int) (a2 : Int) (r : Bool) (w : World) (hgL : HG w) (hr0_2 : Kd.C (Kd.int .i64) w A0_2 l0_2.length l0_2) (hc0_2 : l0_2.length ≤ c0_2) (h : fuseelaw09_LeapMore.f k a0_0 a0_1 l0_2 a1 a2 = some r) :
  Calls Tryd.prog 10 #[.agg #[.int .i64 a0_0, .int .i64 a0_1, .slice A0_2 l0_2.length c0_2], .int .i64 a1, .int .i64 a2] w fun e w' => e = .returned (.bool r) ∧ Below w.heap.size w w' := by
 have hu95 := Tryd.underlying95
 have hu96 := Tryd.underlying96
 have hu105 := Tryd.underlying105
 have hu28 := Tryd.underlying28
 have hu128 := Tryd.underlying128
 have HR0_2 := qS hr0_2
 have HC0_2 := qS hc0_2
 clear hr0_2 hc0_2
 have HB := qS (Below.refl w.heap.size w)
 have H : (if (l0_2.length : Int) > 31 then (fuseelaw09_LeapMore.j0 k a1 a2 true a0_0 a0_1 l0_2 a0_0 a0_1 l0_2) else ((leap_Check.f k a0_0 a0_1 l0_2).bind fun t170 => (if t170.isNone = true then (if a0_1 ≤ (-50000) then (fuseelaw09_LeapMore.j0 k a1 a2 true a0_0 a0_1 l0_2 a0_0 a0_1 l0_2) else (if (l0_2.length : Int) > 0 then (if 0 ≤ (wrap64 ((l0_2.length : Int) - 1)) then (if (wrap64 ((l0_2.length : Int) - 1)) < (l0_2.length : Int) then (if (rd l0_2 (wrap64 ((l0_2.length : Int) - 1))) = (wrap64 (a0_1 - 1)) then (fuseelaw09_LeapMore.j0 k a1 a2 true a0_0 a0_1 l0_2 a0_0 a0_1 l0_2) else (fuseelaw09_LeapMore.j0 k a1 a2 (decide (a0_1 > 49000)) a0_0 a0_1 l0_2 a0_0 a0_1 l0_2)) else (none)) else (none)) else (fuseelaw09_LeapMore.j0 k a1 a2 (decide (a0_1 > 49000)) a0_0 a0_1 l0_2 a0_0 a0_1 l0_2))) else (fuseelaw09_LeapMore.j0 k a1 a2 true a0_0 a0_1 l0_2 a0_0 a0_1 l0_2)))) = some r := h
 clear h
 have HC4 := qS H
 clear H
 go_enter Tryd.func10, Tryd.ntmps10
 go_upto_region 2 with (first | ((with_reducible refine gate_dst (N := 3) rfl ?_); (try (refine gate_guard (by rfl) ?_; dsimp only)); refine box_event ?hg (N := 3) ?hd (cs := #[.int .i64 a0_0, .int .i64 a0_1, .slice A0_2 l0_2.length c0_2]) (t := 95) ?hr ?_; (case hd => rfl); (case hg => rfl); (case hr => first | (go_simp; done) | (go_simp; rfl)); intro gb168 hg w5 hbox hb; have n0_ := qS (below_step (by repeat (first | (with_reducible first | exact HB.out | apply qpA | apply qpN | apply qp1) | exact HB.out)) hb); have n1_ := qS (hbox); have n2_ := qS ((by rw [hg]; exact (below_size (by repeat (first | (with_reducible first | exact HB.out | apply qpA | apply qpN | apply qp1) | exact HB.out))) : w.heap.size ≤ gb168)); have n3_ := qS ((by rw [hg]; exact (below_size (by repeat (first | (with_reducible first | exact HB.out | apply qpA | apply qpN | apply qp1) | exact HB.out))) : w.heap.size ≤ gb168)); clear HB; have HB := n0_; have BK168 := n1_; have GW168 := n2_; have GE168 := n3_; clear n0_ n1_ n2_ n3_; clear hb hbox hg; have hcz6_0 : w5.cell? ⟨gb168, 0, none⟩ = some (.int .i64 a0_0) := (qC BK168.out 0).trans rfl; have hcz6_1 : w5.cell? ⟨gb168, 1, none⟩ = some (.int .i64 a0_1) := (qC BK168.out 1).trans rfl; have hcz6_2 : w5.cell? ⟨gb168, 2, none⟩ = some (.slice A0_2 l0_2.length c0_2) := (qC BK168.out 2).trans rfl; have hfz6_0 := qF BK168.out 0; have hfz6_1 := qF BK168.out 1; have hfz6_2 := qF BK168.out 2) | ((with_reducible refine gate_dst (N := 7) rfl ?_); (try (refine gate_guard (by rfl) ?_; dsimp only)); refine box_event ?hg (N := 7) ?hd (cs := #[.int .i64 0, .int .i64 0, .slice none 0 0]) (t := 96) ?hr ?_; (case hd => rfl); (case hg => rfl); (case hr => first | (go_simp; done) | (go_simp; rfl)); intro gb169 hg w7 hbox hb; have n0_ := qS (qB (g := gb168) (o := .cells #[.int .i64 a0_0, .int .i64 a0_1, .slice A0_2 l0_2.length c0_2] 95 (0, 0)) (by (with_reducible repeat (first | refine qN ?_ _ | refine qD ?_ | refine qA ?_ _)); exact BK168.out) hb); have n1_ := qS (below_step (by repeat (first | (with_reducible first | exact HB.out | apply qpA | apply qpN | apply qp1 | refine qpS ?_ GE168.out) | exact HB.out)) hb); have n2_ := qS (hbox); have n3_ := qS ((by rw [hg]; exact (below_size (by repeat (first | (with_reducible first | exact HB.out | apply qpA | apply qpN | apply qp1 | refine qpS ?_ GE168.out) | exact HB.out))) : w.heap.size ≤ gb169)); have n4_ := qS ((by rw [hg]; exact (below_size (by repeat (first | (with_reducible first | exact HB.out | apply qpA | apply qpN | apply qp1 | refine qpS ?_ GE168.out) | exact HB.out))) : w.heap.size ≤ gb169)); have n5_ := qS ((by rw [hg]; exact Nat.ne_of_lt (blk_lt (g := gb168) (o := .cells #[.int .i64 a0_0, .int .i64 a0_1, .slice A0_2 l0_2.length c0_2] 95 (0, 0)) (by (with_reducible repeat (first | refine qN ?_ _ | refine qD ?_ | refine qA ?_ _)); exact BK168.out)) : gb168 ≠ gb169)); have n6_ := qS ((by rw [hg]; exact Nat.ne_of_gt (blk_lt (g := gb168) (o := .cells #[.int .i64 a0_0, .int .i64 a0_1, .slice A0_2 l0_2.length c0_2] 95 (0, 0)) (by (with_reducible repeat (first | refine qN ?_ _ | refine qD ?_ | refine qA ?_ _)); exact BK168.out)) : gb169 ≠ gb168)); clear BK168; clear HB; have BK168 := n0_; have HB := n1_; have BK169 := n2_; have GW169 := n3_; have GE169 := n4_; have NB168_169 := n5_; have NB169_168 := n6_; clear n0_ n1_ n2_ n3_ n4_ n5_ n6_; clear hb hbox hg; have hnb8 := NB169_168.out; have hnc8 := NB168_169.out; have hcz9_0 : w7.cell? ⟨gb169, 0, none⟩ = some (.int .i64 0) := (qC BK169.out 0).trans rfl; have hcz9_1 : w7.cell? ⟨gb169, 1, none⟩ = some (.int .i64 0) := (qC BK169.out 1).trans rfl; have hcz9_2 : w7.cell? ⟨gb169, 2, none⟩ = some (.slice none 0 0) := (qC BK169.out 2).trans rfl; have hfz9_0 := qF BK169.out 0; have hfz9_1 := qF BK169.out 1; have hfz9_2 := qF BK169.out 2))
 (try simp only [Act.put, List.setIfInBounds_toArray, List.set_cons_zero, List.set_cons_succ])
 go_cut [58] (fun v58 wc => ∃ (kq : Nat) (x58_3 : Bool), v58 = .bool x58_3 ∧ Aside0 (fuseelaw09_LeapMore.j0 kq a1 a2 x58_3 a0_0 a0_1 l0_2 a0_0 a0_1 l0_2 = some r) ∧ Aside0 (kq ≤ k) ∧ Aside0 (wc.heap[gb168]? = some (.cells #[.int .i64 a0_0, .int .i64 a0_1, (.slice A0_2 l0_2.length c0_2)] 95 (0, 0))) ∧ Aside0 (wc.heap[gb169]? = some (.cells #[.int .i64 a0_0, .int .i64 a0_1, (.slice A0_2 l0_2.length c0_2)] 96 (0, 0))) ∧ Aside0 (Below w.heap.size w wc))
 case first => exact first_ k a0_0 a0_1 A0_2 c0_2 l0_2 a1 a2 r w hgL hu95 hu96 hu105 hu28 hu128 HR0_2 HC0_2 HC4 gb168 w5 GW168 GE168 hcz6_0 hcz6_1 hcz6_2 hfz6_0 hfz6_1 hfz6_2 gb169 w7 BK168 HB BK169 GW169 GE169 NB168_169 NB169_168 hnb8 hnc8 hcz9_0 hcz9_1 hcz9_2 hfz9_0 hfz9_1 hfz9_2 _ _ (by assumption) (by assumption) _
 case rest =>
  clear HC4
  try clear c1
  try clear q1
  try clear c2
  try clear p2
  try clear c5
  try clear q17
  try clear c18
  try clear c18b0
  try clear c18b1
  try clear c20
  try clear q171
  obtain ⟨kq, x58_3, rfl, HA, HJ3, BK168, BK169, HB⟩ := hcut
  cases kq with
  | zero => exact absurd HA.out (by simp [fuseelaw09_LeapMore.j0])
  | succ kj3 =>
   have H := HA.out
   clear HA
   simp only [fuseelaw09_LeapMore.j0] at H
   by_cases c35 : x58_3 = true
   ·subst c35
    have H1 : ((fuseelaw09_sure.f kj3).bind fun t173 => (some t173)) = some r := by rw [if_pos rfl] at H; exact H
    clear H
    have H := H1
    clear H1
    replace H := Option.bind_eq_some_iff.mp H
    obtain ⟨t173, A360, H⟩ := H
    replace H : (some t173) = some r := H
    have A36 := qS A360
    clear A360
    as_aux_lemma =>
     obtain rfl := Option.some.inj H
     go_wp2_with (first | ((with_reducible refine gate_callee (f := 47) rfl ?_); refine goesL_ (some 59) rfl rfl Tryd.func47 (by kernel_rfl) rfl #[] rfl (by (try simp only [List.map_toArray, List.map_cons, List.map_nil]); first | done | rfl | (simp only [*]; done) | (simp only [List.length_drop, List.length_take]; rfl) | (simp only [Act.eval, Array.getD_eq_getD_getElem?, Option.getD_some, *])) ?_; (with_reducible refine (fuseelaw09_sure.calls kj3  t173 _ ?side1 A36.out).mono ?_); (case side1 => exact HG.below hgL (Nat.le_refl _) (by repeat (first | (with_reducible first | exact HB.out | apply qpA | apply qpN | apply qp1 | refine qpS ?_ GE168.out | refine qpS ?_ GE169.out) | exact HB.out))); rintro e w37 ⟨rfl, hb⟩; refine ⟨_, rfl, ?_⟩; have n0_ := qS (qB (g := gb168) (o := .cells #[.int .i64 a0_0, .int .i64 a0_1, .slice A0_2 l0_2.length c0_2] 95 (0, 0)) (by (with_reducible repeat (first | refine qN ?_ _ | refine qD ?_ | refine qA ?_ _)); exact BK168.out) hb); have n1_ := qS (qB (g := gb169) (o := .cells #[.int .i64 a0_0, .int .i64 a0_1, .slice A0_2 l0_2.length c0_2] 96 (0, 0)) (by (with_reducible repeat (first | refine qN ?_ _ | refine qD ?_ | refine qA ?_ _)); exact BK169.out) hb); have n2_ := qS (below_step (by repeat (first | (with_reducible first | exact HB.out | apply qpA | apply qpN | apply qp1 | refine qpS ?_ GE168.out | refine qpS ?_ GE169.out) | exact HB.out)) hb); clear BK168; clear BK169; clear HB; have BK168 := n0_; have BK169 := n1_; have HB := n2_; clear n0_ n1_ n2_; (try clear hb); (try clear hb2); (try clear hk); (try clear hi)))
     go_ret
     exact ⟨by first | rfl | (simp [errW_none, errW_some] <;> rfl) | (simp [*, errW_none, errW_some] <;> rfl), by repeat (first | (with_reducible first | exact HB.out | apply qpA | apply qpN | apply qp1 | refine qpS ?_ GE168.out | refine qpS ?_ GE169.out) | exact HB.out)⟩
   ·replace c35 := Bool.eq_false_iff.mpr c35
    subst c35
    have H1 : ((some (([] : List Int) : List Int)).bind fun y174 => (if y174.length + l0_2.length < 17592186044416 then ((some (y174 ++ l0_2 : List Int)).bind fun y177 => ((some (([wrap64 (a0_1 - 1)] : List Int) : List Int)).bind fun y180 => (if y177.length + y180.length < 17592186044416 then ((some (y177 ++ y180 : List Int)).bind fun y183 => ((leap_UTC.f kj3 a0_0 a0_1 l0_2 a2).bind fun bt188 => ((leap_UTC.f kj3 a0_0 (wrap64 (a0_1 + 500)) y183 a2).bind fun bt193 => (if bt188.2.2.2.isNone = true then (if bt193.2.2.2.isNone = true then (fuseelaw09_LeapMore.j1 kj3 a1 (!(bt188.1 == bt193.1) || (!(bt188.2.1 == bt193.2.1) || (!(bt188.2.2.1 == bt193.2.2.1)))) a0_0 a0_1 l0_2 a0_0 (wrap64 (a0_1 + 500)) y183 a0_0 (wrap64 (a0_1 + 500)) l0_2) else (fuseelaw09_LeapMore.j1 kj3 a1 true a0_0 a0_1 l0_2 a0_0 (wrap64 (a0_1 + 500)) y183 a0_0 (wrap64 (a0_1 + 500)) l0_2)) else (fuseelaw09_LeapMore.j1 kj3 a1 false a0_0 a0_1 l0_2 a0_0 (wrap64 (a0_1 + 500)) y183 a0_0 (wrap64 (a0_1 + 500)) l0_2))))) else (none)))) else (none))) = some r := by rw [if_neg (show ¬ (false = true) by decide)] at H; exact H
    clear H
    have H := H1
    clear H1
    obtain ⟨y174, hy174⟩ : ∃ y_ : List Int, y_ = (([] : List Int)) := ⟨_, rfl⟩
    replace H : (if y174.length + l0_2.length < 17592186044416 then ((some (y174 ++ l0_2 : List Int)).bind fun y177 => ((some (([wrap64 (a0_1 - 1)] : List Int) : List Int)).bind fun y180 => (if y177.length + y180.length < 17592186044416 then ((some (y177 ++ y180 : List Int)).bind fun y183 => ((leap_UTC.f kj3 a0_0 a0_1 l0_2 a2).bind fun bt188 => ((leap_UTC.f kj3 a0_0 (wrap64 (a0_1 + 500)) y183 a2).bind fun bt193 => (if bt188.2.2.2.isNone = true then (if bt193.2.2.2.isNone = true then (fuseelaw09_LeapMore.j1 kj3 a1 (!(bt188.1 == bt193.1) || (!(bt188.2.1 == bt193.2.1) || (!(bt188.2.2.1 == bt193.2.2.1)))) a0_0 a0_1 l0_2 a0_0 (wrap64 (a0_1 + 500)) y183 a0_0 (wrap64 (a0_1 + 500)) l0_2) else (fuseelaw09_LeapMore.j1 kj3 a1 true a0_0 a0_1 l0_2 a0_0 (wrap64 (a0_1 + 500)) y183 a0_0 (wrap64 (a0_1 + 500)) l0_2)) else (fuseelaw09_LeapMore.j1 kj3 a1 false a0_0 a0_1 l0_2 a0_0 (wrap64 (a0_1 + 500)) y183 a0_0 (wrap64 (a0_1 + 500)) l0_2))))) else (none)))) else (none)) = some r := by first | (rw [hy174]; with_reducible exact H) | (have H2_ := (Option.bind_some _ _).symm.trans H; rw [hy174]; with_reducible exact H2_) | (have H2_ := (Option.bind_some _ _).symm.trans H; with_reducible exact H2_) | with_reducible exact H | (rw [hy174]; exact H) | exact H
    have Ny174 := qS hy174
    clear hy174
    by_cases c38 : y174.length + l0_2.length < 17592186044416
    ·rw [if_pos c38] at H
     have LMc38 := qS c38
     clear c38
     obtain ⟨y177, hy177⟩ : ∃ y_ : List Int, y_ = (y174 ++ l0_2) := ⟨_, rfl⟩
     replace H : ((some (([wrap64 (a0_1 - 1)] : List Int) : List Int)).bind fun y180 => (if y177.length + y180.length < 17592186044416 then ((some (y177 ++ y180 : List Int)).bind fun y183 => ((leap_UTC.f kj3 a0_0 a0_1 l0_2 a2).bind fun bt188 => ((leap_UTC.f kj3 a0_0 (wrap64 (a0_1 + 500)) y183 a2).bind fun bt193 => (if bt188.2.2.2.isNone = true then (if bt193.2.2.2.isNone = true then (fuseelaw09_LeapMore.j1 kj3 a1 (!(bt188.1 == bt193.1) || (!(bt188.2.1 == bt193.2.1) || (!(bt188.2.2.1 == bt193.2.2.1)))) a0_0 a0_1 l0_2 a0_0 (wrap64 (a0_1 + 500)) y183 a0_0 (wrap64 (a0_1 + 500)) l0_2) else (fuseelaw09_LeapMore.j1 kj3 a1 true a0_0 a0_1 l0_2 a0_0 (wrap64 (a0_1 + 500)) y183 a0_0 (wrap64 (a0_1 + 500)) l0_2)) else (fuseelaw09_LeapMore.j1 kj3 a1 false a0_0 a0_1 l0_2 a0_0 (wrap64 (a0_1 + 500)) y183 a0_0 (wrap64 (a0_1 + 500)) l0_2))))) else (none))) = some r := by first | (rw [hy177]; with_reducible exact H) | (have H2_ := (Option.bind_some _ _).symm.trans H; rw [hy177]; with_reducible exact H2_) | (have H2_ := (Option.bind_some _ _).symm.trans H; with_reducible exact H2_) | with_reducible exact H | (rw [hy177]; exact H) | exact H
     have Ny177 := qS hy177
     clear hy177
     obtain ⟨y180, hy180⟩ : ∃ y_ : List Int, y_ = (([wrap64 (a0_1 - 1)] : List Int)) := ⟨_, rfl⟩
     replace H : (if y177.length + y180.length < 17592186044416 then ((some (y177 ++ y180 : List Int)).bind fun y183 => ((leap_UTC.f kj3 a0_0 a0_1 l0_2 a2).bind fun bt188 => ((leap_UTC.f kj3 a0_0 (wrap64 (a0_1 + 500)) y183 a2).bind fun bt193 => (if bt188.2.2.2.isNone = true then (if bt193.2.2.2.isNone = true then (fuseelaw09_LeapMore.j1 kj3 a1 (!(bt188.1 == bt193.1) || (!(bt188.2.1 == bt193.2.1) || (!(bt188.2.2.1 == bt193.2.2.1)))) a0_0 a0_1 l0_2 a0_0 (wrap64 (a0_1 + 500)) y183 a0_0 (wrap64 (a0_1 + 500)) l0_2) else (fuseelaw09_LeapMore.j1 kj3 a1 true a0_0 a0_1 l0_2 a0_0 (wrap64 (a0_1 + 500)) y183 a0_0 (wrap64 (a0_1 + 500)) l0_2)) else (fuseelaw09_LeapMore.j1 kj3 a1 false a0_0 a0_1 l0_2 a0_0 (wrap64 (a0_1 + 500)) y183 a0_0 (wrap64 (a0_1 + 500)) l0_2))))) else (none)) = some r := by first | (rw [hy180]; with_reducible exact H) | (have H2_ := (Option.bind_some _ _).symm.trans H; rw [hy180]; with_reducible exact H2_) | (have H2_ := (Option.bind_some _ _).symm.trans H; with_reducible exact H2_) | with_reducible exact H | (rw [hy180]; exact H) | exact H
     have Ny180 := qS hy180
     clear hy180
     by_cases c39 : y177.length + y180.length < 17592186044416
     ·rw [if_pos c39] at H
      have LMc39 := qS c39
      clear c39
      obtain ⟨y183, hy183⟩ : ∃ y_ : List Int, y_ = (y177 ++ y180) := ⟨_, rfl⟩
      replace H : ((leap_UTC.f kj3 a0_0 a0_1 l0_2 a2).bind fun bt188 => ((leap_UTC.f kj3 a0_0 (wrap64 (a0_1 + 500)) y183 a2).bind fun bt193 => (if bt188.2.2.2.isNone = true then (if bt193.2.2.2.isNone = true then (fuseelaw09_LeapMore.j1 kj3 a1 (!(bt188.1 == bt193.1) || (!(bt188.2.1 == bt193.2.1) || (!(bt188.2.2.1 == bt193.2.2.1)))) a0_0 a0_1 l0_2 a0_0 (wrap64 (a0_1 + 500)) y183 a0_0 (wrap64 (a0_1 + 500)) l0_2) else (fuseelaw09_LeapMore.j1 kj3 a1 true a0_0 a0_1 l0_2 a0_0 (wrap64 (a0_1 + 500)) y183 a0_0 (wrap64 (a0_1 + 500)) l0_2)) else (fuseelaw09_LeapMore.j1 kj3 a1 false a0_0 a0_1 l0_2 a0_0 (wrap64 (a0_1 + 500)) y183 a0_0 (wrap64 (a0_1 + 500)) l0_2)))) = some r := by first | (rw [hy183]; with_reducible exact H) | (have H2_ := (Option.bind_some _ _).symm.trans H; rw [hy183]; with_reducible exact H2_) | (have H2_ := (Option.bind_some _ _).symm.trans H; with_reducible exact H2_) | with_reducible exact H | (rw [hy183]; exact H) | exact H
      have Ny183 := qS hy183
      clear hy183
      replace H := Option.bind_eq_some_iff.mp H
      obtain ⟨⟨t188, t189, t190, t191⟩, A400, H⟩ := H
      replace H : ((leap_UTC.f kj3 a0_0 (wrap64 (a0_1 + 500)) y183 a2).bind fun bt193 => (if t191.isNone = true then (if bt193.2.2.2.isNone = true then (fuseelaw09_LeapMore.j1 kj3 a1 (!(t188 == bt193.1) || (!(t189 == bt193.2.1) || (!(t190 == bt193.2.2.1)))) a0_0 a0_1 l0_2 a0_0 (wrap64 (a0_1 + 500)) y183 a0_0 (wrap64 (a0_1 + 500)) l0_2) else (fuseelaw09_LeapMore.j1 kj3 a1 true a0_0 a0_1 l0_2 a0_0 (wrap64 (a0_1 + 500)) y183 a0_0 (wrap64 (a0_1 + 500)) l0_2)) else (fuseelaw09_LeapMore.j1 kj3 a1 false a0_0 a0_1 l0_2 a0_0 (wrap64 (a0_1 + 500)) y183 a0_0 (wrap64 (a0_1 + 500)) l0_2))) = some r := H
      have A40 := qS A400
      clear A400
      replace H := Option.bind_eq_some_iff.mp H
      obtain ⟨⟨t193, t194, t195, t196⟩, A410, H⟩ := H
      replace H : (if t191.isNone = true then (if t196.isNone = true then (fuseelaw09_LeapMore.j1 kj3 a1 (!(t188 == t193) || (!(t189 == t194) || (!(t190 == t195)))) a0_0 a0_1 l0_2 a0_0 (wrap64 (a0_1 + 500)) y183 a0_0 (wrap64 (a0_1 + 500)) l0_2) else (fuseelaw09_LeapMore.j1 kj3 a1 true a0_0 a0_1 l0_2 a0_0 (wrap64 (a0_1 + 500)) y183 a0_0 (wrap64 (a0_1 + 500)) l0_2)) else (fuseelaw09_LeapMore.j1 kj3 a1 false a0_0 a0_1 l0_2 a0_0 (wrap64 (a0_1 + 500)) y183 a0_0 (wrap64 (a0_1 + 500)) l0_2)) = some r := H
      have A41 := qS A410
      clear A410
      have HC42 := qS H
      clear H
      try go_wp2
      have n0_ := qS (qD BK168.out)
      have n1_ := qS (qD BK169.out)
      have n2_ := qS (qp1 HB.out)
      clear BK168
      clear BK169
      clear HB
      have BK168 := n0_
      have BK169 := n1_
      have HB := n2_
      clear n0_ n1_ n2_
      refine start_ (n := 17) (S := fun w' => w'.cell? ⟨gb168, 0, none⟩ = some (.int .i64 a0_0) ∧ w'.cell? ⟨gb168, 1, none⟩ = some (.int .i64 a0_1) ∧ w'.cell? ⟨gb168, 2, none⟩ = some (.slice A0_2 l0_2.length c0_2)) (ds := []) #[false, false, false, false, false, false, false, false, false, false, false, false, false, false, false, false, false] (by kernel_rfl) rfl rfl ⟨(qC BK168.out 0).trans rfl, (qC BK168.out 1).trans rfl, (qC BK168.out 2).trans rfl⟩ (fun hHeld => ?_); refine with_tabW fuseelaw09_LeapMore.tab4 fuseelaw09_LeapMore.bits4 (fun HT_ HW_ => ?_)
      generalize wc.drew = w43 at BK168 BK169 HB hHeld ⊢
      refine pure_ (i := 0) (N := some 60) (v := ?_) (a' := ?_) #[true, false, false, false, false, false, false, false, false, false, false, false, false, false, false, false, false] rfl rfl (any_of HT_.out (by kernel_rfl)) (fun _ _ _ h => h) (Or.inl ⟨by rfl, ?_⟩) ?_ ?_
      rotate_left
      ·intro w'
       go_simp
       with_reducible rfl
      rotate_left
      ·simp only [Act.put, List.setIfInBounds_toArray, List.set_cons_zero, List.set_cons_succ, i64_w, i32_w]
       rfl
      refine pure_ (i := 2) (N := some 62) (v := ?_) (a' := ?_) #[true, false, true, false, false, false, false, false, false, false, false, false, false, false, false, false, false] rfl rfl (any_of HT_.out (by kernel_rfl)) (fun _ _ _ h => h) (Or.inl ⟨by rfl, ?_⟩) ?_ ?_
      rotate_left
      ·intro w'
       go_simp
       with_reducible rfl
      rotate_left
      ·simp only [Act.put, List.setIfInBounds_toArray, List.set_cons_zero, List.set_cons_succ, i64_w, i32_w]
       rfl
      refine pure_ (i := 6) (N := some 66) (v := ?_) (a' := ?_) #[true, false, true, false, false, false, true, false, false, false, false, false, false, false, false, false, false] rfl rfl (any_of HT_.out (by kernel_rfl)) (fun _ _ _ h => h) (Or.inl ⟨by rfl, ?_⟩) ?_ ?_
      rotate_left
      ·intro w'
       go_simp
       with_reducible rfl
      rotate_left
      ·simp only [Act.put, List.setIfInBounds_toArray, List.set_cons_zero, List.set_cons_succ, i64_w, i32_w]
       rfl
      refine pure_ (i := 9) (N := some 69) (v := ?_) (a' := ?_) #[true, false, true, false, false, false, true, false, false, true, false, false, false, false, false, false, false] rfl rfl (any_of HT_.out (by kernel_rfl)) (fun _ _ _ h => h) (Or.inl ⟨by rfl, ?_⟩) ?_ ?_
      rotate_left
      ·intro w'
       go_simp
       with_reducible rfl
      rotate_left
      ·simp only [Act.put, List.setIfInBounds_toArray, List.set_cons_zero, List.set_cons_succ, i64_w, i32_w]
       rfl
      refine take_ (i := 1) (N := some 61) (v := ?_) (a' := ?_) #[true, true, true, false, false, false, true, false, false, true, false, false, false, false, false, false, false] rfl rfl (take_ofW HT_.out HW_.out (by kernel_rfl)) (fun _ _ _ h => h) (Or.inl ⟨by rfl, ?_⟩) hHeld ?_ ?_
      rotate_left
      ·rintro w' ⟨s0, s1, s2⟩
       go_simp
       with_reducible rfl
      rotate_left
      ·simp only [Act.put, List.setIfInBounds_toArray, List.set_cons_zero, List.set_cons_succ, i64_w, i32_w]
       rfl
      refine take_ (i := 3) (N := some 63) (v := ?_) (a' := ?_) #[true, true, true, true, false, false, true, false, false, true, false, false, false, false, false, false, false] rfl rfl (take_ofW HT_.out HW_.out (by kernel_rfl)) (fun _ _ _ h => h) (Or.inl ⟨by rfl, ?_⟩) hHeld ?_ ?_
      rotate_left
      ·rintro w' ⟨s0, s1, s2⟩
       go_simp
       with_reducible rfl
      rotate_left
      ·simp only [Act.put, List.setIfInBounds_toArray, List.set_cons_zero, List.set_cons_succ, i64_w, i32_w]
       rfl
      refine pure_ (i := 4) (N := some 64) (v := ?_) (a' := ?_) #[true, true, true, true, true, false, true, false, false, true, false, false, false, false, false, false, false] rfl rfl (any_of HT_.out (by kernel_rfl)) (fun _ _ _ h => h) (Or.inl ⟨by rfl, ?_⟩) ?_ ?_
      rotate_left
      ·intro w'
       go_simp
       with_reducible rfl
      rotate_left
      ·simp only [Act.put, List.setIfInBounds_toArray, List.set_cons_zero, List.set_cons_succ, i64_w, i32_w]
       rfl
      refine take_ (i := 7) (N := some 67) (v := ?_) (a' := ?_) #[true, true, true, true, true, false, true, true, false, true, false, false, false, false, false, false, false] rfl rfl (take_ofW HT_.out HW_.out (by kernel_rfl)) (fun _ _ _ h => h) (Or.inl ⟨by rfl, ?_⟩) hHeld ?_ ?_
      rotate_left
      ·rintro w' ⟨s0, s1, s2⟩
       go_simp
       with_reducible rfl
      rotate_left
      ·simp only [Act.put, List.setIfInBounds_toArray, List.set_cons_zero, List.set_cons_succ, i64_w, i32_w]
       rfl
      refine take_ (i := 10) (N := some 70) (v := ?_) (a' := ?_) #[true, true, true, true, true, false, true, true, false, true, true, false, false, false, false, false, false] rfl rfl (take_ofW HT_.out HW_.out (by kernel_rfl)) (fun _ _ _ h => h) (Or.inl ⟨by rfl, ?_⟩) hHeld ?_ ?_
      rotate_left
      ·rintro w' ⟨s0, s1, s2⟩
       go_simp
       with_reducible rfl
      rotate_left
      ·simp only [Act.put, List.setIfInBounds_toArray, List.set_cons_zero, List.set_cons_succ, i64_w, i32_w]
       rfl
      refine pure_ (i := 11) (N := some 71) (v := ?_) (a' := ?_) #[true, true, true, true, true, false, true, true, false, true, true, true, false, false, false, false, false] rfl rfl (any_of HT_.out (by kernel_rfl)) (fun _ _ _ h => h) (Or.inl ⟨by rfl, ?_⟩) ?_ ?_
      rotate_left
      ·intro w'
       go_simp
       with_reducible rfl
      rotate_left
      ·simp only [Act.put, List.setIfInBounds_toArray, List.set_cons_zero, List.set_cons_succ, i64_w, i32_w]
       rfl
      refine join_ (σ := Value × Value × Value × Value × Nat) 1 #[true, true, true, true, true, true, true, true, true, true, true, true, true, true, true, true, false] (fun s_ => [(65, s_.1), (68, s_.2.1), (72, s_.2.2.1), (73, s_.2.2.2.1), (8, .pointer (some ⟨s_.2.2.2.2, 0, none⟩)), (74, .agg #[.int .i64 a0_0, .int .i64 (wrap64 (a0_1 + 500)), s_.2.2.2.1])]) (fun s_ w' => (w'.cell? ⟨gb168, 0, none⟩ = some (.int .i64 a0_0) ∧ w'.cell? ⟨gb168, 1, none⟩ = some (.int .i64 a0_1) ∧ w'.cell? ⟨gb168, 2, none⟩ = some (.slice A0_2 l0_2.length c0_2)) ∧ (Kd.R (Kd.int .i64) 2 w' w.heap.size (fun k_ => some k_ ≠ (s_.2.2.2.1 : Value).ownBlock) s_.2.2.1 y180) ∧ (Kd.R (Kd.int .i64) 2 w' w.heap.size (fun k_ => some k_ ≠ (s_.2.2.1 : Value).ownBlock) s_.2.2.2.1 y183) ∧ (w'.heap[gb168]? = some (.cells #[.int .i64 a0_0, .int .i64 a0_1, .slice A0_2 l0_2.length c0_2] 95 (0, 0))) ∧ (w'.heap[gb169]? = some (.cells #[.int .i64 a0_0, .int .i64 a0_1, .slice A0_2 l0_2.length c0_2] 96 (0, 0))) ∧ (w'.heap[s_.2.2.2.2]? = some (.cells #[.int .i64 0, .int .i64 0, .slice none 0 0] 96 (0, 0))) ∧ (w.heap.size ≤ s_.2.2.2.2) ∧ (w.heap.size ≤ s_.2.2.2.2) ∧ (gb168 ≠ s_.2.2.2.2) ∧ (s_.2.2.2.2 ≠ gb168) ∧ (gb169 ≠ s_.2.2.2.2) ∧ (s_.2.2.2.2 ≠ gb169) ∧ (Below w.heap.size w w')) ?_ ?_
      rotate_left
      ·intro hJ5_8_12_13_15
       refine join_ (σ := Value × Value × Value × Value) 2 #[true, true, true, true, true, true, true, true, true, true, true, true, true, true, true, false, false] (fun s_ => [(65, s_.1), (68, s_.2.1), (72, s_.2.2.1), (73, s_.2.2.2), (74, .agg #[.int .i64 a0_0, .int .i64 (wrap64 (a0_1 + 500)), s_.2.2.2])]) (fun s_ w' => (w'.cell? ⟨gb168, 0, none⟩ = some (.int .i64 a0_0) ∧ w'.cell? ⟨gb168, 1, none⟩ = some (.int .i64 a0_1) ∧ w'.cell? ⟨gb168, 2, none⟩ = some (.slice A0_2 l0_2.length c0_2)) ∧ (Kd.R (Kd.int .i64) 2 w' w.heap.size (fun k_ => some k_ ≠ (s_.2.2.2 : Value).ownBlock) s_.2.2.1 y180) ∧ (Kd.R (Kd.int .i64) 2 w' w.heap.size (fun k_ => some k_ ≠ (s_.2.2.1 : Value).ownBlock) s_.2.2.2 y183) ∧ (w'.heap[gb168]? = some (.cells #[.int .i64 a0_0, .int .i64 a0_1, .slice A0_2 l0_2.length c0_2] 95 (0, 0))) ∧ (w'.heap[gb169]? = some (.cells #[.int .i64 a0_0, .int .i64 a0_1, .slice A0_2 l0_2.length c0_2] 96 (0, 0))) ∧ (Below w.heap.size w w')) ?_ ?_
       rotate_left
       ·intro hJ5_8_12_13
        refine join_ (σ := Value × Value × Value × Nat) 3 #[true, true, true, true, true, true, true, true, true, true, true, true, true, false, false, true, false] (fun s_ => [(65, s_.1), (68, s_.2.1), (72, s_.2.2.1), (8, .pointer (some ⟨s_.2.2.2, 0, none⟩))]) (fun s_ w' => (w'.cell? ⟨gb168, 0, none⟩ = some (.int .i64 a0_0) ∧ w'.cell? ⟨gb168, 1, none⟩ = some (.int .i64 a0_1) ∧ w'.cell? ⟨gb168, 2, none⟩ = some (.slice A0_2 l0_2.length c0_2)) ∧ (Kd.R (Kd.int .i64) 2 w' w.heap.size (fun k_ => some k_ ≠ (s_.2.2.1 : Value).ownBlock) s_.2.1 y177) ∧ (Kd.R (Kd.int .i64) 2 w' w.heap.size (fun k_ => some k_ ≠ (s_.2.1 : Value).ownBlock) s_.2.2.1 y180) ∧ (w'.heap[gb168]? = some (.cells #[.int .i64 a0_0, .int .i64 a0_1, .slice A0_2 l0_2.length c0_2] 95 (0, 0))) ∧ (w'.heap[gb169]? = some (.cells #[.int .i64 a0_0, .int .i64 a0_1, .slice A0_2 l0_2.length c0_2] 96 (0, 0))) ∧ (w'.heap[s_.2.2.2]? = some (.cells #[.int .i64 0, .int .i64 0, .slice none 0 0] 96 (0, 0))) ∧ (w.heap.size ≤ s_.2.2.2) ∧ (w.heap.size ≤ s_.2.2.2) ∧ (gb168 ≠ s_.2.2.2) ∧ (s_.2.2.2 ≠ gb168) ∧ (gb169 ≠ s_.2.2.2) ∧ (s_.2.2.2 ≠ gb169) ∧ (Below w.heap.size w w')) ?_ ?_
        rotate_left
        ·intro hJ5_8_12_15
         refine join_ (σ := Value × Value × Value) 4 #[true, true, true, true, true, true, true, true, true, true, true, true, true, false, false, false, false] (fun s_ => [(65, s_.1), (68, s_.2.1), (72, s_.2.2)]) (fun s_ w' => (w'.cell? ⟨gb168, 0, none⟩ = some (.int .i64 a0_0) ∧ w'.cell? ⟨gb168, 1, none⟩ = some (.int .i64 a0_1) ∧ w'.cell? ⟨gb168, 2, none⟩ = some (.slice A0_2 l0_2.length c0_2)) ∧ (Kd.R (Kd.int .i64) 2 w' w.heap.size (fun k_ => some k_ ≠ (s_.2.2 : Value).ownBlock) s_.2.1 y177) ∧ (Kd.R (Kd.int .i64) 2 w' w.heap.size (fun k_ => some k_ ≠ (s_.2.1 : Value).ownBlock) s_.2.2 y180) ∧ (w'.heap[gb168]? = some (.cells #[.int .i64 a0_0, .int .i64 a0_1, .slice A0_2 l0_2.length c0_2] 95 (0, 0))) ∧ (w'.heap[gb169]? = some (.cells #[.int .i64 a0_0, .int .i64 a0_1, .slice A0_2 l0_2.length c0_2] 96 (0, 0))) ∧ (Below w.heap.size w w')) ?_ ?_
         rotate_left
         ·intro hJ5_8_12
          refine join_ (σ := Value × Value × Nat) 4 #[true, true, true, true, true, true, true, true, true, true, true, true, false, false, false, true, false] (fun s_ => [(65, s_.1), (68, s_.2.1), (8, .pointer (some ⟨s_.2.2, 0, none⟩))]) (fun s_ w' => (w'.cell? ⟨gb168, 0, none⟩ = some (.int .i64 a0_0) ∧ w'.cell? ⟨gb168, 1, none⟩ = some (.int .i64 a0_1) ∧ w'.cell? ⟨gb168, 2, none⟩ = some (.slice A0_2 l0_2.length c0_2)) ∧ (Kd.R (Kd.int .i64) 2 w' w.heap.size (fun _ => True) s_.2.1 y177) ∧ (w'.heap[gb168]? = some (.cells #[.int .i64 a0_0, .int .i64 a0_1, .slice A0_2 l0_2.length c0_2] 95 (0, 0))) ∧ (w'.heap[gb169]? = some (.cells #[.int .i64 a0_0, .int .i64 a0_1, .slice A0_2 l0_2.length c0_2] 96 (0, 0))) ∧ (w'.heap[s_.2.2]? = some (.cells #[.int .i64 0, .int .i64 0, .slice none 0 0] 96 (0, 0))) ∧ (w.heap.size ≤ s_.2.2) ∧ (w.heap.size ≤ s_.2.2) ∧ (gb168 ≠ s_.2.2) ∧ (s_.2.2 ≠ gb168) ∧ (gb169 ≠ s_.2.2) ∧ (s_.2.2 ≠ gb169) ∧ (Below w.heap.size w w')) ?_ ?_
          rotate_left
          ·intro hJ5_8_15
           refine join_ (σ := Value × Value × Nat) 4 #[true, true, true, true, true, true, true, true, false, true, true, true, true, false, false, true, false] (fun s_ => [(65, s_.1), (72, s_.2.1), (8, .pointer (some ⟨s_.2.2, 0, none⟩))]) (fun s_ w' => (w'.cell? ⟨gb168, 0, none⟩ = some (.int .i64 a0_0) ∧ w'.cell? ⟨gb168, 1, none⟩ = some (.int .i64 a0_1) ∧ w'.cell? ⟨gb168, 2, none⟩ = some (.slice A0_2 l0_2.length c0_2)) ∧ (Kd.R (Kd.int .i64) 2 w' w.heap.size (fun k_ => some k_ ≠ (s_.2.1 : Value).ownBlock) s_.1 y174) ∧ (Kd.R (Kd.int .i64) 2 w' w.heap.size (fun k_ => some k_ ≠ (s_.1 : Value).ownBlock) s_.2.1 y180) ∧ (w'.heap[gb168]? = some (.cells #[.int .i64 a0_0, .int .i64 a0_1, .slice A0_2 l0_2.length c0_2] 95 (0, 0))) ∧ (w'.heap[gb169]? = some (.cells #[.int .i64 a0_0, .int .i64 a0_1, .slice A0_2 l0_2.length c0_2] 96 (0, 0))) ∧ (w'.heap[s_.2.2]? = some (.cells #[.int .i64 0, .int .i64 0, .slice none 0 0] 96 (0, 0))) ∧ (w.heap.size ≤ s_.2.2) ∧ (w.heap.size ≤ s_.2.2) ∧ (gb168 ≠ s_.2.2) ∧ (s_.2.2 ≠ gb168) ∧ (gb169 ≠ s_.2.2) ∧ (s_.2.2 ≠ gb169) ∧ (Below w.heap.size w w')) ?_ ?_
           rotate_left
           ·intro hJ5_12_15
            refine join_ (σ := Value × Value) 5 #[true, true, true, true, true, true, true, true, true, true, true, true, false, false, false, false, false] (fun s_ => [(65, s_.1), (68, s_.2)]) (fun s_ w' => (w'.cell? ⟨gb168, 0, none⟩ = some (.int .i64 a0_0) ∧ w'.cell? ⟨gb168, 1, none⟩ = some (.int .i64 a0_1) ∧ w'.cell? ⟨gb168, 2, none⟩ = some (.slice A0_2 l0_2.length c0_2)) ∧ (Kd.R (Kd.int .i64) 2 w' w.heap.size (fun _ => True) s_.2 y177) ∧ (w'.heap[gb168]? = some (.cells #[.int .i64 a0_0, .int .i64 a0_1, .slice A0_2 l0_2.length c0_2] 95 (0, 0))) ∧ (w'.heap[gb169]? = some (.cells #[.int .i64 a0_0, .int .i64 a0_1, .slice A0_2 l0_2.length c0_2] 96 (0, 0))) ∧ (Below w.heap.size w w')) ?_ ?_
            rotate_left
            ·intro hJ5_8
             refine join_ (σ := Value × Value) 5 #[true, true, true, true, true, true, true, true, false, true, true, true, true, false, false, false, false] (fun s_ => [(65, s_.1), (72, s_.2)]) (fun s_ w' => (w'.cell? ⟨gb168, 0, none⟩ = some (.int .i64 a0_0) ∧ w'.cell? ⟨gb168, 1, none⟩ = some (.int .i64 a0_1) ∧ w'.cell? ⟨gb168, 2, none⟩ = some (.slice A0_2 l0_2.length c0_2)) ∧ (Kd.R (Kd.int .i64) 2 w' w.heap.size (fun k_ => some k_ ≠ (s_.2 : Value).ownBlock) s_.1 y174) ∧ (Kd.R (Kd.int .i64) 2 w' w.heap.size (fun k_ => some k_ ≠ (s_.1 : Value).ownBlock) s_.2 y180) ∧ (w'.heap[gb168]? = some (.cells #[.int .i64 a0_0, .int .i64 a0_1, .slice A0_2 l0_2.length c0_2] 95 (0, 0))) ∧ (w'.heap[gb169]? = some (.cells #[.int .i64 a0_0, .int .i64 a0_1, .slice A0_2 l0_2.length c0_2] 96 (0, 0))) ∧ (Below w.heap.size w w')) ?_ ?_
             rotate_left
             ·intro hJ5_12
              refine join_ (σ := Value × Nat) 5 #[true, true, true, true, true, true, true, true, false, true, true, true, false, false, false, true, false] (fun s_ => [(65, s_.1), (8, .pointer (some ⟨s_.2, 0, none⟩))]) (fun s_ w' => (w'.cell? ⟨gb168, 0, none⟩ = some (.int .i64 a0_0) ∧ w'.cell? ⟨gb168, 1, none⟩ = some (.int .i64 a0_1) ∧ w'.cell? ⟨gb168, 2, none⟩ = some (.slice A0_2 l0_2.length c0_2)) ∧ (Kd.R (Kd.int .i64) 2 w' w.heap.size (fun _ => True) s_.1 y174) ∧ (w'.heap[gb168]? = some (.cells #[.int .i64 a0_0, .int .i64 a0_1, .slice A0_2 l0_2.length c0_2] 95 (0, 0))) ∧ (w'.heap[gb169]? = some (.cells #[.int .i64 a0_0, .int .i64 a0_1, .slice A0_2 l0_2.length c0_2] 96 (0, 0))) ∧ (w'.heap[s_.2]? = some (.cells #[.int .i64 0, .int .i64 0, .slice none 0 0] 96 (0, 0))) ∧ (w.heap.size ≤ s_.2) ∧ (w.heap.size ≤ s_.2) ∧ (gb168 ≠ s_.2) ∧ (s_.2 ≠ gb168) ∧ (gb169 ≠ s_.2) ∧ (s_.2 ≠ gb169) ∧ (Below w.heap.size w w')) ?_ ?_
              rotate_left
              ·intro hJ5_15
               refine join_ (σ := Value × Nat) 5 #[true, true, true, true, true, false, true, true, false, true, true, true, true, false, false, true, false] (fun s_ => [(72, s_.1), (8, .pointer (some ⟨s_.2, 0, none⟩))]) (fun s_ w' => (w'.cell? ⟨gb168, 0, none⟩ = some (.int .i64 a0_0) ∧ w'.cell? ⟨gb168, 1, none⟩ = some (.int .i64 a0_1) ∧ w'.cell? ⟨gb168, 2, none⟩ = some (.slice A0_2 l0_2.length c0_2)) ∧ (Kd.R (Kd.int .i64) 2 w' w.heap.size (fun _ => True) s_.1 y180) ∧ (w'.heap[gb168]? = some (.cells #[.int .i64 a0_0, .int .i64 a0_1, .slice A0_2 l0_2.length c0_2] 95 (0, 0))) ∧ (w'.heap[gb169]? = some (.cells #[.int .i64 a0_0, .int .i64 a0_1, .slice A0_2 l0_2.length c0_2] 96 (0, 0))) ∧ (w'.heap[s_.2]? = some (.cells #[.int .i64 0, .int .i64 0, .slice none 0 0] 96 (0, 0))) ∧ (w.heap.size ≤ s_.2) ∧ (w.heap.size ≤ s_.2) ∧ (gb168 ≠ s_.2) ∧ (s_.2 ≠ gb168) ∧ (gb169 ≠ s_.2) ∧ (s_.2 ≠ gb169) ∧ (Below w.heap.size w w')) ?_ ?_
               rotate_left
               ·intro hJ12_15
                refine join_ (σ := Value) 6 #[true, true, true, true, true, true, true, true, false, true, true, true, false, false, false, false, false] (fun s_ => [(65, s_)]) (fun s_ w' => (w'.cell? ⟨gb168, 0, none⟩ = some (.int .i64 a0_0) ∧ w'.cell? ⟨gb168, 1, none⟩ = some (.int .i64 a0_1) ∧ w'.cell? ⟨gb168, 2, none⟩ = some (.slice A0_2 l0_2.length c0_2)) ∧ (Kd.R (Kd.int .i64) 2 w' w.heap.size (fun _ => True) s_ y174) ∧ (w'.heap[gb168]? = some (.cells #[.int .i64 a0_0, .int .i64 a0_1, .slice A0_2 l0_2.length c0_2] 95 (0, 0))) ∧ (w'.heap[gb169]? = some (.cells #[.int .i64 a0_0, .int .i64 a0_1, .slice A0_2 l0_2.length c0_2] 96 (0, 0))) ∧ (Below w.heap.size w w')) ?_ ?_
                rotate_left
                ·intro hJ5
                 refine join_ (σ := Value) 6 #[true, true, true, true, true, false, true, true, false, true, true, true, true, false, false, false, false] (fun s_ => [(72, s_)]) (fun s_ w' => (w'.cell? ⟨gb168, 0, none⟩ = some (.int .i64 a0_0) ∧ w'.cell? ⟨gb168, 1, none⟩ = some (.int .i64 a0_1) ∧ w'.cell? ⟨gb168, 2, none⟩ = some (.slice A0_2 l0_2.length c0_2)) ∧ (Kd.R (Kd.int .i64) 2 w' w.heap.size (fun _ => True) s_ y180) ∧ (w'.heap[gb168]? = some (.cells #[.int .i64 a0_0, .int .i64 a0_1, .slice A0_2 l0_2.length c0_2] 95 (0, 0))) ∧ (w'.heap[gb169]? = some (.cells #[.int .i64 a0_0, .int .i64 a0_1, .slice A0_2 l0_2.length c0_2] 96 (0, 0))) ∧ (Below w.heap.size w w')) ?_ ?_
                 rotate_left
                 ·intro hJ12
                  refine join_ (σ := Nat) 6 #[true, true, true, true, true, false, true, true, false, true, true, true, false, false, false, true, false] (fun s_ => [(8, .pointer (some ⟨s_, 0, none⟩))]) (fun s_ w' => (w'.cell? ⟨gb168, 0, none⟩ = some (.int .i64 a0_0) ∧ w'.cell? ⟨gb168, 1, none⟩ = some (.int .i64 a0_1) ∧ w'.cell? ⟨gb168, 2, none⟩ = some (.slice A0_2 l0_2.length c0_2)) ∧ (w'.heap[gb168]? = some (.cells #[.int .i64 a0_0, .int .i64 a0_1, .slice A0_2 l0_2.length c0_2] 95 (0, 0))) ∧ (w'.heap[gb169]? = some (.cells #[.int .i64 a0_0, .int .i64 a0_1, .slice A0_2 l0_2.length c0_2] 96 (0, 0))) ∧ (w'.heap[s_]? = some (.cells #[.int .i64 0, .int .i64 0, .slice none 0 0] 96 (0, 0))) ∧ (w.heap.size ≤ s_) ∧ (w.heap.size ≤ s_) ∧ (gb168 ≠ s_) ∧ (s_ ≠ gb168) ∧ (gb169 ≠ s_) ∧ (s_ ≠ gb169) ∧ (Below w.heap.size w w')) ?_ ?_
                  rotate_left
                  ·intro hJ15
                   refine three_ (i := 5) (j := 12) (k := 15) (Ni := some 65) (Nj := some 72) (Nk := some 8) #[true, true, true, true, true, true, true, true, false, true, true, true, false, false, false, false, false] #[true, true, true, true, true, false, true, true, false, true, true, true, true, false, false, false, false] #[true, true, true, true, true, false, true, true, false, true, true, true, false, false, false, true, false] rfl rfl rfl rfl rfl rfl (three_of HT_.out (by kernel_rfl)) (by decide) (by decide) (by decide) (fun K hK => ?_) (fun K hK => ?_) (fun K hK => ?_)
                   ·skip
                    refine Kd.R_lit_step (Kd.int .i64) _ 2 ?hg (N := 65) ?hd (xs := ([] : List Int)) (inner := []) (ok := fun _ => True) (okp := fun _ => True) ?hr ?hp (fun _ hk => hk) trivial (Below.refl _ _) (Nat.le_refl _) (by simp) ?_; (case hd => rfl); (case hg => rfl); (case hr => first | (go_simp; done) | (go_simp; rfl)); (case hp => exact (Reps.none _ _))
                    intro v175 w44 ho45 hb hg_ hnew_
                    clear hg_ hnew_
                    (first | rw [← Ny174.out] at ho45 | (simp only [Int.reduceToNat] at ho45; rw [← Ny174.out] at ho45))
                    have n0_ := qS (Kd.R_lower ho45 (below_size (by repeat (first | (with_reducible first | exact HB.out | apply qpA | apply qpN | apply qp1 | refine qpS ?_ GE168.out | refine qpS ?_ GE169.out) | exact HB.out))))
                    have n1_ := qS (qB (g := gb168) (o := .cells #[.int .i64 a0_0, .int .i64 a0_1, .slice A0_2 l0_2.length c0_2] 95 (0, 0)) (by (with_reducible repeat (first | refine qN ?_ _ | refine qD ?_ | refine qA ?_ _)); exact BK168.out) hb)
                    have n2_ := qS (qB (g := gb169) (o := .cells #[.int .i64 a0_0, .int .i64 a0_1, .slice A0_2 l0_2.length c0_2] 96 (0, 0)) (by (with_reducible repeat (first | refine qN ?_ _ | refine qD ?_ | refine qA ?_ _)); exact BK169.out) hb)
                    have n3_ := qS (below_step (by repeat (first | (with_reducible first | exact HB.out | apply qpA | apply qpN | apply qp1 | refine qpS ?_ GE168.out | refine qpS ?_ GE169.out) | exact HB.out)) hb)
                    clear BK168
                    clear BK169
                    clear HB
                    have HO176 := n0_
                    have BK168 := n1_
                    have BK169 := n2_
                    have HB := n3_
                    clear n0_ n1_ n2_ n3_
                    clear hb ho45
                    refine hK.out _ _ ⟨(qC BK168.out 0).trans rfl, (qC BK168.out 1).trans rfl, (qC BK168.out 2).trans rfl⟩ (fun hHeld => ?_)
                    clear hK K
                    refine norm_ (a' := ?_) ?_ ?_
                    rotate_left
                    ·show Act.put _ (some 65) _ = _
                     simp only [Act.put, List.setIfInBounds_toArray, List.set_cons_zero, List.set_cons_succ, i64_w, i32_w]
                     rfl
                    exact norm_ (by first | (simp only [putAll, Act.put, List.setIfInBounds_toArray, List.set_cons_zero, List.set_cons_succ]; done) | (simp only [putAll, Act.put, List.setIfInBounds_toArray, List.set_cons_zero, List.set_cons_succ]; rfl)) (hJ5 (v175) _ ⟨hHeld, (by (with_reducible repeat (first | apply Kd.R_alloc | apply Kd.R_drewN | apply Kd.R_drew)); exact HO176.out), (by (with_reducible repeat (first | refine qN ?_ _ | refine qD ?_ | refine qA ?_ _)); exact BK168.out), (by (with_reducible repeat (first | refine qN ?_ _ | refine qD ?_ | refine qA ?_ _)); exact BK169.out), (by repeat (first | (with_reducible first | exact HB.out | apply qpA | apply qpN | apply qp1 | refine qpS ?_ GE168.out | refine qpS ?_ GE169.out) | exact HB.out))⟩)
                   ·skip
                    refine Kd.R_lit_step (Kd.int .i64) _ 2 ?hg (N := 72) ?hd (xs := ([wrap64 (a0_1 - 1)] : List Int)) (inner := [.int .i64 (wrap64 (a0_1 - 1))]) (ok := fun _ => True) (okp := fun _ => True) ?hr ?hp (fun _ hk => hk) trivial (Below.refl _ _) (Nat.le_refl _) (by simp) ?_; (case hd => rfl); (case hg => rfl); (case hr => first | (go_simp; done) | (go_simp; rfl)); (case hp => exact (Reps.one (show Kd.M (Kd.int .i64) _ _ _ (wrap64 (a0_1 - 1)) [.int .i64 (wrap64 (a0_1 - 1))] from rfl) (Reps.none _ _)))
                    intro v181 w44 ho45 hb hg_ hnew_
                    clear hg_ hnew_
                    (first | rw [← Ny180.out] at ho45 | (simp only [Int.reduceToNat] at ho45; rw [← Ny180.out] at ho45))
                    have n0_ := qS (Kd.R_lower ho45 (below_size (by repeat (first | (with_reducible first | exact HB.out | apply qpA | apply qpN | apply qp1 | refine qpS ?_ GE168.out | refine qpS ?_ GE169.out) | exact HB.out))))
                    have n1_ := qS (qB (g := gb168) (o := .cells #[.int .i64 a0_0, .int .i64 a0_1, .slice A0_2 l0_2.length c0_2] 95 (0, 0)) (by (with_reducible repeat (first | refine qN ?_ _ | refine qD ?_ | refine qA ?_ _)); exact BK168.out) hb)
                    have n2_ := qS (qB (g := gb169) (o := .cells #[.int .i64 a0_0, .int .i64 a0_1, .slice A0_2 l0_2.length c0_2] 96 (0, 0)) (by (with_reducible repeat (first | refine qN ?_ _ | refine qD ?_ | refine qA ?_ _)); exact BK169.out) hb)
                    have n3_ := qS (below_step (by repeat (first | (with_reducible first | exact HB.out | apply qpA | apply qpN | apply qp1 | refine qpS ?_ GE168.out | refine qpS ?_ GE169.out) | exact HB.out)) hb)
                    clear BK168
                    clear BK169
                    clear HB
                    have HO182 := n0_
                    have BK168 := n1_
                    have BK169 := n2_
                    have HB := n3_
                    clear n0_ n1_ n2_ n3_
                    clear hb ho45
                    refine hK.out _ _ ⟨(qC BK168.out 0).trans rfl, (qC BK168.out 1).trans rfl, (qC BK168.out 2).trans rfl⟩ (fun hHeld => ?_)
                    clear hK K
                    refine norm_ (a' := ?_) ?_ ?_
                    rotate_left
                    ·show Act.put _ (some 72) _ = _
                     simp only [Act.put, List.setIfInBounds_toArray, List.set_cons_zero, List.set_cons_succ, i64_w, i32_w]
                     rfl
                    exact norm_ (by first | (simp only [putAll, Act.put, List.setIfInBounds_toArray, List.set_cons_zero, List.set_cons_succ]; done) | (simp only [putAll, Act.put, List.setIfInBounds_toArray, List.set_cons_zero, List.set_cons_succ]; rfl)) (hJ12 (v181) _ ⟨hHeld, (by (with_reducible repeat (first | apply Kd.R_alloc | apply Kd.R_drewN | apply Kd.R_drew)); exact HO182.out), (by (with_reducible repeat (first | refine qN ?_ _ | refine qD ?_ | refine qA ?_ _)); exact BK168.out), (by (with_reducible repeat (first | refine qN ?_ _ | refine qD ?_ | refine qA ?_ _)); exact BK169.out), (by repeat (first | (with_reducible first | exact HB.out | apply qpA | apply qpN | apply qp1 | refine qpS ?_ GE168.out | refine qpS ?_ GE169.out) | exact HB.out))⟩)
                   ·skip
                    refine box_step ?hg (N := 8) ?hd (cs := #[.int .i64 0, .int .i64 0, .slice none 0 0]) (t := 96) ?hr ?_; (case hd => rfl); (case hg => rfl); (case hr => first | (go_simp; done) | (go_simp; rfl))
                    intro gb186 hg w44 hbox hb
                    have n0_ := qS (qB (g := gb168) (o := .cells #[.int .i64 a0_0, .int .i64 a0_1, .slice A0_2 l0_2.length c0_2] 95 (0, 0)) (by (with_reducible repeat (first | refine qN ?_ _ | refine qD ?_ | refine qA ?_ _)); exact BK168.out) hb)
                    have n1_ := qS (qB (g := gb169) (o := .cells #[.int .i64 a0_0, .int .i64 a0_1, .slice A0_2 l0_2.length c0_2] 96 (0, 0)) (by (with_reducible repeat (first | refine qN ?_ _ | refine qD ?_ | refine qA ?_ _)); exact BK169.out) hb)
                    have n2_ := qS (below_step (by repeat (first | (with_reducible first | exact HB.out | apply qpA | apply qpN | apply qp1 | refine qpS ?_ GE168.out | refine qpS ?_ GE169.out) | exact HB.out)) hb)
                    have n3_ := qS (hbox)
                    have n4_ := qS ((by rw [hg]; exact (below_size (by repeat (first | (with_reducible first | exact HB.out | apply qpA | apply qpN | apply qp1 | refine qpS ?_ GE168.out | refine qpS ?_ GE169.out) | exact HB.out))) : w.heap.size ≤ gb186))
                    have n5_ := qS ((by rw [hg]; exact (below_size (by repeat (first | (with_reducible first | exact HB.out | apply qpA | apply qpN | apply qp1 | refine qpS ?_ GE168.out | refine qpS ?_ GE169.out) | exact HB.out))) : w.heap.size ≤ gb186))
                    have n6_ := qS ((by rw [hg]; exact Nat.ne_of_lt (blk_lt (g := gb168) (o := .cells #[.int .i64 a0_0, .int .i64 a0_1, .slice A0_2 l0_2.length c0_2] 95 (0, 0)) (by (with_reducible repeat (first | refine qN ?_ _ | refine qD ?_ | refine qA ?_ _)); exact BK168.out)) : gb168 ≠ gb186))
                    have n7_ := qS ((by rw [hg]; exact Nat.ne_of_gt (blk_lt (g := gb168) (o := .cells #[.int .i64 a0_0, .int .i64 a0_1, .slice A0_2 l0_2.length c0_2] 95 (0, 0)) (by (with_reducible repeat (first | refine qN ?_ _ | refine qD ?_ | refine qA ?_ _)); exact BK168.out)) : gb186 ≠ gb168))
                    have n8_ := qS ((by rw [hg]; exact Nat.ne_of_lt (blk_lt (g := gb169) (o := .cells #[.int .i64 a0_0, .int .i64 a0_1, .slice A0_2 l0_2.length c0_2] 96 (0, 0)) (by (with_reducible repeat (first | refine qN ?_ _ | refine qD ?_ | refine qA ?_ _)); exact BK169.out)) : gb169 ≠ gb186))
                    have n9_ := qS ((by rw [hg]; exact Nat.ne_of_gt (blk_lt (g := gb169) (o := .cells #[.int .i64 a0_0, .int .i64 a0_1, .slice A0_2 l0_2.length c0_2] 96 (0, 0)) (by (with_reducible repeat (first | refine qN ?_ _ | refine qD ?_ | refine qA ?_ _)); exact BK169.out)) : gb186 ≠ gb169))
                    clear BK168
                    clear BK169
                    clear HB
                    have BK168 := n0_
                    have BK169 := n1_
                    have HB := n2_
                    have BK186 := n3_
                    have GW186 := n4_
                    have GE186 := n5_
                    have NB168_186 := n6_
                    have NB186_168 := n7_
                    have NB169_186 := n8_
                    have NB186_169 := n9_
                    clear n0_ n1_ n2_ n3_ n4_ n5_ n6_ n7_ n8_ n9_
                    clear hb hbox hg
                    refine hK.out _ _ ⟨(qC BK168.out 0).trans rfl, (qC BK168.out 1).trans rfl, (qC BK168.out 2).trans rfl⟩ (fun hHeld => ?_)
                    clear hK K
                    refine norm_ (a' := ?_) ?_ ?_
                    rotate_left
                    ·show Act.put _ (some 8) _ = _
                     simp only [Act.put, List.setIfInBounds_toArray, List.set_cons_zero, List.set_cons_succ, i64_w, i32_w]
                     rfl
                    exact norm_ (by first | (simp only [putAll, Act.put, List.setIfInBounds_toArray, List.set_cons_zero, List.set_cons_succ]; done) | (simp only [putAll, Act.put, List.setIfInBounds_toArray, List.set_cons_zero, List.set_cons_succ]; rfl)) (hJ15 (gb186) _ ⟨hHeld, (by (with_reducible repeat (first | refine qN ?_ _ | refine qD ?_ | refine qA ?_ _)); exact BK168.out), (by (with_reducible repeat (first | refine qN ?_ _ | refine qD ?_ | refine qA ?_ _)); exact BK169.out), (by (with_reducible repeat (first | refine qN ?_ _ | refine qD ?_ | refine qA ?_ _)); exact BK186.out), GW186.out, GE186.out, NB168_186.out, NB186_168.out, NB169_186.out, NB186_169.out, (by repeat (first | (with_reducible first | exact HB.out | apply qpA | apply qpN | apply qp1 | refine qpS ?_ GE168.out | refine qpS ?_ GE169.out | refine qpS ?_ GE186.out) | exact HB.out))⟩)
                  ·skip
                   rintro gb186 w45 ⟨hS_, h0_, h1_, h2_, h3_, h4_, h5_, h6_, h7_, h8_, h9_⟩
                   have n0_ : Aside0 (w45.heap[gb168]? = some (.cells #[.int .i64 a0_0, .int .i64 a0_1, .slice A0_2 l0_2.length c0_2] 95 (0, 0))) := ⟨h0_⟩
                   have n1_ : Aside0 (w45.heap[gb169]? = some (.cells #[.int .i64 a0_0, .int .i64 a0_1, .slice A0_2 l0_2.length c0_2] 96 (0, 0))) := ⟨h1_⟩
                   have n2_ : Aside0 (w45.heap[gb186]? = some (.cells #[.int .i64 0, .int .i64 0, .slice none 0 0] 96 (0, 0))) := ⟨h2_⟩
                   have n3_ : Aside0 (w.heap.size ≤ gb186) := ⟨h3_⟩
                   have n4_ : Aside0 (w.heap.size ≤ gb186) := ⟨h4_⟩
                   have n5_ : Aside0 (gb168 ≠ gb186) := ⟨h5_⟩
                   have n6_ : Aside0 (gb186 ≠ gb168) := ⟨h6_⟩
                   have n7_ : Aside0 (gb169 ≠ gb186) := ⟨h7_⟩
                   have n8_ : Aside0 (gb186 ≠ gb169) := ⟨h8_⟩
                   have n9_ : Aside0 (Below w.heap.size w w45) := ⟨h9_⟩
                   clear BK168
                   clear BK169
                   clear HB
                   clear h0_ h1_ h2_ h3_ h4_ h5_ h6_ h7_ h8_ h9_
                   have BK168 := n0_
                   have BK169 := n1_
                   have BK186 := n2_
                   have GW186 := n3_
                   have GE186 := n4_
                   have NB168_186 := n5_
                   have NB186_168 := n6_
                   have NB169_186 := n7_
                   have NB186_169 := n8_
                   have HB := n9_
                   clear n0_ n1_ n2_ n3_ n4_ n5_ n6_ n7_ n8_ n9_
                   have hHeld : w45.cell? ⟨gb168, 0, none⟩ = some (.int .i64 a0_0) ∧ w45.cell? ⟨gb168, 1, none⟩ = some (.int .i64 a0_1) ∧ w45.cell? ⟨gb168, 2, none⟩ = some (.slice A0_2 l0_2.length c0_2) := hS_
                   refine norm_ (a' := ?_) ?_ ?_
                   rotate_left
                   ·simp only [putAll, Act.put, List.setIfInBounds_toArray, List.set_cons_zero, List.set_cons_succ]
                    rfl
                   refine two_ (i := 5) (j := 12) (Ni := some 65) (Nj := some 72) #[true, true, true, true, true, true, true, true, false, true, true, true, false, false, false, true, false] #[true, true, true, true, true, false, true, true, false, true, true, true, true, false, false, true, false] rfl rfl rfl rfl (two_of HT_.out (by kernel_rfl)) (by decide) (by decide) (fun K hK => ?_) (fun K hK => ?_)
                   ·skip
                    refine Kd.R_lit_step (Kd.int .i64) _ 2 ?hg (N := 65) ?hd (xs := ([] : List Int)) (inner := []) (ok := fun _ => True) (okp := fun _ => True) ?hr ?hp (fun _ hk => hk) trivial (Below.refl _ _) (Nat.le_refl _) (by simp) ?_; (case hd => rfl); (case hg => rfl); (case hr => first | (go_simp; done) | (go_simp; rfl)); (case hp => exact (Reps.none _ _))
                    intro v175 w46 ho47 hb hg_ hnew_
                    clear hg_ hnew_
                    (first | rw [← Ny174.out] at ho47 | (simp only [Int.reduceToNat] at ho47; rw [← Ny174.out] at ho47))
                    have n0_ := qS (Kd.R_lower ho47 (below_size (by repeat (first | (with_reducible first | exact HB.out | apply qpA | apply qpN | apply qp1 | refine qpS ?_ GE168.out | refine qpS ?_ GE169.out | refine qpS ?_ GE186.out) | exact HB.out))))
                    have n1_ := qS (qB (g := gb168) (o := .cells #[.int .i64 a0_0, .int .i64 a0_1, .slice A0_2 l0_2.length c0_2] 95 (0, 0)) (by (with_reducible repeat (first | refine qN ?_ _ | refine qD ?_ | refine qA ?_ _)); exact BK168.out) hb)
                    have n2_ := qS (qB (g := gb169) (o := .cells #[.int .i64 a0_0, .int .i64 a0_1, .slice A0_2 l0_2.length c0_2] 96 (0, 0)) (by (with_reducible repeat (first | refine qN ?_ _ | refine qD ?_ | refine qA ?_ _)); exact BK169.out) hb)
                    have n3_ := qS (qB (g := gb186) (o := .cells #[.int .i64 0, .int .i64 0, .slice none 0 0] 96 (0, 0)) (by (with_reducible repeat (first | refine qN ?_ _ | refine qD ?_ | refine qA ?_ _)); exact BK186.out) hb)
                    have n4_ := qS (below_step (by repeat (first | (with_reducible first | exact HB.out | apply qpA | apply qpN | apply qp1 | refine qpS ?_ GE168.out | refine qpS ?_ GE169.out | refine qpS ?_ GE186.out) | exact HB.out)) hb)
                    clear BK168
                    clear BK169
                    clear BK186
                    clear HB
                    have HO176 := n0_
                    have BK168 := n1_
                    have BK169 := n2_
                    have BK186 := n3_
                    have HB := n4_
                    clear n0_ n1_ n2_ n3_ n4_
                    clear hb ho47
                    refine hK.out _ _ ⟨(qC BK168.out 0).trans rfl, (qC BK168.out 1).trans rfl, (qC BK168.out 2).trans rfl⟩ (fun hHeld => ?_)
                    clear hK K
                    refine norm_ (a' := ?_) ?_ ?_
                    rotate_left
                    ·show Act.put _ (some 65) _ = _
                     simp only [Act.put, List.setIfInBounds_toArray, List.set_cons_zero, List.set_cons_succ, i64_w, i32_w]
                     rfl
                    exact norm_ (by first | (simp only [putAll, Act.put, List.setIfInBounds_toArray, List.set_cons_zero, List.set_cons_succ]; done) | (simp only [putAll, Act.put, List.setIfInBounds_toArray, List.set_cons_zero, List.set_cons_succ]; rfl)) (hJ5_15 (v175, gb186) _ ⟨hHeld, (by (with_reducible repeat (first | apply Kd.R_alloc | apply Kd.R_drewN | apply Kd.R_drew)); exact HO176.out), (by (with_reducible repeat (first | refine qN ?_ _ | refine qD ?_ | refine qA ?_ _)); exact BK168.out), (by (with_reducible repeat (first | refine qN ?_ _ | refine qD ?_ | refine qA ?_ _)); exact BK169.out), (by (with_reducible repeat (first | refine qN ?_ _ | refine qD ?_ | refine qA ?_ _)); exact BK186.out), GW186.out, GE186.out, NB168_186.out, NB186_168.out, NB169_186.out, NB186_169.out, (by repeat (first | (with_reducible first | exact HB.out | apply qpA | apply qpN | apply qp1 | refine qpS ?_ GE168.out | refine qpS ?_ GE169.out | refine qpS ?_ GE186.out) | exact HB.out))⟩)
                   ·skip
                    refine Kd.R_lit_step (Kd.int .i64) _ 2 ?hg (N := 72) ?hd (xs := ([wrap64 (a0_1 - 1)] : List Int)) (inner := [.int .i64 (wrap64 (a0_1 - 1))]) (ok := fun _ => True) (okp := fun _ => True) ?hr ?hp (fun _ hk => hk) trivial (Below.refl _ _) (Nat.le_refl _) (by simp) ?_; (case hd => rfl); (case hg => rfl); (case hr => first | (go_simp; done) | (go_simp; rfl)); (case hp => exact (Reps.one (show Kd.M (Kd.int .i64) _ _ _ (wrap64 (a0_1 - 1)) [.int .i64 (wrap64 (a0_1 - 1))] from rfl) (Reps.none _ _)))
                    intro v181 w46 ho47 hb hg_ hnew_
                    clear hg_ hnew_
                    (first | rw [← Ny180.out] at ho47 | (simp only [Int.reduceToNat] at ho47; rw [← Ny180.out] at ho47))
                    have n0_ := qS (Kd.R_lower ho47 (below_size (by repeat (first | (with_reducible first | exact HB.out | apply qpA | apply qpN | apply qp1 | refine qpS ?_ GE168.out | refine qpS ?_ GE169.out | refine qpS ?_ GE186.out) | exact HB.out))))
                    have n1_ := qS (qB (g := gb168) (o := .cells #[.int .i64 a0_0, .int .i64 a0_1, .slice A0_2 l0_2.length c0_2] 95 (0, 0)) (by (with_reducible repeat (first | refine qN ?_ _ | refine qD ?_ | refine qA ?_ _)); exact BK168.out) hb)
                    have n2_ := qS (qB (g := gb169) (o := .cells #[.int .i64 a0_0, .int .i64 a0_1, .slice A0_2 l0_2.length c0_2] 96 (0, 0)) (by (with_reducible repeat (first | refine qN ?_ _ | refine qD ?_ | refine qA ?_ _)); exact BK169.out) hb)
                    have n3_ := qS (qB (g := gb186) (o := .cells #[.int .i64 0, .int .i64 0, .slice none 0 0] 96 (0, 0)) (by (with_reducible repeat (first | refine qN ?_ _ | refine qD ?_ | refine qA ?_ _)); exact BK186.out) hb)
                    have n4_ := qS (below_step (by repeat (first | (with_reducible first | exact HB.out | apply qpA | apply qpN | apply qp1 | refine qpS ?_ GE168.out | refine qpS ?_ GE169.out | refine qpS ?_ GE186.out) | exact HB.out)) hb)
                    clear BK168
                    clear BK169
                    clear BK186
                    clear HB
                    have HO182 := n0_
                    have BK168 := n1_
                    have BK169 := n2_
                    have BK186 := n3_
                    have HB := n4_
                    clear n0_ n1_ n2_ n3_ n4_
                    clear hb ho47
                    refine hK.out _ _ ⟨(qC BK168.out 0).trans rfl, (qC BK168.out 1).trans rfl, (qC BK168.out 2).trans rfl⟩ (fun hHeld => ?_)
                    clear hK K
                    refine norm_ (a' := ?_) ?_ ?_
                    rotate_left
                    ·show Act.put _ (some 72) _ = _
                     simp only [Act.put, List.setIfInBounds_toArray, List.set_cons_zero, List.set_cons_succ, i64_w, i32_w]
                     rfl
                    exact norm_ (by first | (simp only [putAll, Act.put, List.setIfInBounds_toArray, List.set_cons_zero, List.set_cons_succ]; done) | (simp only [putAll, Act.put, List.setIfInBounds_toArray, List.set_cons_zero, List.set_cons_succ]; rfl)) (hJ12_15 (v181, gb186) _ ⟨hHeld, (by (with_reducible repeat (first | apply Kd.R_alloc | apply Kd.R_drewN | apply Kd.R_drew)); exact HO182.out), (by (with_reducible repeat (first | refine qN ?_ _ | refine qD ?_ | refine qA ?_ _)); exact BK168.out), (by (with_reducible repeat (first | refine qN ?_ _ | refine qD ?_ | refine qA ?_ _)); exact BK169.out), (by (with_reducible repeat (first | refine qN ?_ _ | refine qD ?_ | refine qA ?_ _)); exact BK186.out), GW186.out, GE186.out, NB168_186.out, NB186_168.out, NB169_186.out, NB186_169.out, (by repeat (first | (with_reducible first | exact HB.out | apply qpA | apply qpN | apply qp1 | refine qpS ?_ GE168.out | refine qpS ?_ GE169.out | refine qpS ?_ GE186.out) | exact HB.out))⟩)
                 ·skip
                  rintro v181 w46 ⟨hS_, h0_, h1_, h2_, h3_⟩
                  have n0_ : Aside0 (Kd.R (Kd.int .i64) 2 w46 w.heap.size (fun _ => True) v181 y180) := ⟨h0_⟩
                  have n1_ : Aside0 (w46.heap[gb168]? = some (.cells #[.int .i64 a0_0, .int .i64 a0_1, .slice A0_2 l0_2.length c0_2] 95 (0, 0))) := ⟨h1_⟩
                  have n2_ : Aside0 (w46.heap[gb169]? = some (.cells #[.int .i64 a0_0, .int .i64 a0_1, .slice A0_2 l0_2.length c0_2] 96 (0, 0))) := ⟨h2_⟩
                  have n3_ : Aside0 (Below w.heap.size w w46) := ⟨h3_⟩
                  clear BK168
                  clear BK169
                  clear HB
                  clear h0_ h1_ h2_ h3_
                  have HO182 := n0_
                  have BK168 := n1_
                  have BK169 := n2_
                  have HB := n3_
                  clear n0_ n1_ n2_ n3_
                  have hHeld : w46.cell? ⟨gb168, 0, none⟩ = some (.int .i64 a0_0) ∧ w46.cell? ⟨gb168, 1, none⟩ = some (.int .i64 a0_1) ∧ w46.cell? ⟨gb168, 2, none⟩ = some (.slice A0_2 l0_2.length c0_2) := hS_
                  refine norm_ (a' := ?_) ?_ ?_
                  rotate_left
                  ·simp only [putAll, Act.put, List.setIfInBounds_toArray, List.set_cons_zero, List.set_cons_succ]
                   rfl
                  refine two_ (i := 5) (j := 15) (Ni := some 65) (Nj := some 8) #[true, true, true, true, true, true, true, true, false, true, true, true, true, false, false, false, false] #[true, true, true, true, true, false, true, true, false, true, true, true, true, false, false, true, false] rfl rfl rfl rfl (two_of HT_.out (by kernel_rfl)) (by decide) (by decide) (fun K hK => ?_) (fun K hK => ?_)
                  ·skip
                   refine Kd.R_lit_step (Kd.int .i64) _ 2 ?hg (N := 65) ?hd (xs := ([] : List Int)) (inner := []) (ok := fun _ => True) (okp := fun _ => True) ?hr ?hp (fun _ hk => hk) trivial (Below.refl _ _) (Nat.le_refl _) (by simp) ?_; (case hd => rfl); (case hg => rfl); (case hr => first | (go_simp; done) | (go_simp; rfl)); (case hp => exact (Reps.none _ _))
                   intro v175 w47 ho48 hb hg_ hnew_
                   clear hg_ hnew_
                   (first | rw [← Ny174.out] at ho48 | (simp only [Int.reduceToNat] at ho48; rw [← Ny174.out] at ho48))
                   have n0_ := qS (Kd.R_elder' (by (with_reducible repeat (first | apply Kd.R_alloc | apply Kd.R_drewN | apply Kd.R_drew)); exact HO182.out) (Kd.R_base ho48) hb)
                   have n1_ := qS (Kd.R_lower (Kd.R_new' ho48 (Kd.R_lt (by (with_reducible repeat (first | apply Kd.R_alloc | apply Kd.R_drewN | apply Kd.R_drew)); exact HO182.out))) (below_size (by repeat (first | (with_reducible first | exact HB.out | apply qpA | apply qpN | apply qp1 | refine qpS ?_ GE168.out | refine qpS ?_ GE169.out) | exact HB.out))))
                   have n2_ := qS (qB (g := gb168) (o := .cells #[.int .i64 a0_0, .int .i64 a0_1, .slice A0_2 l0_2.length c0_2] 95 (0, 0)) (by (with_reducible repeat (first | refine qN ?_ _ | refine qD ?_ | refine qA ?_ _)); exact BK168.out) hb)
                   have n3_ := qS (qB (g := gb169) (o := .cells #[.int .i64 a0_0, .int .i64 a0_1, .slice A0_2 l0_2.length c0_2] 96 (0, 0)) (by (with_reducible repeat (first | refine qN ?_ _ | refine qD ?_ | refine qA ?_ _)); exact BK169.out) hb)
                   have n4_ := qS (below_step (by repeat (first | (with_reducible first | exact HB.out | apply qpA | apply qpN | apply qp1 | refine qpS ?_ GE168.out | refine qpS ?_ GE169.out) | exact HB.out)) hb)
                   clear HO182
                   clear BK168
                   clear BK169
                   clear HB
                   have HO182 := n0_
                   have HO176 := n1_
                   have BK168 := n2_
                   have BK169 := n3_
                   have HB := n4_
                   clear n0_ n1_ n2_ n3_ n4_
                   clear hb ho48
                   refine hK.out _ _ ⟨(qC BK168.out 0).trans rfl, (qC BK168.out 1).trans rfl, (qC BK168.out 2).trans rfl⟩ (fun hHeld => ?_)
                   clear hK K
                   refine norm_ (a' := ?_) ?_ ?_
                   rotate_left
                   ·show Act.put _ (some 65) _ = _
                    simp only [Act.put, List.setIfInBounds_toArray, List.set_cons_zero, List.set_cons_succ, i64_w, i32_w]
                    rfl
                   exact norm_ (by first | (simp only [putAll, Act.put, List.setIfInBounds_toArray, List.set_cons_zero, List.set_cons_succ]; done) | (simp only [putAll, Act.put, List.setIfInBounds_toArray, List.set_cons_zero, List.set_cons_succ]; rfl)) (hJ5_12 (v175, v181) _ ⟨hHeld, (by (with_reducible repeat (first | apply Kd.R_alloc | apply Kd.R_drewN | apply Kd.R_drew)); exact Kd.R_mono HO176.out (fun _ hk => by first | exact hk.2 | exact True.intro)), (by (with_reducible repeat (first | apply Kd.R_alloc | apply Kd.R_drewN | apply Kd.R_drew)); exact Kd.R_mono HO182.out (fun _ hk => by first | exact hk.2 | exact True.intro)), (by (with_reducible repeat (first | refine qN ?_ _ | refine qD ?_ | refine qA ?_ _)); exact BK168.out), (by (with_reducible repeat (first | refine qN ?_ _ | refine qD ?_ | refine qA ?_ _)); exact BK169.out), (by repeat (first | (with_reducible first | exact HB.out | apply qpA | apply qpN | apply qp1 | refine qpS ?_ GE168.out | refine qpS ?_ GE169.out) | exact HB.out))⟩)
                  ·skip
                   refine box_step ?hg (N := 8) ?hd (cs := #[.int .i64 0, .int .i64 0, .slice none 0 0]) (t := 96) ?hr ?_; (case hd => rfl); (case hg => rfl); (case hr => first | (go_simp; done) | (go_simp; rfl))
                   intro gb186 hg w47 hbox hb
                   have n0_ := qS (Kd.R_below (by (with_reducible repeat (first | apply Kd.R_alloc | apply Kd.R_drewN | apply Kd.R_drew)); exact HO182.out) hb)
                   have n1_ := qS (qB (g := gb168) (o := .cells #[.int .i64 a0_0, .int .i64 a0_1, .slice A0_2 l0_2.length c0_2] 95 (0, 0)) (by (with_reducible repeat (first | refine qN ?_ _ | refine qD ?_ | refine qA ?_ _)); exact BK168.out) hb)
                   have n2_ := qS (qB (g := gb169) (o := .cells #[.int .i64 a0_0, .int .i64 a0_1, .slice A0_2 l0_2.length c0_2] 96 (0, 0)) (by (with_reducible repeat (first | refine qN ?_ _ | refine qD ?_ | refine qA ?_ _)); exact BK169.out) hb)
                   have n3_ := qS (below_step (by repeat (first | (with_reducible first | exact HB.out | apply qpA | apply qpN | apply qp1 | refine qpS ?_ GE168.out | refine qpS ?_ GE169.out) | exact HB.out)) hb)
                   have n4_ := qS (hbox)
                   have n5_ := qS ((by rw [hg]; exact (below_size (by repeat (first | (with_reducible first | exact HB.out | apply qpA | apply qpN | apply qp1 | refine qpS ?_ GE168.out | refine qpS ?_ GE169.out) | exact HB.out))) : w.heap.size ≤ gb186))
                   have n6_ := qS ((by rw [hg]; exact (below_size (by repeat (first | (with_reducible first | exact HB.out | apply qpA | apply qpN | apply qp1 | refine qpS ?_ GE168.out | refine qpS ?_ GE169.out) | exact HB.out))) : w.heap.size ≤ gb186))
                   have n7_ := qS ((by rw [hg]; exact Nat.ne_of_lt (blk_lt (g := gb168) (o := .cells #[.int .i64 a0_0, .int .i64 a0_1, .slice A0_2 l0_2.length c0_2] 95 (0, 0)) (by (with_reducible repeat (first | refine qN ?_ _ | refine qD ?_ | refine qA ?_ _)); exact BK168.out)) : gb168 ≠ gb186))
                   have n8_ := qS ((by rw [hg]; exact Nat.ne_of_gt (blk_lt (g := gb168) (o := .cells #[.int .i64 a0_0, .int .i64 a0_1, .slice A0_2 l0_2.length c0_2] 95 (0, 0)) (by (with_reducible repeat (first | refine qN ?_ _ | refine qD ?_ | refine qA ?_ _)); exact BK168.out)) : gb186 ≠ gb168))
                   have n9_ := qS ((by rw [hg]; exact Nat.ne_of_lt (blk_lt (g := gb169) (o := .cells #[.int .i64 a0_0, .int .i64 a0_1, .slice A0_2 l0_2.length c0_2] 96 (0, 0)) (by (with_reducible repeat (first | refine qN ?_ _ | refine qD ?_ | refine qA ?_ _)); exact BK169.out)) : gb169 ≠ gb186))
                   have n10_ := qS ((by rw [hg]; exact Nat.ne_of_gt (blk_lt (g := gb169) (o := .cells #[.int .i64 a0_0, .int .i64 a0_1, .slice A0_2 l0_2.length c0_2] 96 (0, 0)) (by (with_reducible repeat (first | refine qN ?_ _ | refine qD ?_ | refine qA ?_ _)); exact BK169.out)) : gb186 ≠ gb169))
                   clear HO182
                   clear BK168
                   clear BK169
                   clear HB
                   have HO182 := n0_
                   have BK168 := n1_
                   have BK169 := n2_
                   have HB := n3_
                   have BK186 := n4_
                   have GW186 := n5_
                   have GE186 := n6_
                   have NB168_186 := n7_
                   have NB186_168 := n8_
                   have NB169_186 := n9_
                   have NB186_169 := n10_
                   clear n0_ n1_ n2_ n3_ n4_ n5_ n6_ n7_ n8_ n9_ n10_
                   clear hb hbox hg
                   refine hK.out _ _ ⟨(qC BK168.out 0).trans rfl, (qC BK168.out 1).trans rfl, (qC BK168.out 2).trans rfl⟩ (fun hHeld => ?_)
                   clear hK K
                   refine norm_ (a' := ?_) ?_ ?_
                   rotate_left
                   ·show Act.put _ (some 8) _ = _
                    simp only [Act.put, List.setIfInBounds_toArray, List.set_cons_zero, List.set_cons_succ, i64_w, i32_w]
                    rfl
                   exact norm_ (by first | (simp only [putAll, Act.put, List.setIfInBounds_toArray, List.set_cons_zero, List.set_cons_succ]; done) | (simp only [putAll, Act.put, List.setIfInBounds_toArray, List.set_cons_zero, List.set_cons_succ]; rfl)) (hJ12_15 (v181, gb186) _ ⟨hHeld, (by (with_reducible repeat (first | apply Kd.R_alloc | apply Kd.R_drewN | apply Kd.R_drew)); exact HO182.out), (by (with_reducible repeat (first | refine qN ?_ _ | refine qD ?_ | refine qA ?_ _)); exact BK168.out), (by (with_reducible repeat (first | refine qN ?_ _ | refine qD ?_ | refine qA ?_ _)); exact BK169.out), (by (with_reducible repeat (first | refine qN ?_ _ | refine qD ?_ | refine qA ?_ _)); exact BK186.out), GW186.out, GE186.out, NB168_186.out, NB186_168.out, NB169_186.out, NB186_169.out, (by repeat (first | (with_reducible first | exact HB.out | apply qpA | apply qpN | apply qp1 | refine qpS ?_ GE168.out | refine qpS ?_ GE169.out | refine qpS ?_ GE186.out) | exact HB.out))⟩)
                ·skip
                 rintro v175 w46 ⟨hS_, h0_, h1_, h2_, h3_⟩
                 have n0_ : Aside0 (Kd.R (Kd.int .i64) 2 w46 w.heap.size (fun _ => True) v175 y174) := ⟨h0_⟩
                 have n1_ : Aside0 (w46.heap[gb168]? = some (.cells #[.int .i64 a0_0, .int .i64 a0_1, .slice A0_2 l0_2.length c0_2] 95 (0, 0))) := ⟨h1_⟩
                 have n2_ : Aside0 (w46.heap[gb169]? = some (.cells #[.int .i64 a0_0, .int .i64 a0_1, .slice A0_2 l0_2.length c0_2] 96 (0, 0))) := ⟨h2_⟩
                 have n3_ : Aside0 (Below w.heap.size w w46) := ⟨h3_⟩
                 clear BK168
                 clear BK169
                 clear HB
                 clear h0_ h1_ h2_ h3_
                 have HO176 := n0_
                 have BK168 := n1_
                 have BK169 := n2_
                 have HB := n3_
                 clear n0_ n1_ n2_ n3_
                 have hHeld : w46.cell? ⟨gb168, 0, none⟩ = some (.int .i64 a0_0) ∧ w46.cell? ⟨gb168, 1, none⟩ = some (.int .i64 a0_1) ∧ w46.cell? ⟨gb168, 2, none⟩ = some (.slice A0_2 l0_2.length c0_2) := hS_
                 refine norm_ (a' := ?_) ?_ ?_
                 rotate_left
                 ·simp only [putAll, Act.put, List.setIfInBounds_toArray, List.set_cons_zero, List.set_cons_succ]
                  rfl
                 refine three_ (i := 8) (j := 12) (k := 15) (Ni := some 68) (Nj := some 72) (Nk := some 8) #[true, true, true, true, true, true, true, true, true, true, true, true, false, false, false, false, false] #[true, true, true, true, true, true, true, true, false, true, true, true, true, false, false, false, false] #[true, true, true, true, true, true, true, true, false, true, true, true, false, false, false, true, false] rfl rfl rfl rfl rfl rfl (three_of HT_.out (by kernel_rfl)) (by decide) (by decide) (by decide) (fun K hK => ?_) (fun K hK => ?_) (fun K hK => ?_)
                 ·skip
                  refine Kd.R_append_rows_step (Kd.int .i64) (w0 := w) w.heap.size (by rfl) (.tmp 65) (.tmp 67) 90 2 (.int .i64 0) 8 rfl Tryd.underlying90 info2 rfl (by decide) (by omega) v175 y174 l0_2 _ _ _ (fun _ => True) (fun _ => False) rfl rfl ?aO ?aR (fun _ _ h => h) (fun _ h => h.elim) ?aF ?aB ?aS ?aL ?_
                  (case aR => repeat (first | exact (Kd.C_below HR0_2.out HB.out) | (with_reducible refine Kd.C_alloc ?_ _) | (with_reducible refine Kd.C_drewN ?_ _) | (with_reducible refine Kd.C_drew ?_)))
                  (case aB => exact (by repeat (first | (with_reducible first | exact HB.out | apply qpA | apply qpN | apply qp1 | refine qpS ?_ GE168.out | refine qpS ?_ GE169.out) | exact HB.out)))
                  (case aF => exact (fun _ _ => trivial))
                  (case aO => exact (by (with_reducible repeat (first | apply Kd.R_alloc | apply Kd.R_drewN | apply Kd.R_drew)); exact HO176.out))
                  (case aS => exact (below_size (by repeat (first | (with_reducible first | exact HB.out | apply qpA | apply qpN | apply qp1 | refine qpS ?_ GE168.out | refine qpS ?_ GE169.out) | exact HB.out))))
                  (case aL => have := LMc38.out; omega)
                  intro v178 w47 ho hb hg hat
                  rw [← Ny177.out] at ho
                  have n0_ := qS (blk_grown (g := gb168) (o := .cells #[.int .i64 a0_0, .int .i64 a0_1, .slice A0_2 l0_2.length c0_2] 95 (0, 0)) (by (with_reducible repeat (first | refine qN ?_ _ | refine qD ?_ | refine qA ?_ _)); exact BK168.out) hg (Kd.R_ne HO176.out BK168.out (by decide)))
                  have n1_ := qS (blk_grown (g := gb169) (o := .cells #[.int .i64 a0_0, .int .i64 a0_1, .slice A0_2 l0_2.length c0_2] 96 (0, 0)) (by (with_reducible repeat (first | refine qN ?_ _ | refine qD ?_ | refine qA ?_ _)); exact BK169.out) hg (Kd.R_ne HO176.out BK169.out (by decide)))
                  have n2_ := qS (hb)
                  have n3_ := qS (ho)
                  clear BK168
                  clear BK169
                  clear HB
                  clear HO176
                  have BK168 := n0_
                  have BK169 := n1_
                  have HB := n2_
                  have HO179 := n3_
                  clear n0_ n1_ n2_ n3_
                  clear ho hb hg hat
                  refine hK.out _ _ ⟨(qC BK168.out 0).trans rfl, (qC BK168.out 1).trans rfl, (qC BK168.out 2).trans rfl⟩ (fun hHeld => ?_)
                  clear hK K
                  refine norm_ (a' := ?_) ?_ ?_
                  rotate_left
                  ·show Act.put _ (some 68) _ = _
                   simp only [Act.put, List.setIfInBounds_toArray, List.set_cons_zero, List.set_cons_succ, i64_w, i32_w]
                   rfl
                  exact norm_ (by first | (simp only [putAll, Act.put, List.setIfInBounds_toArray, List.set_cons_zero, List.set_cons_succ]; done) | (simp only [putAll, Act.put, List.setIfInBounds_toArray, List.set_cons_zero, List.set_cons_succ]; rfl)) (hJ5_8 (v175, v178) _ ⟨hHeld, (by (with_reducible repeat (first | apply Kd.R_alloc | apply Kd.R_drewN | apply Kd.R_drew)); exact HO179.out), (by (with_reducible repeat (first | refine qN ?_ _ | refine qD ?_ | refine qA ?_ _)); exact BK168.out), (by (with_reducible repeat (first | refine qN ?_ _ | refine qD ?_ | refine qA ?_ _)); exact BK169.out), (by repeat (first | (with_reducible first | exact HB.out | apply qpA | apply qpN | apply qp1 | refine qpS ?_ GE168.out | refine qpS ?_ GE169.out) | exact HB.out))⟩)
                 ·skip
                  refine Kd.R_lit_step (Kd.int .i64) _ 2 ?hg (N := 72) ?hd (xs := ([wrap64 (a0_1 - 1)] : List Int)) (inner := [.int .i64 (wrap64 (a0_1 - 1))]) (ok := fun _ => True) (okp := fun _ => True) ?hr ?hp (fun _ hk => hk) trivial (Below.refl _ _) (Nat.le_refl _) (by simp) ?_; (case hd => rfl); (case hg => rfl); (case hr => first | (go_simp; done) | (go_simp; rfl)); (case hp => exact (Reps.one (show Kd.M (Kd.int .i64) _ _ _ (wrap64 (a0_1 - 1)) [.int .i64 (wrap64 (a0_1 - 1))] from rfl) (Reps.none _ _)))
                  intro v181 w47 ho48 hb hg_ hnew_
                  clear hg_ hnew_
                  (first | rw [← Ny180.out] at ho48 | (simp only [Int.reduceToNat] at ho48; rw [← Ny180.out] at ho48))
                  have n0_ := qS (Kd.R_elder' (by (with_reducible repeat (first | apply Kd.R_alloc | apply Kd.R_drewN | apply Kd.R_drew)); exact HO176.out) (Kd.R_base ho48) hb)
                  have n1_ := qS (Kd.R_lower (Kd.R_new' ho48 (Kd.R_lt (by (with_reducible repeat (first | apply Kd.R_alloc | apply Kd.R_drewN | apply Kd.R_drew)); exact HO176.out))) (below_size (by repeat (first | (with_reducible first | exact HB.out | apply qpA | apply qpN | apply qp1 | refine qpS ?_ GE168.out | refine qpS ?_ GE169.out) | exact HB.out))))
                  have n2_ := qS (qB (g := gb168) (o := .cells #[.int .i64 a0_0, .int .i64 a0_1, .slice A0_2 l0_2.length c0_2] 95 (0, 0)) (by (with_reducible repeat (first | refine qN ?_ _ | refine qD ?_ | refine qA ?_ _)); exact BK168.out) hb)
                  have n3_ := qS (qB (g := gb169) (o := .cells #[.int .i64 a0_0, .int .i64 a0_1, .slice A0_2 l0_2.length c0_2] 96 (0, 0)) (by (with_reducible repeat (first | refine qN ?_ _ | refine qD ?_ | refine qA ?_ _)); exact BK169.out) hb)
                  have n4_ := qS (below_step (by repeat (first | (with_reducible first | exact HB.out | apply qpA | apply qpN | apply qp1 | refine qpS ?_ GE168.out | refine qpS ?_ GE169.out) | exact HB.out)) hb)
                  clear HO176
                  clear BK168
                  clear BK169
                  clear HB
                  have HO176 := n0_
                  have HO182 := n1_
                  have BK168 := n2_
                  have BK169 := n3_
                  have HB := n4_
                  clear n0_ n1_ n2_ n3_ n4_
                  clear hb ho48
                  refine hK.out _ _ ⟨(qC BK168.out 0).trans rfl, (qC BK168.out 1).trans rfl, (qC BK168.out 2).trans rfl⟩ (fun hHeld => ?_)
                  clear hK K
                  refine norm_ (a' := ?_) ?_ ?_
                  rotate_left
                  ·show Act.put _ (some 72) _ = _
                   simp only [Act.put, List.setIfInBounds_toArray, List.set_cons_zero, List.set_cons_succ, i64_w, i32_w]
                   rfl
                  exact norm_ (by first | (simp only [putAll, Act.put, List.setIfInBounds_toArray, List.set_cons_zero, List.set_cons_succ]; done) | (simp only [putAll, Act.put, List.setIfInBounds_toArray, List.set_cons_zero, List.set_cons_succ]; rfl)) (hJ5_12 (v175, v181) _ ⟨hHeld, (by (with_reducible repeat (first | apply Kd.R_alloc | apply Kd.R_drewN | apply Kd.R_drew)); exact Kd.R_mono HO176.out (fun _ hk => by first | exact hk.2 | exact True.intro)), (by (with_reducible repeat (first | apply Kd.R_alloc | apply Kd.R_drewN | apply Kd.R_drew)); exact Kd.R_mono HO182.out (fun _ hk => by first | exact hk.2 | exact True.intro)), (by (with_reducible repeat (first | refine qN ?_ _ | refine qD ?_ | refine qA ?_ _)); exact BK168.out), (by (with_reducible repeat (first | refine qN ?_ _ | refine qD ?_ | refine qA ?_ _)); exact BK169.out), (by repeat (first | (with_reducible first | exact HB.out | apply qpA | apply qpN | apply qp1 | refine qpS ?_ GE168.out | refine qpS ?_ GE169.out) | exact HB.out))⟩)
                 ·skip
                  refine box_step ?hg (N := 8) ?hd (cs := #[.int .i64 0, .int .i64 0, .slice none 0 0]) (t := 96) ?hr ?_; (case hd => rfl); (case hg => rfl); (case hr => first | (go_simp; done) | (go_simp; rfl))
                  intro gb186 hg w47 hbox hb
                  have n0_ := qS (Kd.R_below (by (with_reducible repeat (first | apply Kd.R_alloc | apply Kd.R_drewN | apply Kd.R_drew)); exact HO176.out) hb)
                  have n1_ := qS (qB (g := gb168) (o := .cells #[.int .i64 a0_0, .int .i64 a0_1, .slice A0_2 l0_2.length c0_2] 95 (0, 0)) (by (with_reducible repeat (first | refine qN ?_ _ | refine qD ?_ | refine qA ?_ _)); exact BK168.out) hb)
                  have n2_ := qS (qB (g := gb169) (o := .cells #[.int .i64 a0_0, .int .i64 a0_1, .slice A0_2 l0_2.length c0_2] 96 (0, 0)) (by (with_reducible repeat (first | refine qN ?_ _ | refine qD ?_ | refine qA ?_ _)); exact BK169.out) hb)
                  have n3_ := qS (below_step (by repeat (first | (with_reducible first | exact HB.out | apply qpA | apply qpN | apply qp1 | refine qpS ?_ GE168.out | refine qpS ?_ GE169.out) | exact HB.out)) hb)
                  have n4_ := qS (hbox)
                  have n5_ := qS ((by rw [hg]; exact (below_size (by repeat (first | (with_reducible first | exact HB.out | apply qpA | apply qpN | apply qp1 | refine qpS ?_ GE168.out | refine qpS ?_ GE169.out) | exact HB.out))) : w.heap.size ≤ gb186))
                  have n6_ := qS ((by rw [hg]; exact (below_size (by repeat (first | (with_reducible first | exact HB.out | apply qpA | apply qpN | apply qp1 | refine qpS ?_ GE168.out | refine qpS ?_ GE169.out) | exact HB.out))) : w.heap.size ≤ gb186))
                  have n7_ := qS ((by rw [hg]; exact Nat.ne_of_lt (blk_lt (g := gb168) (o := .cells #[.int .i64 a0_0, .int .i64 a0_1, .slice A0_2 l0_2.length c0_2] 95 (0, 0)) (by (with_reducible repeat (first | refine qN ?_ _ | refine qD ?_ | refine qA ?_ _)); exact BK168.out)) : gb168 ≠ gb186))
                  have n8_ := qS ((by rw [hg]; exact Nat.ne_of_gt (blk_lt (g := gb168) (o := .cells #[.int .i64 a0_0, .int .i64 a0_1, .slice A0_2 l0_2.length c0_2] 95 (0, 0)) (by (with_reducible repeat (first | refine qN ?_ _ | refine qD ?_ | refine qA ?_ _)); exact BK168.out)) : gb186 ≠ gb168))
                  have n9_ := qS ((by rw [hg]; exact Nat.ne_of_lt (blk_lt (g := gb169) (o := .cells #[.int .i64 a0_0, .int .i64 a0_1, .slice A0_2 l0_2.length c0_2] 96 (0, 0)) (by (with_reducible repeat (first | refine qN ?_ _ | refine qD ?_ | refine qA ?_ _)); exact BK169.out)) : gb169 ≠ gb186))
                  have n10_ := qS ((by rw [hg]; exact Nat.ne_of_gt (blk_lt (g := gb169) (o := .cells #[.int .i64 a0_0, .int .i64 a0_1, .slice A0_2 l0_2.length c0_2] 96 (0, 0)) (by (with_reducible repeat (first | refine qN ?_ _ | refine qD ?_ | refine qA ?_ _)); exact BK169.out)) : gb186 ≠ gb169))
                  clear HO176
                  clear BK168
                  clear BK169
                  clear HB
                  have HO176 := n0_
                  have BK168 := n1_
                  have BK169 := n2_
                  have HB := n3_
                  have BK186 := n4_
                  have GW186 := n5_
                  have GE186 := n6_
                  have NB168_186 := n7_
                  have NB186_168 := n8_
                  have NB169_186 := n9_
                  have NB186_169 := n10_
                  clear n0_ n1_ n2_ n3_ n4_ n5_ n6_ n7_ n8_ n9_ n10_
                  clear hb hbox hg
                  refine hK.out _ _ ⟨(qC BK168.out 0).trans rfl, (qC BK168.out 1).trans rfl, (qC BK168.out 2).trans rfl⟩ (fun hHeld => ?_)
                  clear hK K
                  refine norm_ (a' := ?_) ?_ ?_
                  rotate_left
                  ·show Act.put _ (some 8) _ = _
                   simp only [Act.put, List.setIfInBounds_toArray, List.set_cons_zero, List.set_cons_succ, i64_w, i32_w]
                   rfl
                  exact norm_ (by first | (simp only [putAll, Act.put, List.setIfInBounds_toArray, List.set_cons_zero, List.set_cons_succ]; done) | (simp only [putAll, Act.put, List.setIfInBounds_toArray, List.set_cons_zero, List.set_cons_succ]; rfl)) (hJ5_15 (v175, gb186) _ ⟨hHeld, (by (with_reducible repeat (first | apply Kd.R_alloc | apply Kd.R_drewN | apply Kd.R_drew)); exact HO176.out), (by (with_reducible repeat (first | refine qN ?_ _ | refine qD ?_ | refine qA ?_ _)); exact BK168.out), (by (with_reducible repeat (first | refine qN ?_ _ | refine qD ?_ | refine qA ?_ _)); exact BK169.out), (by (with_reducible repeat (first | refine qN ?_ _ | refine qD ?_ | refine qA ?_ _)); exact BK186.out), GW186.out, GE186.out, NB168_186.out, NB186_168.out, NB169_186.out, NB186_169.out, (by repeat (first | (with_reducible first | exact HB.out | apply qpA | apply qpN | apply qp1 | refine qpS ?_ GE168.out | refine qpS ?_ GE169.out | refine qpS ?_ GE186.out) | exact HB.out))⟩)
               ·skip
                rintro ⟨v181, gb186⟩ w47 ⟨hS_, h0_, h1_, h2_, h3_, h4_, h5_, h6_, h7_, h8_, h9_, h10_⟩
                have n0_ : Aside0 (Kd.R (Kd.int .i64) 2 w47 w.heap.size (fun _ => True) v181 y180) := ⟨h0_⟩
                have n1_ : Aside0 (w47.heap[gb168]? = some (.cells #[.int .i64 a0_0, .int .i64 a0_1, .slice A0_2 l0_2.length c0_2] 95 (0, 0))) := ⟨h1_⟩
                have n2_ : Aside0 (w47.heap[gb169]? = some (.cells #[.int .i64 a0_0, .int .i64 a0_1, .slice A0_2 l0_2.length c0_2] 96 (0, 0))) := ⟨h2_⟩
                have n3_ : Aside0 (w47.heap[gb186]? = some (.cells #[.int .i64 0, .int .i64 0, .slice none 0 0] 96 (0, 0))) := ⟨h3_⟩
                have n4_ : Aside0 (w.heap.size ≤ gb186) := ⟨h4_⟩
                have n5_ : Aside0 (w.heap.size ≤ gb186) := ⟨h5_⟩
                have n6_ : Aside0 (gb168 ≠ gb186) := ⟨h6_⟩
                have n7_ : Aside0 (gb186 ≠ gb168) := ⟨h7_⟩
                have n8_ : Aside0 (gb169 ≠ gb186) := ⟨h8_⟩
                have n9_ : Aside0 (gb186 ≠ gb169) := ⟨h9_⟩
                have n10_ : Aside0 (Below w.heap.size w w47) := ⟨h10_⟩
                clear BK168
                clear BK169
                clear HB
                clear h0_ h1_ h2_ h3_ h4_ h5_ h6_ h7_ h8_ h9_ h10_
                have HO182 := n0_
                have BK168 := n1_
                have BK169 := n2_
                have BK186 := n3_
                have GW186 := n4_
                have GE186 := n5_
                have NB168_186 := n6_
                have NB186_168 := n7_
                have NB169_186 := n8_
                have NB186_169 := n9_
                have HB := n10_
                clear n0_ n1_ n2_ n3_ n4_ n5_ n6_ n7_ n8_ n9_ n10_
                have hHeld : w47.cell? ⟨gb168, 0, none⟩ = some (.int .i64 a0_0) ∧ w47.cell? ⟨gb168, 1, none⟩ = some (.int .i64 a0_1) ∧ w47.cell? ⟨gb168, 2, none⟩ = some (.slice A0_2 l0_2.length c0_2) := hS_
                refine norm_ (a' := ?_) ?_ ?_
                rotate_left
                ·simp only [putAll, Act.put, List.setIfInBounds_toArray, List.set_cons_zero, List.set_cons_succ]
                 rfl
                refine one_ (i := 5) (N := some 65) #[true, true, true, true, true, true, true, true, false, true, true, true, true, false, false, true, false] rfl rfl (one_of HT_.out (by kernel_rfl)) (by decide) (fun K hK => ?_)
                refine Kd.R_lit_step (Kd.int .i64) _ 2 ?hg (N := 65) ?hd (xs := ([] : List Int)) (inner := []) (ok := fun _ => True) (okp := fun _ => True) ?hr ?hp (fun _ hk => hk) trivial (Below.refl _ _) (Nat.le_refl _) (by simp) ?_; (case hd => rfl); (case hg => rfl); (case hr => first | (go_simp; done) | (go_simp; rfl)); (case hp => exact (Reps.none _ _))
                intro v175 w48 ho49 hb hg_ hnew_
                clear hg_ hnew_
                (first | rw [← Ny174.out] at ho49 | (simp only [Int.reduceToNat] at ho49; rw [← Ny174.out] at ho49))
                have n0_ := qS (Kd.R_elder' (by (with_reducible repeat (first | apply Kd.R_alloc | apply Kd.R_drewN | apply Kd.R_drew)); exact HO182.out) (Kd.R_base ho49) hb)
                have n1_ := qS (Kd.R_lower (Kd.R_new' ho49 (Kd.R_lt (by (with_reducible repeat (first | apply Kd.R_alloc | apply Kd.R_drewN | apply Kd.R_drew)); exact HO182.out))) (below_size (by repeat (first | (with_reducible first | exact HB.out | apply qpA | apply qpN | apply qp1 | refine qpS ?_ GE168.out | refine qpS ?_ GE169.out | refine qpS ?_ GE186.out) | exact HB.out))))
                have n2_ := qS (qB (g := gb168) (o := .cells #[.int .i64 a0_0, .int .i64 a0_1, .slice A0_2 l0_2.length c0_2] 95 (0, 0)) (by (with_reducible repeat (first | refine qN ?_ _ | refine qD ?_ | refine qA ?_ _)); exact BK168.out) hb)
                have n3_ := qS (qB (g := gb169) (o := .cells #[.int .i64 a0_0, .int .i64 a0_1, .slice A0_2 l0_2.length c0_2] 96 (0, 0)) (by (with_reducible repeat (first | refine qN ?_ _ | refine qD ?_ | refine qA ?_ _)); exact BK169.out) hb)
                have n4_ := qS (qB (g := gb186) (o := .cells #[.int .i64 0, .int .i64 0, .slice none 0 0] 96 (0, 0)) (by (with_reducible repeat (first | refine qN ?_ _ | refine qD ?_ | refine qA ?_ _)); exact BK186.out) hb)
                have n5_ := qS (below_step (by repeat (first | (with_reducible first | exact HB.out | apply qpA | apply qpN | apply qp1 | refine qpS ?_ GE168.out | refine qpS ?_ GE169.out | refine qpS ?_ GE186.out) | exact HB.out)) hb)
                clear HO182
                clear BK168
                clear BK169
                clear BK186
                clear HB
                have HO182 := n0_
                have HO176 := n1_
                have BK168 := n2_
                have BK169 := n3_
                have BK186 := n4_
                have HB := n5_
                clear n0_ n1_ n2_ n3_ n4_ n5_
                clear hb ho49
                refine hK.out _ _ ⟨(qC BK168.out 0).trans rfl, (qC BK168.out 1).trans rfl, (qC BK168.out 2).trans rfl⟩ (fun hHeld => ?_)
                clear hK K
                refine norm_ (a' := ?_) ?_ ?_
                rotate_left
                ·show Act.put _ (some 65) _ = _
                 simp only [Act.put, List.setIfInBounds_toArray, List.set_cons_zero, List.set_cons_succ, i64_w, i32_w]
                 rfl
                exact norm_ (by first | (simp only [putAll, Act.put, List.setIfInBounds_toArray, List.set_cons_zero, List.set_cons_succ]; done) | (simp only [putAll, Act.put, List.setIfInBounds_toArray, List.set_cons_zero, List.set_cons_succ]; rfl)) (hJ5_12_15 (v175, v181, gb186) _ ⟨hHeld, (by (with_reducible repeat (first | apply Kd.R_alloc | apply Kd.R_drewN | apply Kd.R_drew)); exact Kd.R_mono HO176.out (fun _ hk => by first | exact hk.2 | exact True.intro)), (by (with_reducible repeat (first | apply Kd.R_alloc | apply Kd.R_drewN | apply Kd.R_drew)); exact Kd.R_mono HO182.out (fun _ hk => by first | exact hk.2 | exact True.intro)), (by (with_reducible repeat (first | refine qN ?_ _ | refine qD ?_ | refine qA ?_ _)); exact BK168.out), (by (with_reducible repeat (first | refine qN ?_ _ | refine qD ?_ | refine qA ?_ _)); exact BK169.out), (by (with_reducible repeat (first | refine qN ?_ _ | refine qD ?_ | refine qA ?_ _)); exact BK186.out), GW186.out, GE186.out, NB168_186.out, NB186_168.out, NB169_186.out, NB186_169.out, (by repeat (first | (with_reducible first | exact HB.out | apply qpA | apply qpN | apply qp1 | refine qpS ?_ GE168.out | refine qpS ?_ GE169.out | refine qpS ?_ GE186.out) | exact HB.out))⟩)
              ·skip
               rintro ⟨v175, gb186⟩ w47 ⟨hS_, h0_, h1_, h2_, h3_, h4_, h5_, h6_, h7_, h8_, h9_, h10_⟩
               have n0_ : Aside0 (Kd.R (Kd.int .i64) 2 w47 w.heap.size (fun _ => True) v175 y174) := ⟨h0_⟩
               have n1_ : Aside0 (w47.heap[gb168]? = some (.cells #[.int .i64 a0_0, .int .i64 a0_1, .slice A0_2 l0_2.length c0_2] 95 (0, 0))) := ⟨h1_⟩
               have n2_ : Aside0 (w47.heap[gb169]? = some (.cells #[.int .i64 a0_0, .int .i64 a0_1, .slice A0_2 l0_2.length c0_2] 96 (0, 0))) := ⟨h2_⟩
               have n3_ : Aside0 (w47.heap[gb186]? = some (.cells #[.int .i64 0, .int .i64 0, .slice none 0 0] 96 (0, 0))) := ⟨h3_⟩
               have n4_ : Aside0 (w.heap.size ≤ gb186) := ⟨h4_⟩
               have n5_ : Aside0 (w.heap.size ≤ gb186) := ⟨h5_⟩
               have n6_ : Aside0 (gb168 ≠ gb186) := ⟨h6_⟩
               have n7_ : Aside0 (gb186 ≠ gb168) := ⟨h7_⟩
               have n8_ : Aside0 (gb169 ≠ gb186) := ⟨h8_⟩
               have n9_ : Aside0 (gb186 ≠ gb169) := ⟨h9_⟩
               have n10_ : Aside0 (Below w.heap.size w w47) := ⟨h10_⟩
               clear BK168
               clear BK169
               clear HB
               clear h0_ h1_ h2_ h3_ h4_ h5_ h6_ h7_ h8_ h9_ h10_
               have HO176 := n0_
               have BK168 := n1_
               have BK169 := n2_
               have BK186 := n3_
               have GW186 := n4_
               have GE186 := n5_
               have NB168_186 := n6_
               have NB186_168 := n7_
               have NB169_186 := n8_
               have NB186_169 := n9_
               have HB := n10_
               clear n0_ n1_ n2_ n3_ n4_ n5_ n6_ n7_ n8_ n9_ n10_
               have hHeld : w47.cell? ⟨gb168, 0, none⟩ = some (.int .i64 a0_0) ∧ w47.cell? ⟨gb168, 1, none⟩ = some (.int .i64 a0_1) ∧ w47.cell? ⟨gb168, 2, none⟩ = some (.slice A0_2 l0_2.length c0_2) := hS_
               refine norm_ (a' := ?_) ?_ ?_
               rotate_left
               ·simp only [putAll, Act.put, List.setIfInBounds_toArray, List.set_cons_zero, List.set_cons_succ]
                rfl
               refine two_ (i := 8) (j := 12) (Ni := some 68) (Nj := some 72) #[true, true, true, true, true, true, true, true, true, true, true, true, false, false, false, true, false] #[true, true, true, true, true, true, true, true, false, true, true, true, true, false, false, true, false] rfl rfl rfl rfl (two_of HT_.out (by kernel_rfl)) (by decide) (by decide) (fun K hK => ?_) (fun K hK => ?_)
               ·skip
                refine Kd.R_append_rows_step (Kd.int .i64) (w0 := w) w.heap.size (by rfl) (.tmp 65) (.tmp 67) 90 2 (.int .i64 0) 8 rfl Tryd.underlying90 info2 rfl (by decide) (by omega) v175 y174 l0_2 _ _ _ (fun _ => True) (fun _ => False) rfl rfl ?aO ?aR (fun _ _ h => h) (fun _ h => h.elim) ?aF ?aB ?aS ?aL ?_
                (case aR => repeat (first | exact (Kd.C_below HR0_2.out HB.out) | (with_reducible refine Kd.C_alloc ?_ _) | (with_reducible refine Kd.C_drewN ?_ _) | (with_reducible refine Kd.C_drew ?_)))
                (case aB => exact (by repeat (first | (with_reducible first | exact HB.out | apply qpA | apply qpN | apply qp1 | refine qpS ?_ GE168.out | refine qpS ?_ GE169.out | refine qpS ?_ GE186.out) | exact HB.out)))
                (case aF => exact (fun _ _ => trivial))
                (case aO => exact (by (with_reducible repeat (first | apply Kd.R_alloc | apply Kd.R_drewN | apply Kd.R_drew)); exact HO176.out))
                (case aS => exact (below_size (by repeat (first | (with_reducible first | exact HB.out | apply qpA | apply qpN | apply qp1 | refine qpS ?_ GE168.out | refine qpS ?_ GE169.out | refine qpS ?_ GE186.out) | exact HB.out))))
                (case aL => have := LMc38.out; omega)
                intro v178 w48 ho hb hg hat
                rw [← Ny177.out] at ho
                have n0_ := qS (blk_grown (g := gb168) (o := .cells #[.int .i64 a0_0, .int .i64 a0_1, .slice A0_2 l0_2.length c0_2] 95 (0, 0)) (by (with_reducible repeat (first | refine qN ?_ _ | refine qD ?_ | refine qA ?_ _)); exact BK168.out) hg (Kd.R_ne HO176.out BK168.out (by decide)))
                have n1_ := qS (blk_grown (g := gb169) (o := .cells #[.int .i64 a0_0, .int .i64 a0_1, .slice A0_2 l0_2.length c0_2] 96 (0, 0)) (by (with_reducible repeat (first | refine qN ?_ _ | refine qD ?_ | refine qA ?_ _)); exact BK169.out) hg (Kd.R_ne HO176.out BK169.out (by decide)))
                have n2_ := qS (blk_grown (g := gb186) (o := .cells #[.int .i64 0, .int .i64 0, .slice none 0 0] 96 (0, 0)) (by (with_reducible repeat (first | refine qN ?_ _ | refine qD ?_ | refine qA ?_ _)); exact BK186.out) hg (Kd.R_ne HO176.out BK186.out (by decide)))
                have n3_ := qS (hb)
                have n4_ := qS (ho)
                clear BK168
                clear BK169
                clear BK186
                clear HB
                clear HO176
                have BK168 := n0_
                have BK169 := n1_
                have BK186 := n2_
                have HB := n3_
                have HO179 := n4_
                clear n0_ n1_ n2_ n3_ n4_
                clear ho hb hg hat
                refine hK.out _ _ ⟨(qC BK168.out 0).trans rfl, (qC BK168.out 1).trans rfl, (qC BK168.out 2).trans rfl⟩ (fun hHeld => ?_)
                clear hK K
                refine norm_ (a' := ?_) ?_ ?_
                rotate_left
                ·show Act.put _ (some 68) _ = _
                 simp only [Act.put, List.setIfInBounds_toArray, List.set_cons_zero, List.set_cons_succ, i64_w, i32_w]
                 rfl
                exact norm_ (by first | (simp only [putAll, Act.put, List.setIfInBounds_toArray, List.set_cons_zero, List.set_cons_succ]; done) | (simp only [putAll, Act.put, List.setIfInBounds_toArray, List.set_cons_zero, List.set_cons_succ]; rfl)) (hJ5_8_15 (v175, v178, gb186) _ ⟨hHeld, (by (with_reducible repeat (first | apply Kd.R_alloc | apply Kd.R_drewN | apply Kd.R_drew)); exact HO179.out), (by (with_reducible repeat (first | refine qN ?_ _ | refine qD ?_ | refine qA ?_ _)); exact BK168.out), (by (with_reducible repeat (first | refine qN ?_ _ | refine qD ?_ | refine qA ?_ _)); exact BK169.out), (by (with_reducible repeat (first | refine qN ?_ _ | refine qD ?_ | refine qA ?_ _)); exact BK186.out), GW186.out, GE186.out, NB168_186.out, NB186_168.out, NB169_186.out, NB186_169.out, (by repeat (first | (with_reducible first | exact HB.out | apply qpA | apply qpN | apply qp1 | refine qpS ?_ GE168.out | refine qpS ?_ GE169.out | refine qpS ?_ GE186.out) | exact HB.out))⟩)
               ·skip
                refine Kd.R_lit_step (Kd.int .i64) _ 2 ?hg (N := 72) ?hd (xs := ([wrap64 (a0_1 - 1)] : List Int)) (inner := [.int .i64 (wrap64 (a0_1 - 1))]) (ok := fun _ => True) (okp := fun _ => True) ?hr ?hp (fun _ hk => hk) trivial (Below.refl _ _) (Nat.le_refl _) (by simp) ?_; (case hd => rfl); (case hg => rfl); (case hr => first | (go_simp; done) | (go_simp; rfl)); (case hp => exact (Reps.one (show Kd.M (Kd.int .i64) _ _ _ (wrap64 (a0_1 - 1)) [.int .i64 (wrap64 (a0_1 - 1))] from rfl) (Reps.none _ _)))
                intro v181 w48 ho49 hb hg_ hnew_
                clear hg_ hnew_
                (first | rw [← Ny180.out] at ho49 | (simp only [Int.reduceToNat] at ho49; rw [← Ny180.out] at ho49))
                have n0_ := qS (Kd.R_elder' (by (with_reducible repeat (first | apply Kd.R_alloc | apply Kd.R_drewN | apply Kd.R_drew)); exact HO176.out) (Kd.R_base ho49) hb)
                have n1_ := qS (Kd.R_lower (Kd.R_new' ho49 (Kd.R_lt (by (with_reducible repeat (first | apply Kd.R_alloc | apply Kd.R_drewN | apply Kd.R_drew)); exact HO176.out))) (below_size (by repeat (first | (with_reducible first | exact HB.out | apply qpA | apply qpN | apply qp1 | refine qpS ?_ GE168.out | refine qpS ?_ GE169.out | refine qpS ?_ GE186.out) | exact HB.out))))
                have n2_ := qS (qB (g := gb168) (o := .cells #[.int .i64 a0_0, .int .i64 a0_1, .slice A0_2 l0_2.length c0_2] 95 (0, 0)) (by (with_reducible repeat (first | refine qN ?_ _ | refine qD ?_ | refine qA ?_ _)); exact BK168.out) hb)
                have n3_ := qS (qB (g := gb169) (o := .cells #[.int .i64 a0_0, .int .i64 a0_1, .slice A0_2 l0_2.length c0_2] 96 (0, 0)) (by (with_reducible repeat (first | refine qN ?_ _ | refine qD ?_ | refine qA ?_ _)); exact BK169.out) hb)
                have n4_ := qS (qB (g := gb186) (o := .cells #[.int .i64 0, .int .i64 0, .slice none 0 0] 96 (0, 0)) (by (with_reducible repeat (first | refine qN ?_ _ | refine qD ?_ | refine qA ?_ _)); exact BK186.out) hb)
                have n5_ := qS (below_step (by repeat (first | (with_reducible first | exact HB.out | apply qpA | apply qpN | apply qp1 | refine qpS ?_ GE168.out | refine qpS ?_ GE169.out | refine qpS ?_ GE186.out) | exact HB.out)) hb)
                clear HO176
                clear BK168
                clear BK169
                clear BK186
                clear HB
                have HO176 := n0_
                have HO182 := n1_
                have BK168 := n2_
                have BK169 := n3_
                have BK186 := n4_
                have HB := n5_
                clear n0_ n1_ n2_ n3_ n4_ n5_
                clear hb ho49
                refine hK.out _ _ ⟨(qC BK168.out 0).trans rfl, (qC BK168.out 1).trans rfl, (qC BK168.out 2).trans rfl⟩ (fun hHeld => ?_)
                clear hK K
                refine norm_ (a' := ?_) ?_ ?_
                rotate_left
                ·show Act.put _ (some 72) _ = _
                 simp only [Act.put, List.setIfInBounds_toArray, List.set_cons_zero, List.set_cons_succ, i64_w, i32_w]
                 rfl
                exact norm_ (by first | (simp only [putAll, Act.put, List.setIfInBounds_toArray, List.set_cons_zero, List.set_cons_succ]; done) | (simp only [putAll, Act.put, List.setIfInBounds_toArray, List.set_cons_zero, List.set_cons_succ]; rfl)) (hJ5_12_15 (v175, v181, gb186) _ ⟨hHeld, (by (with_reducible repeat (first | apply Kd.R_alloc | apply Kd.R_drewN | apply Kd.R_drew)); exact Kd.R_mono HO176.out (fun _ hk => by first | exact hk.2 | exact True.intro)), (by (with_reducible repeat (first | apply Kd.R_alloc | apply Kd.R_drewN | apply Kd.R_drew)); exact Kd.R_mono HO182.out (fun _ hk => by first | exact hk.2 | exact True.intro)), (by (with_reducible repeat (first | refine qN ?_ _ | refine qD ?_ | refine qA ?_ _)); exact BK168.out), (by (with_reducible repeat (first | refine qN ?_ _ | refine qD ?_ | refine qA ?_ _)); exact BK169.out), (by (with_reducible repeat (first | refine qN ?_ _ | refine qD ?_ | refine qA ?_ _)); exact BK186.out), GW186.out, GE186.out, NB168_186.out, NB186_168.out, NB169_186.out, NB186_169.out, (by repeat (first | (with_reducible first | exact HB.out | apply qpA | apply qpN | apply qp1 | refine qpS ?_ GE168.out | refine qpS ?_ GE169.out | refine qpS ?_ GE186.out) | exact HB.out))⟩)
             ·skip
              rintro ⟨v175, v181⟩ w48 ⟨hS_, h0_, h1_, h2_, h3_, h4_⟩
              have n0_ : Aside0 (Kd.R (Kd.int .i64) 2 w48 w.heap.size (fun k_ => some k_ ≠ (v181 : Value).ownBlock) v175 y174) := ⟨h0_⟩
              have n1_ : Aside0 (Kd.R (Kd.int .i64) 2 w48 w.heap.size (fun k_ => some k_ ≠ (v175 : Value).ownBlock) v181 y180) := ⟨h1_⟩
              have n2_ : Aside0 (w48.heap[gb168]? = some (.cells #[.int .i64 a0_0, .int .i64 a0_1, .slice A0_2 l0_2.length c0_2] 95 (0, 0))) := ⟨h2_⟩
              have n3_ : Aside0 (w48.heap[gb169]? = some (.cells #[.int .i64 a0_0, .int .i64 a0_1, .slice A0_2 l0_2.length c0_2] 96 (0, 0))) := ⟨h3_⟩
              have n4_ : Aside0 (Below w.heap.size w w48) := ⟨h4_⟩
              clear BK168
              clear BK169
              clear HB
              clear h0_ h1_ h2_ h3_ h4_
              have HO176 := n0_
              have HO182 := n1_
              have BK168 := n2_
              have BK169 := n3_
              have HB := n4_
              clear n0_ n1_ n2_ n3_ n4_
              have hHeld : w48.cell? ⟨gb168, 0, none⟩ = some (.int .i64 a0_0) ∧ w48.cell? ⟨gb168, 1, none⟩ = some (.int .i64 a0_1) ∧ w48.cell? ⟨gb168, 2, none⟩ = some (.slice A0_2 l0_2.length c0_2) := hS_
              refine norm_ (a' := ?_) ?_ ?_
              rotate_left
              ·simp only [putAll, Act.put, List.setIfInBounds_toArray, List.set_cons_zero, List.set_cons_succ]
               rfl
              refine two_ (i := 8) (j := 15) (Ni := some 68) (Nj := some 8) #[true, true, true, true, true, true, true, true, true, true, true, true, true, false, false, false, false] #[true, true, true, true, true, true, true, true, false, true, true, true, true, false, false, true, false] rfl rfl rfl rfl (two_of HT_.out (by kernel_rfl)) (by decide) (by decide) (fun K hK => ?_) (fun K hK => ?_)
              ·skip
               refine Kd.R_append_rows_step (Kd.int .i64) (w0 := w) w.heap.size (by rfl) (.tmp 65) (.tmp 67) 90 2 (.int .i64 0) 8 rfl Tryd.underlying90 info2 rfl (by decide) (by omega) v175 y174 l0_2 _ _ _ (fun k_ => some k_ ≠ (v181 : Value).ownBlock) (fun _ => False) rfl rfl ?aO ?aR (fun _ _ h => h) (fun _ h => h.elim) ?aF ?aB ?aS ?aL ?_
               (case aR => repeat (first | exact (Kd.C_below HR0_2.out HB.out) | (with_reducible refine Kd.C_alloc ?_ _) | (with_reducible refine Kd.C_drewN ?_ _) | (with_reducible refine Kd.C_drew ?_)))
               (case aB => exact (by repeat (first | (with_reducible first | exact HB.out | apply qpA | apply qpN | apply qp1 | refine qpS ?_ GE168.out | refine qpS ?_ GE169.out) | exact HB.out)))
               (case aF => exact (fun k_ hk => Kd.fresh' (Kd.R_lt (by (with_reducible repeat (first | apply Kd.R_alloc | apply Kd.R_drewN | apply Kd.R_drew)); exact HO182.out)) k_ hk))
               (case aO => exact (by (with_reducible repeat (first | apply Kd.R_alloc | apply Kd.R_drewN | apply Kd.R_drew)); exact HO176.out))
               (case aS => exact (below_size (by repeat (first | (with_reducible first | exact HB.out | apply qpA | apply qpN | apply qp1 | refine qpS ?_ GE168.out | refine qpS ?_ GE169.out) | exact HB.out))))
               (case aL => have := LMc38.out; omega)
               intro v178 w49 ho hb hg hat
               rw [← Ny177.out] at ho
               have n0_ := qS (blk_grown (g := gb168) (o := .cells #[.int .i64 a0_0, .int .i64 a0_1, .slice A0_2 l0_2.length c0_2] 95 (0, 0)) (by (with_reducible repeat (first | refine qN ?_ _ | refine qD ?_ | refine qA ?_ _)); exact BK168.out) hg (Kd.R_ne HO176.out BK168.out (by decide)))
               have n1_ := qS (blk_grown (g := gb169) (o := .cells #[.int .i64 a0_0, .int .i64 a0_1, .slice A0_2 l0_2.length c0_2] 96 (0, 0)) (by (with_reducible repeat (first | refine qN ?_ _ | refine qD ?_ | refine qA ?_ _)); exact BK169.out) hg (Kd.R_ne HO176.out BK169.out (by decide)))
               have n2_ := qS (Kd.R_after (ok := (fun _ => True)) (by (with_reducible repeat (first | apply Kd.R_alloc | apply Kd.R_drewN | apply Kd.R_drew)); exact Kd.R_mono HO182.out (fun _ hk => by first | exact ⟨trivial, hk⟩ | exact True.intro)) hg hat)
               have n3_ := qS (hb)
               have n4_ := qS (ho)
               clear BK168
               clear BK169
               clear HO182
               clear HB
               clear HO176
               have BK168 := n0_
               have BK169 := n1_
               have HO182 := n2_
               have HB := n3_
               have HO179 := n4_
               clear n0_ n1_ n2_ n3_ n4_
               clear ho hb hg hat
               refine hK.out _ _ ⟨(qC BK168.out 0).trans rfl, (qC BK168.out 1).trans rfl, (qC BK168.out 2).trans rfl⟩ (fun hHeld => ?_)
               clear hK K
               refine norm_ (a' := ?_) ?_ ?_
               rotate_left
               ·show Act.put _ (some 68) _ = _
                simp only [Act.put, List.setIfInBounds_toArray, List.set_cons_zero, List.set_cons_succ, i64_w, i32_w]
                rfl
               exact norm_ (by first | (simp only [putAll, Act.put, List.setIfInBounds_toArray, List.set_cons_zero, List.set_cons_succ]; done) | (simp only [putAll, Act.put, List.setIfInBounds_toArray, List.set_cons_zero, List.set_cons_succ]; rfl)) (hJ5_8_12 (v175, v178, v181) _ ⟨hHeld, (by (with_reducible repeat (first | apply Kd.R_alloc | apply Kd.R_drewN | apply Kd.R_drew)); exact HO179.out), (by (with_reducible repeat (first | apply Kd.R_alloc | apply Kd.R_drewN | apply Kd.R_drew)); exact Kd.R_mono HO182.out (fun _ hk => by first | exact hk.2 | exact True.intro)), (by (with_reducible repeat (first | refine qN ?_ _ | refine qD ?_ | refine qA ?_ _)); exact BK168.out), (by (with_reducible repeat (first | refine qN ?_ _ | refine qD ?_ | refine qA ?_ _)); exact BK169.out), (by repeat (first | (with_reducible first | exact HB.out | apply qpA | apply qpN | apply qp1 | refine qpS ?_ GE168.out | refine qpS ?_ GE169.out) | exact HB.out))⟩)
              ·skip
               refine box_step ?hg (N := 8) ?hd (cs := #[.int .i64 0, .int .i64 0, .slice none 0 0]) (t := 96) ?hr ?_; (case hd => rfl); (case hg => rfl); (case hr => first | (go_simp; done) | (go_simp; rfl))
               intro gb186 hg w49 hbox hb
               have n0_ := qS (Kd.R_below (by (with_reducible repeat (first | apply Kd.R_alloc | apply Kd.R_drewN | apply Kd.R_drew)); exact HO176.out) hb)
               have n1_ := qS (Kd.R_below (by (with_reducible repeat (first | apply Kd.R_alloc | apply Kd.R_drewN | apply Kd.R_drew)); exact HO182.out) hb)
               have n2_ := qS (qB (g := gb168) (o := .cells #[.int .i64 a0_0, .int .i64 a0_1, .slice A0_2 l0_2.length c0_2] 95 (0, 0)) (by (with_reducible repeat (first | refine qN ?_ _ | refine qD ?_ | refine qA ?_ _)); exact BK168.out) hb)
               have n3_ := qS (qB (g := gb169) (o := .cells #[.int .i64 a0_0, .int .i64 a0_1, .slice A0_2 l0_2.length c0_2] 96 (0, 0)) (by (with_reducible repeat (first | refine qN ?_ _ | refine qD ?_ | refine qA ?_ _)); exact BK169.out) hb)
               have n4_ := qS (below_step (by repeat (first | (with_reducible first | exact HB.out | apply qpA | apply qpN | apply qp1 | refine qpS ?_ GE168.out | refine qpS ?_ GE169.out) | exact HB.out)) hb)
               have n5_ := qS (hbox)
               have n6_ := qS ((by rw [hg]; exact (below_size (by repeat (first | (with_reducible first | exact HB.out | apply qpA | apply qpN | apply qp1 | refine qpS ?_ GE168.out | refine qpS ?_ GE169.out) | exact HB.out))) : w.heap.size ≤ gb186))
               have n7_ := qS ((by rw [hg]; exact (below_size (by repeat (first | (with_reducible first | exact HB.out | apply qpA | apply qpN | apply qp1 | refine qpS ?_ GE168.out | refine qpS ?_ GE169.out) | exact HB.out))) : w.heap.size ≤ gb186))
               have n8_ := qS ((by rw [hg]; exact Nat.ne_of_lt (blk_lt (g := gb168) (o := .cells #[.int .i64 a0_0, .int .i64 a0_1, .slice A0_2 l0_2.length c0_2] 95 (0, 0)) (by (with_reducible repeat (first | refine qN ?_ _ | refine qD ?_ | refine qA ?_ _)); exact BK168.out)) : gb168 ≠ gb186))
               have n9_ := qS ((by rw [hg]; exact Nat.ne_of_gt (blk_lt (g := gb168) (o := .cells #[.int .i64 a0_0, .int .i64 a0_1, .slice A0_2 l0_2.length c0_2] 95 (0, 0)) (by (with_reducible repeat (first | refine qN ?_ _ | refine qD ?_ | refine qA ?_ _)); exact BK168.out)) : gb186 ≠ gb168))
               have n10_ := qS ((by rw [hg]; exact Nat.ne_of_lt (blk_lt (g := gb169) (o := .cells #[.int .i64 a0_0, .int .i64 a0_1, .slice A0_2 l0_2.length c0_2] 96 (0, 0)) (by (with_reducible repeat (first | refine qN ?_ _ | refine qD ?_ | refine qA ?_ _)); exact BK169.out)) : gb169 ≠ gb186))
               have n11_ := qS ((by rw [hg]; exact Nat.ne_of_gt (blk_lt (g := gb169) (o := .cells #[.int .i64 a0_0, .int .i64 a0_1, .slice A0_2 l0_2.length c0_2] 96 (0, 0)) (by (with_reducible repeat (first | refine qN ?_ _ | refine qD ?_ | refine qA ?_ _)); exact BK169.out)) : gb186 ≠ gb169))
               clear HO176
               clear HO182
               clear BK168
               clear BK169
               clear HB
               have HO176 := n0_
               have HO182 := n1_
               have BK168 := n2_
               have BK169 := n3_
               have HB := n4_
               have BK186 := n5_
               have GW186 := n6_
               have GE186 := n7_
               have NB168_186 := n8_
               have NB186_168 := n9_
               have NB169_186 := n10_
               have NB186_169 := n11_
               clear n0_ n1_ n2_ n3_ n4_ n5_ n6_ n7_ n8_ n9_ n10_ n11_
               clear hb hbox hg
               refine hK.out _ _ ⟨(qC BK168.out 0).trans rfl, (qC BK168.out 1).trans rfl, (qC BK168.out 2).trans rfl⟩ (fun hHeld => ?_)
               clear hK K
               refine norm_ (a' := ?_) ?_ ?_
               rotate_left
               ·show Act.put _ (some 8) _ = _
                simp only [Act.put, List.setIfInBounds_toArray, List.set_cons_zero, List.set_cons_succ, i64_w, i32_w]
                rfl
               exact norm_ (by first | (simp only [putAll, Act.put, List.setIfInBounds_toArray, List.set_cons_zero, List.set_cons_succ]; done) | (simp only [putAll, Act.put, List.setIfInBounds_toArray, List.set_cons_zero, List.set_cons_succ]; rfl)) (hJ5_12_15 (v175, v181, gb186) _ ⟨hHeld, (by (with_reducible repeat (first | apply Kd.R_alloc | apply Kd.R_drewN | apply Kd.R_drew)); exact HO176.out), (by (with_reducible repeat (first | apply Kd.R_alloc | apply Kd.R_drewN | apply Kd.R_drew)); exact HO182.out), (by (with_reducible repeat (first | refine qN ?_ _ | refine qD ?_ | refine qA ?_ _)); exact BK168.out), (by (with_reducible repeat (first | refine qN ?_ _ | refine qD ?_ | refine qA ?_ _)); exact BK169.out), (by (with_reducible repeat (first | refine qN ?_ _ | refine qD ?_ | refine qA ?_ _)); exact BK186.out), GW186.out, GE186.out, NB168_186.out, NB186_168.out, NB169_186.out, NB186_169.out, (by repeat (first | (with_reducible first | exact HB.out | apply qpA | apply qpN | apply qp1 | refine qpS ?_ GE168.out | refine qpS ?_ GE169.out | refine qpS ?_ GE186.out) | exact HB.out))⟩)
            ·skip
             rintro ⟨v175, v178⟩ w47 ⟨hS_, h0_, h1_, h2_, h3_⟩
             have n0_ : Aside0 (Kd.R (Kd.int .i64) 2 w47 w.heap.size (fun _ => True) v178 y177) := ⟨h0_⟩
             have n1_ : Aside0 (w47.heap[gb168]? = some (.cells #[.int .i64 a0_0, .int .i64 a0_1, .slice A0_2 l0_2.length c0_2] 95 (0, 0))) := ⟨h1_⟩
             have n2_ : Aside0 (w47.heap[gb169]? = some (.cells #[.int .i64 a0_0, .int .i64 a0_1, .slice A0_2 l0_2.length c0_2] 96 (0, 0))) := ⟨h2_⟩
             have n3_ : Aside0 (Below w.heap.size w w47) := ⟨h3_⟩
             clear BK168
             clear BK169
             clear HB
             clear h0_ h1_ h2_ h3_
             have HO179 := n0_
             have BK168 := n1_
             have BK169 := n2_
             have HB := n3_
             clear n0_ n1_ n2_ n3_
             have hHeld : w47.cell? ⟨gb168, 0, none⟩ = some (.int .i64 a0_0) ∧ w47.cell? ⟨gb168, 1, none⟩ = some (.int .i64 a0_1) ∧ w47.cell? ⟨gb168, 2, none⟩ = some (.slice A0_2 l0_2.length c0_2) := hS_
             refine norm_ (a' := ?_) ?_ ?_
             rotate_left
             ·simp only [putAll, Act.put, List.setIfInBounds_toArray, List.set_cons_zero, List.set_cons_succ]
              rfl
             refine two_ (i := 12) (j := 15) (Ni := some 72) (Nj := some 8) #[true, true, true, true, true, true, true, true, true, true, true, true, true, false, false, false, false] #[true, true, true, true, true, true, true, true, true, true, true, true, false, false, false, true, false] rfl rfl rfl rfl (two_of HT_.out (by kernel_rfl)) (by decide) (by decide) (fun K hK => ?_) (fun K hK => ?_)
             ·skip
              refine Kd.R_lit_step (Kd.int .i64) _ 2 ?hg (N := 72) ?hd (xs := ([wrap64 (a0_1 - 1)] : List Int)) (inner := [.int .i64 (wrap64 (a0_1 - 1))]) (ok := fun _ => True) (okp := fun _ => True) ?hr ?hp (fun _ hk => hk) trivial (Below.refl _ _) (Nat.le_refl _) (by simp) ?_; (case hd => rfl); (case hg => rfl); (case hr => first | (go_simp; done) | (go_simp; rfl)); (case hp => exact (Reps.one (show Kd.M (Kd.int .i64) _ _ _ (wrap64 (a0_1 - 1)) [.int .i64 (wrap64 (a0_1 - 1))] from rfl) (Reps.none _ _)))
              intro v181 w48 ho49 hb hg_ hnew_
              clear hg_ hnew_
              (first | rw [← Ny180.out] at ho49 | (simp only [Int.reduceToNat] at ho49; rw [← Ny180.out] at ho49))
              have n0_ := qS (Kd.R_elder' (by (with_reducible repeat (first | apply Kd.R_alloc | apply Kd.R_drewN | apply Kd.R_drew)); exact HO179.out) (Kd.R_base ho49) hb)
              have n1_ := qS (Kd.R_lower (Kd.R_new' ho49 (Kd.R_lt (by (with_reducible repeat (first | apply Kd.R_alloc | apply Kd.R_drewN | apply Kd.R_drew)); exact HO179.out))) (below_size (by repeat (first | (with_reducible first | exact HB.out | apply qpA | apply qpN | apply qp1 | refine qpS ?_ GE168.out | refine qpS ?_ GE169.out) | exact HB.out))))
              have n2_ := qS (qB (g := gb168) (o := .cells #[.int .i64 a0_0, .int .i64 a0_1, .slice A0_2 l0_2.length c0_2] 95 (0, 0)) (by (with_reducible repeat (first | refine qN ?_ _ | refine qD ?_ | refine qA ?_ _)); exact BK168.out) hb)
              have n3_ := qS (qB (g := gb169) (o := .cells #[.int .i64 a0_0, .int .i64 a0_1, .slice A0_2 l0_2.length c0_2] 96 (0, 0)) (by (with_reducible repeat (first | refine qN ?_ _ | refine qD ?_ | refine qA ?_ _)); exact BK169.out) hb)
              have n4_ := qS (below_step (by repeat (first | (with_reducible first | exact HB.out | apply qpA | apply qpN | apply qp1 | refine qpS ?_ GE168.out | refine qpS ?_ GE169.out) | exact HB.out)) hb)
              clear HO179
              clear BK168
              clear BK169
              clear HB
              have HO179 := n0_
              have HO182 := n1_
              have BK168 := n2_
              have BK169 := n3_
              have HB := n4_
              clear n0_ n1_ n2_ n3_ n4_
              clear hb ho49
              refine hK.out _ _ ⟨(qC BK168.out 0).trans rfl, (qC BK168.out 1).trans rfl, (qC BK168.out 2).trans rfl⟩ (fun hHeld => ?_)
              clear hK K
              refine norm_ (a' := ?_) ?_ ?_
              rotate_left
              ·show Act.put _ (some 72) _ = _
               simp only [Act.put, List.setIfInBounds_toArray, List.set_cons_zero, List.set_cons_succ, i64_w, i32_w]
               rfl
              exact norm_ (by first | (simp only [putAll, Act.put, List.setIfInBounds_toArray, List.set_cons_zero, List.set_cons_succ]; done) | (simp only [putAll, Act.put, List.setIfInBounds_toArray, List.set_cons_zero, List.set_cons_succ]; rfl)) (hJ5_8_12 (v175, v178, v181) _ ⟨hHeld, (by (with_reducible repeat (first | apply Kd.R_alloc | apply Kd.R_drewN | apply Kd.R_drew)); exact Kd.R_mono HO179.out (fun _ hk => by first | exact hk.2 | exact True.intro)), (by (with_reducible repeat (first | apply Kd.R_alloc | apply Kd.R_drewN | apply Kd.R_drew)); exact Kd.R_mono HO182.out (fun _ hk => by first | exact hk.2 | exact True.intro)), (by (with_reducible repeat (first | refine qN ?_ _ | refine qD ?_ | refine qA ?_ _)); exact BK168.out), (by (with_reducible repeat (first | refine qN ?_ _ | refine qD ?_ | refine qA ?_ _)); exact BK169.out), (by repeat (first | (with_reducible first | exact HB.out | apply qpA | apply qpN | apply qp1 | refine qpS ?_ GE168.out | refine qpS ?_ GE169.out) | exact HB.out))⟩)
             ·skip
              refine box_step ?hg (N := 8) ?hd (cs := #[.int .i64 0, .int .i64 0, .slice none 0 0]) (t := 96) ?hr ?_; (case hd => rfl); (case hg => rfl); (case hr => first | (go_simp; done) | (go_simp; rfl))
              intro gb186 hg w48 hbox hb
              have n0_ := qS (Kd.R_below (by (with_reducible repeat (first | apply Kd.R_alloc | apply Kd.R_drewN | apply Kd.R_drew)); exact HO179.out) hb)
              have n1_ := qS (qB (g := gb168) (o := .cells #[.int .i64 a0_0, .int .i64 a0_1, .slice A0_2 l0_2.length c0_2] 95 (0, 0)) (by (with_reducible repeat (first | refine qN ?_ _ | refine qD ?_ | refine qA ?_ _)); exact BK168.out) hb)
              have n2_ := qS (qB (g := gb169) (o := .cells #[.int .i64 a0_0, .int .i64 a0_1, .slice A0_2 l0_2.length c0_2] 96 (0, 0)) (by (with_reducible repeat (first | refine qN ?_ _ | refine qD ?_ | refine qA ?_ _)); exact BK169.out) hb)
              have n3_ := qS (below_step (by repeat (first | (with_reducible first | exact HB.out | apply qpA | apply qpN | apply qp1 | refine qpS ?_ GE168.out | refine qpS ?_ GE169.out) | exact HB.out)) hb)
              have n4_ := qS (hbox)
              have n5_ := qS ((by rw [hg]; exact (below_size (by repeat (first | (with_reducible first | exact HB.out | apply qpA | apply qpN | apply qp1 | refine qpS ?_ GE168.out | refine qpS ?_ GE169.out) | exact HB.out))) : w.heap.size ≤ gb186))
              have n6_ := qS ((by rw [hg]; exact (below_size (by repeat (first | (with_reducible first | exact HB.out | apply qpA | apply qpN | apply qp1 | refine qpS ?_ GE168.out | refine qpS ?_ GE169.out) | exact HB.out))) : w.heap.size ≤ gb186))
              have n7_ := qS ((by rw [hg]; exact Nat.ne_of_lt (blk_lt (g := gb168) (o := .cells #[.int .i64 a0_0, .int .i64 a0_1, .slice A0_2 l0_2.length c0_2] 95 (0, 0)) (by (with_reducible repeat (first | refine qN ?_ _ | refine qD ?_ | refine qA ?_ _)); exact BK168.out)) : gb168 ≠ gb186))
              have n8_ := qS ((by rw [hg]; exact Nat.ne_of_gt (blk_lt (g := gb168) (o := .cells #[.int .i64 a0_0, .int .i64 a0_1, .slice A0_2 l0_2.length c0_2] 95 (0, 0)) (by (with_reducible repeat (first | refine qN ?_ _ | refine qD ?_ | refine qA ?_ _)); exact BK168.out)) : gb186 ≠ gb168))
              have n9_ := qS ((by rw [hg]; exact Nat.ne_of_lt (blk_lt (g := gb169) (o := .cells #[.int .i64 a0_0, .int .i64 a0_1, .slice A0_2 l0_2.length c0_2] 96 (0, 0)) (by (with_reducible repeat (first | refine qN ?_ _ | refine qD ?_ | refine qA ?_ _)); exact BK169.out)) : gb169 ≠ gb186))
              have n10_ := qS ((by rw [hg]; exact Nat.ne_of_gt (blk_lt (g := gb169) (o := .cells #[.int .i64 a0_0, .int .i64 a0_1, .slice A0_2 l0_2.length c0_2] 96 (0, 0)) (by (with_reducible repeat (first | refine qN ?_ _ | refine qD ?_ | refine qA ?_ _)); exact BK169.out)) : gb186 ≠ gb169))
              clear HO179
              clear BK168
              clear BK169
              clear HB
              have HO179 := n0_
              have BK168 := n1_
              have BK169 := n2_
              have HB := n3_
              have BK186 := n4_
              have GW186 := n5_
              have GE186 := n6_
              have NB168_186 := n7_
              have NB186_168 := n8_
              have NB169_186 := n9_
              have NB186_169 := n10_
              clear n0_ n1_ n2_ n3_ n4_ n5_ n6_ n7_ n8_ n9_ n10_
              clear hb hbox hg
              refine hK.out _ _ ⟨(qC BK168.out 0).trans rfl, (qC BK168.out 1).trans rfl, (qC BK168.out 2).trans rfl⟩ (fun hHeld => ?_)
              clear hK K
              refine norm_ (a' := ?_) ?_ ?_
              rotate_left
              ·show Act.put _ (some 8) _ = _
               simp only [Act.put, List.setIfInBounds_toArray, List.set_cons_zero, List.set_cons_succ, i64_w, i32_w]
               rfl
              exact norm_ (by first | (simp only [putAll, Act.put, List.setIfInBounds_toArray, List.set_cons_zero, List.set_cons_succ]; done) | (simp only [putAll, Act.put, List.setIfInBounds_toArray, List.set_cons_zero, List.set_cons_succ]; rfl)) (hJ5_8_15 (v175, v178, gb186) _ ⟨hHeld, (by (with_reducible repeat (first | apply Kd.R_alloc | apply Kd.R_drewN | apply Kd.R_drew)); exact HO179.out), (by (with_reducible repeat (first | refine qN ?_ _ | refine qD ?_ | refine qA ?_ _)); exact BK168.out), (by (with_reducible repeat (first | refine qN ?_ _ | refine qD ?_ | refine qA ?_ _)); exact BK169.out), (by (with_reducible repeat (first | refine qN ?_ _ | refine qD ?_ | refine qA ?_ _)); exact BK186.out), GW186.out, GE186.out, NB168_186.out, NB186_168.out, NB169_186.out, NB186_169.out, (by repeat (first | (with_reducible first | exact HB.out | apply qpA | apply qpN | apply qp1 | refine qpS ?_ GE168.out | refine qpS ?_ GE169.out | refine qpS ?_ GE186.out) | exact HB.out))⟩)
           ·skip
            rintro ⟨v175, v181, gb186⟩ w49 ⟨hS_, h0_, h1_, h2_, h3_, h4_, h5_, h6_, h7_, h8_, h9_, h10_, h11_⟩
            have n0_ : Aside0 (Kd.R (Kd.int .i64) 2 w49 w.heap.size (fun k_ => some k_ ≠ (v181 : Value).ownBlock) v175 y174) := ⟨h0_⟩
            have n1_ : Aside0 (Kd.R (Kd.int .i64) 2 w49 w.heap.size (fun k_ => some k_ ≠ (v175 : Value).ownBlock) v181 y180) := ⟨h1_⟩
            have n2_ : Aside0 (w49.heap[gb168]? = some (.cells #[.int .i64 a0_0, .int .i64 a0_1, .slice A0_2 l0_2.length c0_2] 95 (0, 0))) := ⟨h2_⟩
            have n3_ : Aside0 (w49.heap[gb169]? = some (.cells #[.int .i64 a0_0, .int .i64 a0_1, .slice A0_2 l0_2.length c0_2] 96 (0, 0))) := ⟨h3_⟩
            have n4_ : Aside0 (w49.heap[gb186]? = some (.cells #[.int .i64 0, .int .i64 0, .slice none 0 0] 96 (0, 0))) := ⟨h4_⟩
            have n5_ : Aside0 (w.heap.size ≤ gb186) := ⟨h5_⟩
            have n6_ : Aside0 (w.heap.size ≤ gb186) := ⟨h6_⟩
            have n7_ : Aside0 (gb168 ≠ gb186) := ⟨h7_⟩
            have n8_ : Aside0 (gb186 ≠ gb168) := ⟨h8_⟩
            have n9_ : Aside0 (gb169 ≠ gb186) := ⟨h9_⟩
            have n10_ : Aside0 (gb186 ≠ gb169) := ⟨h10_⟩
            have n11_ : Aside0 (Below w.heap.size w w49) := ⟨h11_⟩
            clear BK168
            clear BK169
            clear HB
            clear h0_ h1_ h2_ h3_ h4_ h5_ h6_ h7_ h8_ h9_ h10_ h11_
            have HO176 := n0_
            have HO182 := n1_
            have BK168 := n2_
            have BK169 := n3_
            have BK186 := n4_
            have GW186 := n5_
            have GE186 := n6_
            have NB168_186 := n7_
            have NB186_168 := n8_
            have NB169_186 := n9_
            have NB186_169 := n10_
            have HB := n11_
            clear n0_ n1_ n2_ n3_ n4_ n5_ n6_ n7_ n8_ n9_ n10_ n11_
            have hHeld : w49.cell? ⟨gb168, 0, none⟩ = some (.int .i64 a0_0) ∧ w49.cell? ⟨gb168, 1, none⟩ = some (.int .i64 a0_1) ∧ w49.cell? ⟨gb168, 2, none⟩ = some (.slice A0_2 l0_2.length c0_2) := hS_
            refine norm_ (a' := ?_) ?_ ?_
            rotate_left
            ·simp only [putAll, Act.put, List.setIfInBounds_toArray, List.set_cons_zero, List.set_cons_succ]
             rfl
            refine one_ (i := 8) (N := some 68) #[true, true, true, true, true, true, true, true, true, true, true, true, true, false, false, true, false] rfl rfl (one_of HT_.out (by kernel_rfl)) (by decide) (fun K hK => ?_)
            refine Kd.R_append_rows_step (Kd.int .i64) (w0 := w) w.heap.size (by rfl) (.tmp 65) (.tmp 67) 90 2 (.int .i64 0) 8 rfl Tryd.underlying90 info2 rfl (by decide) (by omega) v175 y174 l0_2 _ _ _ (fun k_ => some k_ ≠ (v181 : Value).ownBlock) (fun _ => False) rfl rfl ?aO ?aR (fun _ _ h => h) (fun _ h => h.elim) ?aF ?aB ?aS ?aL ?_
            (case aR => repeat (first | exact (Kd.C_below HR0_2.out HB.out) | (with_reducible refine Kd.C_alloc ?_ _) | (with_reducible refine Kd.C_drewN ?_ _) | (with_reducible refine Kd.C_drew ?_)))
            (case aB => exact (by repeat (first | (with_reducible first | exact HB.out | apply qpA | apply qpN | apply qp1 | refine qpS ?_ GE168.out | refine qpS ?_ GE169.out | refine qpS ?_ GE186.out) | exact HB.out)))
            (case aF => exact (fun k_ hk => Kd.fresh' (Kd.R_lt (by (with_reducible repeat (first | apply Kd.R_alloc | apply Kd.R_drewN | apply Kd.R_drew)); exact HO182.out)) k_ hk))
            (case aO => exact (by (with_reducible repeat (first | apply Kd.R_alloc | apply Kd.R_drewN | apply Kd.R_drew)); exact HO176.out))
            (case aS => exact (below_size (by repeat (first | (with_reducible first | exact HB.out | apply qpA | apply qpN | apply qp1 | refine qpS ?_ GE168.out | refine qpS ?_ GE169.out | refine qpS ?_ GE186.out) | exact HB.out))))
            (case aL => have := LMc38.out; omega)
            intro v178 w50 ho hb hg hat
            rw [← Ny177.out] at ho
            have n0_ := qS (blk_grown (g := gb168) (o := .cells #[.int .i64 a0_0, .int .i64 a0_1, .slice A0_2 l0_2.length c0_2] 95 (0, 0)) (by (with_reducible repeat (first | refine qN ?_ _ | refine qD ?_ | refine qA ?_ _)); exact BK168.out) hg (Kd.R_ne HO176.out BK168.out (by decide)))
            have n1_ := qS (blk_grown (g := gb169) (o := .cells #[.int .i64 a0_0, .int .i64 a0_1, .slice A0_2 l0_2.length c0_2] 96 (0, 0)) (by (with_reducible repeat (first | refine qN ?_ _ | refine qD ?_ | refine qA ?_ _)); exact BK169.out) hg (Kd.R_ne HO176.out BK169.out (by decide)))
            have n2_ := qS (Kd.R_after (ok := (fun _ => True)) (by (with_reducible repeat (first | apply Kd.R_alloc | apply Kd.R_drewN | apply Kd.R_drew)); exact Kd.R_mono HO182.out (fun _ hk => by first | exact ⟨trivial, hk⟩ | exact True.intro)) hg hat)
            have n3_ := qS (blk_grown (g := gb186) (o := .cells #[.int .i64 0, .int .i64 0, .slice none 0 0] 96 (0, 0)) (by (with_reducible repeat (first | refine qN ?_ _ | refine qD ?_ | refine qA ?_ _)); exact BK186.out) hg (Kd.R_ne HO176.out BK186.out (by decide)))
            have n4_ := qS (hb)
            have n5_ := qS (ho)
            clear BK168
            clear BK169
            clear HO182
            clear BK186
            clear HB
            clear HO176
            have BK168 := n0_
            have BK169 := n1_
            have HO182 := n2_
            have BK186 := n3_
            have HB := n4_
            have HO179 := n5_
            clear n0_ n1_ n2_ n3_ n4_ n5_
            clear ho hb hg hat
            refine hK.out _ _ ⟨(qC BK168.out 0).trans rfl, (qC BK168.out 1).trans rfl, (qC BK168.out 2).trans rfl⟩ (fun hHeld => ?_)
            clear hK K
            refine norm_ (a' := ?_) ?_ ?_
            rotate_left
            ·show Act.put _ (some 68) _ = _
             simp only [Act.put, List.setIfInBounds_toArray, List.set_cons_zero, List.set_cons_succ, i64_w, i32_w]
             rfl
            exact norm_ (by first | (simp only [putAll, Act.put, List.setIfInBounds_toArray, List.set_cons_zero, List.set_cons_succ]; done) | (simp only [putAll, Act.put, List.setIfInBounds_toArray, List.set_cons_zero, List.set_cons_succ]; rfl)) (hJ5_8_12_15 (v175, v178, v181, gb186) _ ⟨hHeld, (by (with_reducible repeat (first | apply Kd.R_alloc | apply Kd.R_drewN | apply Kd.R_drew)); exact HO179.out), (by (with_reducible repeat (first | apply Kd.R_alloc | apply Kd.R_drewN | apply Kd.R_drew)); exact Kd.R_mono HO182.out (fun _ hk => by first | exact hk.2 | exact True.intro)), (by (with_reducible repeat (first | refine qN ?_ _ | refine qD ?_ | refine qA ?_ _)); exact BK168.out), (by (with_reducible repeat (first | refine qN ?_ _ | refine qD ?_ | refine qA ?_ _)); exact BK169.out), (by (with_reducible repeat (first | refine qN ?_ _ | refine qD ?_ | refine qA ?_ _)); exact BK186.out), GW186.out, GE186.out, NB168_186.out, NB186_168.out, NB169_186.out, NB186_169.out, (by repeat (first | (with_reducible first | exact HB.out | apply qpA | apply qpN | apply qp1 | refine qpS ?_ GE168.out | refine qpS ?_ GE169.out | refine qpS ?_ GE186.out) | exact HB.out))⟩)
          ·skip
           rintro ⟨v175, v178, gb186⟩ w48 ⟨hS_, h0_, h1_, h2_, h3_, h4_, h5_, h6_, h7_, h8_, h9_, h10_⟩
           have n0_ : Aside0 (Kd.R (Kd.int .i64) 2 w48 w.heap.size (fun _ => True) v178 y177) := ⟨h0_⟩
           have n1_ : Aside0 (w48.heap[gb168]? = some (.cells #[.int .i64 a0_0, .int .i64 a0_1, .slice A0_2 l0_2.length c0_2] 95 (0, 0))) := ⟨h1_⟩
           have n2_ : Aside0 (w48.heap[gb169]? = some (.cells #[.int .i64 a0_0, .int .i64 a0_1, .slice A0_2 l0_2.length c0_2] 96 (0, 0))) := ⟨h2_⟩
           have n3_ : Aside0 (w48.heap[gb186]? = some (.cells #[.int .i64 0, .int .i64 0, .slice none 0 0] 96 (0, 0))) := ⟨h3_⟩
           have n4_ : Aside0 (w.heap.size ≤ gb186) := ⟨h4_⟩
           have n5_ : Aside0 (w.heap.size ≤ gb186) := ⟨h5_⟩
           have n6_ : Aside0 (gb168 ≠ gb186) := ⟨h6_⟩
           have n7_ : Aside0 (gb186 ≠ gb168) := ⟨h7_⟩
           have n8_ : Aside0 (gb169 ≠ gb186) := ⟨h8_⟩
           have n9_ : Aside0 (gb186 ≠ gb169) := ⟨h9_⟩
           have n10_ : Aside0 (Below w.heap.size w w48) := ⟨h10_⟩
           clear BK168
           clear BK169
           clear HB
           clear h0_ h1_ h2_ h3_ h4_ h5_ h6_ h7_ h8_ h9_ h10_
           have HO179 := n0_
           have BK168 := n1_
           have BK169 := n2_
           have BK186 := n3_
           have GW186 := n4_
           have GE186 := n5_
           have NB168_186 := n6_
           have NB186_168 := n7_
           have NB169_186 := n8_
           have NB186_169 := n9_
           have HB := n10_
           clear n0_ n1_ n2_ n3_ n4_ n5_ n6_ n7_ n8_ n9_ n10_
           have hHeld : w48.cell? ⟨gb168, 0, none⟩ = some (.int .i64 a0_0) ∧ w48.cell? ⟨gb168, 1, none⟩ = some (.int .i64 a0_1) ∧ w48.cell? ⟨gb168, 2, none⟩ = some (.slice A0_2 l0_2.length c0_2) := hS_
           refine norm_ (a' := ?_) ?_ ?_
           rotate_left
           ·simp only [putAll, Act.put, List.setIfInBounds_toArray, List.set_cons_zero, List.set_cons_succ]
            rfl
           refine one_ (i := 12) (N := some 72) #[true, true, true, true, true, true, true, true, true, true, true, true, true, false, false, true, false] rfl rfl (one_of HT_.out (by kernel_rfl)) (by decide) (fun K hK => ?_)
           refine Kd.R_lit_step (Kd.int .i64) _ 2 ?hg (N := 72) ?hd (xs := ([wrap64 (a0_1 - 1)] : List Int)) (inner := [.int .i64 (wrap64 (a0_1 - 1))]) (ok := fun _ => True) (okp := fun _ => True) ?hr ?hp (fun _ hk => hk) trivial (Below.refl _ _) (Nat.le_refl _) (by simp) ?_; (case hd => rfl); (case hg => rfl); (case hr => first | (go_simp; done) | (go_simp; rfl)); (case hp => exact (Reps.one (show Kd.M (Kd.int .i64) _ _ _ (wrap64 (a0_1 - 1)) [.int .i64 (wrap64 (a0_1 - 1))] from rfl) (Reps.none _ _)))
           intro v181 w49 ho50 hb hg_ hnew_
           clear hg_ hnew_
           (first | rw [← Ny180.out] at ho50 | (simp only [Int.reduceToNat] at ho50; rw [← Ny180.out] at ho50))
           have n0_ := qS (Kd.R_elder' (by (with_reducible repeat (first | apply Kd.R_alloc | apply Kd.R_drewN | apply Kd.R_drew)); exact HO179.out) (Kd.R_base ho50) hb)
           have n1_ := qS (Kd.R_lower (Kd.R_new' ho50 (Kd.R_lt (by (with_reducible repeat (first | apply Kd.R_alloc | apply Kd.R_drewN | apply Kd.R_drew)); exact HO179.out))) (below_size (by repeat (first | (with_reducible first | exact HB.out | apply qpA | apply qpN | apply qp1 | refine qpS ?_ GE168.out | refine qpS ?_ GE169.out | refine qpS ?_ GE186.out) | exact HB.out))))
           have n2_ := qS (qB (g := gb168) (o := .cells #[.int .i64 a0_0, .int .i64 a0_1, .slice A0_2 l0_2.length c0_2] 95 (0, 0)) (by (with_reducible repeat (first | refine qN ?_ _ | refine qD ?_ | refine qA ?_ _)); exact BK168.out) hb)
           have n3_ := qS (qB (g := gb169) (o := .cells #[.int .i64 a0_0, .int .i64 a0_1, .slice A0_2 l0_2.length c0_2] 96 (0, 0)) (by (with_reducible repeat (first | refine qN ?_ _ | refine qD ?_ | refine qA ?_ _)); exact BK169.out) hb)
           have n4_ := qS (qB (g := gb186) (o := .cells #[.int .i64 0, .int .i64 0, .slice none 0 0] 96 (0, 0)) (by (with_reducible repeat (first | refine qN ?_ _ | refine qD ?_ | refine qA ?_ _)); exact BK186.out) hb)
           have n5_ := qS (below_step (by repeat (first | (with_reducible first | exact HB.out | apply qpA | apply qpN | apply qp1 | refine qpS ?_ GE168.out | refine qpS ?_ GE169.out | refine qpS ?_ GE186.out) | exact HB.out)) hb)
           clear HO179
           clear BK168
           clear BK169
           clear BK186
           clear HB
           have HO179 := n0_
           have HO182 := n1_
           have BK168 := n2_
           have BK169 := n3_
           have BK186 := n4_
           have HB := n5_
           clear n0_ n1_ n2_ n3_ n4_ n5_
           clear hb ho50
           refine hK.out _ _ ⟨(qC BK168.out 0).trans rfl, (qC BK168.out 1).trans rfl, (qC BK168.out 2).trans rfl⟩ (fun hHeld => ?_)
           clear hK K
           refine norm_ (a' := ?_) ?_ ?_
           rotate_left
           ·show Act.put _ (some 72) _ = _
            simp only [Act.put, List.setIfInBounds_toArray, List.set_cons_zero, List.set_cons_succ, i64_w, i32_w]
            rfl
           exact norm_ (by first | (simp only [putAll, Act.put, List.setIfInBounds_toArray, List.set_cons_zero, List.set_cons_succ]; done) | (simp only [putAll, Act.put, List.setIfInBounds_toArray, List.set_cons_zero, List.set_cons_succ]; rfl)) (hJ5_8_12_15 (v175, v178, v181, gb186) _ ⟨hHeld, (by (with_reducible repeat (first | apply Kd.R_alloc | apply Kd.R_drewN | apply Kd.R_drew)); exact Kd.R_mono HO179.out (fun _ hk => by first | exact hk.2 | exact True.intro)), (by (with_reducible repeat (first | apply Kd.R_alloc | apply Kd.R_drewN | apply Kd.R_drew)); exact Kd.R_mono HO182.out (fun _ hk => by first | exact hk.2 | exact True.intro)), (by (with_reducible repeat (first | refine qN ?_ _ | refine qD ?_ | refine qA ?_ _)); exact BK168.out), (by (with_reducible repeat (first | refine qN ?_ _ | refine qD ?_ | refine qA ?_ _)); exact BK169.out), (by (with_reducible repeat (first | refine qN ?_ _ | refine qD ?_ | refine qA ?_ _)); exact BK186.out), GW186.out, GE186.out, NB168_186.out, NB186_168.out, NB169_186.out, NB186_169.out, (by repeat (first | (with_reducible first | exact HB.out | apply qpA | apply qpN | apply qp1 | refine qpS ?_ GE168.out | refine qpS ?_ GE169.out | refine qpS ?_ GE186.out) | exact HB.out))⟩)
         ·skip
          rintro ⟨v175, v178, v181⟩ w49 ⟨hS_, h0_, h1_, h2_, h3_, h4_⟩
          have n0_ : Aside0 (Kd.R (Kd.int .i64) 2 w49 w.heap.size (fun k_ => some k_ ≠ (v181 : Value).ownBlock) v178 y177) := ⟨h0_⟩
          have n1_ : Aside0 (Kd.R (Kd.int .i64) 2 w49 w.heap.size (fun k_ => some k_ ≠ (v178 : Value).ownBlock) v181 y180) := ⟨h1_⟩
          have n2_ : Aside0 (w49.heap[gb168]? = some (.cells #[.int .i64 a0_0, .int .i64 a0_1, .slice A0_2 l0_2.length c0_2] 95 (0, 0))) := ⟨h2_⟩
          have n3_ : Aside0 (w49.heap[gb169]? = some (.cells #[.int .i64 a0_0, .int .i64 a0_1, .slice A0_2 l0_2.length c0_2] 96 (0, 0))) := ⟨h3_⟩
          have n4_ : Aside0 (Below w.heap.size w w49) := ⟨h4_⟩
          clear BK168
          clear BK169
          clear HB
          clear h0_ h1_ h2_ h3_ h4_
          have HO179 := n0_
          have HO182 := n1_
          have BK168 := n2_
          have BK169 := n3_
          have HB := n4_
          clear n0_ n1_ n2_ n3_ n4_
          have hHeld : w49.cell? ⟨gb168, 0, none⟩ = some (.int .i64 a0_0) ∧ w49.cell? ⟨gb168, 1, none⟩ = some (.int .i64 a0_1) ∧ w49.cell? ⟨gb168, 2, none⟩ = some (.slice A0_2 l0_2.length c0_2) := hS_
          obtain ⟨Ao51, co51, eo51⟩ := Kd.R_slice HO182.out
          (first | subst eo51 | (injection eo51 with f1_ f2_ f3_; have f4_ := f1_.symm; have f5_ := f3_.symm; clear f1_ f2_ f3_; subst f4_; subst f5_))
          refine norm_ (a' := ?_) ?_ ?_
          rotate_left
          ·simp only [putAll, Act.put, List.setIfInBounds_toArray, List.set_cons_zero, List.set_cons_succ]
           rfl
          refine two_ (i := 13) (j := 15) (Ni := some 73) (Nj := some 8) #[true, true, true, true, true, true, true, true, true, true, true, true, true, true, false, false, false] #[true, true, true, true, true, true, true, true, true, true, true, true, true, false, false, true, false] rfl rfl rfl rfl (two_of HT_.out (by kernel_rfl)) (by decide) (by decide) (fun K hK => ?_) (fun K hK => ?_)
          ·skip
           refine Kd.R_append_rows_step (Kd.int .i64) (w0 := w) w.heap.size (by rfl) (.tmp 68) (.tmp 72) 90 2 (.int .i64 0) 8 rfl Tryd.underlying90 info2 rfl (by decide) (by omega) v178 y177 y180 _ _ _ (fun k_ => some k_ ≠ (.slice Ao51 y180.length co51 : Value).ownBlock) (fun _ => False) rfl rfl ?aO ?aR (fun _ _ h => h) (fun _ h => h.elim) ?aF ?aB ?aS ?aL ?_
           (case aR => repeat (first | exact (Kd.R_reads' HO182.out).2.2 | (with_reducible refine Kd.C_alloc ?_ _) | (with_reducible refine Kd.C_drewN ?_ _) | (with_reducible refine Kd.C_drew ?_)))
           (case aB => exact (by repeat (first | (with_reducible first | exact HB.out | apply qpA | apply qpN | apply qp1 | refine qpS ?_ GE168.out | refine qpS ?_ GE169.out) | exact HB.out)))
           (case aF => exact (fun k_ hk => Kd.fresh' (Kd.R_lt (by (with_reducible repeat (first | apply Kd.R_alloc | apply Kd.R_drewN | apply Kd.R_drew)); exact HO182.out)) k_ hk))
           (case aO => exact (by (with_reducible repeat (first | apply Kd.R_alloc | apply Kd.R_drewN | apply Kd.R_drew)); exact HO179.out))
           (case aS => exact (below_size (by repeat (first | (with_reducible first | exact HB.out | apply qpA | apply qpN | apply qp1 | refine qpS ?_ GE168.out | refine qpS ?_ GE169.out) | exact HB.out))))
           (case aL => have := LMc39.out; omega)
           intro v184 w50 ho hb hg hat
           rw [← Ny183.out] at ho
           have n0_ := qS (blk_grown (g := gb168) (o := .cells #[.int .i64 a0_0, .int .i64 a0_1, .slice A0_2 l0_2.length c0_2] 95 (0, 0)) (by (with_reducible repeat (first | refine qN ?_ _ | refine qD ?_ | refine qA ?_ _)); exact BK168.out) hg (Kd.R_ne HO179.out BK168.out (by decide)))
           have n1_ := qS (blk_grown (g := gb169) (o := .cells #[.int .i64 a0_0, .int .i64 a0_1, .slice A0_2 l0_2.length c0_2] 96 (0, 0)) (by (with_reducible repeat (first | refine qN ?_ _ | refine qD ?_ | refine qA ?_ _)); exact BK169.out) hg (Kd.R_ne HO179.out BK169.out (by decide)))
           have n2_ := qS (Kd.R_after (ok := (fun _ => True)) (by (with_reducible repeat (first | apply Kd.R_alloc | apply Kd.R_drewN | apply Kd.R_drew)); exact Kd.R_mono HO182.out (fun _ hk => by first | exact ⟨trivial, hk⟩ | exact True.intro)) hg hat)
           have n3_ := qS (hb)
           have n4_ := qS (ho)
           clear BK168
           clear BK169
           clear HO182
           clear HB
           clear HO179
           have BK168 := n0_
           have BK169 := n1_
           have HO182 := n2_
           have HB := n3_
           have HO185 := n4_
           clear n0_ n1_ n2_ n3_ n4_
           clear ho hb hg hat
           obtain ⟨Ao52, co52, eo52⟩ := Kd.R_slice HO185.out
           (first | subst eo52 | (injection eo52 with f1_ f2_ f3_; have f4_ := f1_.symm; have f5_ := f3_.symm; clear f1_ f2_ f3_; subst f4_; subst f5_))
           refine hK.out _ _ ⟨(qC BK168.out 0).trans rfl, (qC BK168.out 1).trans rfl, (qC BK168.out 2).trans rfl⟩ (fun hHeld => ?_)
           clear hK K
           refine norm_ (a' := ?_) ?_ ?_
           rotate_left
           ·show Act.put _ (some 73) _ = _
            simp only [Act.put, List.setIfInBounds_toArray, List.set_cons_zero, List.set_cons_succ, i64_w, i32_w]
            rfl
           refine pure_ (i := 14) (N := some 74) (v := ?_) (a' := ?_) #[true, true, true, true, true, true, true, true, true, true, true, true, true, true, true, false, false] rfl rfl (any_of HT_.out (by kernel_rfl)) (fun _ _ _ h => h) (Or.inl ⟨by rfl, ?_⟩) ?_ ?_
           rotate_left
           ·intro w'
            go_simp
            with_reducible rfl
           rotate_left
           ·simp only [Act.put, List.setIfInBounds_toArray, List.set_cons_zero, List.set_cons_succ, i64_w, i32_w]
            rfl
           exact norm_ (by first | (simp only [putAll, Act.put, List.setIfInBounds_toArray, List.set_cons_zero, List.set_cons_succ]; done) | (simp only [putAll, Act.put, List.setIfInBounds_toArray, List.set_cons_zero, List.set_cons_succ]; rfl)) (hJ5_8_12_13 (v175, v178, .slice Ao51 y180.length co51, .slice Ao52 y183.length co52) _ ⟨hHeld, (by (with_reducible repeat (first | apply Kd.R_alloc | apply Kd.R_drewN | apply Kd.R_drew)); exact Kd.R_mono HO182.out (fun _ hk => by first | exact hk.2 | exact True.intro)), (by (with_reducible repeat (first | apply Kd.R_alloc | apply Kd.R_drewN | apply Kd.R_drew)); exact HO185.out), (by (with_reducible repeat (first | refine qN ?_ _ | refine qD ?_ | refine qA ?_ _)); exact BK168.out), (by (with_reducible repeat (first | refine qN ?_ _ | refine qD ?_ | refine qA ?_ _)); exact BK169.out), (by repeat (first | (with_reducible first | exact HB.out | apply qpA | apply qpN | apply qp1 | refine qpS ?_ GE168.out | refine qpS ?_ GE169.out) | exact HB.out))⟩)
          ·skip
           refine box_step ?hg (N := 8) ?hd (cs := #[.int .i64 0, .int .i64 0, .slice none 0 0]) (t := 96) ?hr ?_; (case hd => rfl); (case hg => rfl); (case hr => first | (go_simp; done) | (go_simp; rfl))
           intro gb186 hg w50 hbox hb
           have n0_ := qS (Kd.R_below (by (with_reducible repeat (first | apply Kd.R_alloc | apply Kd.R_drewN | apply Kd.R_drew)); exact HO179.out) hb)
           have n1_ := qS (Kd.R_below (by (with_reducible repeat (first | apply Kd.R_alloc | apply Kd.R_drewN | apply Kd.R_drew)); exact HO182.out) hb)
           have n2_ := qS (qB (g := gb168) (o := .cells #[.int .i64 a0_0, .int .i64 a0_1, .slice A0_2 l0_2.length c0_2] 95 (0, 0)) (by (with_reducible repeat (first | refine qN ?_ _ | refine qD ?_ | refine qA ?_ _)); exact BK168.out) hb)
           have n3_ := qS (qB (g := gb169) (o := .cells #[.int .i64 a0_0, .int .i64 a0_1, .slice A0_2 l0_2.length c0_2] 96 (0, 0)) (by (with_reducible repeat (first | refine qN ?_ _ | refine qD ?_ | refine qA ?_ _)); exact BK169.out) hb)
           have n4_ := qS (below_step (by repeat (first | (with_reducible first | exact HB.out | apply qpA | apply qpN | apply qp1 | refine qpS ?_ GE168.out | refine qpS ?_ GE169.out) | exact HB.out)) hb)
           have n5_ := qS (hbox)
           have n6_ := qS ((by rw [hg]; exact (below_size (by repeat (first | (with_reducible first | exact HB.out | apply qpA | apply qpN | apply qp1 | refine qpS ?_ GE168.out | refine qpS ?_ GE169.out) | exact HB.out))) : w.heap.size ≤ gb186))
           have n7_ := qS ((by rw [hg]; exact (below_size (by repeat (first | (with_reducible first | exact HB.out | apply qpA | apply qpN | apply qp1 | refine qpS ?_ GE168.out | refine qpS ?_ GE169.out) | exact HB.out))) : w.heap.size ≤ gb186))
           have n8_ := qS ((by rw [hg]; exact Nat.ne_of_lt (blk_lt (g := gb168) (o := .cells #[.int .i64 a0_0, .int .i64 a0_1, .slice A0_2 l0_2.length c0_2] 95 (0, 0)) (by (with_reducible repeat (first | refine qN ?_ _ | refine qD ?_ | refine qA ?_ _)); exact BK168.out)) : gb168 ≠ gb186))
           have n9_ := qS ((by rw [hg]; exact Nat.ne_of_gt (blk_lt (g := gb168) (o := .cells #[.int .i64 a0_0, .int .i64 a0_1, .slice A0_2 l0_2.length c0_2] 95 (0, 0)) (by (with_reducible repeat (first | refine qN ?_ _ | refine qD ?_ | refine qA ?_ _)); exact BK168.out)) : gb186 ≠ gb168))
           have n10_ := qS ((by rw [hg]; exact Nat.ne_of_lt (blk_lt (g := gb169) (o := .cells #[.int .i64 a0_0, .int .i64 a0_1, .slice A0_2 l0_2.length c0_2] 96 (0, 0)) (by (with_reducible repeat (first | refine qN ?_ _ | refine qD ?_ | refine qA ?_ _)); exact BK169.out)) : gb169 ≠ gb186))
           have n11_ := qS ((by rw [hg]; exact Nat.ne_of_gt (blk_lt (g := gb169) (o := .cells #[.int .i64 a0_0, .int .i64 a0_1, .slice A0_2 l0_2.length c0_2] 96 (0, 0)) (by (with_reducible repeat (first | refine qN ?_ _ | refine qD ?_ | refine qA ?_ _)); exact BK169.out)) : gb186 ≠ gb169))
           clear HO179
           clear HO182
           clear BK168
           clear BK169
           clear HB
           have HO179 := n0_
           have HO182 := n1_
           have BK168 := n2_
           have BK169 := n3_
           have HB := n4_
           have BK186 := n5_
           have GW186 := n6_
           have GE186 := n7_
           have NB168_186 := n8_
           have NB186_168 := n9_
           have NB169_186 := n10_
           have NB186_169 := n11_
           clear n0_ n1_ n2_ n3_ n4_ n5_ n6_ n7_ n8_ n9_ n10_ n11_
           clear hb hbox hg
           refine hK.out _ _ ⟨(qC BK168.out 0).trans rfl, (qC BK168.out 1).trans rfl, (qC BK168.out 2).trans rfl⟩ (fun hHeld => ?_)
           clear hK K
           refine norm_ (a' := ?_) ?_ ?_
           rotate_left
           ·show Act.put _ (some 8) _ = _
            simp only [Act.put, List.setIfInBounds_toArray, List.set_cons_zero, List.set_cons_succ, i64_w, i32_w]
            rfl
           exact norm_ (by first | (simp only [putAll, Act.put, List.setIfInBounds_toArray, List.set_cons_zero, List.set_cons_succ]; done) | (simp only [putAll, Act.put, List.setIfInBounds_toArray, List.set_cons_zero, List.set_cons_succ]; rfl)) (hJ5_8_12_15 (v175, v178, .slice Ao51 y180.length co51, gb186) _ ⟨hHeld, (by (with_reducible repeat (first | apply Kd.R_alloc | apply Kd.R_drewN | apply Kd.R_drew)); exact HO179.out), (by (with_reducible repeat (first | apply Kd.R_alloc | apply Kd.R_drewN | apply Kd.R_drew)); exact HO182.out), (by (with_reducible repeat (first | refine qN ?_ _ | refine qD ?_ | refine qA ?_ _)); exact BK168.out), (by (with_reducible repeat (first | refine qN ?_ _ | refine qD ?_ | refine qA ?_ _)); exact BK169.out), (by (with_reducible repeat (first | refine qN ?_ _ | refine qD ?_ | refine qA ?_ _)); exact BK186.out), GW186.out, GE186.out, NB168_186.out, NB186_168.out, NB169_186.out, NB186_169.out, (by repeat (first | (with_reducible first | exact HB.out | apply qpA | apply qpN | apply qp1 | refine qpS ?_ GE168.out | refine qpS ?_ GE169.out | refine qpS ?_ GE186.out) | exact HB.out))⟩)
        ·skip
         rintro ⟨v175, v178, v181, gb186⟩ w50 ⟨hS_, h0_, h1_, h2_, h3_, h4_, h5_, h6_, h7_, h8_, h9_, h10_, h11_⟩
         have n0_ : Aside0 (Kd.R (Kd.int .i64) 2 w50 w.heap.size (fun k_ => some k_ ≠ (v181 : Value).ownBlock) v178 y177) := ⟨h0_⟩
         have n1_ : Aside0 (Kd.R (Kd.int .i64) 2 w50 w.heap.size (fun k_ => some k_ ≠ (v178 : Value).ownBlock) v181 y180) := ⟨h1_⟩
         have n2_ : Aside0 (w50.heap[gb168]? = some (.cells #[.int .i64 a0_0, .int .i64 a0_1, .slice A0_2 l0_2.length c0_2] 95 (0, 0))) := ⟨h2_⟩
         have n3_ : Aside0 (w50.heap[gb169]? = some (.cells #[.int .i64 a0_0, .int .i64 a0_1, .slice A0_2 l0_2.length c0_2] 96 (0, 0))) := ⟨h3_⟩
         have n4_ : Aside0 (w50.heap[gb186]? = some (.cells #[.int .i64 0, .int .i64 0, .slice none 0 0] 96 (0, 0))) := ⟨h4_⟩
         have n5_ : Aside0 (w.heap.size ≤ gb186) := ⟨h5_⟩
         have n6_ : Aside0 (w.heap.size ≤ gb186) := ⟨h6_⟩
         have n7_ : Aside0 (gb168 ≠ gb186) := ⟨h7_⟩
         have n8_ : Aside0 (gb186 ≠ gb168) := ⟨h8_⟩
         have n9_ : Aside0 (gb169 ≠ gb186) := ⟨h9_⟩
         have n10_ : Aside0 (gb186 ≠ gb169) := ⟨h10_⟩
         have n11_ : Aside0 (Below w.heap.size w w50) := ⟨h11_⟩
         clear BK168
         clear BK169
         clear HB
         clear h0_ h1_ h2_ h3_ h4_ h5_ h6_ h7_ h8_ h9_ h10_ h11_
         have HO179 := n0_
         have HO182 := n1_
         have BK168 := n2_
         have BK169 := n3_
         have BK186 := n4_
         have GW186 := n5_
         have GE186 := n6_
         have NB168_186 := n7_
         have NB186_168 := n8_
         have NB169_186 := n9_
         have NB186_169 := n10_
         have HB := n11_
         clear n0_ n1_ n2_ n3_ n4_ n5_ n6_ n7_ n8_ n9_ n10_ n11_
         have hHeld : w50.cell? ⟨gb168, 0, none⟩ = some (.int .i64 a0_0) ∧ w50.cell? ⟨gb168, 1, none⟩ = some (.int .i64 a0_1) ∧ w50.cell? ⟨gb168, 2, none⟩ = some (.slice A0_2 l0_2.length c0_2) := hS_
         obtain ⟨Ao52, co52, eo52⟩ := Kd.R_slice HO182.out
         (first | subst eo52 | (injection eo52 with f1_ f2_ f3_; have f4_ := f1_.symm; have f5_ := f3_.symm; clear f1_ f2_ f3_; subst f4_; subst f5_))
         refine norm_ (a' := ?_) ?_ ?_
         rotate_left
         ·simp only [putAll, Act.put, List.setIfInBounds_toArray, List.set_cons_zero, List.set_cons_succ]
          rfl
         refine one_ (i := 13) (N := some 73) #[true, true, true, true, true, true, true, true, true, true, true, true, true, true, false, true, false] rfl rfl (one_of HT_.out (by kernel_rfl)) (by decide) (fun K hK => ?_)
         refine Kd.R_append_rows_step (Kd.int .i64) (w0 := w) w.heap.size (by rfl) (.tmp 68) (.tmp 72) 90 2 (.int .i64 0) 8 rfl Tryd.underlying90 info2 rfl (by decide) (by omega) v178 y177 y180 _ _ _ (fun k_ => some k_ ≠ (.slice Ao52 y180.length co52 : Value).ownBlock) (fun _ => False) rfl rfl ?aO ?aR (fun _ _ h => h) (fun _ h => h.elim) ?aF ?aB ?aS ?aL ?_
         (case aR => repeat (first | exact (Kd.R_reads' HO182.out).2.2 | (with_reducible refine Kd.C_alloc ?_ _) | (with_reducible refine Kd.C_drewN ?_ _) | (with_reducible refine Kd.C_drew ?_)))
         (case aB => exact (by repeat (first | (with_reducible first | exact HB.out | apply qpA | apply qpN | apply qp1 | refine qpS ?_ GE168.out | refine qpS ?_ GE169.out | refine qpS ?_ GE186.out) | exact HB.out)))
         (case aF => exact (fun k_ hk => Kd.fresh' (Kd.R_lt (by (with_reducible repeat (first | apply Kd.R_alloc | apply Kd.R_drewN | apply Kd.R_drew)); exact HO182.out)) k_ hk))
         (case aO => exact (by (with_reducible repeat (first | apply Kd.R_alloc | apply Kd.R_drewN | apply Kd.R_drew)); exact HO179.out))
         (case aS => exact (below_size (by repeat (first | (with_reducible first | exact HB.out | apply qpA | apply qpN | apply qp1 | refine qpS ?_ GE168.out | refine qpS ?_ GE169.out | refine qpS ?_ GE186.out) | exact HB.out))))
         (case aL => have := LMc39.out; omega)
         intro v184 w51 ho hb hg hat
         rw [← Ny183.out] at ho
         have n0_ := qS (blk_grown (g := gb168) (o := .cells #[.int .i64 a0_0, .int .i64 a0_1, .slice A0_2 l0_2.length c0_2] 95 (0, 0)) (by (with_reducible repeat (first | refine qN ?_ _ | refine qD ?_ | refine qA ?_ _)); exact BK168.out) hg (Kd.R_ne HO179.out BK168.out (by decide)))
         have n1_ := qS (blk_grown (g := gb169) (o := .cells #[.int .i64 a0_0, .int .i64 a0_1, .slice A0_2 l0_2.length c0_2] 96 (0, 0)) (by (with_reducible repeat (first | refine qN ?_ _ | refine qD ?_ | refine qA ?_ _)); exact BK169.out) hg (Kd.R_ne HO179.out BK169.out (by decide)))
         have n2_ := qS (Kd.R_after (ok := (fun _ => True)) (by (with_reducible repeat (first | apply Kd.R_alloc | apply Kd.R_drewN | apply Kd.R_drew)); exact Kd.R_mono HO182.out (fun _ hk => by first | exact ⟨trivial, hk⟩ | exact True.intro)) hg hat)
         have n3_ := qS (blk_grown (g := gb186) (o := .cells #[.int .i64 0, .int .i64 0, .slice none 0 0] 96 (0, 0)) (by (with_reducible repeat (first | refine qN ?_ _ | refine qD ?_ | refine qA ?_ _)); exact BK186.out) hg (Kd.R_ne HO179.out BK186.out (by decide)))
         have n4_ := qS (hb)
         have n5_ := qS (ho)
         clear BK168
         clear BK169
         clear HO182
         clear BK186
         clear HB
         clear HO179
         have BK168 := n0_
         have BK169 := n1_
         have HO182 := n2_
         have BK186 := n3_
         have HB := n4_
         have HO185 := n5_
         clear n0_ n1_ n2_ n3_ n4_ n5_
         clear ho hb hg hat
         obtain ⟨Ao53, co53, eo53⟩ := Kd.R_slice HO185.out
         (first | subst eo53 | (injection eo53 with f1_ f2_ f3_; have f4_ := f1_.symm; have f5_ := f3_.symm; clear f1_ f2_ f3_; subst f4_; subst f5_))
         refine hK.out _ _ ⟨(qC BK168.out 0).trans rfl, (qC BK168.out 1).trans rfl, (qC BK168.out 2).trans rfl⟩ (fun hHeld => ?_)
         clear hK K
         refine norm_ (a' := ?_) ?_ ?_
         rotate_left
         ·show Act.put _ (some 73) _ = _
          simp only [Act.put, List.setIfInBounds_toArray, List.set_cons_zero, List.set_cons_succ, i64_w, i32_w]
          rfl
         refine pure_ (i := 14) (N := some 74) (v := ?_) (a' := ?_) #[true, true, true, true, true, true, true, true, true, true, true, true, true, true, true, true, false] rfl rfl (any_of HT_.out (by kernel_rfl)) (fun _ _ _ h => h) (Or.inl ⟨by rfl, ?_⟩) ?_ ?_
         rotate_left
         ·intro w'
          go_simp
          with_reducible rfl
         rotate_left
         ·simp only [Act.put, List.setIfInBounds_toArray, List.set_cons_zero, List.set_cons_succ, i64_w, i32_w]
          rfl
         exact norm_ (by first | (simp only [putAll, Act.put, List.setIfInBounds_toArray, List.set_cons_zero, List.set_cons_succ]; done) | (simp only [putAll, Act.put, List.setIfInBounds_toArray, List.set_cons_zero, List.set_cons_succ]; rfl)) (hJ5_8_12_13_15 (v175, v178, .slice Ao52 y180.length co52, .slice Ao53 y183.length co53, gb186) _ ⟨hHeld, (by (with_reducible repeat (first | apply Kd.R_alloc | apply Kd.R_drewN | apply Kd.R_drew)); exact Kd.R_mono HO182.out (fun _ hk => by first | exact hk.2 | exact True.intro)), (by (with_reducible repeat (first | apply Kd.R_alloc | apply Kd.R_drewN | apply Kd.R_drew)); exact HO185.out), (by (with_reducible repeat (first | refine qN ?_ _ | refine qD ?_ | refine qA ?_ _)); exact BK168.out), (by (with_reducible repeat (first | refine qN ?_ _ | refine qD ?_ | refine qA ?_ _)); exact BK169.out), (by (with_reducible repeat (first | refine qN ?_ _ | refine qD ?_ | refine qA ?_ _)); exact BK186.out), GW186.out, GE186.out, NB168_186.out, NB186_168.out, NB169_186.out, NB186_169.out, (by repeat (first | (with_reducible first | exact HB.out | apply qpA | apply qpN | apply qp1 | refine qpS ?_ GE168.out | refine qpS ?_ GE169.out | refine qpS ?_ GE186.out) | exact HB.out))⟩)
       ·skip
        rintro ⟨v175, v178, v181, v184⟩ w52 ⟨hS_, h0_, h1_, h2_, h3_, h4_⟩
        have n0_ : Aside0 (Kd.R (Kd.int .i64) 2 w52 w.heap.size (fun k_ => some k_ ≠ (v184 : Value).ownBlock) v181 y180) := ⟨h0_⟩
        have n1_ : Aside0 (Kd.R (Kd.int .i64) 2 w52 w.heap.size (fun k_ => some k_ ≠ (v181 : Value).ownBlock) v184 y183) := ⟨h1_⟩
        have n2_ : Aside0 (w52.heap[gb168]? = some (.cells #[.int .i64 a0_0, .int .i64 a0_1, .slice A0_2 l0_2.length c0_2] 95 (0, 0))) := ⟨h2_⟩
        have n3_ : Aside0 (w52.heap[gb169]? = some (.cells #[.int .i64 a0_0, .int .i64 a0_1, .slice A0_2 l0_2.length c0_2] 96 (0, 0))) := ⟨h3_⟩
        have n4_ : Aside0 (Below w.heap.size w w52) := ⟨h4_⟩
        clear BK168
        clear BK169
        clear HB
        clear h0_ h1_ h2_ h3_ h4_
        have HO182 := n0_
        have HO185 := n1_
        have BK168 := n2_
        have BK169 := n3_
        have HB := n4_
        clear n0_ n1_ n2_ n3_ n4_
        have hHeld : w52.cell? ⟨gb168, 0, none⟩ = some (.int .i64 a0_0) ∧ w52.cell? ⟨gb168, 1, none⟩ = some (.int .i64 a0_1) ∧ w52.cell? ⟨gb168, 2, none⟩ = some (.slice A0_2 l0_2.length c0_2) := hS_
        obtain ⟨Ao53, co53, eo53⟩ := Kd.R_slice HO185.out
        (first | subst eo53 | (injection eo53 with f1_ f2_ f3_; have f4_ := f1_.symm; have f5_ := f3_.symm; clear f1_ f2_ f3_; subst f4_; subst f5_))
        refine norm_ (a' := ?_) ?_ ?_
        rotate_left
        ·simp only [putAll, Act.put, List.setIfInBounds_toArray, List.set_cons_zero, List.set_cons_succ]
         rfl
        refine one_ (i := 15) (N := some 8) #[true, true, true, true, true, true, true, true, true, true, true, true, true, true, true, true, false] rfl rfl (one_of HT_.out (by kernel_rfl)) (by decide) (fun K hK => ?_)
        refine box_step ?hg (N := 8) ?hd (cs := #[.int .i64 0, .int .i64 0, .slice none 0 0]) (t := 96) ?hr ?_; (case hd => rfl); (case hg => rfl); (case hr => first | (go_simp; done) | (go_simp; rfl))
        intro gb186 hg w54 hbox hb
        have n0_ := qS (Kd.R_below (by (with_reducible repeat (first | apply Kd.R_alloc | apply Kd.R_drewN | apply Kd.R_drew)); exact HO182.out) hb)
        have n1_ := qS (Kd.R_below (by (with_reducible repeat (first | apply Kd.R_alloc | apply Kd.R_drewN | apply Kd.R_drew)); exact HO185.out) hb)
        have n2_ := qS (qB (g := gb168) (o := .cells #[.int .i64 a0_0, .int .i64 a0_1, .slice A0_2 l0_2.length c0_2] 95 (0, 0)) (by (with_reducible repeat (first | refine qN ?_ _ | refine qD ?_ | refine qA ?_ _)); exact BK168.out) hb)
        have n3_ := qS (qB (g := gb169) (o := .cells #[.int .i64 a0_0, .int .i64 a0_1, .slice A0_2 l0_2.length c0_2] 96 (0, 0)) (by (with_reducible repeat (first | refine qN ?_ _ | refine qD ?_ | refine qA ?_ _)); exact BK169.out) hb)
        have n4_ := qS (below_step (by repeat (first | (with_reducible first | exact HB.out | apply qpA | apply qpN | apply qp1 | refine qpS ?_ GE168.out | refine qpS ?_ GE169.out) | exact HB.out)) hb)
        have n5_ := qS (hbox)
        have n6_ := qS ((by rw [hg]; exact (below_size (by repeat (first | (with_reducible first | exact HB.out | apply qpA | apply qpN | apply qp1 | refine qpS ?_ GE168.out | refine qpS ?_ GE169.out) | exact HB.out))) : w.heap.size ≤ gb186))
        have n7_ := qS ((by rw [hg]; exact (below_size (by repeat (first | (with_reducible first | exact HB.out | apply qpA | apply qpN | apply qp1 | refine qpS ?_ GE168.out | refine qpS ?_ GE169.out) | exact HB.out))) : w.heap.size ≤ gb186))
        have n8_ := qS ((by rw [hg]; exact Nat.ne_of_lt (blk_lt (g := gb168) (o := .cells #[.int .i64 a0_0, .int .i64 a0_1, .slice A0_2 l0_2.length c0_2] 95 (0, 0)) (by (with_reducible repeat (first | refine qN ?_ _ | refine qD ?_ | refine qA ?_ _)); exact BK168.out)) : gb168 ≠ gb186))
        have n9_ := qS ((by rw [hg]; exact Nat.ne_of_gt (blk_lt (g := gb168) (o := .cells #[.int .i64 a0_0, .int .i64 a0_1, .slice A0_2 l0_2.length c0_2] 95 (0, 0)) (by (with_reducible repeat (first | refine qN ?_ _ | refine qD ?_ | refine qA ?_ _)); exact BK168.out)) : gb186 ≠ gb168))
        have n10_ := qS ((by rw [hg]; exact Nat.ne_of_lt (blk_lt (g := gb169) (o := .cells #[.int .i64 a0_0, .int .i64 a0_1, .slice A0_2 l0_2.length c0_2] 96 (0, 0)) (by (with_reducible repeat (first | refine qN ?_ _ | refine qD ?_ | refine qA ?_ _)); exact BK169.out)) : gb169 ≠ gb186))
        have n11_ := qS ((by rw [hg]; exact Nat.ne_of_gt (blk_lt (g := gb169) (o := .cells #[.int .i64 a0_0, .int .i64 a0_1, .slice A0_2 l0_2.length c0_2] 96 (0, 0)) (by (with_reducible repeat (first | refine qN ?_ _ | refine qD ?_ | refine qA ?_ _)); exact BK169.out)) : gb186 ≠ gb169))
        clear HO182
        clear HO185
        clear BK168
        clear BK169
        clear HB
        have HO182 := n0_
        have HO185 := n1_
        have BK168 := n2_
        have BK169 := n3_
        have HB := n4_
        have BK186 := n5_
        have GW186 := n6_
        have GE186 := n7_
        have NB168_186 := n8_
        have NB186_168 := n9_
        have NB169_186 := n10_
        have NB186_169 := n11_
        clear n0_ n1_ n2_ n3_ n4_ n5_ n6_ n7_ n8_ n9_ n10_ n11_
        clear hb hbox hg
        refine hK.out _ _ ⟨(qC BK168.out 0).trans rfl, (qC BK168.out 1).trans rfl, (qC BK168.out 2).trans rfl⟩ (fun hHeld => ?_)
        clear hK K
        refine norm_ (a' := ?_) ?_ ?_
        rotate_left
        ·show Act.put _ (some 8) _ = _
         simp only [Act.put, List.setIfInBounds_toArray, List.set_cons_zero, List.set_cons_succ, i64_w, i32_w]
         rfl
        exact norm_ (by first | (simp only [putAll, Act.put, List.setIfInBounds_toArray, List.set_cons_zero, List.set_cons_succ]; done) | (simp only [putAll, Act.put, List.setIfInBounds_toArray, List.set_cons_zero, List.set_cons_succ]; rfl)) (hJ5_8_12_13_15 (v175, v178, v181, .slice Ao53 y183.length co53, gb186) _ ⟨hHeld, (by (with_reducible repeat (first | apply Kd.R_alloc | apply Kd.R_drewN | apply Kd.R_drew)); exact HO182.out), (by (with_reducible repeat (first | apply Kd.R_alloc | apply Kd.R_drewN | apply Kd.R_drew)); exact HO185.out), (by (with_reducible repeat (first | refine qN ?_ _ | refine qD ?_ | refine qA ?_ _)); exact BK168.out), (by (with_reducible repeat (first | refine qN ?_ _ | refine qD ?_ | refine qA ?_ _)); exact BK169.out), (by (with_reducible repeat (first | refine qN ?_ _ | refine qD ?_ | refine qA ?_ _)); exact BK186.out), GW186.out, GE186.out, NB168_186.out, NB186_168.out, NB169_186.out, NB186_169.out, (by repeat (first | (with_reducible first | exact HB.out | apply qpA | apply qpN | apply qp1 | refine qpS ?_ GE168.out | refine qpS ?_ GE169.out | refine qpS ?_ GE186.out) | exact HB.out))⟩)
      rintro ⟨v175, v178, v181, v184, gb186⟩ w53 ⟨hS_, h0_, h1_, h2_, h3_, h4_, h5_, h6_, h7_, h8_, h9_, h10_, h11_⟩
      have n0_ : Aside0 (Kd.R (Kd.int .i64) 2 w53 w.heap.size (fun k_ => some k_ ≠ (v184 : Value).ownBlock) v181 y180) := ⟨h0_⟩
      have n1_ : Aside0 (Kd.R (Kd.int .i64) 2 w53 w.heap.size (fun k_ => some k_ ≠ (v181 : Value).ownBlock) v184 y183) := ⟨h1_⟩
      have n2_ : Aside0 (w53.heap[gb168]? = some (.cells #[.int .i64 a0_0, .int .i64 a0_1, .slice A0_2 l0_2.length c0_2] 95 (0, 0))) := ⟨h2_⟩
      have n3_ : Aside0 (w53.heap[gb169]? = some (.cells #[.int .i64 a0_0, .int .i64 a0_1, .slice A0_2 l0_2.length c0_2] 96 (0, 0))) := ⟨h3_⟩
      have n4_ : Aside0 (w53.heap[gb186]? = some (.cells #[.int .i64 0, .int .i64 0, .slice none 0 0] 96 (0, 0))) := ⟨h4_⟩
      have n5_ : Aside0 (w.heap.size ≤ gb186) := ⟨h5_⟩
      have n6_ : Aside0 (w.heap.size ≤ gb186) := ⟨h6_⟩
      have n7_ : Aside0 (gb168 ≠ gb186) := ⟨h7_⟩
      have n8_ : Aside0 (gb186 ≠ gb168) := ⟨h8_⟩
      have n9_ : Aside0 (gb169 ≠ gb186) := ⟨h9_⟩
      have n10_ : Aside0 (gb186 ≠ gb169) := ⟨h10_⟩
      have n11_ : Aside0 (Below w.heap.size w w53) := ⟨h11_⟩
      clear BK168
      clear BK169
      clear HB
      clear h0_ h1_ h2_ h3_ h4_ h5_ h6_ h7_ h8_ h9_ h10_ h11_
      have HO182 := n0_
      have HO185 := n1_
      have BK168 := n2_
      have BK169 := n3_
      have BK186 := n4_
      have GW186 := n5_
      have GE186 := n6_
      have NB168_186 := n7_
      have NB186_168 := n8_
      have NB169_186 := n9_
      have NB186_169 := n10_
      have HB := n11_
      clear n0_ n1_ n2_ n3_ n4_ n5_ n6_ n7_ n8_ n9_ n10_ n11_
      have hHeld : w53.cell? ⟨gb168, 0, none⟩ = some (.int .i64 a0_0) ∧ w53.cell? ⟨gb168, 1, none⟩ = some (.int .i64 a0_1) ∧ w53.cell? ⟨gb168, 2, none⟩ = some (.slice A0_2 l0_2.length c0_2) := hS_
      obtain ⟨Ao54, co54, eo54⟩ := Kd.R_slice HO185.out
      (first | subst eo54 | (injection eo54 with f1_ f2_ f3_; have f4_ := f1_.symm; have f5_ := f3_.symm; clear f1_ f2_ f3_; subst f4_; subst f5_))
      refine norm_ (a' := ?_) ?_ ?_
      rotate_left
      ·simp only [putAll, Act.put, List.setIfInBounds_toArray, List.set_cons_zero, List.set_cons_succ]
       rfl
      refine one_ (i := 16) (N := none) #[true, true, true, true, true, true, true, true, true, true, true, true, true, true, true, true, true] rfl rfl (one_of HT_.out (by kernel_rfl)) (by decide) (fun K hK => ?_)
      have hs55 : w53.cell? ⟨gb186, 0, none⟩ = some (.int .i64 0) := (qC BK186.out 0).trans rfl
      have hfs55 := qF BK186.out 0
      have hns55_0 := NB168_186.out
      have hns55_1 := NB169_186.out
      have hms55_0 := NB186_168.out
      have hms55_1 := NB186_169.out
      have hs56 : w53.cell? ⟨gb186, 1, none⟩ = some (.int .i64 0) := (qC BK186.out 1).trans rfl
      have hfs56 := qF BK186.out 1
      have hns56_0 := NB168_186.out
      have hns56_1 := NB169_186.out
      have hms56_0 := NB186_168.out
      have hms56_1 := NB186_169.out
      have hs57 : w53.cell? ⟨gb186, 2, none⟩ = some (.slice none 0 0) := (qC BK186.out 2).trans rfl
      have hfs57 := qF BK186.out 2
      have hns57_0 := NB168_186.out
      have hns57_1 := NB169_186.out
      have hms57_0 := NB186_168.out
      have hms57_1 := NB186_169.out
      refine skip_ (w1 := ?_) (by rfl) rfl ?_ ?_
      rotate_left
      ·go_simp
       rfl
      refine hK.out _ _ ⟨((cell_far (p := ⟨gb186, _, none⟩) NB168_186.out _).trans (((cell_far (p := ⟨gb186, _, none⟩) NB168_186.out _).trans (((cell_far (p := ⟨gb186, _, none⟩) NB168_186.out _).trans (hHeld.1)))))), ((cell_far (p := ⟨gb186, _, none⟩) NB168_186.out _).trans (((cell_far (p := ⟨gb186, _, none⟩) NB168_186.out _).trans (((cell_far (p := ⟨gb186, _, none⟩) NB168_186.out _).trans (hHeld.2.1)))))), ((cell_far (p := ⟨gb186, _, none⟩) NB168_186.out _).trans (((cell_far (p := ⟨gb186, _, none⟩) NB168_186.out _).trans (((cell_far (p := ⟨gb186, _, none⟩) NB168_186.out _).trans (hHeld.2.2))))))⟩ (fun hHeld => ?_)
      clear hK K
      refine done_ (done_of HT_.out (by kernel_rfl)) ?_
      have hnb58 := NB168_169.out
      have hnc58 := NB169_168.out
      have hnb59 := NB168_186.out
      have hnc59 := NB186_168.out
      have hcz60_0 : w53.cell? ⟨gb168, 0, none⟩ = some (.int .i64 a0_0) := (qC BK168.out 0).trans rfl
      have hcz60_1 : w53.cell? ⟨gb168, 1, none⟩ = some (.int .i64 a0_1) := (qC BK168.out 1).trans rfl
      have hcz60_2 : w53.cell? ⟨gb168, 2, none⟩ = some (.slice A0_2 l0_2.length c0_2) := (qC BK168.out 2).trans rfl
      have hfz60_0 := qF BK168.out 0
      have hfz60_1 := qF BK168.out 1
      have hfz60_2 := qF BK168.out 2
      go_upto_region 8 with (first | ((with_reducible refine gate_dst (N := 9) rfl ?_); (try (refine gate_guard (by rfl) ?_; dsimp only)); refine box_event ?hg (N := 9) ?hd (cs := #[.int .i64 0, .int .i64 0, .slice none 0 0]) (t := 96) ?hr ?_; (case hd => rfl); (case hg => rfl); (case hr => first | (go_simp; done) | (go_simp; rfl)); intro gb187 hg w61 hbox hb; have n0_ := qS (Kd.R_below (by (with_reducible repeat (first | apply Kd.R_alloc | apply Kd.R_drewN | apply Kd.R_drew)); exact (Kd.R_mono (Kd.R_far (p := ⟨gb186, 2, none⟩) (Kd.R_far (p := ⟨gb186, 1, none⟩) (Kd.R_far (p := ⟨gb186, 0, none⟩) (Kd.R_types HO182.out BK186.out (by decide)) (fun _ hk => hk.2) (.int .i64 a0_0)) (fun _ hk => hk.2) (.int .i64 (wrap64 (a0_1 + 500)))) (fun _ hk => hk.2) (.slice Ao54 y183.length co54)) (fun _ h_ => h_.1))) hb); have n1_ := qS (Kd.R_below (by (with_reducible repeat (first | apply Kd.R_alloc | apply Kd.R_drewN | apply Kd.R_drew)); exact (Kd.R_mono (Kd.R_far (p := ⟨gb186, 2, none⟩) (Kd.R_far (p := ⟨gb186, 1, none⟩) (Kd.R_far (p := ⟨gb186, 0, none⟩) (Kd.R_types HO185.out BK186.out (by decide)) (fun _ hk => hk.2) (.int .i64 a0_0)) (fun _ hk => hk.2) (.int .i64 (wrap64 (a0_1 + 500)))) (fun _ hk => hk.2) (.slice Ao54 y183.length co54)) (fun _ h_ => h_.1))) hb); have n2_ := qS (qB (g := gb168) (o := .cells #[.int .i64 a0_0, .int .i64 a0_1, .slice A0_2 l0_2.length c0_2] 95 (0, 0)) (by (with_reducible repeat (first | refine qN ?_ _ | refine qD ?_ | refine qA ?_ _)); refine blk_far ?_ NB168_186.out _; (with_reducible repeat (first | refine qN ?_ _ | refine qD ?_ | refine qA ?_ _)); refine blk_far ?_ NB168_186.out _; (with_reducible repeat (first | refine qN ?_ _ | refine qD ?_ | refine qA ?_ _)); refine blk_far ?_ NB168_186.out _; (with_reducible repeat (first | refine qN ?_ _ | refine qD ?_ | refine qA ?_ _)); exact BK168.out) hb); have n3_ := qS (qB (g := gb169) (o := .cells #[.int .i64 a0_0, .int .i64 a0_1, .slice A0_2 l0_2.length c0_2] 96 (0, 0)) (by (with_reducible repeat (first | refine qN ?_ _ | refine qD ?_ | refine qA ?_ _)); refine blk_far ?_ NB169_186.out _; (with_reducible repeat (first | refine qN ?_ _ | refine qD ?_ | refine qA ?_ _)); refine blk_far ?_ NB169_186.out _; (with_reducible repeat (first | refine qN ?_ _ | refine qD ?_ | refine qA ?_ _)); refine blk_far ?_ NB169_186.out _; (with_reducible repeat (first | refine qN ?_ _ | refine qD ?_ | refine qA ?_ _)); exact BK169.out) hb); have n4_ := qS (qB (g := gb186) (o := .cells #[.int .i64 a0_0, .int .i64 (wrap64 (a0_1 + 500)), .slice Ao54 y183.length co54] 96 (0, 0)) (by (with_reducible repeat (first | refine qN ?_ _ | refine qD ?_ | refine qA ?_ _)); refine blk_put (cs := #[.int .i64 a0_0, .int .i64 (wrap64 (a0_1 + 500)), .slice none 0 0]) ?_ 2 _ rfl; (with_reducible repeat (first | refine qN ?_ _ | refine qD ?_ | refine qA ?_ _)); refine blk_put (cs := #[.int .i64 a0_0, .int .i64 0, .slice none 0 0]) ?_ 1 _ rfl; (with_reducible repeat (first | refine qN ?_ _ | refine qD ?_ | refine qA ?_ _)); refine blk_put (cs := #[.int .i64 0, .int .i64 0, .slice none 0 0]) ?_ 0 _ rfl; (with_reducible repeat (first | refine qN ?_ _ | refine qD ?_ | refine qA ?_ _)); exact BK186.out) hb); have n5_ := qS (below_step (by repeat (first | (with_reducible first | exact HB.out | apply qpA | apply qpN | apply qp1 | refine qpS ?_ GE168.out | refine qpS ?_ GE169.out | refine qpS ?_ GE186.out) | exact HB.out)) hb); have n6_ := qS (hbox); have n7_ := qS ((by rw [hg]; exact (below_size (by repeat (first | (with_reducible first | exact HB.out | apply qpA | apply qpN | apply qp1 | refine qpS ?_ GE168.out | refine qpS ?_ GE169.out | refine qpS ?_ GE186.out) | exact HB.out))) : w.heap.size ≤ gb187)); have n8_ := qS ((by rw [hg]; exact (below_size (by repeat (first | (with_reducible first | exact HB.out | apply qpA | apply qpN | apply qp1 | refine qpS ?_ GE168.out | refine qpS ?_ GE169.out | refine qpS ?_ GE186.out) | exact HB.out))) : w.heap.size ≤ gb187)); have n9_ := qS ((by rw [hg]; exact Nat.ne_of_lt (blk_lt (g := gb168) (o := .cells #[.int .i64 a0_0, .int .i64 a0_1, .slice A0_2 l0_2.length c0_2] 95 (0, 0)) (by (with_reducible repeat (first | refine qN ?_ _ | refine qD ?_ | refine qA ?_ _)); refine blk_far ?_ NB168_186.out _; (with_reducible repeat (first | refine qN ?_ _ | refine qD ?_ | refine qA ?_ _)); refine blk_far ?_ NB168_186.out _; (with_reducible repeat (first | refine qN ?_ _ | refine qD ?_ | refine qA ?_ _)); refine blk_far ?_ NB168_186.out _; (with_reducible repeat (first | refine qN ?_ _ | refine qD ?_ | refine qA ?_ _)); exact BK168.out)) : gb168 ≠ gb187)); have n10_ := qS ((by rw [hg]; exact Nat.ne_of_gt (blk_lt (g := gb168) (o := .cells #[.int .i64 a0_0, .int .i64 a0_1, .slice A0_2 l0_2.length c0_2] 95 (0, 0)) (by (with_reducible repeat (first | refine qN ?_ _ | refine qD ?_ | refine qA ?_ _)); refine blk_far ?_ NB168_186.out _; (with_reducible repeat (first | refine qN ?_ _ | refine qD ?_ | refine qA ?_ _)); refine blk_far ?_ NB168_186.out _; (with_reducible repeat (first | refine qN ?_ _ | refine qD ?_ | refine qA ?_ _)); refine blk_far ?_ NB168_186.out _; (with_reducible repeat (first | refine qN ?_ _ | refine qD ?_ | refine qA ?_ _)); exact BK168.out)) : gb187 ≠ gb168)); have n11_ := qS ((by rw [hg]; exact Nat.ne_of_lt (blk_lt (g := gb169) (o := .cells #[.int .i64 a0_0, .int .i64 a0_1, .slice A0_2 l0_2.length c0_2] 96 (0, 0)) (by (with_reducible repeat (first | refine qN ?_ _ | refine qD ?_ | refine qA ?_ _)); refine blk_far ?_ NB169_186.out _; (with_reducible repeat (first | refine qN ?_ _ | refine qD ?_ | refine qA ?_ _)); refine blk_far ?_ NB169_186.out _; (with_reducible repeat (first | refine qN ?_ _ | refine qD ?_ | refine qA ?_ _)); refine blk_far ?_ NB169_186.out _; (with_reducible repeat (first | refine qN ?_ _ | refine qD ?_ | refine qA ?_ _)); exact BK169.out)) : gb169 ≠ gb187)); have n12_ := qS ((by rw [hg]; exact Nat.ne_of_gt (blk_lt (g := gb169) (o := .cells #[.int .i64 a0_0, .int .i64 a0_1, .slice A0_2 l0_2.length c0_2] 96 (0, 0)) (by (with_reducible repeat (first | refine qN ?_ _ | refine qD ?_ | refine qA ?_ _)); refine blk_far ?_ NB169_186.out _; (with_reducible repeat (first | refine qN ?_ _ | refine qD ?_ | refine qA ?_ _)); refine blk_far ?_ NB169_186.out _; (with_reducible repeat (first | refine qN ?_ _ | refine qD ?_ | refine qA ?_ _)); refine blk_far ?_ NB169_186.out _; (with_reducible repeat (first | refine qN ?_ _ | refine qD ?_ | refine qA ?_ _)); exact BK169.out)) : gb187 ≠ gb169)); have n13_ := qS ((by rw [hg]; exact Nat.ne_of_lt (blk_lt (g := gb186) (o := .cells #[.int .i64 a0_0, .int .i64 (wrap64 (a0_1 + 500)), .slice Ao54 y183.length co54] 96 (0, 0)) (by (with_reducible repeat (first | refine qN ?_ _ | refine qD ?_ | refine qA ?_ _)); refine blk_put (cs := #[.int .i64 a0_0, .int .i64 (wrap64 (a0_1 + 500)), .slice none 0 0]) ?_ 2 _ rfl; (with_reducible repeat (first | refine qN ?_ _ | refine qD ?_ | refine qA ?_ _)); refine blk_put (cs := #[.int .i64 a0_0, .int .i64 0, .slice none 0 0]) ?_ 1 _ rfl; (with_reducible repeat (first | refine qN ?_ _ | refine qD ?_ | refine qA ?_ _)); refine blk_put (cs := #[.int .i64 0, .int .i64 0, .slice none 0 0]) ?_ 0 _ rfl; (with_reducible repeat (first | refine qN ?_ _ | refine qD ?_ | refine qA ?_ _)); exact BK186.out)) : gb186 ≠ gb187)); have n14_ := qS ((by rw [hg]; exact Nat.ne_of_gt (blk_lt (g := gb186) (o := .cells #[.int .i64 a0_0, .int .i64 (wrap64 (a0_1 + 500)), .slice Ao54 y183.length co54] 96 (0, 0)) (by (with_reducible repeat (first | refine qN ?_ _ | refine qD ?_ | refine qA ?_ _)); refine blk_put (cs := #[.int .i64 a0_0, .int .i64 (wrap64 (a0_1 + 500)), .slice none 0 0]) ?_ 2 _ rfl; (with_reducible repeat (first | refine qN ?_ _ | refine qD ?_ | refine qA ?_ _)); refine blk_put (cs := #[.int .i64 a0_0, .int .i64 0, .slice none 0 0]) ?_ 1 _ rfl; (with_reducible repeat (first | refine qN ?_ _ | refine qD ?_ | refine qA ?_ _)); refine blk_put (cs := #[.int .i64 0, .int .i64 0, .slice none 0 0]) ?_ 0 _ rfl; (with_reducible repeat (first | refine qN ?_ _ | refine qD ?_ | refine qA ?_ _)); exact BK186.out)) : gb187 ≠ gb186)); clear HO182; clear HO185; clear BK168; clear BK169; clear BK186; clear HB; have HO182 := n0_; have HO185 := n1_; have BK168 := n2_; have BK169 := n3_; have BK186 := n4_; have HB := n5_; have BK187 := n6_; have GW187 := n7_; have GE187 := n8_; have NB168_187 := n9_; have NB187_168 := n10_; have NB169_187 := n11_; have NB187_169 := n12_; have NB186_187 := n13_; have NB187_186 := n14_; clear n0_ n1_ n2_ n3_ n4_ n5_ n6_ n7_ n8_ n9_ n10_ n11_ n12_ n13_ n14_; clear hb hbox hg; have hnb62 := NB187_168.out; have hnc62 := NB168_187.out; have hnb63 := NB187_169.out; have hnc63 := NB169_187.out; have hnb64 := NB187_186.out; have hnc64 := NB186_187.out; have hcz65_0 : w61.cell? ⟨gb187, 0, none⟩ = some (.int .i64 0) := (qC BK187.out 0).trans rfl; have hcz65_1 : w61.cell? ⟨gb187, 1, none⟩ = some (.int .i64 0) := (qC BK187.out 1).trans rfl; have hcz65_2 : w61.cell? ⟨gb187, 2, none⟩ = some (.slice none 0 0) := (qC BK187.out 2).trans rfl; have hfz65_0 := qF BK187.out 0; have hfz65_1 := qF BK187.out 1; have hfz65_2 := qF BK187.out 2; have hnb66 := NB169_186.out; have hnc66 := NB186_169.out; have hcz67_0 : w61.cell? ⟨gb169, 0, none⟩ = some (.int .i64 a0_0) := (qC BK169.out 0).trans rfl; have hcz67_1 : w61.cell? ⟨gb169, 1, none⟩ = some (.int .i64 a0_1) := (qC BK169.out 1).trans rfl; have hcz67_2 : w61.cell? ⟨gb169, 2, none⟩ = some (.slice A0_2 l0_2.length c0_2) := (qC BK169.out 2).trans rfl; have hfz67_0 := qF BK169.out 0; have hfz67_1 := qF BK169.out 1; have hfz67_2 := qF BK169.out 2) | ((with_reducible refine gate_callee (f := 57) rfl ?_); refine goesL_ (some 86) rfl rfl Tryd.func57 (by kernel_rfl) rfl #[.agg #[.int .i64 a0_0, .int .i64 a0_1, .slice A0_2 l0_2.length c0_2], .int .i64 a2] rfl (by (try simp only [List.map_toArray, List.map_cons, List.map_nil]); first | done | rfl | (simp only [*]; done) | (simp only [List.length_drop, List.length_take]; rfl) | (simp only [Act.eval, Array.getD_eq_getD_getElem?, Option.getD_some, *])) ?_; (with_reducible refine (leap_UTC.calls kj3 a0_0 a0_1 _ _ l0_2 a2 t188 t189 t190 t191 _ ?side1 ?side2 A40.out).mono ?_); (case side1 => exact Kd.C_below HR0_2.out (by repeat (first | (with_reducible first | exact HB.out | apply qpA | apply qpN | apply qp1 | refine qpS ?_ GE168.out | refine qpS ?_ GE169.out | refine qpS ?_ GE186.out | refine qpS ?_ GE187.out) | exact HB.out))); (case side2 => exact HC0_2.out); rintro e w68 ⟨rfl, hb⟩; refine ⟨_, rfl, ?_⟩; have n0_ := qS (Kd.R_below (by (with_reducible repeat (first | apply Kd.R_alloc | apply Kd.R_drewN | apply Kd.R_drew)); exact (Kd.R_mono (Kd.R_far (p := ⟨gb187, 2, none⟩) (Kd.R_far (p := ⟨gb187, 1, none⟩) (Kd.R_far (p := ⟨gb187, 0, none⟩) (Kd.R_types HO182.out BK187.out (by decide)) (fun _ hk => hk.2) (.int .i64 a0_0)) (fun _ hk => hk.2) (.int .i64 (wrap64 (a0_1 + 500)))) (fun _ hk => hk.2) (.slice A0_2 l0_2.length c0_2)) (fun _ h_ => h_.1))) hb); have n1_ := qS (Kd.R_below (by (with_reducible repeat (first | apply Kd.R_alloc | apply Kd.R_drewN | apply Kd.R_drew)); exact (Kd.R_mono (Kd.R_far (p := ⟨gb187, 2, none⟩) (Kd.R_far (p := ⟨gb187, 1, none⟩) (Kd.R_far (p := ⟨gb187, 0, none⟩) (Kd.R_types HO185.out BK187.out (by decide)) (fun _ hk => hk.2) (.int .i64 a0_0)) (fun _ hk => hk.2) (.int .i64 (wrap64 (a0_1 + 500)))) (fun _ hk => hk.2) (.slice A0_2 l0_2.length c0_2)) (fun _ h_ => h_.1))) hb); have n2_ := qS (qB (g := gb168) (o := .cells #[.int .i64 a0_0, .int .i64 a0_1, .slice A0_2 l0_2.length c0_2] 95 (0, 0)) (by (with_reducible repeat (first | refine qN ?_ _ | refine qD ?_ | refine qA ?_ _)); refine blk_far ?_ NB168_187.out _; (with_reducible repeat (first | refine qN ?_ _ | refine qD ?_ | refine qA ?_ _)); refine blk_far ?_ NB168_187.out _; (with_reducible repeat (first | refine qN ?_ _ | refine qD ?_ | refine qA ?_ _)); refine blk_far ?_ NB168_187.out _; (with_reducible repeat (first | refine qN ?_ _ | refine qD ?_ | refine qA ?_ _)); exact BK168.out) hb); have n3_ := qS (qB (g := gb169) (o := .cells #[.int .i64 a0_0, .int .i64 a0_1, .slice A0_2 l0_2.length c0_2] 96 (0, 0)) (by (with_reducible repeat (first | refine qN ?_ _ | refine qD ?_ | refine qA ?_ _)); refine blk_far ?_ NB169_187.out _; (with_reducible repeat (first | refine qN ?_ _ | refine qD ?_ | refine qA ?_ _)); refine blk_far ?_ NB169_187.out _; (with_reducible repeat (first | refine qN ?_ _ | refine qD ?_ | refine qA ?_ _)); refine blk_far ?_ NB169_187.out _; (with_reducible repeat (first | refine qN ?_ _ | refine qD ?_ | refine qA ?_ _)); exact BK169.out) hb); have n4_ := qS (qB (g := gb186) (o := .cells #[.int .i64 a0_0, .int .i64 (wrap64 (a0_1 + 500)), .slice Ao54 y183.length co54] 96 (0, 0)) (by (with_reducible repeat (first | refine qN ?_ _ | refine qD ?_ | refine qA ?_ _)); refine blk_far ?_ NB186_187.out _; (with_reducible repeat (first | refine qN ?_ _ | refine qD ?_ | refine qA ?_ _)); refine blk_far ?_ NB186_187.out _; (with_reducible repeat (first | refine qN ?_ _ | refine qD ?_ | refine qA ?_ _)); refine blk_far ?_ NB186_187.out _; (with_reducible repeat (first | refine qN ?_ _ | refine qD ?_ | refine qA ?_ _)); exact BK186.out) hb); have n5_ := qS (qB (g := gb187) (o := .cells #[.int .i64 a0_0, .int .i64 (wrap64 (a0_1 + 500)), .slice A0_2 l0_2.length c0_2] 96 (0, 0)) (by (with_reducible repeat (first | refine qN ?_ _ | refine qD ?_ | refine qA ?_ _)); refine blk_put (cs := #[.int .i64 a0_0, .int .i64 (wrap64 (a0_1 + 500)), .slice none 0 0]) ?_ 2 _ rfl; (with_reducible repeat (first | refine qN ?_ _ | refine qD ?_ | refine qA ?_ _)); refine blk_put (cs := #[.int .i64 a0_0, .int .i64 0, .slice none 0 0]) ?_ 1 _ rfl; (with_reducible repeat (first | refine qN ?_ _ | refine qD ?_ | refine qA ?_ _)); refine blk_put (cs := #[.int .i64 0, .int .i64 0, .slice none 0 0]) ?_ 0 _ rfl; (with_reducible repeat (first | refine qN ?_ _ | refine qD ?_ | refine qA ?_ _)); exact BK187.out) hb); have n6_ := qS (below_step (by repeat (first | (with_reducible first | exact HB.out | apply qpA | apply qpN | apply qp1 | refine qpS ?_ GE168.out | refine qpS ?_ GE169.out | refine qpS ?_ GE186.out | refine qpS ?_ GE187.out) | exact HB.out)) hb); clear HO182; clear HO185; clear BK168; clear BK169; clear BK186; clear BK187; clear HB; have HO182 := n0_; have HO185 := n1_; have BK168 := n2_; have BK169 := n3_; have BK186 := n4_; have BK187 := n5_; have HB := n6_; clear n0_ n1_ n2_ n3_ n4_ n5_ n6_; (try clear hb); (try clear hb2); (try clear hk); (try clear hi); (try simp only [errW_none, errW_some])) | ((with_reducible refine gate_dst (N := 10) rfl ?_); (try (refine gate_guard (by rfl) ?_; dsimp only)); refine box_event ?hg (N := 10) ?hd (cs := #[.int .i64 0, .int .i64 0, .int .i64 0]) (t := 105) ?hr ?_; (case hd => rfl); (case hg => rfl); (case hr => first | (go_simp; done) | (go_simp; rfl)); intro gb192 hg w69 hbox hb; have n0_ := qS (Kd.R_below (by (with_reducible repeat (first | apply Kd.R_alloc | apply Kd.R_drewN | apply Kd.R_drew)); exact HO182.out) hb); have n1_ := qS (Kd.R_below (by (with_reducible repeat (first | apply Kd.R_alloc | apply Kd.R_drewN | apply Kd.R_drew)); exact HO185.out) hb); have n2_ := qS (qB (g := gb168) (o := .cells #[.int .i64 a0_0, .int .i64 a0_1, .slice A0_2 l0_2.length c0_2] 95 (0, 0)) (by (with_reducible repeat (first | refine qN ?_ _ | refine qD ?_ | refine qA ?_ _)); exact BK168.out) hb); have n3_ := qS (qB (g := gb169) (o := .cells #[.int .i64 a0_0, .int .i64 a0_1, .slice A0_2 l0_2.length c0_2] 96 (0, 0)) (by (with_reducible repeat (first | refine qN ?_ _ | refine qD ?_ | refine qA ?_ _)); exact BK169.out) hb); have n4_ := qS (qB (g := gb186) (o := .cells #[.int .i64 a0_0, .int .i64 (wrap64 (a0_1 + 500)), .slice Ao54 y183.length co54] 96 (0, 0)) (by (with_reducible repeat (first | refine qN ?_ _ | refine qD ?_ | refine qA ?_ _)); exact BK186.out) hb); have n5_ := qS (qB (g := gb187) (o := .cells #[.int .i64 a0_0, .int .i64 (wrap64 (a0_1 + 500)), .slice A0_2 l0_2.length c0_2] 96 (0, 0)) (by (with_reducible repeat (first | refine qN ?_ _ | refine qD ?_ | refine qA ?_ _)); exact BK187.out) hb); have n6_ := qS (below_step (by repeat (first | (with_reducible first | exact HB.out | apply qpA | apply qpN | apply qp1 | refine qpS ?_ GE168.out | refine qpS ?_ GE169.out | refine qpS ?_ GE186.out | refine qpS ?_ GE187.out) | exact HB.out)) hb); have n7_ := qS (hbox); have n8_ := qS ((by rw [hg]; exact (below_size (by repeat (first | (with_reducible first | exact HB.out | apply qpA | apply qpN | apply qp1 | refine qpS ?_ GE168.out | refine qpS ?_ GE169.out | refine qpS ?_ GE186.out | refine qpS ?_ GE187.out) | exact HB.out))) : w.heap.size ≤ gb192)); have n9_ := qS ((by rw [hg]; exact (below_size (by repeat (first | (with_reducible first | exact HB.out | apply qpA | apply qpN | apply qp1 | refine qpS ?_ GE168.out | refine qpS ?_ GE169.out | refine qpS ?_ GE186.out | refine qpS ?_ GE187.out) | exact HB.out))) : w.heap.size ≤ gb192)); have n10_ := qS ((by rw [hg]; exact Nat.ne_of_lt (blk_lt (g := gb168) (o := .cells #[.int .i64 a0_0, .int .i64 a0_1, .slice A0_2 l0_2.length c0_2] 95 (0, 0)) (by (with_reducible repeat (first | refine qN ?_ _ | refine qD ?_ | refine qA ?_ _)); exact BK168.out)) : gb168 ≠ gb192)); have n11_ := qS ((by rw [hg]; exact Nat.ne_of_gt (blk_lt (g := gb168) (o := .cells #[.int .i64 a0_0, .int .i64 a0_1, .slice A0_2 l0_2.length c0_2] 95 (0, 0)) (by (with_reducible repeat (first | refine qN ?_ _ | refine qD ?_ | refine qA ?_ _)); exact BK168.out)) : gb192 ≠ gb168)); have n12_ := qS ((by rw [hg]; exact Nat.ne_of_lt (blk_lt (g := gb169) (o := .cells #[.int .i64 a0_0, .int .i64 a0_1, .slice A0_2 l0_2.length c0_2] 96 (0, 0)) (by (with_reducible repeat (first | refine qN ?_ _ | refine qD ?_ | refine qA ?_ _)); exact BK169.out)) : gb169 ≠ gb192)); have n13_ := qS ((by rw [hg]; exact Nat.ne_of_gt (blk_lt (g := gb169) (o := .cells #[.int .i64 a0_0, .int .i64 a0_1, .slice A0_2 l0_2.length c0_2] 96 (0, 0)) (by (with_reducible repeat (first | refine qN ?_ _ | refine qD ?_ | refine qA ?_ _)); exact BK169.out)) : gb192 ≠ gb169)); have n14_ := qS ((by rw [hg]; exact Nat.ne_of_lt (blk_lt (g := gb186) (o := .cells #[.int .i64 a0_0, .int .i64 (wrap64 (a0_1 + 500)), .slice Ao54 y183.length co54] 96 (0, 0)) (by (with_reducible repeat (first | refine qN ?_ _ | refine qD ?_ | refine qA ?_ _)); exact BK186.out)) : gb186 ≠ gb192)); have n15_ := qS ((by rw [hg]; exact Nat.ne_of_gt (blk_lt (g := gb186) (o := .cells #[.int .i64 a0_0, .int .i64 (wrap64 (a0_1 + 500)), .slice Ao54 y183.length co54] 96 (0, 0)) (by (with_reducible repeat (first | refine qN ?_ _ | refine qD ?_ | refine qA ?_ _)); exact BK186.out)) : gb192 ≠ gb186)); have n16_ := qS ((by rw [hg]; exact Nat.ne_of_lt (blk_lt (g := gb187) (o := .cells #[.int .i64 a0_0, .int .i64 (wrap64 (a0_1 + 500)), .slice A0_2 l0_2.length c0_2] 96 (0, 0)) (by (with_reducible repeat (first | refine qN ?_ _ | refine qD ?_ | refine qA ?_ _)); exact BK187.out)) : gb187 ≠ gb192)); have n17_ := qS ((by rw [hg]; exact Nat.ne_of_gt (blk_lt (g := gb187) (o := .cells #[.int .i64 a0_0, .int .i64 (wrap64 (a0_1 + 500)), .slice A0_2 l0_2.length c0_2] 96 (0, 0)) (by (with_reducible repeat (first | refine qN ?_ _ | refine qD ?_ | refine qA ?_ _)); exact BK187.out)) : gb192 ≠ gb187)); clear HO182; clear HO185; clear BK168; clear BK169; clear BK186; clear BK187; clear HB; have HO182 := n0_; have HO185 := n1_; have BK168 := n2_; have BK169 := n3_; have BK186 := n4_; have BK187 := n5_; have HB := n6_; have BK192 := n7_; have GW192 := n8_; have GE192 := n9_; have NB168_192 := n10_; have NB192_168 := n11_; have NB169_192 := n12_; have NB192_169 := n13_; have NB186_192 := n14_; have NB192_186 := n15_; have NB187_192 := n16_; have NB192_187 := n17_; clear n0_ n1_ n2_ n3_ n4_ n5_ n6_ n7_ n8_ n9_ n10_ n11_ n12_ n13_ n14_ n15_ n16_ n17_; clear hb hbox hg; have hnb70 := NB192_168.out; have hnc70 := NB168_192.out; have hnb71 := NB192_169.out; have hnc71 := NB169_192.out; have hnb72 := NB192_186.out; have hnc72 := NB186_192.out; have hnb73 := NB192_187.out; have hnc73 := NB187_192.out; have hcz74_0 : w69.cell? ⟨gb192, 0, none⟩ = some (.int .i64 0) := (qC BK192.out 0).trans rfl; have hcz74_1 : w69.cell? ⟨gb192, 1, none⟩ = some (.int .i64 0) := (qC BK192.out 1).trans rfl; have hcz74_2 : w69.cell? ⟨gb192, 2, none⟩ = some (.int .i64 0) := (qC BK192.out 2).trans rfl; have hfz74_0 := qF BK192.out 0; have hfz74_1 := qF BK192.out 1; have hfz74_2 := qF BK192.out 2; have hcz75_0 : w69.cell? ⟨gb186, 0, none⟩ = some (.int .i64 a0_0) := (qC BK186.out 0).trans rfl; have hcz75_1 : w69.cell? ⟨gb186, 1, none⟩ = some (.int .i64 (wrap64 (a0_1 + 500))) := (qC BK186.out 1).trans rfl; have hcz75_2 : w69.cell? ⟨gb186, 2, none⟩ = some (.slice Ao54 y183.length co54) := (qC BK186.out 2).trans rfl; have hfz75_0 := qF BK186.out 0; have hfz75_1 := qF BK186.out 1; have hfz75_2 := qF BK186.out 2) | ((with_reducible refine gate_callee (f := 57) rfl ?_); refine goesL_ (some 92) rfl rfl Tryd.func57 (by kernel_rfl) rfl #[.agg #[.int .i64 a0_0, .int .i64 (wrap64 (a0_1 + 500)), .slice Ao54 y183.length co54], .int .i64 a2] rfl (by (try simp only [List.map_toArray, List.map_cons, List.map_nil]); first | done | rfl | (simp only [*]; done) | (simp only [List.length_drop, List.length_take]; rfl) | (simp only [Act.eval, Array.getD_eq_getD_getElem?, Option.getD_some, *])) ?_; (with_reducible refine (leap_UTC.calls kj3 a0_0 (wrap64 (a0_1 + 500)) _ _ y183 a2 t193 t194 t195 t196 _ ?side1 ?side2 A41.out).mono ?_); (case side1 => refine (Kd.R_reads' (e := 2) (base := w.heap.size) (ok := fun k_ => some k_ ≠ (v181 : Value).ownBlock) (n := y183.length) (c := co54) ?_).2.2; exact (by (with_reducible repeat (first | apply Kd.R_alloc | apply Kd.R_drewN | apply Kd.R_drew)); exact (Kd.R_mono (Kd.R_far (p := ⟨gb192, 2, none⟩) (Kd.R_far (p := ⟨gb192, 1, none⟩) (Kd.R_far (p := ⟨gb192, 0, none⟩) (Kd.R_types HO185.out BK192.out (by decide)) (fun _ hk => hk.2) (.int .i64 t188)) (fun _ hk => hk.2) (.int .i64 t189)) (fun _ hk => hk.2) (.int .i64 t190)) (fun _ h_ => h_.1)))); (case side2 => exact (Kd.R_reads' HO185.out).2.1); rintro e w76 ⟨rfl, hb⟩; refine ⟨_, rfl, ?_⟩; have n0_ := qS (Kd.R_below (by (with_reducible repeat (first | apply Kd.R_alloc | apply Kd.R_drewN | apply Kd.R_drew)); exact (Kd.R_mono (Kd.R_far (p := ⟨gb192, 2, none⟩) (Kd.R_far (p := ⟨gb192, 1, none⟩) (Kd.R_far (p := ⟨gb192, 0, none⟩) (Kd.R_types HO182.out BK192.out (by decide)) (fun _ hk => hk.2) (.int .i64 t188)) (fun _ hk => hk.2) (.int .i64 t189)) (fun _ hk => hk.2) (.int .i64 t190)) (fun _ h_ => h_.1))) hb); have n1_ := qS (Kd.R_below (by (with_reducible repeat (first | apply Kd.R_alloc | apply Kd.R_drewN | apply Kd.R_drew)); exact (Kd.R_mono (Kd.R_far (p := ⟨gb192, 2, none⟩) (Kd.R_far (p := ⟨gb192, 1, none⟩) (Kd.R_far (p := ⟨gb192, 0, none⟩) (Kd.R_types HO185.out BK192.out (by decide)) (fun _ hk => hk.2) (.int .i64 t188)) (fun _ hk => hk.2) (.int .i64 t189)) (fun _ hk => hk.2) (.int .i64 t190)) (fun _ h_ => h_.1))) hb); have n2_ := qS (qB (g := gb168) (o := .cells #[.int .i64 a0_0, .int .i64 a0_1, .slice A0_2 l0_2.length c0_2] 95 (0, 0)) (by (with_reducible repeat (first | refine qN ?_ _ | refine qD ?_ | refine qA ?_ _)); refine blk_far ?_ NB168_192.out _; (with_reducible repeat (first | refine qN ?_ _ | refine qD ?_ | refine qA ?_ _)); refine blk_far ?_ NB168_192.out _; (with_reducible repeat (first | refine qN ?_ _ | refine qD ?_ | refine qA ?_ _)); refine blk_far ?_ NB168_192.out _; (with_reducible repeat (first | refine qN ?_ _ | refine qD ?_ | refine qA ?_ _)); exact BK168.out) hb); have n3_ := qS (qB (g := gb169) (o := .cells #[.int .i64 a0_0, .int .i64 a0_1, .slice A0_2 l0_2.length c0_2] 96 (0, 0)) (by (with_reducible repeat (first | refine qN ?_ _ | refine qD ?_ | refine qA ?_ _)); refine blk_far ?_ NB169_192.out _; (with_reducible repeat (first | refine qN ?_ _ | refine qD ?_ | refine qA ?_ _)); refine blk_far ?_ NB169_192.out _; (with_reducible repeat (first | refine qN ?_ _ | refine qD ?_ | refine qA ?_ _)); refine blk_far ?_ NB169_192.out _; (with_reducible repeat (first | refine qN ?_ _ | refine qD ?_ | refine qA ?_ _)); exact BK169.out) hb); have n4_ := qS (qB (g := gb186) (o := .cells #[.int .i64 a0_0, .int .i64 (wrap64 (a0_1 + 500)), .slice Ao54 y183.length co54] 96 (0, 0)) (by (with_reducible repeat (first | refine qN ?_ _ | refine qD ?_ | refine qA ?_ _)); refine blk_far ?_ NB186_192.out _; (with_reducible repeat (first | refine qN ?_ _ | refine qD ?_ | refine qA ?_ _)); refine blk_far ?_ NB186_192.out _; (with_reducible repeat (first | refine qN ?_ _ | refine qD ?_ | refine qA ?_ _)); refine blk_far ?_ NB186_192.out _; (with_reducible repeat (first | refine qN ?_ _ | refine qD ?_ | refine qA ?_ _)); exact BK186.out) hb); have n5_ := qS (qB (g := gb187) (o := .cells #[.int .i64 a0_0, .int .i64 (wrap64 (a0_1 + 500)), .slice A0_2 l0_2.length c0_2] 96 (0, 0)) (by (with_reducible repeat (first | refine qN ?_ _ | refine qD ?_ | refine qA ?_ _)); refine blk_far ?_ NB187_192.out _; (with_reducible repeat (first | refine qN ?_ _ | refine qD ?_ | refine qA ?_ _)); refine blk_far ?_ NB187_192.out _; (with_reducible repeat (first | refine qN ?_ _ | refine qD ?_ | refine qA ?_ _)); refine blk_far ?_ NB187_192.out _; (with_reducible repeat (first | refine qN ?_ _ | refine qD ?_ | refine qA ?_ _)); exact BK187.out) hb); have n6_ := qS (qB (g := gb192) (o := .cells #[.int .i64 t188, .int .i64 t189, .int .i64 t190] 105 (0, 0)) (by (with_reducible repeat (first | refine qN ?_ _ | refine qD ?_ | refine qA ?_ _)); refine blk_put (cs := #[.int .i64 t188, .int .i64 t189, .int .i64 0]) ?_ 2 _ rfl; (with_reducible repeat (first | refine qN ?_ _ | refine qD ?_ | refine qA ?_ _)); refine blk_put (cs := #[.int .i64 t188, .int .i64 0, .int .i64 0]) ?_ 1 _ rfl; (with_reducible repeat (first | refine qN ?_ _ | refine qD ?_ | refine qA ?_ _)); refine blk_put (cs := #[.int .i64 0, .int .i64 0, .int .i64 0]) ?_ 0 _ rfl; (with_reducible repeat (first | refine qN ?_ _ | refine qD ?_ | refine qA ?_ _)); exact BK192.out) hb); have n7_ := qS (below_step (by repeat (first | (with_reducible first | exact HB.out | apply qpA | apply qpN | apply qp1 | refine qpS ?_ GE168.out | refine qpS ?_ GE169.out | refine qpS ?_ GE186.out | refine qpS ?_ GE187.out | refine qpS ?_ GE192.out) | exact HB.out)) hb); clear HO182; clear HO185; clear BK168; clear BK169; clear BK186; clear BK187; clear BK192; clear HB; have HO182 := n0_; have HO185 := n1_; have BK168 := n2_; have BK169 := n3_; have BK186 := n4_; have BK187 := n5_; have BK192 := n6_; have HB := n7_; clear n0_ n1_ n2_ n3_ n4_ n5_ n6_ n7_; (try clear hb); (try clear hb2); (try clear hk); (try clear hi); (try simp only [errW_none, errW_some])) | ((with_reducible refine gate_dst (N := 12) rfl ?_); (try (refine gate_guard (by rfl) ?_; dsimp only)); refine box_event ?hg (N := 12) ?hd (cs := #[.int .i64 0, .int .i64 0, .int .i64 0]) (t := 105) ?hr ?_; (case hd => rfl); (case hg => rfl); (case hr => first | (go_simp; done) | (go_simp; rfl)); intro gb197 hg w77 hbox hb; have n0_ := qS (Kd.R_below (by (with_reducible repeat (first | apply Kd.R_alloc | apply Kd.R_drewN | apply Kd.R_drew)); exact HO182.out) hb); have n1_ := qS (Kd.R_below (by (with_reducible repeat (first | apply Kd.R_alloc | apply Kd.R_drewN | apply Kd.R_drew)); exact HO185.out) hb); have n2_ := qS (qB (g := gb168) (o := .cells #[.int .i64 a0_0, .int .i64 a0_1, .slice A0_2 l0_2.length c0_2] 95 (0, 0)) (by (with_reducible repeat (first | refine qN ?_ _ | refine qD ?_ | refine qA ?_ _)); exact BK168.out) hb); have n3_ := qS (qB (g := gb169) (o := .cells #[.int .i64 a0_0, .int .i64 a0_1, .slice A0_2 l0_2.length c0_2] 96 (0, 0)) (by (with_reducible repeat (first | refine qN ?_ _ | refine qD ?_ | refine qA ?_ _)); exact BK169.out) hb); have n4_ := qS (qB (g := gb186) (o := .cells #[.int .i64 a0_0, .int .i64 (wrap64 (a0_1 + 500)), .slice Ao54 y183.length co54] 96 (0, 0)) (by (with_reducible repeat (first | refine qN ?_ _ | refine qD ?_ | refine qA ?_ _)); exact BK186.out) hb); have n5_ := qS (qB (g := gb187) (o := .cells #[.int .i64 a0_0, .int .i64 (wrap64 (a0_1 + 500)), .slice A0_2 l0_2.length c0_2] 96 (0, 0)) (by (with_reducible repeat (first | refine qN ?_ _ | refine qD ?_ | refine qA ?_ _)); exact BK187.out) hb); have n6_ := qS (qB (g := gb192) (o := .cells #[.int .i64 t188, .int .i64 t189, .int .i64 t190] 105 (0, 0)) (by (with_reducible repeat (first | refine qN ?_ _ | refine qD ?_ | refine qA ?_ _)); exact BK192.out) hb); have n7_ := qS (below_step (by repeat (first | (with_reducible first | exact HB.out | apply qpA | apply qpN | apply qp1 | refine qpS ?_ GE168.out | refine qpS ?_ GE169.out | refine qpS ?_ GE186.out | refine qpS ?_ GE187.out | refine qpS ?_ GE192.out) | exact HB.out)) hb); have n8_ := qS (hbox); have n9_ := qS ((by rw [hg]; exact (below_size (by repeat (first | (with_reducible first | exact HB.out | apply qpA | apply qpN | apply qp1 | refine qpS ?_ GE168.out | refine qpS ?_ GE169.out | refine qpS ?_ GE186.out | refine qpS ?_ GE187.out | refine qpS ?_ GE192.out) | exact HB.out))) : w.heap.size ≤ gb197)); have n10_ := qS ((by rw [hg]; exact (below_size (by repeat (first | (with_reducible first | exact HB.out | apply qpA | apply qpN | apply qp1 | refine qpS ?_ GE168.out | refine qpS ?_ GE169.out | refine qpS ?_ GE186.out | refine qpS ?_ GE187.out | refine qpS ?_ GE192.out) | exact HB.out))) : w.heap.size ≤ gb197)); have n11_ := qS ((by rw [hg]; exact Nat.ne_of_lt (blk_lt (g := gb168) (o := .cells #[.int .i64 a0_0, .int .i64 a0_1, .slice A0_2 l0_2.length c0_2] 95 (0, 0)) (by (with_reducible repeat (first | refine qN ?_ _ | refine qD ?_ | refine qA ?_ _)); exact BK168.out)) : gb168 ≠ gb197)); have n12_ := qS ((by rw [hg]; exact Nat.ne_of_gt (blk_lt (g := gb168) (o := .cells #[.int .i64 a0_0, .int .i64 a0_1, .slice A0_2 l0_2.length c0_2] 95 (0, 0)) (by (with_reducible repeat (first | refine qN ?_ _ | refine qD ?_ | refine qA ?_ _)); exact BK168.out)) : gb197 ≠ gb168)); have n13_ := qS ((by rw [hg]; exact Nat.ne_of_lt (blk_lt (g := gb169) (o := .cells #[.int .i64 a0_0, .int .i64 a0_1, .slice A0_2 l0_2.length c0_2] 96 (0, 0)) (by (with_reducible repeat (first | refine qN ?_ _ | refine qD ?_ | refine qA ?_ _)); exact BK169.out)) : gb169 ≠ gb197)); have n14_ := qS ((by rw [hg]; exact Nat.ne_of_gt (blk_lt (g := gb169) (o := .cells #[.int .i64 a0_0, .int .i64 a0_1, .slice A0_2 l0_2.length c0_2] 96 (0, 0)) (by (with_reducible repeat (first | refine qN ?_ _ | refine qD ?_ | refine qA ?_ _)); exact BK169.out)) : gb197 ≠ gb169)); have n15_ := qS ((by rw [hg]; exact Nat.ne_of_lt (blk_lt (g := gb186) (o := .cells #[.int .i64 a0_0, .int .i64 (wrap64 (a0_1 + 500)), .slice Ao54 y183.length co54] 96 (0, 0)) (by (with_reducible repeat (first | refine qN ?_ _ | refine qD ?_ | refine qA ?_ _)); exact BK186.out)) : gb186 ≠ gb197)); have n16_ := qS ((by rw [hg]; exact Nat.ne_of_gt (blk_lt (g := gb186) (o := .cells #[.int .i64 a0_0, .int .i64 (wrap64 (a0_1 + 500)), .slice Ao54 y183.length co54] 96 (0, 0)) (by (with_reducible repeat (first | refine qN ?_ _ | refine qD ?_ | refine qA ?_ _)); exact BK186.out)) : gb197 ≠ gb186)); have n17_ := qS ((by rw [hg]; exact Nat.ne_of_lt (blk_lt (g := gb187) (o := .cells #[.int .i64 a0_0, .int .i64 (wrap64 (a0_1 + 500)), .slice A0_2 l0_2.length c0_2] 96 (0, 0)) (by (with_reducible repeat (first | refine qN ?_ _ | refine qD ?_ | refine qA ?_ _)); exact BK187.out)) : gb187 ≠ gb197)); have n18_ := qS ((by rw [hg]; exact Nat.ne_of_gt (blk_lt (g := gb187) (o := .cells #[.int .i64 a0_0, .int .i64 (wrap64 (a0_1 + 500)), .slice A0_2 l0_2.length c0_2] 96 (0, 0)) (by (with_reducible repeat (first | refine qN ?_ _ | refine qD ?_ | refine qA ?_ _)); exact BK187.out)) : gb197 ≠ gb187)); have n19_ := qS ((by rw [hg]; exact Nat.ne_of_lt (blk_lt (g := gb192) (o := .cells #[.int .i64 t188, .int .i64 t189, .int .i64 t190] 105 (0, 0)) (by (with_reducible repeat (first | refine qN ?_ _ | refine qD ?_ | refine qA ?_ _)); exact BK192.out)) : gb192 ≠ gb197)); have n20_ := qS ((by rw [hg]; exact Nat.ne_of_gt (blk_lt (g := gb192) (o := .cells #[.int .i64 t188, .int .i64 t189, .int .i64 t190] 105 (0, 0)) (by (with_reducible repeat (first | refine qN ?_ _ | refine qD ?_ | refine qA ?_ _)); exact BK192.out)) : gb197 ≠ gb192)); clear HO182; clear HO185; clear BK168; clear BK169; clear BK186; clear BK187; clear BK192; clear HB; have HO182 := n0_; have HO185 := n1_; have BK168 := n2_; have BK169 := n3_; have BK186 := n4_; have BK187 := n5_; have BK192 := n6_; have HB := n7_; have BK197 := n8_; have GW197 := n9_; have GE197 := n10_; have NB168_197 := n11_; have NB197_168 := n12_; have NB169_197 := n13_; have NB197_169 := n14_; have NB186_197 := n15_; have NB197_186 := n16_; have NB187_197 := n17_; have NB197_187 := n18_; have NB192_197 := n19_; have NB197_192 := n20_; clear n0_ n1_ n2_ n3_ n4_ n5_ n6_ n7_ n8_ n9_ n10_ n11_ n12_ n13_ n14_ n15_ n16_ n17_ n18_ n19_ n20_; clear hb hbox hg; have hnb78 := NB197_168.out; have hnc78 := NB168_197.out; have hnb79 := NB197_169.out; have hnc79 := NB169_197.out; have hnb80 := NB197_186.out; have hnc80 := NB186_197.out; have hnb81 := NB197_187.out; have hnc81 := NB187_197.out; have hnb82 := NB197_192.out; have hnc82 := NB192_197.out; have hcz83_0 : w77.cell? ⟨gb197, 0, none⟩ = some (.int .i64 0) := (qC BK197.out 0).trans rfl; have hcz83_1 : w77.cell? ⟨gb197, 1, none⟩ = some (.int .i64 0) := (qC BK197.out 1).trans rfl; have hcz83_2 : w77.cell? ⟨gb197, 2, none⟩ = some (.int .i64 0) := (qC BK197.out 2).trans rfl; have hfz83_0 := qF BK197.out 0; have hfz83_1 := qF BK197.out 1; have hfz83_2 := qF BK197.out 2))
      (try simp only [Act.put, List.setIfInBounds_toArray, List.set_cons_zero, List.set_cons_succ])
      go_cut [105] (fun v105 wc => ∃ (kq : Nat) (x105_41 : Bool), v105 = .bool x105_41 ∧ Aside0 (fuseelaw09_LeapMore.j1 kq a1 x105_41 a0_0 a0_1 l0_2 a0_0 (wrap64 (a0_1 + 500)) y183 a0_0 (wrap64 (a0_1 + 500)) l0_2 = some r) ∧ Aside0 (kq ≤ kj3) ∧ Aside0 (Kd.R (Kd.int .i64) 2 wc w.heap.size (fun _ => True) (.slice Ao54 y183.length co54) y183) ∧ Aside0 (wc.heap[gb168]? = some (.cells #[.int .i64 a0_0, .int .i64 a0_1, (.slice A0_2 l0_2.length c0_2)] 95 (0, 0))) ∧ Aside0 (wc.heap[gb169]? = some (.cells #[.int .i64 a0_0, .int .i64 a0_1, (.slice A0_2 l0_2.length c0_2)] 96 (0, 0))) ∧ Aside0 (wc.heap[gb186]? = some (.cells #[.int .i64 a0_0, .int .i64 (wrap64 (a0_1 + 500)), (.slice Ao54 y183.length co54)] 96 (0, 0))) ∧ Aside0 (wc.heap[gb187]? = some (.cells #[.int .i64 a0_0, .int .i64 (wrap64 (a0_1 + 500)), (.slice A0_2 l0_2.length c0_2)] 96 (0, 0))) ∧ Aside0 (wc.heap[gb192]? = some (.cells #[.int .i64 t188, .int .i64 t189, .int .i64 t190] 105 (0, 0))) ∧ Aside0 (wc.heap[gb197]? = some (.cells #[.int .i64 t193, .int .i64 t194, .int .i64 t195] 105 (0, 0))) ∧ Aside0 (Below w.heap.size w wc))
      case first =>
       have H := HC42.out
       clear HC42
       rcases t191 with _ | q198
       ·have H1 : (if t196.isNone = true then (fuseelaw09_LeapMore.j1 kj3 a1 (!(t188 == t193) || (!(t189 == t194) || (!(t190 == t195)))) a0_0 a0_1 l0_2 a0_0 (wrap64 (a0_1 + 500)) y183 a0_0 (wrap64 (a0_1 + 500)) l0_2) else (fuseelaw09_LeapMore.j1 kj3 a1 true a0_0 a0_1 l0_2 a0_0 (wrap64 (a0_1 + 500)) y183 a0_0 (wrap64 (a0_1 + 500)) l0_2)) = some r := by rw [if_pos (show (none : Option Int).isNone = true by rfl)] at H; exact H
        clear H
        have H := H1
        clear H1
        try simp only [errW_none, errW_some]
        rcases t196 with _ | q199
        ·have H1 : (fuseelaw09_LeapMore.j1 kj3 a1 (!(t188 == t193) || (!(t189 == t194) || (!(t190 == t195)))) a0_0 a0_1 l0_2 a0_0 (wrap64 (a0_1 + 500)) y183 a0_0 (wrap64 (a0_1 + 500)) l0_2) = some r := by rw [if_pos (show (none : Option Int).isNone = true by rfl)] at H; exact H
         clear H
         have H := H1
         clear H1
         try simp only [errW_none, errW_some]
         as_aux_lemma =>
          have H' := qS H
          clear H
          have hnb84 := NB192_168.out
          have hnc84 := NB168_192.out
          have hnb85 := NB192_169.out
          have hnc85 := NB169_192.out
          have hnb86 := NB192_186.out
          have hnc86 := NB186_192.out
          have hnb87 := NB192_187.out
          have hnc87 := NB187_192.out
          have hnb88 := NB192_197.out
          have hnc88 := NB197_192.out
          have hcz89_0 : w77.cell? ⟨gb192, 0, none⟩ = some (.int .i64 t188) := (qC BK192.out 0).trans rfl
          have hcz89_1 : w77.cell? ⟨gb192, 1, none⟩ = some (.int .i64 t189) := (qC BK192.out 1).trans rfl
          have hcz89_2 : w77.cell? ⟨gb192, 2, none⟩ = some (.int .i64 t190) := (qC BK192.out 2).trans rfl
          have hfz89_0 := qF BK192.out 0
          have hfz89_1 := qF BK192.out 1
          have hfz89_2 := qF BK192.out 2
          have hnb90 := NB197_168.out
          have hnc90 := NB168_197.out
          have hnb91 := NB197_169.out
          have hnc91 := NB169_197.out
          have hnb92 := NB197_186.out
          have hnc92 := NB186_197.out
          have hnb93 := NB197_187.out
          have hnc93 := NB187_197.out
          have hcz94_0 : w77.cell? ⟨gb197, 0, none⟩ = some (.int .i64 0) := (qC BK197.out 0).trans rfl
          have hcz94_1 : w77.cell? ⟨gb197, 1, none⟩ = some (.int .i64 0) := (qC BK197.out 1).trans rfl
          have hcz94_2 : w77.cell? ⟨gb197, 2, none⟩ = some (.int .i64 0) := (qC BK197.out 2).trans rfl
          have hfz94_0 := qF BK197.out 0
          have hfz94_1 := qF BK197.out 1
          have hfz94_2 := qF BK197.out 2
          go_wp2
          all_goals (
           go_meet
           case rel => exact ⟨_, ((!(t188 == t193) || (!(t189 == t194) || (!(t190 == t195))))), (by first | rfl | (simp; done) | (simp [*]; done)), H', ⟨by have := HJ3.out; first | omega | exact Nat.le_refl _⟩, ⟨by (with_reducible repeat (first | apply Kd.R_alloc | apply Kd.R_drewN | apply Kd.R_drew)); exact Kd.R_mono (Kd.R_far (p := ⟨gb197, 2, none⟩) (Kd.R_far (p := ⟨gb197, 1, none⟩) (Kd.R_far (p := ⟨gb197, 0, none⟩) (Kd.R_types HO185.out BK197.out (by decide)) (fun _ hk => hk.2) (.int .i64 t193)) (fun _ hk => hk.2) (.int .i64 t194)) (fun _ hk => hk.2) (.int .i64 t195)) (fun _ hk => by first | exact trivial | exact True.intro)⟩, ⟨by (with_reducible repeat (first | refine qN ?_ _ | refine qD ?_ | refine qA ?_ _)); refine blk_far ?_ NB168_197.out _; (with_reducible repeat (first | refine qN ?_ _ | refine qD ?_ | refine qA ?_ _)); refine blk_far ?_ NB168_197.out _; (with_reducible repeat (first | refine qN ?_ _ | refine qD ?_ | refine qA ?_ _)); refine blk_far ?_ NB168_197.out _; (with_reducible repeat (first | refine qN ?_ _ | refine qD ?_ | refine qA ?_ _)); exact BK168.out⟩, ⟨by (with_reducible repeat (first | refine qN ?_ _ | refine qD ?_ | refine qA ?_ _)); refine blk_far ?_ NB169_197.out _; (with_reducible repeat (first | refine qN ?_ _ | refine qD ?_ | refine qA ?_ _)); refine blk_far ?_ NB169_197.out _; (with_reducible repeat (first | refine qN ?_ _ | refine qD ?_ | refine qA ?_ _)); refine blk_far ?_ NB169_197.out _; (with_reducible repeat (first | refine qN ?_ _ | refine qD ?_ | refine qA ?_ _)); exact BK169.out⟩, ⟨by (with_reducible repeat (first | refine qN ?_ _ | refine qD ?_ | refine qA ?_ _)); refine blk_far ?_ NB186_197.out _; (with_reducible repeat (first | refine qN ?_ _ | refine qD ?_ | refine qA ?_ _)); refine blk_far ?_ NB186_197.out _; (with_reducible repeat (first | refine qN ?_ _ | refine qD ?_ | refine qA ?_ _)); refine blk_far ?_ NB186_197.out _; (with_reducible repeat (first | refine qN ?_ _ | refine qD ?_ | refine qA ?_ _)); exact BK186.out⟩, ⟨by (with_reducible repeat (first | refine qN ?_ _ | refine qD ?_ | refine qA ?_ _)); refine blk_far ?_ NB187_197.out _; (with_reducible repeat (first | refine qN ?_ _ | refine qD ?_ | refine qA ?_ _)); refine blk_far ?_ NB187_197.out _; (with_reducible repeat (first | refine qN ?_ _ | refine qD ?_ | refine qA ?_ _)); refine blk_far ?_ NB187_197.out _; (with_reducible repeat (first | refine qN ?_ _ | refine qD ?_ | refine qA ?_ _)); exact BK187.out⟩, ⟨by (with_reducible repeat (first | refine qN ?_ _ | refine qD ?_ | refine qA ?_ _)); refine blk_far ?_ NB192_197.out _; (with_reducible repeat (first | refine qN ?_ _ | refine qD ?_ | refine qA ?_ _)); refine blk_far ?_ NB192_197.out _; (with_reducible repeat (first | refine qN ?_ _ | refine qD ?_ | refine qA ?_ _)); refine blk_far ?_ NB192_197.out _; (with_reducible repeat (first | refine qN ?_ _ | refine qD ?_ | refine qA ?_ _)); exact BK192.out⟩, ⟨by (with_reducible repeat (first | refine qN ?_ _ | refine qD ?_ | refine qA ?_ _)); refine blk_put (cs := #[.int .i64 t193, .int .i64 t194, .int .i64 0]) ?_ 2 _ rfl; (with_reducible repeat (first | refine qN ?_ _ | refine qD ?_ | refine qA ?_ _)); refine blk_put (cs := #[.int .i64 t193, .int .i64 0, .int .i64 0]) ?_ 1 _ rfl; (with_reducible repeat (first | refine qN ?_ _ | refine qD ?_ | refine qA ?_ _)); refine blk_put (cs := #[.int .i64 0, .int .i64 0, .int .i64 0]) ?_ 0 _ rfl; (with_reducible repeat (first | refine qN ?_ _ | refine qD ?_ | refine qA ?_ _)); exact BK197.out⟩, ⟨by repeat (first | (with_reducible first | exact HB.out | apply qpA | apply qpN | apply qp1 | refine qpS ?_ GE168.out | refine qpS ?_ GE169.out | refine qpS ?_ GE186.out | refine qpS ?_ GE187.out | refine qpS ?_ GE192.out | refine qpS ?_ GE197.out) | exact HB.out)⟩⟩)
        ·have H1 : (fuseelaw09_LeapMore.j1 kj3 a1 true a0_0 a0_1 l0_2 a0_0 (wrap64 (a0_1 + 500)) y183 a0_0 (wrap64 (a0_1 + 500)) l0_2) = some r := by rw [if_neg (show ¬ (some q199).isNone = true by simp)] at H; exact H
         clear H
         have H := H1
         clear H1
         try simp only [errW_none, errW_some]
         as_aux_lemma =>
          have H' := qS H
          clear H
          go_wp2
          go_meet
          case rel => exact ⟨_, (true), (by first | rfl | (simp; done) | (simp [*]; done)), H', ⟨by have := HJ3.out; first | omega | exact Nat.le_refl _⟩, ⟨by (with_reducible repeat (first | apply Kd.R_alloc | apply Kd.R_drewN | apply Kd.R_drew)); exact Kd.R_mono (Kd.R_far (p := ⟨gb197, 2, none⟩) (Kd.R_far (p := ⟨gb197, 1, none⟩) (Kd.R_far (p := ⟨gb197, 0, none⟩) (Kd.R_types HO185.out BK197.out (by decide)) (fun _ hk => hk.2) (.int .i64 t193)) (fun _ hk => hk.2) (.int .i64 t194)) (fun _ hk => hk.2) (.int .i64 t195)) (fun _ hk => by first | exact trivial | exact True.intro)⟩, ⟨by (with_reducible repeat (first | refine qN ?_ _ | refine qD ?_ | refine qA ?_ _)); refine blk_far ?_ NB168_197.out _; (with_reducible repeat (first | refine qN ?_ _ | refine qD ?_ | refine qA ?_ _)); refine blk_far ?_ NB168_197.out _; (with_reducible repeat (first | refine qN ?_ _ | refine qD ?_ | refine qA ?_ _)); refine blk_far ?_ NB168_197.out _; (with_reducible repeat (first | refine qN ?_ _ | refine qD ?_ | refine qA ?_ _)); exact BK168.out⟩, ⟨by (with_reducible repeat (first | refine qN ?_ _ | refine qD ?_ | refine qA ?_ _)); refine blk_far ?_ NB169_197.out _; (with_reducible repeat (first | refine qN ?_ _ | refine qD ?_ | refine qA ?_ _)); refine blk_far ?_ NB169_197.out _; (with_reducible repeat (first | refine qN ?_ _ | refine qD ?_ | refine qA ?_ _)); refine blk_far ?_ NB169_197.out _; (with_reducible repeat (first | refine qN ?_ _ | refine qD ?_ | refine qA ?_ _)); exact BK169.out⟩, ⟨by (with_reducible repeat (first | refine qN ?_ _ | refine qD ?_ | refine qA ?_ _)); refine blk_far ?_ NB186_197.out _; (with_reducible repeat (first | refine qN ?_ _ | refine qD ?_ | refine qA ?_ _)); refine blk_far ?_ NB186_197.out _; (with_reducible repeat (first | refine qN ?_ _ | refine qD ?_ | refine qA ?_ _)); refine blk_far ?_ NB186_197.out _; (with_reducible repeat (first | refine qN ?_ _ | refine qD ?_ | refine qA ?_ _)); exact BK186.out⟩, ⟨by (with_reducible repeat (first | refine qN ?_ _ | refine qD ?_ | refine qA ?_ _)); refine blk_far ?_ NB187_197.out _; (with_reducible repeat (first | refine qN ?_ _ | refine qD ?_ | refine qA ?_ _)); refine blk_far ?_ NB187_197.out _; (with_reducible repeat (first | refine qN ?_ _ | refine qD ?_ | refine qA ?_ _)); refine blk_far ?_ NB187_197.out _; (with_reducible repeat (first | refine qN ?_ _ | refine qD ?_ | refine qA ?_ _)); exact BK187.out⟩, ⟨by (with_reducible repeat (first | refine qN ?_ _ | refine qD ?_ | refine qA ?_ _)); refine blk_far ?_ NB192_197.out _; (with_reducible repeat (first | refine qN ?_ _ | refine qD ?_ | refine qA ?_ _)); refine blk_far ?_ NB192_197.out _; (with_reducible repeat (first | refine qN ?_ _ | refine qD ?_ | refine qA ?_ _)); refine blk_far ?_ NB192_197.out _; (with_reducible repeat (first | refine qN ?_ _ | refine qD ?_ | refine qA ?_ _)); exact BK192.out⟩, ⟨by (with_reducible repeat (first | refine qN ?_ _ | refine qD ?_ | refine qA ?_ _)); refine blk_put (cs := #[.int .i64 t193, .int .i64 t194, .int .i64 0]) ?_ 2 _ rfl; (with_reducible repeat (first | refine qN ?_ _ | refine qD ?_ | refine qA ?_ _)); refine blk_put (cs := #[.int .i64 t193, .int .i64 0, .int .i64 0]) ?_ 1 _ rfl; (with_reducible repeat (first | refine qN ?_ _ | refine qD ?_ | refine qA ?_ _)); refine blk_put (cs := #[.int .i64 0, .int .i64 0, .int .i64 0]) ?_ 0 _ rfl; (with_reducible repeat (first | refine qN ?_ _ | refine qD ?_ | refine qA ?_ _)); exact BK197.out⟩, ⟨by repeat (first | (with_reducible first | exact HB.out | apply qpA | apply qpN | apply qp1 | refine qpS ?_ GE168.out | refine qpS ?_ GE169.out | refine qpS ?_ GE186.out | refine qpS ?_ GE187.out | refine qpS ?_ GE192.out | refine qpS ?_ GE197.out) | exact HB.out)⟩⟩
       ·have H1 : (fuseelaw09_LeapMore.j1 kj3 a1 false a0_0 a0_1 l0_2 a0_0 (wrap64 (a0_1 + 500)) y183 a0_0 (wrap64 (a0_1 + 500)) l0_2) = some r := by rw [if_neg (show ¬ (some q198).isNone = true by simp)] at H; exact H
        clear H
        have H := H1
        clear H1
        try simp only [errW_none, errW_some]
        as_aux_lemma =>
         have H' := qS H
         clear H
         go_wp2
         go_meet
         case rel => exact ⟨_, (false), (by first | rfl | (simp; done) | (simp [*]; done)), H', ⟨by have := HJ3.out; first | omega | exact Nat.le_refl _⟩, ⟨by (with_reducible repeat (first | apply Kd.R_alloc | apply Kd.R_drewN | apply Kd.R_drew)); exact Kd.R_mono (Kd.R_far (p := ⟨gb197, 2, none⟩) (Kd.R_far (p := ⟨gb197, 1, none⟩) (Kd.R_far (p := ⟨gb197, 0, none⟩) (Kd.R_types HO185.out BK197.out (by decide)) (fun _ hk => hk.2) (.int .i64 t193)) (fun _ hk => hk.2) (.int .i64 t194)) (fun _ hk => hk.2) (.int .i64 t195)) (fun _ hk => by first | exact trivial | exact True.intro)⟩, ⟨by (with_reducible repeat (first | refine qN ?_ _ | refine qD ?_ | refine qA ?_ _)); refine blk_far ?_ NB168_197.out _; (with_reducible repeat (first | refine qN ?_ _ | refine qD ?_ | refine qA ?_ _)); refine blk_far ?_ NB168_197.out _; (with_reducible repeat (first | refine qN ?_ _ | refine qD ?_ | refine qA ?_ _)); refine blk_far ?_ NB168_197.out _; (with_reducible repeat (first | refine qN ?_ _ | refine qD ?_ | refine qA ?_ _)); exact BK168.out⟩, ⟨by (with_reducible repeat (first | refine qN ?_ _ | refine qD ?_ | refine qA ?_ _)); refine blk_far ?_ NB169_197.out _; (with_reducible repeat (first | refine qN ?_ _ | refine qD ?_ | refine qA ?_ _)); refine blk_far ?_ NB169_197.out _; (with_reducible repeat (first | refine qN ?_ _ | refine qD ?_ | refine qA ?_ _)); refine blk_far ?_ NB169_197.out _; (with_reducible repeat (first | refine qN ?_ _ | refine qD ?_ | refine qA ?_ _)); exact BK169.out⟩, ⟨by (with_reducible repeat (first | refine qN ?_ _ | refine qD ?_ | refine qA ?_ _)); refine blk_far ?_ NB186_197.out _; (with_reducible repeat (first | refine qN ?_ _ | refine qD ?_ | refine qA ?_ _)); refine blk_far ?_ NB186_197.out _; (with_reducible repeat (first | refine qN ?_ _ | refine qD ?_ | refine qA ?_ _)); refine blk_far ?_ NB186_197.out _; (with_reducible repeat (first | refine qN ?_ _ | refine qD ?_ | refine qA ?_ _)); exact BK186.out⟩, ⟨by (with_reducible repeat (first | refine qN ?_ _ | refine qD ?_ | refine qA ?_ _)); refine blk_far ?_ NB187_197.out _; (with_reducible repeat (first | refine qN ?_ _ | refine qD ?_ | refine qA ?_ _)); refine blk_far ?_ NB187_197.out _; (with_reducible repeat (first | refine qN ?_ _ | refine qD ?_ | refine qA ?_ _)); refine blk_far ?_ NB187_197.out _; (with_reducible repeat (first | refine qN ?_ _ | refine qD ?_ | refine qA ?_ _)); exact BK187.out⟩, ⟨by (with_reducible repeat (first | refine qN ?_ _ | refine qD ?_ | refine qA ?_ _)); refine blk_far ?_ NB192_197.out _; (with_reducible repeat (first | refine qN ?_ _ | refine qD ?_ | refine qA ?_ _)); refine blk_far ?_ NB192_197.out _; (with_reducible repeat (first | refine qN ?_ _ | refine qD ?_ | refine qA ?_ _)); refine blk_far ?_ NB192_197.out _; (with_reducible repeat (first | refine qN ?_ _ | refine qD ?_ | refine qA ?_ _)); exact BK192.out⟩, ⟨by (with_reducible repeat (first | refine qN ?_ _ | refine qD ?_ | refine qA ?_ _)); refine blk_put (cs := #[.int .i64 t193, .int .i64 t194, .int .i64 0]) ?_ 2 _ rfl; (with_reducible repeat (first | refine qN ?_ _ | refine qD ?_ | refine qA ?_ _)); refine blk_put (cs := #[.int .i64 t193, .int .i64 0, .int .i64 0]) ?_ 1 _ rfl; (with_reducible repeat (first | refine qN ?_ _ | refine qD ?_ | refine qA ?_ _)); refine blk_put (cs := #[.int .i64 0, .int .i64 0, .int .i64 0]) ?_ 0 _ rfl; (with_reducible repeat (first | refine qN ?_ _ | refine qD ?_ | refine qA ?_ _)); exact BK197.out⟩, ⟨by repeat (first | (with_reducible first | exact HB.out | apply qpA | apply qpN | apply qp1 | refine qpS ?_ GE168.out | refine qpS ?_ GE169.out | refine qpS ?_ GE186.out | refine qpS ?_ GE187.out | refine qpS ?_ GE192.out | refine qpS ?_ GE197.out) | exact HB.out)⟩⟩
      case rest =>
       clear HC42
       try clear q1
       try clear p2
       try clear c3
       try clear c5
       try clear c6
       try clear p6
       try clear c7
       try clear c8
       try clear c9
       try clear q19
       try clear c38
       try clear c39
       try clear c57
       try clear c58
       try clear c59
       try clear c62
       try clear c63
       try clear c64
       try clear p64
       try clear c66
       try clear c70
       try clear c71
       try clear c72
       try clear c73
       try clear c78
       try clear c79
       try clear c80
       try clear c81
       try clear c82
       try clear c84
       try clear c85
       try clear c86
       try clear c87
       try clear c88
       try clear c90
       try clear c91
       try clear c92
       try clear c93
       try clear hcz60_0
       try clear hcz60_1
       try clear hcz60_2
       try clear hcz65_0
       try clear hcz65_1
       try clear hcz65_2
       try clear hcz67_0
       try clear hcz67_1
       try clear hcz67_2
       try clear hcz74_0
       try clear hcz74_1
       try clear hcz74_2
       try clear hcz75_0
       try clear hcz75_1
       try clear hcz75_2
       try clear hcz83_0
       try clear hcz83_1
       try clear hcz83_2
       try clear hcz89_0
       try clear hcz89_1
       try clear hcz89_2
       try clear hcz94_0
       try clear hcz94_1
       try clear hcz94_2
       try clear hfz60_0
       try clear hfz60_1
       try clear hfz60_2
       try clear hfz65_0
       try clear hfz65_1
       try clear hfz65_2
       try clear hfz67_0
       try clear hfz67_1
       try clear hfz67_2
       try clear hfz74_0
       try clear hfz74_1
       try clear hfz74_2
       try clear hfz75_0
       try clear hfz75_1
       try clear hfz75_2
       try clear hfz83_0
       try clear hfz83_1
       try clear hfz83_2
       try clear hfz89_0
       try clear hfz89_1
       try clear hfz89_2
       try clear hfz94_0
       try clear hfz94_1
       try clear hfz94_2
       try clear q198
       try clear q199
       obtain ⟨kq, x105_41, rfl, HA, HJ41, HO_187002, BK168, BK169, BK186, BK187, BK192, BK197, HB⟩ := hcut
       cases kq with
       | zero => exact absurd HA.out (by simp [fuseelaw09_LeapMore.j1])
       | succ kj41 =>
        have H := HA.out
        clear HA
        simp only [fuseelaw09_LeapMore.j1] at H
        by_cases c95 : x105_41 = true
        ·subst c95
         have H1 : (none) = some r := by rw [if_pos rfl] at H; exact H
         clear H
         have H := H1
         clear H1
         exact absurd H (by simp)
        ·replace c95 := Bool.eq_false_iff.mpr c95
         subst c95
         have H1 : ((leap_Begin.f kj41 a0_0 (wrap64 (a0_1 + 500)) y183 a1).bind fun bt200 => ((leap_Begin.f kj41 a0_0 (wrap64 (a0_1 + 500)) l0_2 a1).bind fun bt202 => (if bt200.2.isNone = true then (if bt202.2.isNone = true then (if a1 ≥ a0_1 then (if bt200.1 = (wrap64 (bt202.1 + 1000000000)) then ((fuseelaw09_sure.f kj41).bind fun t206 => (some t206)) else (none)) else (if bt200.1 = (wrap64 (bt202.1 + 0)) then ((fuseelaw09_sure.f kj41).bind fun t207 => (some t207)) else (none))) else (none)) else (if bt202.2.isNone = true then (none) else (if bt200.1 = (wrap64 (bt202.1 + 0)) then ((fuseelaw09_sure.f kj41).bind fun t209 => (some t209)) else (none)))))) = some r := by rw [if_neg (show ¬ (false = true) by decide)] at H; exact H
         clear H
         have H := H1
         clear H1
         replace H := Option.bind_eq_some_iff.mp H
         obtain ⟨⟨t200, t201⟩, A960, H⟩ := H
         replace H : ((leap_Begin.f kj41 a0_0 (wrap64 (a0_1 + 500)) l0_2 a1).bind fun bt202 => (if t201.isNone = true then (if bt202.2.isNone = true then (if a1 ≥ a0_1 then (if t200 = (wrap64 (bt202.1 + 1000000000)) then ((fuseelaw09_sure.f kj41).bind fun t206 => (some t206)) else (none)) else (if t200 = (wrap64 (bt202.1 + 0)) then ((fuseelaw09_sure.f kj41).bind fun t207 => (some t207)) else (none))) else (none)) else (if bt202.2.isNone = true then (none) else (if t200 = (wrap64 (bt202.1 + 0)) then ((fuseelaw09_sure.f kj41).bind fun t209 => (some t209)) else (none))))) = some r := H
         have A96 := qS A960
         clear A960
         replace H := Option.bind_eq_some_iff.mp H
         obtain ⟨⟨t202, t203⟩, A970, H⟩ := H
         replace H : (if t201.isNone = true then (if t203.isNone = true then (if a1 ≥ a0_1 then (if t200 = (wrap64 (t202 + 1000000000)) then ((fuseelaw09_sure.f kj41).bind fun t206 => (some t206)) else (none)) else (if t200 = (wrap64 (t202 + 0)) then ((fuseelaw09_sure.f kj41).bind fun t207 => (some t207)) else (none))) else (none)) else (if t203.isNone = true then (none) else (if t200 = (wrap64 (t202 + 0)) then ((fuseelaw09_sure.f kj41).bind fun t209 => (some t209)) else (none)))) = some r := H
         have A97 := qS A970
         clear A970
         rcases t201 with _ | q204
         ·have H1 : (if t203.isNone = true then (if a1 ≥ a0_1 then (if t200 = (wrap64 (t202 + 1000000000)) then ((fuseelaw09_sure.f kj41).bind fun t206 => (some t206)) else (none)) else (if t200 = (wrap64 (t202 + 0)) then ((fuseelaw09_sure.f kj41).bind fun t207 => (some t207)) else (none))) else (none)) = some r := by rw [if_pos (show (none : Option Int).isNone = true by rfl)] at H; exact H
          clear H
          have H := H1
          clear H1
          try simp only [errW_none, errW_some]
          rcases t203 with _ | q205
          ·have H1 : (if a1 ≥ a0_1 then (if t200 = (wrap64 (t202 + 1000000000)) then ((fuseelaw09_sure.f kj41).bind fun t206 => (some t206)) else (none)) else (if t200 = (wrap64 (t202 + 0)) then ((fuseelaw09_sure.f kj41).bind fun t207 => (some t207)) else (none))) = some r := by rw [if_pos (show (none : Option Int).isNone = true by rfl)] at H; exact H
           clear H
           have H := H1
           clear H1
           try simp only [errW_none, errW_some]
           by_cases c98 : a1 ≥ a0_1
           ·rw [if_pos c98] at H
            have c98b0 : decide (a0_1 ≤ a1) = true := decide_eq_true c98
            clear c98
            by_cases c99 : t200 = (wrap64 (t202 + 1000000000))
            ·rw [if_pos c99] at H
             have c99b0 : (t200 == (wrap64 (t202 + 1000000000))) = true := beq_iff_eq.mpr c99
             have c99b1 : (t200 != (wrap64 (t202 + 1000000000))) = false := bne_eq_false_iff_eq.mpr c99
             clear c99
             replace H := Option.bind_eq_some_iff.mp H
             obtain ⟨t206, A1000, H⟩ := H
             replace H : (some t206) = some r := H
             have A100 := qS A1000
             clear A1000
             as_aux_lemma =>
              obtain rfl := Option.some.inj H
              have hnb101 := NB186_168.out
              have hnc101 := NB168_186.out
              have hnb102 := NB186_169.out
              have hnc102 := NB169_186.out
              have hnb103 := NB186_187.out
              have hnc103 := NB187_186.out
              have hnb104 := NB186_192.out
              have hnc104 := NB192_186.out
              have hnb105 := NB186_197.out
              have hnc105 := NB197_186.out
              have hcz106_0 : wc.cell? ⟨gb186, 0, none⟩ = some (.int .i64 a0_0) := (qC BK186.out 0).trans rfl
              have hcz106_1 : wc.cell? ⟨gb186, 1, none⟩ = some (.int .i64 (wrap64 (a0_1 + 500))) := (qC BK186.out 1).trans rfl
              have hcz106_2 : wc.cell? ⟨gb186, 2, none⟩ = some (.slice Ao54 y183.length co54) := (qC BK186.out 2).trans rfl
              have hfz106_0 := qF BK186.out 0
              have hfz106_1 := qF BK186.out 1
              have hfz106_2 := qF BK186.out 2
              try go_wp2_with (first | ((with_reducible refine gate_callee (f := 50) rfl ?_); refine goesL_ (some 109) rfl rfl Tryd.func50 (by kernel_rfl) rfl #[.agg #[.int .i64 a0_0, .int .i64 (wrap64 (a0_1 + 500)), .slice Ao54 y183.length co54], .int .i64 a1] rfl (by (try simp only [List.map_toArray, List.map_cons, List.map_nil]); first | done | rfl | (simp only [*]; done) | (simp only [List.length_drop, List.length_take]; rfl) | (simp only [Act.eval, Array.getD_eq_getD_getElem?, Option.getD_some, *])) ?_; (with_reducible refine (leap_Begin.calls kj41 a0_0 (wrap64 (a0_1 + 500)) _ _ y183 a1 t200 none _ ?side1 ?side2 A96.out).mono ?_); (case side1 => repeat (first | exact (Kd.R_reads' HO_187002.out).2.2 | (with_reducible refine Kd.C_alloc ?_ _) | (with_reducible refine Kd.C_drewN ?_ _) | (with_reducible refine Kd.C_drew ?_))); (case side2 => exact (Kd.R_reads' HO_187002.out).2.1); rintro e w107 ⟨rfl, hb⟩; refine ⟨_, rfl, ?_⟩; have n0_ := qS (Kd.R_below (by (with_reducible repeat (first | apply Kd.R_alloc | apply Kd.R_drewN | apply Kd.R_drew)); exact HO_187002.out) hb); have n1_ := qS (qB (g := gb168) (o := .cells #[.int .i64 a0_0, .int .i64 a0_1, .slice A0_2 l0_2.length c0_2] 95 (0, 0)) (by (with_reducible repeat (first | refine qN ?_ _ | refine qD ?_ | refine qA ?_ _)); exact BK168.out) hb); have n2_ := qS (qB (g := gb169) (o := .cells #[.int .i64 a0_0, .int .i64 a0_1, .slice A0_2 l0_2.length c0_2] 96 (0, 0)) (by (with_reducible repeat (first | refine qN ?_ _ | refine qD ?_ | refine qA ?_ _)); exact BK169.out) hb); have n3_ := qS (qB (g := gb186) (o := .cells #[.int .i64 a0_0, .int .i64 (wrap64 (a0_1 + 500)), .slice Ao54 y183.length co54] 96 (0, 0)) (by (with_reducible repeat (first | refine qN ?_ _ | refine qD ?_ | refine qA ?_ _)); exact BK186.out) hb); have n4_ := qS (qB (g := gb187) (o := .cells #[.int .i64 a0_0, .int .i64 (wrap64 (a0_1 + 500)), .slice A0_2 l0_2.length c0_2] 96 (0, 0)) (by (with_reducible repeat (first | refine qN ?_ _ | refine qD ?_ | refine qA ?_ _)); exact BK187.out) hb); have n5_ := qS (qB (g := gb192) (o := .cells #[.int .i64 t188, .int .i64 t189, .int .i64 t190] 105 (0, 0)) (by (with_reducible repeat (first | refine qN ?_ _ | refine qD ?_ | refine qA ?_ _)); exact BK192.out) hb); have n6_ := qS (qB (g := gb197) (o := .cells #[.int .i64 t193, .int .i64 t194, .int .i64 t195] 105 (0, 0)) (by (with_reducible repeat (first | refine qN ?_ _ | refine qD ?_ | refine qA ?_ _)); exact BK197.out) hb); have n7_ := qS (below_step (by repeat (first | (with_reducible first | exact HB.out | apply qpA | apply qpN | apply qp1 | refine qpS ?_ GE168.out | refine qpS ?_ GE169.out | refine qpS ?_ GE186.out | refine qpS ?_ GE187.out | refine qpS ?_ GE192.out | refine qpS ?_ GE197.out) | exact HB.out)) hb); clear HO_187002; clear BK168; clear BK169; clear BK186; clear BK187; clear BK192; clear BK197; clear HB; have HO_187002 := n0_; have BK168 := n1_; have BK169 := n2_; have BK186 := n3_; have BK187 := n4_; have BK192 := n5_; have BK197 := n6_; have HB := n7_; clear n0_ n1_ n2_ n3_ n4_ n5_ n6_ n7_; (try clear hb); (try clear hb2); (try clear hk); (try clear hi); (try simp only [errW_none, errW_some]); have hnb108 := NB187_168.out; have hnc108 := NB168_187.out; have hnb109 := NB187_169.out; have hnc109 := NB169_187.out; have hnb110 := NB187_192.out; have hnc110 := NB192_187.out; have hnb111 := NB187_197.out; have hnc111 := NB197_187.out; have hcz112_0 : w107.cell? ⟨gb187, 0, none⟩ = some (.int .i64 a0_0) := (qC BK187.out 0).trans rfl; have hcz112_1 : w107.cell? ⟨gb187, 1, none⟩ = some (.int .i64 (wrap64 (a0_1 + 500))) := (qC BK187.out 1).trans rfl; have hcz112_2 : w107.cell? ⟨gb187, 2, none⟩ = some (.slice A0_2 l0_2.length c0_2) := (qC BK187.out 2).trans rfl; have hfz112_0 := qF BK187.out 0; have hfz112_1 := qF BK187.out 1; have hfz112_2 := qF BK187.out 2) | ((with_reducible refine gate_callee (f := 50) rfl ?_); refine goesL_ (some 115) rfl rfl Tryd.func50 (by kernel_rfl) rfl #[.agg #[.int .i64 a0_0, .int .i64 (wrap64 (a0_1 + 500)), .slice A0_2 l0_2.length c0_2], .int .i64 a1] rfl (by (try simp only [List.map_toArray, List.map_cons, List.map_nil]); first | done | rfl | (simp only [*]; done) | (simp only [List.length_drop, List.length_take]; rfl) | (simp only [Act.eval, Array.getD_eq_getD_getElem?, Option.getD_some, *])) ?_; (with_reducible refine (leap_Begin.calls kj41 a0_0 (wrap64 (a0_1 + 500)) _ _ l0_2 a1 t202 none _ ?side1 ?side2 A97.out).mono ?_); (case side1 => repeat (first | exact (Kd.C_below HR0_2.out HB.out) | (with_reducible refine Kd.C_alloc ?_ _) | (with_reducible refine Kd.C_drewN ?_ _) | (with_reducible refine Kd.C_drew ?_))); (case side2 => exact HC0_2.out); rintro e w113 ⟨rfl, hb⟩; refine ⟨_, rfl, ?_⟩; have n0_ := qS (Kd.R_below (by (with_reducible repeat (first | apply Kd.R_alloc | apply Kd.R_drewN | apply Kd.R_drew)); exact HO_187002.out) hb); have n1_ := qS (qB (g := gb168) (o := .cells #[.int .i64 a0_0, .int .i64 a0_1, .slice A0_2 l0_2.length c0_2] 95 (0, 0)) (by (with_reducible repeat (first | refine qN ?_ _ | refine qD ?_ | refine qA ?_ _)); exact BK168.out) hb); have n2_ := qS (qB (g := gb169) (o := .cells #[.int .i64 a0_0, .int .i64 a0_1, .slice A0_2 l0_2.length c0_2] 96 (0, 0)) (by (with_reducible repeat (first | refine qN ?_ _ | refine qD ?_ | refine qA ?_ _)); exact BK169.out) hb); have n3_ := qS (qB (g := gb186) (o := .cells #[.int .i64 a0_0, .int .i64 (wrap64 (a0_1 + 500)), .slice Ao54 y183.length co54] 96 (0, 0)) (by (with_reducible repeat (first | refine qN ?_ _ | refine qD ?_ | refine qA ?_ _)); exact BK186.out) hb); have n4_ := qS (qB (g := gb187) (o := .cells #[.int .i64 a0_0, .int .i64 (wrap64 (a0_1 + 500)), .slice A0_2 l0_2.length c0_2] 96 (0, 0)) (by (with_reducible repeat (first | refine qN ?_ _ | refine qD ?_ | refine qA ?_ _)); exact BK187.out) hb); have n5_ := qS (qB (g := gb192) (o := .cells #[.int .i64 t188, .int .i64 t189, .int .i64 t190] 105 (0, 0)) (by (with_reducible repeat (first | refine qN ?_ _ | refine qD ?_ | refine qA ?_ _)); exact BK192.out) hb); have n6_ := qS (qB (g := gb197) (o := .cells #[.int .i64 t193, .int .i64 t194, .int .i64 t195] 105 (0, 0)) (by (with_reducible repeat (first | refine qN ?_ _ | refine qD ?_ | refine qA ?_ _)); exact BK197.out) hb); have n7_ := qS (below_step (by repeat (first | (with_reducible first | exact HB.out | apply qpA | apply qpN | apply qp1 | refine qpS ?_ GE168.out | refine qpS ?_ GE169.out | refine qpS ?_ GE186.out | refine qpS ?_ GE187.out | refine qpS ?_ GE192.out | refine qpS ?_ GE197.out) | exact HB.out)) hb); clear HO_187002; clear BK168; clear BK169; clear BK186; clear BK187; clear BK192; clear BK197; clear HB; have HO_187002 := n0_; have BK168 := n1_; have BK169 := n2_; have BK186 := n3_; have BK187 := n4_; have BK192 := n5_; have BK197 := n6_; have HB := n7_; clear n0_ n1_ n2_ n3_ n4_ n5_ n6_ n7_; (try clear hb); (try clear hb2); (try clear hk); (try clear hi); (try simp only [errW_none, errW_some])))
              have n0_ := qS (Kd.R_drew HO_187002.out)
              have n1_ := qS (qD BK168.out)
              have n2_ := qS (qD BK169.out)
              have n3_ := qS (qD BK186.out)
              have n4_ := qS (qD BK187.out)
              have n5_ := qS (qD BK192.out)
              have n6_ := qS (qD BK197.out)
              have n7_ := qS (qp1 HB.out)
              clear HO_187002
              clear BK168
              clear BK169
              clear BK186
              clear BK187
              clear BK192
              clear BK197
              clear HB
              have HO_187002 := n0_
              have BK168 := n1_
              have BK169 := n2_
              have BK186 := n3_
              have BK187 := n4_
              have BK192 := n5_
              have BK197 := n6_
              have HB := n7_
              clear n0_ n1_ n2_ n3_ n4_ n5_ n6_ n7_
              refine start_ (n := 5) (S := fun w' => True) (ds := []) #[false, false, false, false, false] (by kernel_rfl) rfl rfl trivial (fun hHeld => ?_)
              generalize w113.drew = w114 at HO_187002 BK168 BK169 BK186 BK187 BK192 BK197 HB hHeld ⊢
              refine pure_ (i := 0) (N := some 118) (v := ?_) (a' := ?_) #[true, false, false, false, false] rfl rfl (by kernel_rfl) (fun _ _ _ h => h) (Or.inl ⟨by rfl, ?_⟩) ?_ ?_
              rotate_left
              ·intro w'
               go_simp
               with_reducible rfl
              rotate_left
              ·simp only [Act.put, List.setIfInBounds_toArray, List.set_cons_zero, List.set_cons_succ, i64_w, i32_w]
               rfl
              refine pure_ (i := 1) (N := some 119) (v := ?_) (a' := ?_) #[true, true, false, false, false] rfl rfl (by kernel_rfl) (fun _ _ _ h => h) (Or.inl ⟨by rfl, ?_⟩) ?_ ?_
              rotate_left
              ·intro w'
               go_simp
               with_reducible rfl
              rotate_left
              ·simp only [Act.put, List.setIfInBounds_toArray, List.set_cons_zero, List.set_cons_succ, i64_w, i32_w]
               rfl
              refine pure_ (i := 2) (N := some 120) (v := ?_) (a' := ?_) #[true, true, true, false, false] rfl rfl (by kernel_rfl) (fun _ _ _ h => h) (Or.inl ⟨by rfl, ?_⟩) ?_ ?_
              rotate_left
              ·intro w'
               go_simp
               with_reducible rfl
              rotate_left
              ·simp only [Act.put, List.setIfInBounds_toArray, List.set_cons_zero, List.set_cons_succ, i64_w, i32_w]
               rfl
              refine pure_ (i := 3) (N := some 121) (v := ?_) (a' := ?_) #[true, true, true, true, false] rfl rfl (by kernel_rfl) (fun _ _ _ h => h) (Or.inl ⟨by rfl, ?_⟩) ?_ ?_
              rotate_left
              ·intro w'
               go_simp
               with_reducible rfl
              rotate_left
              ·simp only [Act.put, List.setIfInBounds_toArray, List.set_cons_zero, List.set_cons_succ, i64_w, i32_w]
               rfl
              refine pure_ (i := 4) (N := some 122) (v := ?_) (a' := ?_) #[true, true, true, true, true] rfl rfl (by kernel_rfl) (fun _ _ _ h => h) (Or.inl ⟨by rfl, ?_⟩) ?_ ?_
              rotate_left
              ·intro w'
               go_simp
               with_reducible rfl
              rotate_left
              ·simp only [Act.put, List.setIfInBounds_toArray, List.set_cons_zero, List.set_cons_succ, i64_w, i32_w]
               rfl
              refine done_ (by kernel_rfl) ?_
              have hnb115 := NB168_169.out
              have hnc115 := NB169_168.out
              have hnb116 := NB168_192.out
              have hnc116 := NB192_168.out
              have hnb117 := NB168_197.out
              have hnc117 := NB197_168.out
              have hcz118_0 : w114.cell? ⟨gb168, 0, none⟩ = some (.int .i64 a0_0) := (qC BK168.out 0).trans rfl
              have hcz118_1 : w114.cell? ⟨gb168, 1, none⟩ = some (.int .i64 a0_1) := (qC BK168.out 1).trans rfl
              have hcz118_2 : w114.cell? ⟨gb168, 2, none⟩ = some (.slice A0_2 l0_2.length c0_2) := (qC BK168.out 2).trans rfl
              have hfz118_0 := qF BK168.out 0
              have hfz118_1 := qF BK168.out 1
              have hfz118_2 := qF BK168.out 2
              try go_wp2_with (first | (go_at_call 47; (with_reducible refine (fuseelaw09_sure.calls kj41  t206 _ ?side1 A100.out).mono ?_); (case side1 => exact HG.below hgL (Nat.le_refl _) (by repeat (first | (with_reducible first | exact HB.out | apply qpA | apply qpN | apply qp1 | refine qpS ?_ GE168.out | refine qpS ?_ GE169.out | refine qpS ?_ GE186.out | refine qpS ?_ GE187.out | refine qpS ?_ GE192.out | refine qpS ?_ GE197.out) | exact HB.out))); rintro e w119 ⟨rfl, hb⟩; have n0_ := qS (Kd.R_below (by (with_reducible repeat (first | apply Kd.R_alloc | apply Kd.R_drewN | apply Kd.R_drew)); exact HO_187002.out) hb); have n1_ := qS (qB (g := gb168) (o := .cells #[.int .i64 a0_0, .int .i64 a0_1, .slice A0_2 l0_2.length c0_2] 95 (0, 0)) (by (with_reducible repeat (first | refine qN ?_ _ | refine qD ?_ | refine qA ?_ _)); exact BK168.out) hb); have n2_ := qS (qB (g := gb169) (o := .cells #[.int .i64 a0_0, .int .i64 a0_1, .slice A0_2 l0_2.length c0_2] 96 (0, 0)) (by (with_reducible repeat (first | refine qN ?_ _ | refine qD ?_ | refine qA ?_ _)); exact BK169.out) hb); have n3_ := qS (qB (g := gb186) (o := .cells #[.int .i64 a0_0, .int .i64 (wrap64 (a0_1 + 500)), .slice Ao54 y183.length co54] 96 (0, 0)) (by (with_reducible repeat (first | refine qN ?_ _ | refine qD ?_ | refine qA ?_ _)); exact BK186.out) hb); have n4_ := qS (qB (g := gb187) (o := .cells #[.int .i64 a0_0, .int .i64 (wrap64 (a0_1 + 500)), .slice A0_2 l0_2.length c0_2] 96 (0, 0)) (by (with_reducible repeat (first | refine qN ?_ _ | refine qD ?_ | refine qA ?_ _)); exact BK187.out) hb); have n5_ := qS (qB (g := gb192) (o := .cells #[.int .i64 t188, .int .i64 t189, .int .i64 t190] 105 (0, 0)) (by (with_reducible repeat (first | refine qN ?_ _ | refine qD ?_ | refine qA ?_ _)); exact BK192.out) hb); have n6_ := qS (qB (g := gb197) (o := .cells #[.int .i64 t193, .int .i64 t194, .int .i64 t195] 105 (0, 0)) (by (with_reducible repeat (first | refine qN ?_ _ | refine qD ?_ | refine qA ?_ _)); exact BK197.out) hb); have n7_ := qS (below_step (by repeat (first | (with_reducible first | exact HB.out | apply qpA | apply qpN | apply qp1 | refine qpS ?_ GE168.out | refine qpS ?_ GE169.out | refine qpS ?_ GE186.out | refine qpS ?_ GE187.out | refine qpS ?_ GE192.out | refine qpS ?_ GE197.out) | exact HB.out)) hb); clear HO_187002; clear BK168; clear BK169; clear BK186; clear BK187; clear BK192; clear BK197; clear HB; have HO_187002 := n0_; have BK168 := n1_; have BK169 := n2_; have BK186 := n3_; have BK187 := n4_; have BK192 := n5_; have BK197 := n6_; have HB := n7_; clear n0_ n1_ n2_ n3_ n4_ n5_ n6_ n7_; (try clear hb); (try clear hb2); (try clear hk); (try clear hi)))
              go_ret
              exact ⟨by first | rfl | (simp [errW_none, errW_some] <;> rfl) | (simp [*, errW_none, errW_some] <;> rfl), by repeat (first | (with_reducible first | exact HB.out | apply qpA | apply qpN | apply qp1 | refine qpS ?_ GE168.out | refine qpS ?_ GE169.out | refine qpS ?_ GE186.out | refine qpS ?_ GE187.out | refine qpS ?_ GE192.out | refine qpS ?_ GE197.out) | exact HB.out)⟩
            ·rw [if_neg c99] at H
             exact absurd H (by simp)
           ·rw [if_neg c98] at H
            have c98b0 : decide (a0_1 ≤ a1) = false := decide_eq_false c98
            clear c98
            by_cases c120 : t200 = (wrap64 (t202 + 0))
            ·rw [if_pos c120] at H
             have c120b0 : (t200 == (wrap64 (t202 + 0))) = true := beq_iff_eq.mpr c120
             have c120b8 : (t200 = wrap64 t202) = True := eq_true (by have z_ := c120; rwa [Int.add_zero] at z_)
             have c120b9 : (t200 == wrap64 t202) = true := beq_iff_eq.mpr (by have z_ := c120; rwa [Int.add_zero] at z_)
             have c120b1 : (t200 != (wrap64 (t202 + 0))) = false := bne_eq_false_iff_eq.mpr c120
             clear c120
             replace H := Option.bind_eq_some_iff.mp H
             obtain ⟨t207, A1210, H⟩ := H
             replace H : (some t207) = some r := H
             have A121 := qS A1210
             clear A1210
             as_aux_lemma =>
              obtain rfl := Option.some.inj H
              have hnb122 := NB186_168.out
              have hnc122 := NB168_186.out
              have hnb123 := NB186_169.out
              have hnc123 := NB169_186.out
              have hnb124 := NB186_187.out
              have hnc124 := NB187_186.out
              have hnb125 := NB186_192.out
              have hnc125 := NB192_186.out
              have hnb126 := NB186_197.out
              have hnc126 := NB197_186.out
              have hcz127_0 : wc.cell? ⟨gb186, 0, none⟩ = some (.int .i64 a0_0) := (qC BK186.out 0).trans rfl
              have hcz127_1 : wc.cell? ⟨gb186, 1, none⟩ = some (.int .i64 (wrap64 (a0_1 + 500))) := (qC BK186.out 1).trans rfl
              have hcz127_2 : wc.cell? ⟨gb186, 2, none⟩ = some (.slice Ao54 y183.length co54) := (qC BK186.out 2).trans rfl
              have hfz127_0 := qF BK186.out 0
              have hfz127_1 := qF BK186.out 1
              have hfz127_2 := qF BK186.out 2
              try go_wp2_with (first | ((with_reducible refine gate_callee (f := 50) rfl ?_); refine goesL_ (some 109) rfl rfl Tryd.func50 (by kernel_rfl) rfl #[.agg #[.int .i64 a0_0, .int .i64 (wrap64 (a0_1 + 500)), .slice Ao54 y183.length co54], .int .i64 a1] rfl (by (try simp only [List.map_toArray, List.map_cons, List.map_nil]); first | done | rfl | (simp only [*]; done) | (simp only [List.length_drop, List.length_take]; rfl) | (simp only [Act.eval, Array.getD_eq_getD_getElem?, Option.getD_some, *])) ?_; (with_reducible refine (leap_Begin.calls kj41 a0_0 (wrap64 (a0_1 + 500)) _ _ y183 a1 t200 none _ ?side1 ?side2 A96.out).mono ?_); (case side1 => repeat (first | exact (Kd.R_reads' HO_187002.out).2.2 | (with_reducible refine Kd.C_alloc ?_ _) | (with_reducible refine Kd.C_drewN ?_ _) | (with_reducible refine Kd.C_drew ?_))); (case side2 => exact (Kd.R_reads' HO_187002.out).2.1); rintro e w128 ⟨rfl, hb⟩; refine ⟨_, rfl, ?_⟩; have n0_ := qS (Kd.R_below (by (with_reducible repeat (first | apply Kd.R_alloc | apply Kd.R_drewN | apply Kd.R_drew)); exact HO_187002.out) hb); have n1_ := qS (qB (g := gb168) (o := .cells #[.int .i64 a0_0, .int .i64 a0_1, .slice A0_2 l0_2.length c0_2] 95 (0, 0)) (by (with_reducible repeat (first | refine qN ?_ _ | refine qD ?_ | refine qA ?_ _)); exact BK168.out) hb); have n2_ := qS (qB (g := gb169) (o := .cells #[.int .i64 a0_0, .int .i64 a0_1, .slice A0_2 l0_2.length c0_2] 96 (0, 0)) (by (with_reducible repeat (first | refine qN ?_ _ | refine qD ?_ | refine qA ?_ _)); exact BK169.out) hb); have n3_ := qS (qB (g := gb186) (o := .cells #[.int .i64 a0_0, .int .i64 (wrap64 (a0_1 + 500)), .slice Ao54 y183.length co54] 96 (0, 0)) (by (with_reducible repeat (first | refine qN ?_ _ | refine qD ?_ | refine qA ?_ _)); exact BK186.out) hb); have n4_ := qS (qB (g := gb187) (o := .cells #[.int .i64 a0_0, .int .i64 (wrap64 (a0_1 + 500)), .slice A0_2 l0_2.length c0_2] 96 (0, 0)) (by (with_reducible repeat (first | refine qN ?_ _ | refine qD ?_ | refine qA ?_ _)); exact BK187.out) hb); have n5_ := qS (qB (g := gb192) (o := .cells #[.int .i64 t188, .int .i64 t189, .int .i64 t190] 105 (0, 0)) (by (with_reducible repeat (first | refine qN ?_ _ | refine qD ?_ | refine qA ?_ _)); exact BK192.out) hb); have n6_ := qS (qB (g := gb197) (o := .cells #[.int .i64 t193, .int .i64 t194, .int .i64 t195] 105 (0, 0)) (by (with_reducible repeat (first | refine qN ?_ _ | refine qD ?_ | refine qA ?_ _)); exact BK197.out) hb); have n7_ := qS (below_step (by repeat (first | (with_reducible first | exact HB.out | apply qpA | apply qpN | apply qp1 | refine qpS ?_ GE168.out | refine qpS ?_ GE169.out | refine qpS ?_ GE186.out | refine qpS ?_ GE187.out | refine qpS ?_ GE192.out | refine qpS ?_ GE197.out) | exact HB.out)) hb); clear HO_187002; clear BK168; clear BK169; clear BK186; clear BK187; clear BK192; clear BK197; clear HB; have HO_187002 := n0_; have BK168 := n1_; have BK169 := n2_; have BK186 := n3_; have BK187 := n4_; have BK192 := n5_; have BK197 := n6_; have HB := n7_; clear n0_ n1_ n2_ n3_ n4_ n5_ n6_ n7_; (try clear hb); (try clear hb2); (try clear hk); (try clear hi); (try simp only [errW_none, errW_some]); have hnb129 := NB187_168.out; have hnc129 := NB168_187.out; have hnb130 := NB187_169.out; have hnc130 := NB169_187.out; have hnb131 := NB187_192.out; have hnc131 := NB192_187.out; have hnb132 := NB187_197.out; have hnc132 := NB197_187.out; have hcz133_0 : w128.cell? ⟨gb187, 0, none⟩ = some (.int .i64 a0_0) := (qC BK187.out 0).trans rfl; have hcz133_1 : w128.cell? ⟨gb187, 1, none⟩ = some (.int .i64 (wrap64 (a0_1 + 500))) := (qC BK187.out 1).trans rfl; have hcz133_2 : w128.cell? ⟨gb187, 2, none⟩ = some (.slice A0_2 l0_2.length c0_2) := (qC BK187.out 2).trans rfl; have hfz133_0 := qF BK187.out 0; have hfz133_1 := qF BK187.out 1; have hfz133_2 := qF BK187.out 2) | ((with_reducible refine gate_callee (f := 50) rfl ?_); refine goesL_ (some 115) rfl rfl Tryd.func50 (by kernel_rfl) rfl #[.agg #[.int .i64 a0_0, .int .i64 (wrap64 (a0_1 + 500)), .slice A0_2 l0_2.length c0_2], .int .i64 a1] rfl (by (try simp only [List.map_toArray, List.map_cons, List.map_nil]); first | done | rfl | (simp only [*]; done) | (simp only [List.length_drop, List.length_take]; rfl) | (simp only [Act.eval, Array.getD_eq_getD_getElem?, Option.getD_some, *])) ?_; (with_reducible refine (leap_Begin.calls kj41 a0_0 (wrap64 (a0_1 + 500)) _ _ l0_2 a1 t202 none _ ?side1 ?side2 A97.out).mono ?_); (case side1 => repeat (first | exact (Kd.C_below HR0_2.out HB.out) | (with_reducible refine Kd.C_alloc ?_ _) | (with_reducible refine Kd.C_drewN ?_ _) | (with_reducible refine Kd.C_drew ?_))); (case side2 => exact HC0_2.out); rintro e w134 ⟨rfl, hb⟩; refine ⟨_, rfl, ?_⟩; have n0_ := qS (Kd.R_below (by (with_reducible repeat (first | apply Kd.R_alloc | apply Kd.R_drewN | apply Kd.R_drew)); exact HO_187002.out) hb); have n1_ := qS (qB (g := gb168) (o := .cells #[.int .i64 a0_0, .int .i64 a0_1, .slice A0_2 l0_2.length c0_2] 95 (0, 0)) (by (with_reducible repeat (first | refine qN ?_ _ | refine qD ?_ | refine qA ?_ _)); exact BK168.out) hb); have n2_ := qS (qB (g := gb169) (o := .cells #[.int .i64 a0_0, .int .i64 a0_1, .slice A0_2 l0_2.length c0_2] 96 (0, 0)) (by (with_reducible repeat (first | refine qN ?_ _ | refine qD ?_ | refine qA ?_ _)); exact BK169.out) hb); have n3_ := qS (qB (g := gb186) (o := .cells #[.int .i64 a0_0, .int .i64 (wrap64 (a0_1 + 500)), .slice Ao54 y183.length co54] 96 (0, 0)) (by (with_reducible repeat (first | refine qN ?_ _ | refine qD ?_ | refine qA ?_ _)); exact BK186.out) hb); have n4_ := qS (qB (g := gb187) (o := .cells #[.int .i64 a0_0, .int .i64 (wrap64 (a0_1 + 500)), .slice A0_2 l0_2.length c0_2] 96 (0, 0)) (by (with_reducible repeat (first | refine qN ?_ _ | refine qD ?_ | refine qA ?_ _)); exact BK187.out) hb); have n5_ := qS (qB (g := gb192) (o := .cells #[.int .i64 t188, .int .i64 t189, .int .i64 t190] 105 (0, 0)) (by (with_reducible repeat (first | refine qN ?_ _ | refine qD ?_ | refine qA ?_ _)); exact BK192.out) hb); have n6_ := qS (qB (g := gb197) (o := .cells #[.int .i64 t193, .int .i64 t194, .int .i64 t195] 105 (0, 0)) (by (with_reducible repeat (first | refine qN ?_ _ | refine qD ?_ | refine qA ?_ _)); exact BK197.out) hb); have n7_ := qS (below_step (by repeat (first | (with_reducible first | exact HB.out | apply qpA | apply qpN | apply qp1 | refine qpS ?_ GE168.out | refine qpS ?_ GE169.out | refine qpS ?_ GE186.out | refine qpS ?_ GE187.out | refine qpS ?_ GE192.out | refine qpS ?_ GE197.out) | exact HB.out)) hb); clear HO_187002; clear BK168; clear BK169; clear BK186; clear BK187; clear BK192; clear BK197; clear HB; have HO_187002 := n0_; have BK168 := n1_; have BK169 := n2_; have BK186 := n3_; have BK187 := n4_; have BK192 := n5_; have BK197 := n6_; have HB := n7_; clear n0_ n1_ n2_ n3_ n4_ n5_ n6_ n7_; (try clear hb); (try clear hb2); (try clear hk); (try clear hi); (try simp only [errW_none, errW_some])))
              have n0_ := qS (Kd.R_drew HO_187002.out)
              have n1_ := qS (qD BK168.out)
              have n2_ := qS (qD BK169.out)
              have n3_ := qS (qD BK186.out)
              have n4_ := qS (qD BK187.out)
              have n5_ := qS (qD BK192.out)
              have n6_ := qS (qD BK197.out)
              have n7_ := qS (qp1 HB.out)
              clear HO_187002
              clear BK168
              clear BK169
              clear BK186
              clear BK187
              clear BK192
              clear BK197
              clear HB
              have HO_187002 := n0_
              have BK168 := n1_
              have BK169 := n2_
              have BK186 := n3_
              have BK187 := n4_
              have BK192 := n5_
              have BK197 := n6_
              have HB := n7_
              clear n0_ n1_ n2_ n3_ n4_ n5_ n6_ n7_
              refine start_ (n := 5) (S := fun w' => True) (ds := []) #[false, false, false, false, false] (by kernel_rfl) rfl rfl trivial (fun hHeld => ?_)
              generalize w134.drew = w135 at HO_187002 BK168 BK169 BK186 BK187 BK192 BK197 HB hHeld ⊢
              refine pure_ (i := 0) (N := some 118) (v := ?_) (a' := ?_) #[true, false, false, false, false] rfl rfl (by kernel_rfl) (fun _ _ _ h => h) (Or.inl ⟨by rfl, ?_⟩) ?_ ?_
              rotate_left
              ·intro w'
               go_simp
               with_reducible rfl
              rotate_left
              ·simp only [Act.put, List.setIfInBounds_toArray, List.set_cons_zero, List.set_cons_succ, i64_w, i32_w]
               rfl
              refine pure_ (i := 1) (N := some 119) (v := ?_) (a' := ?_) #[true, true, false, false, false] rfl rfl (by kernel_rfl) (fun _ _ _ h => h) (Or.inl ⟨by rfl, ?_⟩) ?_ ?_
              rotate_left
              ·intro w'
               go_simp
               with_reducible rfl
              rotate_left
              ·simp only [Act.put, List.setIfInBounds_toArray, List.set_cons_zero, List.set_cons_succ, i64_w, i32_w]
               rfl
              refine pure_ (i := 2) (N := some 120) (v := ?_) (a' := ?_) #[true, true, true, false, false] rfl rfl (by kernel_rfl) (fun _ _ _ h => h) (Or.inl ⟨by rfl, ?_⟩) ?_ ?_
              rotate_left
              ·intro w'
               go_simp
               with_reducible rfl
              rotate_left
              ·simp only [Act.put, List.setIfInBounds_toArray, List.set_cons_zero, List.set_cons_succ, i64_w, i32_w]
               rfl
              refine pure_ (i := 3) (N := some 121) (v := ?_) (a' := ?_) #[true, true, true, true, false] rfl rfl (by kernel_rfl) (fun _ _ _ h => h) (Or.inl ⟨by rfl, ?_⟩) ?_ ?_
              rotate_left
              ·intro w'
               go_simp
               with_reducible rfl
              rotate_left
              ·simp only [Act.put, List.setIfInBounds_toArray, List.set_cons_zero, List.set_cons_succ, i64_w, i32_w]
               rfl
              refine pure_ (i := 4) (N := some 122) (v := ?_) (a' := ?_) #[true, true, true, true, true] rfl rfl (by kernel_rfl) (fun _ _ _ h => h) (Or.inl ⟨by rfl, ?_⟩) ?_ ?_
              rotate_left
              ·intro w'
               go_simp
               with_reducible rfl
              rotate_left
              ·simp only [Act.put, List.setIfInBounds_toArray, List.set_cons_zero, List.set_cons_succ, i64_w, i32_w]
               rfl
              refine done_ (by kernel_rfl) ?_
              have hnb136 := NB168_169.out
              have hnc136 := NB169_168.out
              have hnb137 := NB168_192.out
              have hnc137 := NB192_168.out
              have hnb138 := NB168_197.out
              have hnc138 := NB197_168.out
              have hcz139_0 : w135.cell? ⟨gb168, 0, none⟩ = some (.int .i64 a0_0) := (qC BK168.out 0).trans rfl
              have hcz139_1 : w135.cell? ⟨gb168, 1, none⟩ = some (.int .i64 a0_1) := (qC BK168.out 1).trans rfl
              have hcz139_2 : w135.cell? ⟨gb168, 2, none⟩ = some (.slice A0_2 l0_2.length c0_2) := (qC BK168.out 2).trans rfl
              have hfz139_0 := qF BK168.out 0
              have hfz139_1 := qF BK168.out 1
              have hfz139_2 := qF BK168.out 2
              try go_wp2_with (first | (go_at_call 47; (with_reducible refine (fuseelaw09_sure.calls kj41  t207 _ ?side1 A121.out).mono ?_); (case side1 => exact HG.below hgL (Nat.le_refl _) (by repeat (first | (with_reducible first | exact HB.out | apply qpA | apply qpN | apply qp1 | refine qpS ?_ GE168.out | refine qpS ?_ GE169.out | refine qpS ?_ GE186.out | refine qpS ?_ GE187.out | refine qpS ?_ GE192.out | refine qpS ?_ GE197.out) | exact HB.out))); rintro e w140 ⟨rfl, hb⟩; have n0_ := qS (Kd.R_below (by (with_reducible repeat (first | apply Kd.R_alloc | apply Kd.R_drewN | apply Kd.R_drew)); exact HO_187002.out) hb); have n1_ := qS (qB (g := gb168) (o := .cells #[.int .i64 a0_0, .int .i64 a0_1, .slice A0_2 l0_2.length c0_2] 95 (0, 0)) (by (with_reducible repeat (first | refine qN ?_ _ | refine qD ?_ | refine qA ?_ _)); exact BK168.out) hb); have n2_ := qS (qB (g := gb169) (o := .cells #[.int .i64 a0_0, .int .i64 a0_1, .slice A0_2 l0_2.length c0_2] 96 (0, 0)) (by (with_reducible repeat (first | refine qN ?_ _ | refine qD ?_ | refine qA ?_ _)); exact BK169.out) hb); have n3_ := qS (qB (g := gb186) (o := .cells #[.int .i64 a0_0, .int .i64 (wrap64 (a0_1 + 500)), .slice Ao54 y183.length co54] 96 (0, 0)) (by (with_reducible repeat (first | refine qN ?_ _ | refine qD ?_ | refine qA ?_ _)); exact BK186.out) hb); have n4_ := qS (qB (g := gb187) (o := .cells #[.int .i64 a0_0, .int .i64 (wrap64 (a0_1 + 500)), .slice A0_2 l0_2.length c0_2] 96 (0, 0)) (by (with_reducible repeat (first | refine qN ?_ _ | refine qD ?_ | refine qA ?_ _)); exact BK187.out) hb); have n5_ := qS (qB (g := gb192) (o := .cells #[.int .i64 t188, .int .i64 t189, .int .i64 t190] 105 (0, 0)) (by (with_reducible repeat (first | refine qN ?_ _ | refine qD ?_ | refine qA ?_ _)); exact BK192.out) hb); have n6_ := qS (qB (g := gb197) (o := .cells #[.int .i64 t193, .int .i64 t194, .int .i64 t195] 105 (0, 0)) (by (with_reducible repeat (first | refine qN ?_ _ | refine qD ?_ | refine qA ?_ _)); exact BK197.out) hb); have n7_ := qS (below_step (by repeat (first | (with_reducible first | exact HB.out | apply qpA | apply qpN | apply qp1 | refine qpS ?_ GE168.out | refine qpS ?_ GE169.out | refine qpS ?_ GE186.out | refine qpS ?_ GE187.out | refine qpS ?_ GE192.out | refine qpS ?_ GE197.out) | exact HB.out)) hb); clear HO_187002; clear BK168; clear BK169; clear BK186; clear BK187; clear BK192; clear BK197; clear HB; have HO_187002 := n0_; have BK168 := n1_; have BK169 := n2_; have BK186 := n3_; have BK187 := n4_; have BK192 := n5_; have BK197 := n6_; have HB := n7_; clear n0_ n1_ n2_ n3_ n4_ n5_ n6_ n7_; (try clear hb); (try clear hb2); (try clear hk); (try clear hi)))
              go_ret
              exact ⟨by first | rfl | (simp [errW_none, errW_some] <;> rfl) | (simp [*, errW_none, errW_some] <;> rfl), by repeat (first | (with_reducible first | exact HB.out | apply qpA | apply qpN | apply qp1 | refine qpS ?_ GE168.out | refine qpS ?_ GE169.out | refine qpS ?_ GE186.out | refine qpS ?_ GE187.out | refine qpS ?_ GE192.out | refine qpS ?_ GE197.out) | exact HB.out)⟩
            ·rw [if_neg c120] at H
             exact absurd H (by simp)
          ·have H1 : (none) = some r := by rw [if_neg (show ¬ (some q205).isNone = true by simp)] at H; exact H
           clear H
           have H := H1
           clear H1
           try simp only [errW_none, errW_some]
           exact absurd H (by simp)
         ·have H1 : (if t203.isNone = true then (none) else (if t200 = (wrap64 (t202 + 0)) then ((fuseelaw09_sure.f kj41).bind fun t209 => (some t209)) else (none))) = some r := by rw [if_neg (show ¬ (some q204).isNone = true by simp)] at H; exact H
          clear H
          have H := H1
          clear H1
          try simp only [errW_none, errW_some]
          rcases t203 with _ | q208
          ·have H1 : (none) = some r := by rw [if_pos (show (none : Option Int).isNone = true by rfl)] at H; exact H
           clear H
           have H := H1
           clear H1
           try simp only [errW_none, errW_some]
           exact absurd H (by simp)
          ·have H1 : (if t200 = (wrap64 (t202 + 0)) then ((fuseelaw09_sure.f kj41).bind fun t209 => (some t209)) else (none)) = some r := by rw [if_neg (show ¬ (some q208).isNone = true by simp)] at H; exact H
           clear H
           have H := H1
           clear H1
           try simp only [errW_none, errW_some]
           by_cases c141 : t200 = (wrap64 (t202 + 0))
           ·rw [if_pos c141] at H
            have c141b0 : (t200 == (wrap64 (t202 + 0))) = true := beq_iff_eq.mpr c141
            have c141b8 : (t200 = wrap64 t202) = True := eq_true (by have z_ := c141; rwa [Int.add_zero] at z_)
            have c141b9 : (t200 == wrap64 t202) = true := beq_iff_eq.mpr (by have z_ := c141; rwa [Int.add_zero] at z_)
            have c141b1 : (t200 != (wrap64 (t202 + 0))) = false := bne_eq_false_iff_eq.mpr c141
            clear c141
            replace H := Option.bind_eq_some_iff.mp H
            obtain ⟨t209, A1420, H⟩ := H
            replace H : (some t209) = some r := H
            have A142 := qS A1420
            clear A1420
            as_aux_lemma =>
             obtain rfl := Option.some.inj H
             have hnb143 := NB186_168.out
             have hnc143 := NB168_186.out
             have hnb144 := NB186_169.out
             have hnc144 := NB169_186.out
             have hnb145 := NB186_187.out
             have hnc145 := NB187_186.out
             have hnb146 := NB186_192.out
             have hnc146 := NB192_186.out
             have hnb147 := NB186_197.out
             have hnc147 := NB197_186.out
             have hcz148_0 : wc.cell? ⟨gb186, 0, none⟩ = some (.int .i64 a0_0) := (qC BK186.out 0).trans rfl
             have hcz148_1 : wc.cell? ⟨gb186, 1, none⟩ = some (.int .i64 (wrap64 (a0_1 + 500))) := (qC BK186.out 1).trans rfl
             have hcz148_2 : wc.cell? ⟨gb186, 2, none⟩ = some (.slice Ao54 y183.length co54) := (qC BK186.out 2).trans rfl
             have hfz148_0 := qF BK186.out 0
             have hfz148_1 := qF BK186.out 1
             have hfz148_2 := qF BK186.out 2
             try go_wp2_with (first | ((with_reducible refine gate_callee (f := 50) rfl ?_); refine goesL_ (some 109) rfl rfl Tryd.func50 (by kernel_rfl) rfl #[.agg #[.int .i64 a0_0, .int .i64 (wrap64 (a0_1 + 500)), .slice Ao54 y183.length co54], .int .i64 a1] rfl (by (try simp only [List.map_toArray, List.map_cons, List.map_nil]); first | done | rfl | (simp only [*]; done) | (simp only [List.length_drop, List.length_take]; rfl) | (simp only [Act.eval, Array.getD_eq_getD_getElem?, Option.getD_some, *])) ?_; (with_reducible refine (leap_Begin.calls kj41 a0_0 (wrap64 (a0_1 + 500)) _ _ y183 a1 t200 (some q204) _ ?side1 ?side2 A96.out).mono ?_); (case side1 => repeat (first | exact (Kd.R_reads' HO_187002.out).2.2 | (with_reducible refine Kd.C_alloc ?_ _) | (with_reducible refine Kd.C_drewN ?_ _) | (with_reducible refine Kd.C_drew ?_))); (case side2 => exact (Kd.R_reads' HO_187002.out).2.1); rintro e w149 ⟨rfl, hb⟩; refine ⟨_, rfl, ?_⟩; have n0_ := qS (Kd.R_below (by (with_reducible repeat (first | apply Kd.R_alloc | apply Kd.R_drewN | apply Kd.R_drew)); exact HO_187002.out) hb); have n1_ := qS (qB (g := gb168) (o := .cells #[.int .i64 a0_0, .int .i64 a0_1, .slice A0_2 l0_2.length c0_2] 95 (0, 0)) (by (with_reducible repeat (first | refine qN ?_ _ | refine qD ?_ | refine qA ?_ _)); exact BK168.out) hb); have n2_ := qS (qB (g := gb169) (o := .cells #[.int .i64 a0_0, .int .i64 a0_1, .slice A0_2 l0_2.length c0_2] 96 (0, 0)) (by (with_reducible repeat (first | refine qN ?_ _ | refine qD ?_ | refine qA ?_ _)); exact BK169.out) hb); have n3_ := qS (qB (g := gb186) (o := .cells #[.int .i64 a0_0, .int .i64 (wrap64 (a0_1 + 500)), .slice Ao54 y183.length co54] 96 (0, 0)) (by (with_reducible repeat (first | refine qN ?_ _ | refine qD ?_ | refine qA ?_ _)); exact BK186.out) hb); have n4_ := qS (qB (g := gb187) (o := .cells #[.int .i64 a0_0, .int .i64 (wrap64 (a0_1 + 500)), .slice A0_2 l0_2.length c0_2] 96 (0, 0)) (by (with_reducible repeat (first | refine qN ?_ _ | refine qD ?_ | refine qA ?_ _)); exact BK187.out) hb); have n5_ := qS (qB (g := gb192) (o := .cells #[.int .i64 t188, .int .i64 t189, .int .i64 t190] 105 (0, 0)) (by (with_reducible repeat (first | refine qN ?_ _ | refine qD ?_ | refine qA ?_ _)); exact BK192.out) hb); have n6_ := qS (qB (g := gb197) (o := .cells #[.int .i64 t193, .int .i64 t194, .int .i64 t195] 105 (0, 0)) (by (with_reducible repeat (first | refine qN ?_ _ | refine qD ?_ | refine qA ?_ _)); exact BK197.out) hb); have n7_ := qS (below_step (by repeat (first | (with_reducible first | exact HB.out | apply qpA | apply qpN | apply qp1 | refine qpS ?_ GE168.out | refine qpS ?_ GE169.out | refine qpS ?_ GE186.out | refine qpS ?_ GE187.out | refine qpS ?_ GE192.out | refine qpS ?_ GE197.out) | exact HB.out)) hb); clear HO_187002; clear BK168; clear BK169; clear BK186; clear BK187; clear BK192; clear BK197; clear HB; have HO_187002 := n0_; have BK168 := n1_; have BK169 := n2_; have BK186 := n3_; have BK187 := n4_; have BK192 := n5_; have BK197 := n6_; have HB := n7_; clear n0_ n1_ n2_ n3_ n4_ n5_ n6_ n7_; (try clear hb); (try clear hb2); (try clear hk); (try clear hi); (try simp only [errW_none, errW_some]); have hnb150 := NB187_168.out; have hnc150 := NB168_187.out; have hnb151 := NB187_169.out; have hnc151 := NB169_187.out; have hnb152 := NB187_192.out; have hnc152 := NB192_187.out; have hnb153 := NB187_197.out; have hnc153 := NB197_187.out; have hcz154_0 : w149.cell? ⟨gb187, 0, none⟩ = some (.int .i64 a0_0) := (qC BK187.out 0).trans rfl; have hcz154_1 : w149.cell? ⟨gb187, 1, none⟩ = some (.int .i64 (wrap64 (a0_1 + 500))) := (qC BK187.out 1).trans rfl; have hcz154_2 : w149.cell? ⟨gb187, 2, none⟩ = some (.slice A0_2 l0_2.length c0_2) := (qC BK187.out 2).trans rfl; have hfz154_0 := qF BK187.out 0; have hfz154_1 := qF BK187.out 1; have hfz154_2 := qF BK187.out 2) | ((with_reducible refine gate_callee (f := 50) rfl ?_); refine goesL_ (some 115) rfl rfl Tryd.func50 (by kernel_rfl) rfl #[.agg #[.int .i64 a0_0, .int .i64 (wrap64 (a0_1 + 500)), .slice A0_2 l0_2.length c0_2], .int .i64 a1] rfl (by (try simp only [List.map_toArray, List.map_cons, List.map_nil]); first | done | rfl | (simp only [*]; done) | (simp only [List.length_drop, List.length_take]; rfl) | (simp only [Act.eval, Array.getD_eq_getD_getElem?, Option.getD_some, *])) ?_; (with_reducible refine (leap_Begin.calls kj41 a0_0 (wrap64 (a0_1 + 500)) _ _ l0_2 a1 t202 (some q208) _ ?side1 ?side2 A97.out).mono ?_); (case side1 => repeat (first | exact (Kd.C_below HR0_2.out HB.out) | (with_reducible refine Kd.C_alloc ?_ _) | (with_reducible refine Kd.C_drewN ?_ _) | (with_reducible refine Kd.C_drew ?_))); (case side2 => exact HC0_2.out); rintro e w155 ⟨rfl, hb⟩; refine ⟨_, rfl, ?_⟩; have n0_ := qS (Kd.R_below (by (with_reducible repeat (first | apply Kd.R_alloc | apply Kd.R_drewN | apply Kd.R_drew)); exact HO_187002.out) hb); have n1_ := qS (qB (g := gb168) (o := .cells #[.int .i64 a0_0, .int .i64 a0_1, .slice A0_2 l0_2.length c0_2] 95 (0, 0)) (by (with_reducible repeat (first | refine qN ?_ _ | refine qD ?_ | refine qA ?_ _)); exact BK168.out) hb); have n2_ := qS (qB (g := gb169) (o := .cells #[.int .i64 a0_0, .int .i64 a0_1, .slice A0_2 l0_2.length c0_2] 96 (0, 0)) (by (with_reducible repeat (first | refine qN ?_ _ | refine qD ?_ | refine qA ?_ _)); exact BK169.out) hb); have n3_ := qS (qB (g := gb186) (o := .cells #[.int .i64 a0_0, .int .i64 (wrap64 (a0_1 + 500)), .slice Ao54 y183.length co54] 96 (0, 0)) (by (with_reducible repeat (first | refine qN ?_ _ | refine qD ?_ | refine qA ?_ _)); exact BK186.out) hb); have n4_ := qS (qB (g := gb187) (o := .cells #[.int .i64 a0_0, .int .i64 (wrap64 (a0_1 + 500)), .slice A0_2 l0_2.length c0_2] 96 (0, 0)) (by (with_reducible repeat (first | refine qN ?_ _ | refine qD ?_ | refine qA ?_ _)); exact BK187.out) hb); have n5_ := qS (qB (g := gb192) (o := .cells #[.int .i64 t188, .int .i64 t189, .int .i64 t190] 105 (0, 0)) (by (with_reducible repeat (first | refine qN ?_ _ | refine qD ?_ | refine qA ?_ _)); exact BK192.out) hb); have n6_ := qS (qB (g := gb197) (o := .cells #[.int .i64 t193, .int .i64 t194, .int .i64 t195] 105 (0, 0)) (by (with_reducible repeat (first | refine qN ?_ _ | refine qD ?_ | refine qA ?_ _)); exact BK197.out) hb); have n7_ := qS (below_step (by repeat (first | (with_reducible first | exact HB.out | apply qpA | apply qpN | apply qp1 | refine qpS ?_ GE168.out | refine qpS ?_ GE169.out | refine qpS ?_ GE186.out | refine qpS ?_ GE187.out | refine qpS ?_ GE192.out | refine qpS ?_ GE197.out) | exact HB.out)) hb); clear HO_187002; clear BK168; clear BK169; clear BK186; clear BK187; clear BK192; clear BK197; clear HB; have HO_187002 := n0_; have BK168 := n1_; have BK169 := n2_; have BK186 := n3_; have BK187 := n4_; have BK192 := n5_; have BK197 := n6_; have HB := n7_; clear n0_ n1_ n2_ n3_ n4_ n5_ n6_ n7_; (try clear hb); (try clear hb2); (try clear hk); (try clear hi); (try simp only [errW_none, errW_some])))
             have n0_ := qS (Kd.R_drew HO_187002.out)
             have n1_ := qS (qD BK168.out)
             have n2_ := qS (qD BK169.out)
             have n3_ := qS (qD BK186.out)
             have n4_ := qS (qD BK187.out)
             have n5_ := qS (qD BK192.out)
             have n6_ := qS (qD BK197.out)
             have n7_ := qS (qp1 HB.out)
             clear HO_187002
             clear BK168
             clear BK169
             clear BK186
             clear BK187
             clear BK192
             clear BK197
             clear HB
             have HO_187002 := n0_
             have BK168 := n1_
             have BK169 := n2_
             have BK186 := n3_
             have BK187 := n4_
             have BK192 := n5_
             have BK197 := n6_
             have HB := n7_
             clear n0_ n1_ n2_ n3_ n4_ n5_ n6_ n7_
             refine start_ (n := 5) (S := fun w' => True) (ds := []) #[false, false, false, false, false] (by kernel_rfl) rfl rfl trivial (fun hHeld => ?_)
             generalize w155.drew = w156 at HO_187002 BK168 BK169 BK186 BK187 BK192 BK197 HB hHeld ⊢
             refine pure_ (i := 0) (N := some 118) (v := ?_) (a' := ?_) #[true, false, false, false, false] rfl rfl (by kernel_rfl) (fun _ _ _ h => h) (Or.inl ⟨by rfl, ?_⟩) ?_ ?_
             rotate_left
             ·intro w'
              go_simp
              with_reducible rfl
             rotate_left
             ·simp only [Act.put, List.setIfInBounds_toArray, List.set_cons_zero, List.set_cons_succ, i64_w, i32_w]
              rfl
             refine pure_ (i := 1) (N := some 119) (v := ?_) (a' := ?_) #[true, true, false, false, false] rfl rfl (by kernel_rfl) (fun _ _ _ h => h) (Or.inl ⟨by rfl, ?_⟩) ?_ ?_
             rotate_left
             ·intro w'
              go_simp
              with_reducible rfl
             rotate_left
             ·simp only [Act.put, List.setIfInBounds_toArray, List.set_cons_zero, List.set_cons_succ, i64_w, i32_w]
              rfl
             refine pure_ (i := 2) (N := some 120) (v := ?_) (a' := ?_) #[true, true, true, false, false] rfl rfl (by kernel_rfl) (fun _ _ _ h => h) (Or.inl ⟨by rfl, ?_⟩) ?_ ?_
             rotate_left
             ·intro w'
              go_simp
              with_reducible rfl
             rotate_left
             ·simp only [Act.put, List.setIfInBounds_toArray, List.set_cons_zero, List.set_cons_succ, i64_w, i32_w]
              rfl
             refine pure_ (i := 3) (N := some 121) (v := ?_) (a' := ?_) #[true, true, true, true, false] rfl rfl (by kernel_rfl) (fun _ _ _ h => h) (Or.inl ⟨by rfl, ?_⟩) ?_ ?_
             rotate_left
             ·intro w'
              go_simp
              with_reducible rfl
             rotate_left
             ·simp only [Act.put, List.setIfInBounds_toArray, List.set_cons_zero, List.set_cons_succ, i64_w, i32_w]
              rfl
             refine pure_ (i := 4) (N := some 122) (v := ?_) (a' := ?_) #[true, true, true, true, true] rfl rfl (by kernel_rfl) (fun _ _ _ h => h) (Or.inl ⟨by rfl, ?_⟩) ?_ ?_
             rotate_left
             ·intro w'
              go_simp
              with_reducible rfl
             rotate_left
             ·simp only [Act.put, List.setIfInBounds_toArray, List.set_cons_zero, List.set_cons_succ, i64_w, i32_w]
              rfl
             refine done_ (by kernel_rfl) ?_
             try go_wp2_with (first | (go_at_call 47; (with_reducible refine (fuseelaw09_sure.calls kj41  t209 _ ?side1 A142.out).mono ?_); (case side1 => exact HG.below hgL (Nat.le_refl _) (by repeat (first | (with_reducible first | exact HB.out | apply qpA | apply qpN | apply qp1 | refine qpS ?_ GE168.out | refine qpS ?_ GE169.out | refine qpS ?_ GE186.out | refine qpS ?_ GE187.out | refine qpS ?_ GE192.out | refine qpS ?_ GE197.out) | exact HB.out))); rintro e w157 ⟨rfl, hb⟩; have n0_ := qS (Kd.R_below (by (with_reducible repeat (first | apply Kd.R_alloc | apply Kd.R_drewN | apply Kd.R_drew)); exact HO_187002.out) hb); have n1_ := qS (qB (g := gb168) (o := .cells #[.int .i64 a0_0, .int .i64 a0_1, .slice A0_2 l0_2.length c0_2] 95 (0, 0)) (by (with_reducible repeat (first | refine qN ?_ _ | refine qD ?_ | refine qA ?_ _)); exact BK168.out) hb); have n2_ := qS (qB (g := gb169) (o := .cells #[.int .i64 a0_0, .int .i64 a0_1, .slice A0_2 l0_2.length c0_2] 96 (0, 0)) (by (with_reducible repeat (first | refine qN ?_ _ | refine qD ?_ | refine qA ?_ _)); exact BK169.out) hb); have n3_ := qS (qB (g := gb186) (o := .cells #[.int .i64 a0_0, .int .i64 (wrap64 (a0_1 + 500)), .slice Ao54 y183.length co54] 96 (0, 0)) (by (with_reducible repeat (first | refine qN ?_ _ | refine qD ?_ | refine qA ?_ _)); exact BK186.out) hb); have n4_ := qS (qB (g := gb187) (o := .cells #[.int .i64 a0_0, .int .i64 (wrap64 (a0_1 + 500)), .slice A0_2 l0_2.length c0_2] 96 (0, 0)) (by (with_reducible repeat (first | refine qN ?_ _ | refine qD ?_ | refine qA ?_ _)); exact BK187.out) hb); have n5_ := qS (qB (g := gb192) (o := .cells #[.int .i64 t188, .int .i64 t189, .int .i64 t190] 105 (0, 0)) (by (with_reducible repeat (first | refine qN ?_ _ | refine qD ?_ | refine qA ?_ _)); exact BK192.out) hb); have n6_ := qS (qB (g := gb197) (o := .cells #[.int .i64 t193, .int .i64 t194, .int .i64 t195] 105 (0, 0)) (by (with_reducible repeat (first | refine qN ?_ _ | refine qD ?_ | refine qA ?_ _)); exact BK197.out) hb); have n7_ := qS (below_step (by repeat (first | (with_reducible first | exact HB.out | apply qpA | apply qpN | apply qp1 | refine qpS ?_ GE168.out | refine qpS ?_ GE169.out | refine qpS ?_ GE186.out | refine qpS ?_ GE187.out | refine qpS ?_ GE192.out | refine qpS ?_ GE197.out) | exact HB.out)) hb); clear HO_187002; clear BK168; clear BK169; clear BK186; clear BK187; clear BK192; clear BK197; clear HB; have HO_187002 := n0_; have BK168 := n1_; have BK169 := n2_; have BK186 := n3_; have BK187 := n4_; have BK192 := n5_; have BK197 := n6_; have HB := n7_; clear n0_ n1_ n2_ n3_ n4_ n5_ n6_ n7_; (try clear hb); (try clear hb2); (try clear hk); (try clear hi)))
             go_ret
             exact ⟨by first | rfl | (simp [errW_none, errW_some] <;> rfl) | (simp [*, errW_none, errW_some] <;> rfl), by repeat (first | (with_reducible first | exact HB.out | apply qpA | apply qpN | apply qp1 | refine qpS ?_ GE168.out | refine qpS ?_ GE169.out | refine qpS ?_ GE186.out | refine qpS ?_ GE187.out | refine qpS ?_ GE192.out | refine qpS ?_ GE197.out) | exact HB.out)⟩
           ·rw [if_neg c141] at H
            exact absurd H (by simp)
     ·rw [if_neg c39] at H
      exact absurd H (by simp)
    ·rw [if_neg c38] at H
     exact absurd H (by simp)

end Go.Proofs.YtnlaiiophongmaaDoor.MLeapMore
