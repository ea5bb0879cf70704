/- Printed by wip/gen/mp.py: Go functions as plain Lean functions, and that the calls do what these say. -/
import Derived.Test.YtcpbfckmngbgdaaDoorMHox0
import Derived.Test.YtcpbfckmngbgdaaDoorMHox1
import Derived.Test.YtcpbfckmngbgdaaDoorMHox2
import Derived.Test.YtcpbfckmngbgdaaDoorMHox3
import Derived.Test.YtcpbfckmngbgdaaDoorMHox4
namespace Go.Proofs.YtcpbfckmngbgdaaDoor.MHo
open Go.RowKit Go.Proofs.YtcpbfckmngbgdaaDoorW.PrintWords Go.Proofs.YtcpbfckmngbgdaaDoorW.PrintLast Go.Proofs.YtcpbfckmngbgdaaDoorW.PrintMore
attribute [local go_sem] conv_fl eq_fl eq_fl2 max2_int min2_int max_two min_two max_three min_three max_four min_four   -- for this text's walks alone
set_option linter.unusedVariables false
set_option linter.unusedSimpArgs false
abbrev ce5_0 (x0 : Int) (x1 : Int) (x2 : Int) (x3 : Int) (x4 : Int) (x5 : Int) (x6 : Int) (x7 : Bool) (x8 : Int) (x9 : Int) (x10 : Int) (x11 : Int) (x12 : Int) : Array Value := #[.int .u32 x0, .int .i64 x1, .int .i64 x2, .int .i64 x3, .int .i64 x4, .int .i64 x5, .int .i64 x6, .bool x7, .int .i64 x8, .int .i64 x9, .int .i64 x10, .int .i64 x11, .int .i64 x12]

attribute [local go_sem high] eqA217
/-! ### wide_Div: function 127 -/
def wide_Div.f : Nat → Int → Int → Int → Option (Int × Int × Int × Option Int)
 | 0, _, _, _ => none
 | k + 1, a0_0, a0_1, a1 => if a1 < 1 then (some (0, 0, 0, some 1)) else (if a0_0 < 0 then ((wide_Div.f k (Go.bits .xor .i64 (-1) a0_0) (Go.bits .xor .u64 18446744073709551615 a0_1) a1).bind fun bt121 => (some (Go.bits .xor .i64 (-1) bt121.1, Go.bits .xor .u64 18446744073709551615 bt121.2.1, wrap64 ((wrap64 (a1 - 1)) - bt121.2.2.1), bt121.2.2.2))) else ((bits_Div64.f k 0 (IntKind.u64.wrap (a0_0)) (IntKind.u64.wrap (a1))).bind fun bt126 => ((bits_Div64.f k bt126.2 a0_1 (IntKind.u64.wrap (a1))).bind fun bt128 => (some (wrap64 (bt126.1), bt128.1, wrap64 (bt128.2), none)))))
theorem wide_Div.mono_l : ∀ k, (∀ y0 y1 y2, LeO (wide_Div.f k y0 y1 y2) (wide_Div.f (k + 1) y0 y1 y2))
 | 0 => fun _ _ _ r h => by simp [wide_Div.f] at h
 | k + 1 => by
  have ih0 := wide_Div.mono_l k
  ·intro y0 y1 y2
   unfold wide_Div.f
   repeat' first
   | (with_reducible exact ih0 _ _ _)
   | (with_reducible exact bits_Div64.mono _ _ _ _)
   | (with_reducible exact LeO.refl _)
   | (with_reducible exact LeO.none _)
   | (with_reducible refine LeO.ite ?_ ?_)
   | (with_reducible refine LeO.bind ?_ (fun _ => ?_))
   | exact ih0 _ _ _
   | exact bits_Div64.mono _ _ _ _
   | exact LeO.none _
   | refine LeO.ite ?_ ?_
   | refine LeO.bind ?_ (fun _ => ?_)
theorem wide_Div.mono : ∀ a0 a1 a2 k, LeO (wide_Div.f k a0 a1 a2) (wide_Div.f (k + 1) a0 a1 a2) := by
 intro a0 a1 a2 k
 have ih0 := wide_Div.mono_l k
 exact ih0 a0 a1 a2
set_option maxHeartbeats 8000000 in
set_option maxRecDepth 100000 in
theorem wide_Div.calls (k : Nat) : ∀ (a0_0 : Int) (a0_1 : Int) (a1 : Int) (r1 : Int) (r2 : Int) (r3 : Int) (r4 : Option Int) (w : World) (h : wide_Div.f k a0_0 a0_1 a1 = some (r1, r2, r3, r4)),
  Calls Tryd.prog 127 #[.agg #[.int .i64 a0_0, .int .u64 a0_1], .int .i64 a1] w fun e w' => e = .returned (.tuple #[.agg #[.int .i64 r1, .int .u64 r2], .int .i64 r3, errW r4]) ∧ Below w.heap.size w w' := by
 induction k using Nat.strongRecOn with
 | _ k ih =>
 intro a0_0 a0_1 a1 r1 r2 r3 r4 w h
 cases k with
 | zero => exact absurd h (by simp [wide_Div.f])
 | succ k =>
 simp only [wide_Div.f] at h
 have hu217 := Tryd.underlying217
 have hu31 := Tryd.underlying31
 have hu162 := Tryd.underlying162
 have HB := qS (Below.refl w.heap.size w)
 have H : (if a1 < 1 then (some (0, 0, 0, some 1)) else (if a0_0 < 0 then ((wide_Div.f k (Go.bits .xor .i64 (-1) a0_0) (Go.bits .xor .u64 18446744073709551615 a0_1) a1).bind fun bt121 => (some (Go.bits .xor .i64 (-1) bt121.1, Go.bits .xor .u64 18446744073709551615 bt121.2.1, wrap64 ((wrap64 (a1 - 1)) - bt121.2.2.1), bt121.2.2.2))) else ((bits_Div64.f k 0 (IntKind.u64.wrap (a0_0)) (IntKind.u64.wrap (a1))).bind fun bt126 => ((bits_Div64.f k bt126.2 a0_1 (IntKind.u64.wrap (a1))).bind fun bt128 => (some (wrap64 (bt126.1), bt128.1, wrap64 (bt128.2), none)))))) = some (r1, r2, r3, r4) := h
 clear h
 by_cases c3 : a1 < 1
 ·rw [if_pos c3] at H
  have c3b0 : decide (a1 < 1) = true := decide_eq_true c3
  clear c3
  as_aux_lemma =>
   simp only [Option.some.injEq, Prod.mk.injEq] at H
   obtain ⟨rfl, rfl, rfl, rfl⟩ := H
   go_enter Tryd.func127, Tryd.ntmps127
   go_wp2_with (first | ((with_reducible refine gate_dst (N := 2) rfl ?_); refine box_event ?hg (N := 2) ?hd (cs := #[.int .i64 a0_0, .int .u64 a0_1]) (t := 217) ?hr ?_; (case hd => rfl); (case hg => rfl); (case hr => first | (go_simp; done) | (go_simp; rfl)); intro gb119 hg w4 hbox hb; have n0_ := qS (below_step (bW0 HB.out) hb); have n1_ := qS (hbox); have n2_ := qS ((by rw [hg]; exact (below_size (bW0 HB.out)) : w.heap.size ≤ gb119)); have n3_ := qS ((by rw [hg]; exact (below_size (bW0 HB.out)) : w.heap.size ≤ gb119)); clear HB; have HB := n0_; have BK119 := n1_; have GW119 := n2_; have GE119 := n3_; clear n0_ n1_ n2_ n3_; clear hb hbox hg) | ((with_reducible refine gate_dst (N := 4) rfl ?_); refine box_event ?hg (N := 4) ?hd (cs := #[.int .i64 0, .int .u64 0]) (t := 217) ?hr ?_; (case hd => rfl); (case hg => rfl); (case hr => first | (go_simp; done) | (go_simp; rfl)); intro gb120 hg w5 hbox hb; have n0_ := qS (qB (g := gb119) (o := .cells #[.int .i64 a0_0, .int .u64 a0_1] 217 (0, 0)) (qW BK119.out) hb); have n1_ := qS (below_step (bW1 HB.out GE119.out) hb); have n2_ := qS (hbox); have n3_ := qS ((by rw [hg]; exact (below_size (bW1 HB.out GE119.out)) : w.heap.size ≤ gb120)); have n4_ := qS ((by rw [hg]; exact (below_size (bW1 HB.out GE119.out)) : w.heap.size ≤ gb120)); have n5_ := qS ((by rw [hg]; exact Nat.ne_of_lt (blk_lt (g := gb119) (o := .cells #[.int .i64 a0_0, .int .u64 a0_1] 217 (0, 0)) (qW BK119.out)) : gb119 ≠ gb120)); have n6_ := qS ((by rw [hg]; exact Nat.ne_of_gt (blk_lt (g := gb119) (o := .cells #[.int .i64 a0_0, .int .u64 a0_1] 217 (0, 0)) (qW BK119.out)) : gb120 ≠ gb119)); clear BK119; clear HB; have BK119 := n0_; have HB := n1_; have BK120 := n2_; have GW120 := n3_; have GE120 := n4_; have NB119_120 := n5_; have NB120_119 := n6_; clear n0_ n1_ n2_ n3_ n4_ n5_ n6_; clear hb hbox hg; have hnb6 := NB120_119.out; have hnc6 := NB119_120.out; have hcz7_0 : w5.cell? ⟨gb120, 0, none⟩ = some (.int .i64 0) := (qC BK120.out 0).trans rfl; have hcz7_1 : w5.cell? ⟨gb120, 1, none⟩ = some (.int .u64 0) := (qC BK120.out 1).trans rfl; have hfz7_0 := qF BK120.out 0; have hfz7_1 := qF BK120.out 1))
   refine bodyPost_ret (results_ctt rfl _ _ gb120 217 #[.int .i64 0, .int .u64 0] (0, 0) _ rfl (by (with_reducible repeat (first | refine qN ?_ _ | refine qD ?_ | refine qA ?_ _)); refine blk_put (cs := #[.int .i64 0, .int .u64 0]) ?_ 1 _ rfl; (with_reducible repeat (first | refine qN ?_ _ | refine qD ?_ | refine qA ?_ _)); refine blk_put (cs := #[.int .i64 0, .int .u64 0]) ?_ 0 _ rfl; (with_reducible repeat (first | refine qN ?_ _ | refine qD ?_ | refine qA ?_ _)); exact BK120.out) Tryd.underlying217 rfl (by kernel_rfl)) rfl ?_
   exact ⟨by first | rfl | (simp [errW_none, errW_some] <;> rfl) | (simp [*, errW_none, errW_some] <;> rfl), by repeat (first | (with_reducible first | exact HB.out | apply qpA | apply qpN | apply qp1 | refine qpS ?_ GE119.out | refine qpS ?_ GE120.out) | exact HB.out)⟩
 ·rw [if_neg c3] at H
  have c3b0 : decide (a1 < 1) = false := decide_eq_false c3
  clear c3
  by_cases c8 : a0_0 < 0
  ·rw [if_pos c8] at H
   have c8b0 : decide (a0_0 < 0) = true := decide_eq_true c8
   clear c8
   replace H := Option.bind_eq_some_iff.mp H
   obtain ⟨⟨t121, t122, t123, t124⟩, A90, H⟩ := H
   replace H : (some (Go.bits .xor .i64 (-1) t121, Go.bits .xor .u64 18446744073709551615 t122, wrap64 ((wrap64 (a1 - 1)) - t123), t124)) = some (r1, r2, r3, r4) := H
   have A9 := qS A90
   clear A90
   as_aux_lemma =>
    simp only [Option.some.injEq, Prod.mk.injEq] at H
    obtain ⟨rfl, rfl, rfl, rfl⟩ := H
    go_enter Tryd.func127, Tryd.ntmps127
    go_wp2_with (first | ((with_reducible refine gate_dst (N := 2) rfl ?_); refine box_event ?hg (N := 2) ?hd (cs := #[.int .i64 a0_0, .int .u64 a0_1]) (t := 217) ?hr ?_; (case hd => rfl); (case hg => rfl); (case hr => first | (go_simp; done) | (go_simp; rfl)); intro gb119 hg w10 hbox hb; have n0_ := qS (below_step (bW0 HB.out) hb); have n1_ := qS (hbox); have n2_ := qS ((by rw [hg]; exact (below_size (bW0 HB.out)) : w.heap.size ≤ gb119)); have n3_ := qS ((by rw [hg]; exact (below_size (bW0 HB.out)) : w.heap.size ≤ gb119)); clear HB; have HB := n0_; have BK119 := n1_; have GW119 := n2_; have GE119 := n3_; clear n0_ n1_ n2_ n3_; clear hb hbox hg) | ((with_reducible refine gate_dst (N := 4) rfl ?_); refine box_event ?hg (N := 4) ?hd (cs := #[.int .i64 0, .int .u64 0]) (t := 217) ?hr ?_; (case hd => rfl); (case hg => rfl); (case hr => first | (go_simp; done) | (go_simp; rfl)); intro gb120 hg w11 hbox hb; have n0_ := qS (qB (g := gb119) (o := .cells #[.int .i64 a0_0, .int .u64 a0_1] 217 (0, 0)) (qW BK119.out) hb); have n1_ := qS (below_step (bW1 HB.out GE119.out) hb); have n2_ := qS (hbox); have n3_ := qS ((by rw [hg]; exact (below_size (bW1 HB.out GE119.out)) : w.heap.size ≤ gb120)); have n4_ := qS ((by rw [hg]; exact (below_size (bW1 HB.out GE119.out)) : w.heap.size ≤ gb120)); have n5_ := qS ((by rw [hg]; exact Nat.ne_of_lt (blk_lt (g := gb119) (o := .cells #[.int .i64 a0_0, .int .u64 a0_1] 217 (0, 0)) (qW BK119.out)) : gb119 ≠ gb120)); have n6_ := qS ((by rw [hg]; exact Nat.ne_of_gt (blk_lt (g := gb119) (o := .cells #[.int .i64 a0_0, .int .u64 a0_1] 217 (0, 0)) (qW BK119.out)) : gb120 ≠ gb119)); clear BK119; clear HB; have BK119 := n0_; have HB := n1_; have BK120 := n2_; have GW120 := n3_; have GE120 := n4_; have NB119_120 := n5_; have NB120_119 := n6_; clear n0_ n1_ n2_ n3_ n4_ n5_ n6_; clear hb hbox hg; have hnb12 := NB119_120.out; have hnc12 := NB120_119.out; have hcz13_0 : w11.cell? ⟨gb119, 0, none⟩ = some (.int .i64 a0_0) := (qC BK119.out 0).trans rfl; have hcz13_1 : w11.cell? ⟨gb119, 1, none⟩ = some (.int .u64 a0_1) := (qC BK119.out 1).trans rfl; have hfz13_0 := qF BK119.out 0; have hfz13_1 := qF BK119.out 1) | ((with_reducible refine gate_callee (f := 127) rfl ?_); refine goesL_ (some 29) rfl rfl Tryd.func127 (by kernel_rfl) rfl #[.agg #[.int .i64 (Go.bits .xor .i64 (-1) a0_0), .int .u64 (Go.bits .xor .u64 18446744073709551615 a0_1)], .int .i64 a1] rfl (by (try simp only [List.map_toArray, List.map_cons, List.map_nil]); first | done | rfl | (simp only [*]; done) | (simp only [List.length_drop, List.length_take]; rfl) | (simp only [Act.eval, Array.getD_eq_getD_getElem?, Option.getD_some, *])) ?_; (with_reducible refine (ih k (by omega) (Go.bits .xor .i64 (-1) a0_0) (Go.bits .xor .u64 18446744073709551615 a0_1) a1 t121 t122 t123 t124 _ A9.out).mono ?_); rintro e w14 ⟨rfl, hb⟩; refine ⟨_, rfl, ?_⟩; have n0_ := qS (qB (g := gb119) (o := .cells #[.int .i64 a0_0, .int .u64 a0_1] 217 (0, 0)) (qW BK119.out) hb); have n1_ := qS (qB (g := gb120) (o := .cells #[.int .i64 0, .int .u64 0] 217 (0, 0)) (qW BK120.out) hb); have n2_ := qS (below_step (bW2 HB.out GE119.out GE120.out) hb); clear BK119; clear BK120; clear HB; have BK119 := n0_; have BK120 := n1_; have HB := n2_; clear n0_ n1_ n2_; (try clear hb); (try clear hb2); (try clear hk); (try clear hi); (try simp only [errW_none, errW_some])) | ((with_reducible refine gate_dst (N := 7) rfl ?_); refine box_event ?hg (N := 7) ?hd (cs := #[.int .i64 0, .int .u64 0]) (t := 217) ?hr ?_; (case hd => rfl); (case hg => rfl); (case hr => first | (go_simp; done) | (go_simp; rfl)); intro gb125 hg w15 hbox hb; have n0_ := qS (qB (g := gb119) (o := .cells #[.int .i64 a0_0, .int .u64 a0_1] 217 (0, 0)) (qW BK119.out) hb); have n1_ := qS (qB (g := gb120) (o := .cells #[.int .i64 0, .int .u64 0] 217 (0, 0)) (qW BK120.out) hb); have n2_ := qS (below_step (bW2 HB.out GE119.out GE120.out) hb); have n3_ := qS (hbox); have n4_ := qS ((by rw [hg]; exact (below_size (bW2 HB.out GE119.out GE120.out)) : w.heap.size ≤ gb125)); have n5_ := qS ((by rw [hg]; exact (below_size (bW2 HB.out GE119.out GE120.out)) : w.heap.size ≤ gb125)); have n6_ := qS ((by rw [hg]; exact Nat.ne_of_lt (blk_lt (g := gb119) (o := .cells #[.int .i64 a0_0, .int .u64 a0_1] 217 (0, 0)) (qW BK119.out)) : gb119 ≠ gb125)); have n7_ := qS ((by rw [hg]; exact Nat.ne_of_gt (blk_lt (g := gb119) (o := .cells #[.int .i64 a0_0, .int .u64 a0_1] 217 (0, 0)) (qW BK119.out)) : gb125 ≠ gb119)); have n8_ := qS ((by rw [hg]; exact Nat.ne_of_lt (blk_lt (g := gb120) (o := .cells #[.int .i64 0, .int .u64 0] 217 (0, 0)) (qW BK120.out)) : gb120 ≠ gb125)); have n9_ := qS ((by rw [hg]; exact Nat.ne_of_gt (blk_lt (g := gb120) (o := .cells #[.int .i64 0, .int .u64 0] 217 (0, 0)) (qW BK120.out)) : gb125 ≠ gb120)); clear BK119; clear BK120; clear HB; have BK119 := n0_; have BK120 := n1_; have HB := n2_; have BK125 := n3_; have GW125 := n4_; have GE125 := n5_; have NB119_125 := n6_; have NB125_119 := n7_; have NB120_125 := n8_; have NB125_120 := n9_; clear n0_ n1_ n2_ n3_ n4_ n5_ n6_ n7_ n8_ n9_; clear hb hbox hg; have hnb16 := NB125_119.out; have hnc16 := NB119_125.out; have hnb17 := NB125_120.out; have hnc17 := NB120_125.out; have hcz18_0 : w15.cell? ⟨gb125, 0, none⟩ = some (.int .i64 0) := (qC BK125.out 0).trans rfl; have hcz18_1 : w15.cell? ⟨gb125, 1, none⟩ = some (.int .u64 0) := (qC BK125.out 1).trans rfl; have hfz18_0 := qF BK125.out 0; have hfz18_1 := qF BK125.out 1; have hcz19_0 : w15.cell? ⟨gb120, 0, none⟩ = some (.int .i64 0) := (qC BK120.out 0).trans rfl; have hcz19_1 : w15.cell? ⟨gb120, 1, none⟩ = some (.int .u64 0) := (qC BK120.out 1).trans rfl; have hfz19_0 := qF BK120.out 0; have hfz19_1 := qF BK120.out 1))
    refine bodyPost_ret (results_ctt rfl _ _ gb120 217 #[.int .i64 (Go.bits .xor .i64 (-1) t121), .int .u64 (Go.bits .xor .u64 18446744073709551615 t122)] (0, 0) _ rfl (by (with_reducible repeat (first | refine qN ?_ _ | refine qD ?_ | refine qA ?_ _)); refine blk_put (cs := #[.int .i64 (Go.bits .xor .i64 (-1) t121), .int .u64 0]) ?_ 1 _ rfl; (with_reducible repeat (first | refine qN ?_ _ | refine qD ?_ | refine qA ?_ _)); refine blk_put (cs := #[.int .i64 0, .int .u64 0]) ?_ 0 _ rfl; (with_reducible repeat (first | refine qN ?_ _ | refine qD ?_ | refine qA ?_ _)); refine blk_far ?_ NB120_125.out _; (with_reducible repeat (first | refine qN ?_ _ | refine qD ?_ | refine qA ?_ _)); refine blk_far ?_ NB120_125.out _; (with_reducible repeat (first | refine qN ?_ _ | refine qD ?_ | refine qA ?_ _)); exact BK120.out) Tryd.underlying217 rfl (by kernel_rfl)) rfl ?_
    exact ⟨by first | rfl | (simp [errW_none, errW_some] <;> rfl) | (simp [*, errW_none, errW_some] <;> rfl), by repeat (first | (with_reducible first | exact HB.out | apply qpA | apply qpN | apply qp1 | refine qpS ?_ GE119.out | refine qpS ?_ GE120.out | refine qpS ?_ GE125.out) | exact HB.out)⟩
  ·rw [if_neg c8] at H
   have c8b0 : decide (a0_0 < 0) = false := decide_eq_false c8
   clear c8
   replace H := Option.bind_eq_some_iff.mp H
   obtain ⟨⟨t126, t127⟩, A200, H⟩ := H
   replace H : ((bits_Div64.f k t127 a0_1 (IntKind.u64.wrap (a1))).bind fun bt128 => (some (wrap64 (t126), bt128.1, wrap64 (bt128.2), none))) = some (r1, r2, r3, r4) := H
   have A20 := qS A200
   clear A200
   replace H := Option.bind_eq_some_iff.mp H
   obtain ⟨⟨t128, t129⟩, A210, H⟩ := H
   replace H : (some (wrap64 (t126), t128, wrap64 (t129), none)) = some (r1, r2, r3, r4) := H
   have A21 := qS A210
   clear A210
   as_aux_lemma =>
    simp only [Option.some.injEq, Prod.mk.injEq] at H
    obtain ⟨rfl, rfl, rfl, rfl⟩ := H
    go_enter Tryd.func127, Tryd.ntmps127
    go_wp2_with (first | ((with_reducible refine gate_dst (N := 2) rfl ?_); refine box_event ?hg (N := 2) ?hd (cs := #[.int .i64 a0_0, .int .u64 a0_1]) (t := 217) ?hr ?_; (case hd => rfl); (case hg => rfl); (case hr => first | (go_simp; done) | (go_simp; rfl)); intro gb119 hg w22 hbox hb; have n0_ := qS (below_step (bW0 HB.out) hb); have n1_ := qS (hbox); have n2_ := qS ((by rw [hg]; exact (below_size (bW0 HB.out)) : w.heap.size ≤ gb119)); have n3_ := qS ((by rw [hg]; exact (below_size (bW0 HB.out)) : w.heap.size ≤ gb119)); clear HB; have HB := n0_; have BK119 := n1_; have GW119 := n2_; have GE119 := n3_; clear n0_ n1_ n2_ n3_; clear hb hbox hg) | ((with_reducible refine gate_dst (N := 4) rfl ?_); refine box_event ?hg (N := 4) ?hd (cs := #[.int .i64 0, .int .u64 0]) (t := 217) ?hr ?_; (case hd => rfl); (case hg => rfl); (case hr => first | (go_simp; done) | (go_simp; rfl)); intro gb120 hg w23 hbox hb; have n0_ := qS (qB (g := gb119) (o := .cells #[.int .i64 a0_0, .int .u64 a0_1] 217 (0, 0)) (qW BK119.out) hb); have n1_ := qS (below_step (bW1 HB.out GE119.out) hb); have n2_ := qS (hbox); have n3_ := qS ((by rw [hg]; exact (below_size (bW1 HB.out GE119.out)) : w.heap.size ≤ gb120)); have n4_ := qS ((by rw [hg]; exact (below_size (bW1 HB.out GE119.out)) : w.heap.size ≤ gb120)); have n5_ := qS ((by rw [hg]; exact Nat.ne_of_lt (blk_lt (g := gb119) (o := .cells #[.int .i64 a0_0, .int .u64 a0_1] 217 (0, 0)) (qW BK119.out)) : gb119 ≠ gb120)); have n6_ := qS ((by rw [hg]; exact Nat.ne_of_gt (blk_lt (g := gb119) (o := .cells #[.int .i64 a0_0, .int .u64 a0_1] 217 (0, 0)) (qW BK119.out)) : gb120 ≠ gb119)); clear BK119; clear HB; have BK119 := n0_; have HB := n1_; have BK120 := n2_; have GW120 := n3_; have GE120 := n4_; have NB119_120 := n5_; have NB120_119 := n6_; clear n0_ n1_ n2_ n3_ n4_ n5_ n6_; clear hb hbox hg; have hnb24 := NB119_120.out; have hnc24 := NB120_119.out; have hcz25_0 : w23.cell? ⟨gb119, 0, none⟩ = some (.int .i64 a0_0) := (qC BK119.out 0).trans rfl; have hcz25_1 : w23.cell? ⟨gb119, 1, none⟩ = some (.int .u64 a0_1) := (qC BK119.out 1).trans rfl; have hfz25_0 := qF BK119.out 0; have hfz25_1 := qF BK119.out 1) | ((with_reducible refine gate_callee (f := 172) rfl ?_); refine goesL_ (some 51) rfl rfl Tryd.func172 (by kernel_rfl) rfl #[.int .u64 0, .int .u64 (IntKind.u64.wrap (a0_0)), .int .u64 (IntKind.u64.wrap (a1))] rfl (by (try simp only [List.map_toArray, List.map_cons, List.map_nil]); first | done | rfl | (simp only [*]; done) | (simp only [List.length_drop, List.length_take]; rfl) | (simp only [Act.eval, Array.getD_eq_getD_getElem?, Option.getD_some, *])) ?_; (with_reducible refine (bits_Div64.calls k 0 (IntKind.u64.wrap (a0_0)) (IntKind.u64.wrap (a1)) t126 t127 _ A20.out).mono ?_); rintro e w' ⟨rfl, ⟨nd, rfl⟩⟩; refine ⟨_, rfl, ?_⟩; (try (rw [drewN_self w23]; generalize hq_ : World.drewN w23 _ = w23; have n0_ : Aside0 (w23.heap[gb119]? = some (.cells #[.int .i64 a0_0, .int .u64 a0_1] 217 (0, 0))) := ⟨by rw [← hq_]; exact (qW BK119.out)⟩; have n1_ : Aside0 (w23.heap[gb120]? = some (.cells #[.int .i64 0, .int .u64 0] 217 (0, 0))) := ⟨by rw [← hq_]; exact (qW BK120.out)⟩; have n2_ : Aside0 (Below w.heap.size w w23) := ⟨by rw [← hq_]; exact (bW2 HB.out GE119.out GE120.out)⟩; clear BK119 BK120 HB hq_; have BK119 := n0_; have BK120 := n1_; have HB := n2_; clear n0_ n1_ n2_)); have hcz26_0 : w23.cell? ⟨gb119, 0, none⟩ = some (.int .i64 a0_0) := (qC BK119.out 0).trans rfl; have hcz26_1 : w23.cell? ⟨gb119, 1, none⟩ = some (.int .u64 a0_1) := (qC BK119.out 1).trans rfl; have hfz26_0 := qF BK119.out 0; have hfz26_1 := qF BK119.out 1) | ((with_reducible refine gate_callee (f := 172) rfl ?_); refine goesL_ (some 60) rfl rfl Tryd.func172 (by kernel_rfl) rfl #[.int .u64 t127, .int .u64 a0_1, .int .u64 (IntKind.u64.wrap (a1))] rfl (by (try simp only [List.map_toArray, List.map_cons, List.map_nil]); first | done | rfl | (simp only [*]; done) | (simp only [List.length_drop, List.length_take]; rfl) | (simp only [Act.eval, Array.getD_eq_getD_getElem?, Option.getD_some, *])) ?_; (with_reducible refine (bits_Div64.calls k t127 a0_1 (IntKind.u64.wrap (a1)) t128 t129 _ A21.out).mono ?_); rintro e w' ⟨rfl, ⟨nd, rfl⟩⟩; refine ⟨_, rfl, ?_⟩; (try (rw [drewN_self w23]; generalize hq_ : World.drewN w23 _ = w23; have n0_ : Aside0 (w23.heap[gb119]? = some (.cells #[.int .i64 a0_0, .int .u64 a0_1] 217 (0, 0))) := ⟨by rw [← hq_]; exact (qW BK119.out)⟩; have n1_ : Aside0 (w23.heap[gb120]? = some (.cells #[.int .i64 0, .int .u64 0] 217 (0, 0))) := ⟨by rw [← hq_]; exact (qW BK120.out)⟩; have n2_ : Aside0 (Below w.heap.size w w23) := ⟨by rw [← hq_]; exact (bW2 HB.out GE119.out GE120.out)⟩; clear BK119 BK120 HB hq_; have BK119 := n0_; have BK120 := n1_; have HB := n2_; clear n0_ n1_ n2_)); have hcz27_0 : w23.cell? ⟨gb120, 0, none⟩ = some (.int .i64 0) := (qC BK120.out 0).trans rfl; have hcz27_1 : w23.cell? ⟨gb120, 1, none⟩ = some (.int .u64 0) := (qC BK120.out 1).trans rfl; have hfz27_0 := qF BK120.out 0; have hfz27_1 := qF BK120.out 1))
    refine bodyPost_ret (results_ctt rfl _ _ gb120 217 #[.int .i64 (wrap64 (t126)), .int .u64 t128] (0, 0) _ rfl (by (with_reducible repeat (first | refine qN ?_ _ | refine qD ?_ | refine qA ?_ _)); refine blk_put (cs := #[.int .i64 (wrap64 (t126)), .int .u64 0]) ?_ 1 _ rfl; (with_reducible repeat (first | refine qN ?_ _ | refine qD ?_ | refine qA ?_ _)); refine blk_put (cs := #[.int .i64 0, .int .u64 0]) ?_ 0 _ rfl; (with_reducible repeat (first | refine qN ?_ _ | refine qD ?_ | refine qA ?_ _)); exact BK120.out) Tryd.underlying217 rfl (by kernel_rfl)) rfl ?_
    exact ⟨by first | rfl | (simp [errW_none, errW_some] <;> rfl) | (simp [*, errW_none, errW_some] <;> rfl), by repeat (first | (with_reducible first | exact HB.out | apply qpA | apply qpN | apply qp1 | refine qpS ?_ GE119.out | refine qpS ?_ GE120.out) | exact HB.out)⟩

/-! ### bits_Mul64: function 173 -/
def bits_Mul64.f (a0 : Int) (a1 : Int) : Option (Int × Int) := some (IntKind.u64.wrap ((IntKind.u64.wrap ((IntKind.u64.wrap ((a0 / 4294967296) * (a1 / 4294967296))) + ((IntKind.u64.wrap ((IntKind.u64.wrap ((a0 / 4294967296) * (Go.bits .and .u64 a1 4294967295))) + ((IntKind.u64.wrap ((Go.bits .and .u64 a0 4294967295) * (Go.bits .and .u64 a1 4294967295))) / 4294967296))) / 4294967296))) + ((IntKind.u64.wrap ((Go.bits .and .u64 (IntKind.u64.wrap ((IntKind.u64.wrap ((a0 / 4294967296) * (Go.bits .and .u64 a1 4294967295))) + ((IntKind.u64.wrap ((Go.bits .and .u64 a0 4294967295) * (Go.bits .and .u64 a1 4294967295))) / 4294967296))) 4294967295) + (IntKind.u64.wrap ((Go.bits .and .u64 a0 4294967295) * (a1 / 4294967296))))) / 4294967296)), IntKind.u64.wrap (a0 * a1))
set_option maxHeartbeats 8000000 in
set_option maxRecDepth 100000 in
theorem bits_Mul64.calls (a0 : Int) (a1 : Int) (r1 : Int) (r2 : Int) (w : World) (h : bits_Mul64.f a0 a1 = some (r1, r2)) :
  Calls Tryd.prog 173 #[.int .u64 a0, .int .u64 a1] w fun e w' => e = .returned (.tuple #[.int .u64 r1, .int .u64 r2]) ∧ Drawn0 w w' := by
 have H : (some (IntKind.u64.wrap ((IntKind.u64.wrap ((IntKind.u64.wrap ((a0 / 4294967296) * (a1 / 4294967296))) + ((IntKind.u64.wrap ((IntKind.u64.wrap ((a0 / 4294967296) * (Go.bits .and .u64 a1 4294967295))) + ((IntKind.u64.wrap ((Go.bits .and .u64 a0 4294967295) * (Go.bits .and .u64 a1 4294967295))) / 4294967296))) / 4294967296))) + ((IntKind.u64.wrap ((Go.bits .and .u64 (IntKind.u64.wrap ((IntKind.u64.wrap ((a0 / 4294967296) * (Go.bits .and .u64 a1 4294967295))) + ((IntKind.u64.wrap ((Go.bits .and .u64 a0 4294967295) * (Go.bits .and .u64 a1 4294967295))) / 4294967296))) 4294967295) + (IntKind.u64.wrap ((Go.bits .and .u64 a0 4294967295) * (a1 / 4294967296))))) / 4294967296)), IntKind.u64.wrap (a0 * a1))) = some (r1, r2) := h
 clear h
 as_aux_lemma =>
  simp only [Option.some.injEq, Prod.mk.injEq] at H
  obtain ⟨rfl, rfl⟩ := H
  go_enter Tryd.func173, Tryd.ntmps173
  go_wp2
  go_ret2
  exact ⟨by first | rfl | (simp; done) | (simp [*]; done), by repeat (first | exact Drawn0.refl _ | apply Drawn0.step)⟩

/-! ### wide_Mul: function 128 -/
def wide_Mul.f (a0 : Int) (a1 : Int) : Option (Int × Int) := (bits_Mul64.f (IntKind.u64.wrap (a0)) (IntKind.u64.wrap (a1))).bind fun bt131 => (if a0 < 0 then (if a1 < 0 then (some (wrap64 (IntKind.u64.wrap ((IntKind.u64.wrap (bt131.1 - (IntKind.u64.wrap (a1)))) - (IntKind.u64.wrap (a0)))), bt131.2)) else (some (wrap64 (IntKind.u64.wrap (bt131.1 - (IntKind.u64.wrap (a1)))), bt131.2))) else (if a1 < 0 then (some (wrap64 (IntKind.u64.wrap (bt131.1 - (IntKind.u64.wrap (a0)))), bt131.2)) else (some (wrap64 (bt131.1), bt131.2))))
set_option maxHeartbeats 8000000 in
set_option maxRecDepth 100000 in
theorem wide_Mul.calls (a0 : Int) (a1 : Int) (r1 : Int) (r2 : Int) (w : World) (h : wide_Mul.f a0 a1 = some (r1, r2)) :
  Calls Tryd.prog 128 #[.int .i64 a0, .int .i64 a1] w fun e w' => e = .returned (.agg #[.int .i64 r1, .int .u64 r2]) ∧ Below w.heap.size w w' := by
 have hu217 := Tryd.underlying217
 have HB := qS (Below.refl w.heap.size w)
 have H : ((bits_Mul64.f (IntKind.u64.wrap (a0)) (IntKind.u64.wrap (a1))).bind fun bt131 => (if a0 < 0 then (if a1 < 0 then (some (wrap64 (IntKind.u64.wrap ((IntKind.u64.wrap (bt131.1 - (IntKind.u64.wrap (a1)))) - (IntKind.u64.wrap (a0)))), bt131.2)) else (some (wrap64 (IntKind.u64.wrap (bt131.1 - (IntKind.u64.wrap (a1)))), bt131.2))) else (if a1 < 0 then (some (wrap64 (IntKind.u64.wrap (bt131.1 - (IntKind.u64.wrap (a0)))), bt131.2)) else (some (wrap64 (bt131.1), bt131.2))))) = some (r1, r2) := h
 clear h
 replace H := Option.bind_eq_some_iff.mp H
 obtain ⟨⟨t131, t132⟩, A30, H⟩ := H
 replace H : (if a0 < 0 then (if a1 < 0 then (some (wrap64 (IntKind.u64.wrap ((IntKind.u64.wrap (t131 - (IntKind.u64.wrap (a1)))) - (IntKind.u64.wrap (a0)))), t132)) else (some (wrap64 (IntKind.u64.wrap (t131 - (IntKind.u64.wrap (a1)))), t132))) else (if a1 < 0 then (some (wrap64 (IntKind.u64.wrap (t131 - (IntKind.u64.wrap (a0)))), t132)) else (some (wrap64 (t131), t132)))) = some (r1, r2) := H
 have A3 := qS A30
 clear A30
 by_cases c4 : a0 < 0
 ·rw [if_pos c4] at H
  have c4b0 : decide (a0 < 0) = true := decide_eq_true c4
  clear c4
  by_cases c5 : a1 < 0
  ·rw [if_pos c5] at H
   have c5b0 : decide (a1 < 0) = true := decide_eq_true c5
   clear c5
   as_aux_lemma =>
    simp only [Option.some.injEq, Prod.mk.injEq] at H
    obtain ⟨rfl, rfl⟩ := H
    go_enter Tryd.func128, Tryd.ntmps128
    go_wp2_with (first | ((with_reducible refine gate_dst (N := 4) rfl ?_); refine box_event ?hg (N := 4) ?hd (cs := #[.int .i64 0, .int .u64 0]) (t := 217) ?hr ?_; (case hd => rfl); (case hg => rfl); (case hr => first | (go_simp; done) | (go_simp; rfl)); intro gb130 hg w6 hbox hb; have n0_ := qS (below_step (bW0 HB.out) hb); have n1_ := qS (hbox); have n2_ := qS ((by rw [hg]; exact (below_size (bW0 HB.out)) : w.heap.size ≤ gb130)); have n3_ := qS ((by rw [hg]; exact (below_size (bW0 HB.out)) : w.heap.size ≤ gb130)); clear HB; have HB := n0_; have BK130 := n1_; have GW130 := n2_; have GE130 := n3_; clear n0_ n1_ n2_ n3_; clear hb hbox hg) | ((with_reducible refine gate_callee (f := 173) rfl ?_); refine goesL_ (some 12) rfl rfl Tryd.func173 (by kernel_rfl) rfl #[.int .u64 (IntKind.u64.wrap (a0)), .int .u64 (IntKind.u64.wrap (a1))] rfl (by (try simp only [List.map_toArray, List.map_cons, List.map_nil]); first | done | rfl | (simp only [*]; done) | (simp only [List.length_drop, List.length_take]; rfl) | (simp only [Act.eval, Array.getD_eq_getD_getElem?, Option.getD_some, *])) ?_; (with_reducible refine (bits_Mul64.calls (IntKind.u64.wrap (a0)) (IntKind.u64.wrap (a1)) t131 t132 _ A3.out).mono ?_); rintro e w' ⟨rfl, ⟨nd, rfl⟩⟩; refine ⟨_, rfl, ?_⟩; (try (rw [drewN_self w6]; generalize hq_ : World.drewN w6 _ = w6; have n0_ : Aside0 (w6.heap[gb130]? = some (.cells #[.int .i64 0, .int .u64 0] 217 (0, 0))) := ⟨by rw [← hq_]; exact (qW BK130.out)⟩; have n1_ : Aside0 (Below w.heap.size w w6) := ⟨by rw [← hq_]; exact (bW1 HB.out GE130.out)⟩; clear BK130 HB hq_; have BK130 := n0_; have HB := n1_; clear n0_ n1_)); have hcz7_0 : w6.cell? ⟨gb130, 0, none⟩ = some (.int .i64 0) := (qC BK130.out 0).trans rfl; have hcz7_1 : w6.cell? ⟨gb130, 1, none⟩ = some (.int .u64 0) := (qC BK130.out 1).trans rfl; have hfz7_0 := qF BK130.out 0; have hfz7_1 := qF BK130.out 1))
    refine bodyPost_ret (results_cell_row rfl _ _ gb130 217 #[.int .i64 (wrap64 (IntKind.u64.wrap ((IntKind.u64.wrap (t131 - (IntKind.u64.wrap (a1)))) - (IntKind.u64.wrap (a0))))), .int .u64 t132] (0, 0) _ rfl (by (with_reducible repeat (first | refine qN ?_ _ | refine qD ?_ | refine qA ?_ _)); refine blk_put (cs := #[.int .i64 (wrap64 (IntKind.u64.wrap ((IntKind.u64.wrap (t131 - (IntKind.u64.wrap (a1)))) - (IntKind.u64.wrap (a0))))), .int .u64 0]) ?_ 1 _ rfl; (with_reducible repeat (first | refine qN ?_ _ | refine qD ?_ | refine qA ?_ _)); refine blk_put (cs := #[.int .i64 0, .int .u64 0]) ?_ 0 _ rfl; (with_reducible repeat (first | refine qN ?_ _ | refine qD ?_ | refine qA ?_ _)); exact BK130.out) Tryd.underlying217 rfl (by kernel_rfl)) rfl ?_
    exact ⟨by first | rfl | (simp [errW_none, errW_some] <;> rfl) | (simp [*, errW_none, errW_some] <;> rfl), by repeat (first | (with_reducible first | exact HB.out | apply qpA | apply qpN | apply qp1 | refine qpS ?_ GE130.out) | exact HB.out)⟩
  ·rw [if_neg c5] at H
   have c5b0 : decide (a1 < 0) = false := decide_eq_false c5
   clear c5
   as_aux_lemma =>
    simp only [Option.some.injEq, Prod.mk.injEq] at H
    obtain ⟨rfl, rfl⟩ := H
    go_enter Tryd.func128, Tryd.ntmps128
    go_wp2_with (first | ((with_reducible refine gate_dst (N := 4) rfl ?_); refine box_event ?hg (N := 4) ?hd (cs := #[.int .i64 0, .int .u64 0]) (t := 217) ?hr ?_; (case hd => rfl); (case hg => rfl); (case hr => first | (go_simp; done) | (go_simp; rfl)); intro gb130 hg w8 hbox hb; have n0_ := qS (below_step (bW0 HB.out) hb); have n1_ := qS (hbox); have n2_ := qS ((by rw [hg]; exact (below_size (bW0 HB.out)) : w.heap.size ≤ gb130)); have n3_ := qS ((by rw [hg]; exact (below_size (bW0 HB.out)) : w.heap.size ≤ gb130)); clear HB; have HB := n0_; have BK130 := n1_; have GW130 := n2_; have GE130 := n3_; clear n0_ n1_ n2_ n3_; clear hb hbox hg) | ((with_reducible refine gate_callee (f := 173) rfl ?_); refine goesL_ (some 12) rfl rfl Tryd.func173 (by kernel_rfl) rfl #[.int .u64 (IntKind.u64.wrap (a0)), .int .u64 (IntKind.u64.wrap (a1))] rfl (by (try simp only [List.map_toArray, List.map_cons, List.map_nil]); first | done | rfl | (simp only [*]; done) | (simp only [List.length_drop, List.length_take]; rfl) | (simp only [Act.eval, Array.getD_eq_getD_getElem?, Option.getD_some, *])) ?_; (with_reducible refine (bits_Mul64.calls (IntKind.u64.wrap (a0)) (IntKind.u64.wrap (a1)) t131 t132 _ A3.out).mono ?_); rintro e w' ⟨rfl, ⟨nd, rfl⟩⟩; refine ⟨_, rfl, ?_⟩; (try (rw [drewN_self w8]; generalize hq_ : World.drewN w8 _ = w8; have n0_ : Aside0 (w8.heap[gb130]? = some (.cells #[.int .i64 0, .int .u64 0] 217 (0, 0))) := ⟨by rw [← hq_]; exact (qW BK130.out)⟩; have n1_ : Aside0 (Below w.heap.size w w8) := ⟨by rw [← hq_]; exact (bW1 HB.out GE130.out)⟩; clear BK130 HB hq_; have BK130 := n0_; have HB := n1_; clear n0_ n1_)); have hcz9_0 : w8.cell? ⟨gb130, 0, none⟩ = some (.int .i64 0) := (qC BK130.out 0).trans rfl; have hcz9_1 : w8.cell? ⟨gb130, 1, none⟩ = some (.int .u64 0) := (qC BK130.out 1).trans rfl; have hfz9_0 := qF BK130.out 0; have hfz9_1 := qF BK130.out 1))
    refine bodyPost_ret (results_cell_row rfl _ _ gb130 217 #[.int .i64 (wrap64 (IntKind.u64.wrap (t131 - (IntKind.u64.wrap (a1))))), .int .u64 t132] (0, 0) _ rfl (by (with_reducible repeat (first | refine qN ?_ _ | refine qD ?_ | refine qA ?_ _)); refine blk_put (cs := #[.int .i64 (wrap64 (IntKind.u64.wrap (t131 - (IntKind.u64.wrap (a1))))), .int .u64 0]) ?_ 1 _ rfl; (with_reducible repeat (first | refine qN ?_ _ | refine qD ?_ | refine qA ?_ _)); refine blk_put (cs := #[.int .i64 0, .int .u64 0]) ?_ 0 _ rfl; (with_reducible repeat (first | refine qN ?_ _ | refine qD ?_ | refine qA ?_ _)); exact BK130.out) Tryd.underlying217 rfl (by kernel_rfl)) rfl ?_
    exact ⟨by first | rfl | (simp [errW_none, errW_some] <;> rfl) | (simp [*, errW_none, errW_some] <;> rfl), by repeat (first | (with_reducible first | exact HB.out | apply qpA | apply qpN | apply qp1 | refine qpS ?_ GE130.out) | exact HB.out)⟩
 ·rw [if_neg c4] at H
  have c4b0 : decide (a0 < 0) = false := decide_eq_false c4
  clear c4
  by_cases c10 : a1 < 0
  ·rw [if_pos c10] at H
   have c10b0 : decide (a1 < 0) = true := decide_eq_true c10
   clear c10
   as_aux_lemma =>
    simp only [Option.some.injEq, Prod.mk.injEq] at H
    obtain ⟨rfl, rfl⟩ := H
    go_enter Tryd.func128, Tryd.ntmps128
    go_wp2_with (first | ((with_reducible refine gate_dst (N := 4) rfl ?_); refine box_event ?hg (N := 4) ?hd (cs := #[.int .i64 0, .int .u64 0]) (t := 217) ?hr ?_; (case hd => rfl); (case hg => rfl); (case hr => first | (go_simp; done) | (go_simp; rfl)); intro gb130 hg w11 hbox hb; have n0_ := qS (below_step (bW0 HB.out) hb); have n1_ := qS (hbox); have n2_ := qS ((by rw [hg]; exact (below_size (bW0 HB.out)) : w.heap.size ≤ gb130)); have n3_ := qS ((by rw [hg]; exact (below_size (bW0 HB.out)) : w.heap.size ≤ gb130)); clear HB; have HB := n0_; have BK130 := n1_; have GW130 := n2_; have GE130 := n3_; clear n0_ n1_ n2_ n3_; clear hb hbox hg) | ((with_reducible refine gate_callee (f := 173) rfl ?_); refine goesL_ (some 12) rfl rfl Tryd.func173 (by kernel_rfl) rfl #[.int .u64 (IntKind.u64.wrap (a0)), .int .u64 (IntKind.u64.wrap (a1))] rfl (by (try simp only [List.map_toArray, List.map_cons, List.map_nil]); first | done | rfl | (simp only [*]; done) | (simp only [List.length_drop, List.length_take]; rfl) | (simp only [Act.eval, Array.getD_eq_getD_getElem?, Option.getD_some, *])) ?_; (with_reducible refine (bits_Mul64.calls (IntKind.u64.wrap (a0)) (IntKind.u64.wrap (a1)) t131 t132 _ A3.out).mono ?_); rintro e w' ⟨rfl, ⟨nd, rfl⟩⟩; refine ⟨_, rfl, ?_⟩; (try (rw [drewN_self w11]; generalize hq_ : World.drewN w11 _ = w11; have n0_ : Aside0 (w11.heap[gb130]? = some (.cells #[.int .i64 0, .int .u64 0] 217 (0, 0))) := ⟨by rw [← hq_]; exact (qW BK130.out)⟩; have n1_ : Aside0 (Below w.heap.size w w11) := ⟨by rw [← hq_]; exact (bW1 HB.out GE130.out)⟩; clear BK130 HB hq_; have BK130 := n0_; have HB := n1_; clear n0_ n1_)); have hcz12_0 : w11.cell? ⟨gb130, 0, none⟩ = some (.int .i64 0) := (qC BK130.out 0).trans rfl; have hcz12_1 : w11.cell? ⟨gb130, 1, none⟩ = some (.int .u64 0) := (qC BK130.out 1).trans rfl; have hfz12_0 := qF BK130.out 0; have hfz12_1 := qF BK130.out 1))
    refine bodyPost_ret (results_cell_row rfl _ _ gb130 217 #[.int .i64 (wrap64 (IntKind.u64.wrap (t131 - (IntKind.u64.wrap (a0))))), .int .u64 t132] (0, 0) _ rfl (by (with_reducible repeat (first | refine qN ?_ _ | refine qD ?_ | refine qA ?_ _)); refine blk_put (cs := #[.int .i64 (wrap64 (IntKind.u64.wrap (t131 - (IntKind.u64.wrap (a0))))), .int .u64 0]) ?_ 1 _ rfl; (with_reducible repeat (first | refine qN ?_ _ | refine qD ?_ | refine qA ?_ _)); refine blk_put (cs := #[.int .i64 0, .int .u64 0]) ?_ 0 _ rfl; (with_reducible repeat (first | refine qN ?_ _ | refine qD ?_ | refine qA ?_ _)); exact BK130.out) Tryd.underlying217 rfl (by kernel_rfl)) rfl ?_
    exact ⟨by first | rfl | (simp [errW_none, errW_some] <;> rfl) | (simp [*, errW_none, errW_some] <;> rfl), by repeat (first | (with_reducible first | exact HB.out | apply qpA | apply qpN | apply qp1 | refine qpS ?_ GE130.out) | exact HB.out)⟩
  ·rw [if_neg c10] at H
   have c10b0 : decide (a1 < 0) = false := decide_eq_false c10
   clear c10
   as_aux_lemma =>
    simp only [Option.some.injEq, Prod.mk.injEq] at H
    obtain ⟨rfl, rfl⟩ := H
    go_enter Tryd.func128, Tryd.ntmps128
    go_wp2_with (first | ((with_reducible refine gate_dst (N := 4) rfl ?_); refine box_event ?hg (N := 4) ?hd (cs := #[.int .i64 0, .int .u64 0]) (t := 217) ?hr ?_; (case hd => rfl); (case hg => rfl); (case hr => first | (go_simp; done) | (go_simp; rfl)); intro gb130 hg w13 hbox hb; have n0_ := qS (below_step (bW0 HB.out) hb); have n1_ := qS (hbox); have n2_ := qS ((by rw [hg]; exact (below_size (bW0 HB.out)) : w.heap.size ≤ gb130)); have n3_ := qS ((by rw [hg]; exact (below_size (bW0 HB.out)) : w.heap.size ≤ gb130)); clear HB; have HB := n0_; have BK130 := n1_; have GW130 := n2_; have GE130 := n3_; clear n0_ n1_ n2_ n3_; clear hb hbox hg) | ((with_reducible refine gate_callee (f := 173) rfl ?_); refine goesL_ (some 12) rfl rfl Tryd.func173 (by kernel_rfl) rfl #[.int .u64 (IntKind.u64.wrap (a0)), .int .u64 (IntKind.u64.wrap (a1))] rfl (by (try simp only [List.map_toArray, List.map_cons, List.map_nil]); first | done | rfl | (simp only [*]; done) | (simp only [List.length_drop, List.length_take]; rfl) | (simp only [Act.eval, Array.getD_eq_getD_getElem?, Option.getD_some, *])) ?_; (with_reducible refine (bits_Mul64.calls (IntKind.u64.wrap (a0)) (IntKind.u64.wrap (a1)) t131 t132 _ A3.out).mono ?_); rintro e w' ⟨rfl, ⟨nd, rfl⟩⟩; refine ⟨_, rfl, ?_⟩; (try (rw [drewN_self w13]; generalize hq_ : World.drewN w13 _ = w13; have n0_ : Aside0 (w13.heap[gb130]? = some (.cells #[.int .i64 0, .int .u64 0] 217 (0, 0))) := ⟨by rw [← hq_]; exact (qW BK130.out)⟩; have n1_ : Aside0 (Below w.heap.size w w13) := ⟨by rw [← hq_]; exact (bW1 HB.out GE130.out)⟩; clear BK130 HB hq_; have BK130 := n0_; have HB := n1_; clear n0_ n1_)); have hcz14_0 : w13.cell? ⟨gb130, 0, none⟩ = some (.int .i64 0) := (qC BK130.out 0).trans rfl; have hcz14_1 : w13.cell? ⟨gb130, 1, none⟩ = some (.int .u64 0) := (qC BK130.out 1).trans rfl; have hfz14_0 := qF BK130.out 0; have hfz14_1 := qF BK130.out 1))
    refine bodyPost_ret (results_cell_row rfl _ _ gb130 217 #[.int .i64 (wrap64 (t131)), .int .u64 t132] (0, 0) _ rfl (by (with_reducible repeat (first | refine qN ?_ _ | refine qD ?_ | refine qA ?_ _)); refine blk_put (cs := #[.int .i64 (wrap64 (t131)), .int .u64 0]) ?_ 1 _ rfl; (with_reducible repeat (first | refine qN ?_ _ | refine qD ?_ | refine qA ?_ _)); refine blk_put (cs := #[.int .i64 0, .int .u64 0]) ?_ 0 _ rfl; (with_reducible repeat (first | refine qN ?_ _ | refine qD ?_ | refine qA ?_ _)); exact BK130.out) Tryd.underlying217 rfl (by kernel_rfl)) rfl ?_
    exact ⟨by first | rfl | (simp [errW_none, errW_some] <;> rfl) | (simp [*, errW_none, errW_some] <;> rfl), by repeat (first | (with_reducible first | exact HB.out | apply qpA | apply qpN | apply qp1 | refine qpS ?_ GE130.out) | exact HB.out)⟩

/-! ### wide_Of: function 174 -/
def wide_Of.f (a0 : Int) : Option (Int × Int) := some (a0 / 9223372036854775808, IntKind.u64.wrap (a0))
set_option maxHeartbeats 8000000 in
set_option maxRecDepth 100000 in
theorem wide_Of.calls (a0 : Int) (r1 : Int) (r2 : Int) (w : World) (h : wide_Of.f a0 = some (r1, r2)) :
  Calls Tryd.prog 174 #[.int .i64 a0] w fun e w' => e = .returned (.agg #[.int .i64 r1, .int .u64 r2]) ∧ Below w.heap.size w w' := by
 have hu217 := Tryd.underlying217
 have HB := qS (Below.refl w.heap.size w)
 have H : (some (a0 / 9223372036854775808, IntKind.u64.wrap (a0))) = some (r1, r2) := h
 clear h
 as_aux_lemma =>
  simp only [Option.some.injEq, Prod.mk.injEq] at H
  obtain ⟨rfl, rfl⟩ := H
  go_enter Tryd.func174, Tryd.ntmps174
  go_wp2_with (first | ((with_reducible refine gate_dst (N := 2) rfl ?_); refine box_event ?hg (N := 2) ?hd (cs := #[.int .i64 0, .int .u64 0]) (t := 217) ?hr ?_; (case hd => rfl); (case hg => rfl); (case hr => first | (go_simp; done) | (go_simp; rfl)); intro gb133 hg w2 hbox hb; have n0_ := qS (below_step (bW0 HB.out) hb); have n1_ := qS (hbox); have n2_ := qS ((by rw [hg]; exact (below_size (bW0 HB.out)) : w.heap.size ≤ gb133)); have n3_ := qS ((by rw [hg]; exact (below_size (bW0 HB.out)) : w.heap.size ≤ gb133)); clear HB; have HB := n0_; have BK133 := n1_; have GW133 := n2_; have GE133 := n3_; clear n0_ n1_ n2_ n3_; clear hb hbox hg; have hcz3_0 : w2.cell? ⟨gb133, 0, none⟩ = some (.int .i64 0) := (qC BK133.out 0).trans rfl; have hcz3_1 : w2.cell? ⟨gb133, 1, none⟩ = some (.int .u64 0) := (qC BK133.out 1).trans rfl; have hfz3_0 := qF BK133.out 0; have hfz3_1 := qF BK133.out 1))
  refine bodyPost_ret (results_cell_row rfl _ _ gb133 217 #[.int .i64 (a0 / 9223372036854775808), .int .u64 (IntKind.u64.wrap (a0))] (0, 0) _ rfl (by (with_reducible repeat (first | refine qN ?_ _ | refine qD ?_ | refine qA ?_ _)); refine blk_put (cs := #[.int .i64 (a0 / 9223372036854775808), .int .u64 0]) ?_ 1 _ rfl; (with_reducible repeat (first | refine qN ?_ _ | refine qD ?_ | refine qA ?_ _)); refine blk_put (cs := #[.int .i64 0, .int .u64 0]) ?_ 0 _ rfl; (with_reducible repeat (first | refine qN ?_ _ | refine qD ?_ | refine qA ?_ _)); exact BK133.out) Tryd.underlying217 rfl (by kernel_rfl)) rfl ?_
  exact ⟨by first | rfl | (simp [errW_none, errW_some] <;> rfl) | (simp [*, errW_none, errW_some] <;> rfl), by repeat (first | (with_reducible first | exact HB.out | apply qpA | apply qpN | apply qp1 | refine qpS ?_ GE133.out) | exact HB.out)⟩

/-! ### wide_Int: function 129 -/
def wide_Int.f (a0_0 : Int) (a0_1 : Int) : Option (Int × Option Int) := (wide_Of.f (wrap64 (a0_1))).bind fun bt135 => (if (!(bt135.1 == a0_0) || (!(bt135.2 == a0_1))) = true then (some (0, some 2)) else (some (wrap64 (a0_1), none)))
set_option maxHeartbeats 8000000 in
set_option maxRecDepth 100000 in
theorem wide_Int.calls (a0_0 : Int) (a0_1 : Int) (r1 : Int) (r2 : Option Int) (w : World) (h : wide_Int.f a0_0 a0_1 = some (r1, r2)) :
  Calls Tryd.prog 129 #[.agg #[.int .i64 a0_0, .int .u64 a0_1]] w fun e w' => e = .returned (.tuple #[.int .i64 r1, errW r2]) ∧ Below w.heap.size w w' := by
 have hu217 := Tryd.underlying217
 have hu31 := Tryd.underlying31
 have hu162 := Tryd.underlying162
 have HB := qS (Below.refl w.heap.size w)
 have H : ((wide_Of.f (wrap64 (a0_1))).bind fun bt135 => (if (!(bt135.1 == a0_0) || (!(bt135.2 == a0_1))) = true then (some (0, some 2)) else (some (wrap64 (a0_1), none)))) = some (r1, r2) := h
 clear h
 replace H := Option.bind_eq_some_iff.mp H
 obtain ⟨⟨t135, t136⟩, A20, H⟩ := H
 replace H : (if (!(t135 == a0_0) || (!(t136 == a0_1))) = true then (some (0, some 2)) else (some (wrap64 (a0_1), none))) = some (r1, r2) := H
 have A2 := qS A20
 clear A20
 by_cases c3 : (!(t135 == a0_0) || (!(t136 == a0_1))) = true
 ·rw [if_pos c3] at H
  have c3b0 : (!(t135 == a0_0) || (!(t136 == a0_1))) = true := c3
  clear c3
  as_aux_lemma =>
   simp only [Option.some.injEq, Prod.mk.injEq] at H
   obtain ⟨rfl, rfl⟩ := H
   go_enter Tryd.func129, Tryd.ntmps129
   try go_wp2_with (first | ((with_reducible refine gate_dst (N := 1) rfl ?_); refine box_event ?hg (N := 1) ?hd (cs := #[.int .i64 a0_0, .int .u64 a0_1]) (t := 217) ?hr ?_; (case hd => rfl); (case hg => rfl); (case hr => first | (go_simp; done) | (go_simp; rfl)); intro gb134 hg w4 hbox hb; have n0_ := qS (below_step (bW0 HB.out) hb); have n1_ := qS (hbox); have n2_ := qS ((by rw [hg]; exact (below_size (bW0 HB.out)) : w.heap.size ≤ gb134)); have n3_ := qS ((by rw [hg]; exact (below_size (bW0 HB.out)) : w.heap.size ≤ gb134)); clear HB; have HB := n0_; have BK134 := n1_; have GW134 := n2_; have GE134 := n3_; clear n0_ n1_ n2_ n3_; clear hb hbox hg))
   have n0_ := qS (qD BK134.out)
   have n1_ := qS (qp1 HB.out)
   clear BK134
   clear HB
   have BK134 := n0_
   have HB := n1_
   clear n0_ n1_
   refine start_ (n := 6) (S := fun w' => w'.cell? ⟨gb134, 0, none⟩ = some (.int .i64 a0_0) ∧ w'.cell? ⟨gb134, 1, none⟩ = some (.int .u64 a0_1)) (ds := []) #[false, false, false, false, false, false] (by kernel_rfl) rfl rfl ⟨(qC BK134.out 0).trans rfl, (qC BK134.out 1).trans rfl⟩ (fun hHeld => ?_)
   generalize w4.drew = w5 at BK134 HB hHeld ⊢
   refine pure_ (i := 0) (N := some 4) (v := ?_) (a' := ?_) #[true, false, false, false, false, false] rfl rfl (by kernel_rfl) (fun _ _ _ h => h) (Or.inl ⟨by rfl, ?_⟩) ?_ ?_
   rotate_left
   ·intro w'
    go_simp
    with_reducible rfl
   rotate_left
   ·simp only [Act.put, List.setIfInBounds_toArray, List.set_cons_zero, List.set_cons_succ, i64_w, i32_w]
    rfl
   refine take_ (i := 1) (N := some 5) (v := ?_) (a' := ?_) #[true, true, false, false, false, false] rfl rfl (by kernel_rfl) (fun _ _ _ h => h) (Or.inl ⟨by rfl, ?_⟩) hHeld ?_ ?_
   rotate_left
   ·rintro w' ⟨s0, s1⟩
    go_simp
    with_reducible rfl
   rotate_left
   ·simp only [Act.put, List.setIfInBounds_toArray, List.set_cons_zero, List.set_cons_succ, i64_w, i32_w]
    rfl
   refine pure_ (i := 2) (N := some 6) (v := ?_) (a' := ?_) #[true, true, true, false, false, false] rfl rfl (by kernel_rfl) (fun _ _ _ h => h) (Or.inl ⟨by rfl, ?_⟩) ?_ ?_
   rotate_left
   ·intro w'
    go_simp
    with_reducible rfl
   rotate_left
   ·simp only [Act.put, List.setIfInBounds_toArray, List.set_cons_zero, List.set_cons_succ, i64_w, i32_w]
    rfl
   refine take_ (i := 4) (N := some 8) (v := ?_) (a' := ?_) #[true, true, true, false, true, false] rfl rfl (by kernel_rfl) (fun _ _ _ h => h) (Or.inl ⟨by rfl, ?_⟩) hHeld ?_ ?_
   rotate_left
   ·rintro w' ⟨s0, s1⟩
    go_simp
    with_reducible rfl
   rotate_left
   ·simp only [Act.put, List.setIfInBounds_toArray, List.set_cons_zero, List.set_cons_succ, i64_w, i32_w]
    rfl
   refine one_ (i := 3) (N := some 7) #[true, true, true, true, true, false] rfl rfl (by kernel_rfl) (by decide) (fun K hK => ?_)
   refine goes_ Tryd.func174 (by kernel_rfl) rfl #[.int .i64 (wrap64 (a0_1))] (by rfl) rfl rfl (by (try simp only [List.map_toArray, List.map_cons, List.map_nil]); first | done | rfl | (simp only [*]; done) | (simp only [List.length_drop, List.length_take]; rfl) | (simp only [Act.eval, Array.getD_eq_getD_getElem?, Option.getD_some, *])) ?_
   with_reducible refine (wide_Of.calls (wrap64 (a0_1)) t135 t136 _ A2.out).mono ?_
   rintro e w6 ⟨rfl, hb⟩
   refine ⟨_, rfl, ?_⟩
   have n0_ := qS (qB (g := gb134) (o := .cells #[.int .i64 a0_0, .int .u64 a0_1] 217 (0, 0)) (qW BK134.out) hb)
   have n1_ := qS (below_step (bW1 HB.out GE134.out) hb)
   clear BK134
   clear HB
   have BK134 := n0_
   have HB := n1_
   clear n0_ n1_
   (try clear hb)
   (try clear hb2)
   (try clear hk)
   (try clear hi)
   refine hK.out _ _ ⟨(qC BK134.out 0).trans rfl, (qC BK134.out 1).trans rfl⟩ (fun hHeld => ?_)
   clear hK K
   refine norm_ (a' := ?_) ?_ ?_
   rotate_left
   ·show Act.put _ (some 7) _ = _
    simp only [Act.put, List.setIfInBounds_toArray, List.set_cons_zero, List.set_cons_succ, i64_w, i32_w]
    rfl
   refine pure_ (i := 5) (N := some 9) (v := ?_) (a' := ?_) #[true, true, true, true, true, true] rfl rfl (by kernel_rfl) (fun _ _ _ h => h) (Or.inl ⟨by rfl, ?_⟩) ?_ ?_
   rotate_left
   ·intro w'
    go_simp
    with_reducible rfl
   rotate_left
   ·simp only [Act.put, List.setIfInBounds_toArray, List.set_cons_zero, List.set_cons_succ, i64_w, i32_w]
    rfl
   refine done_ (by kernel_rfl) ?_
   try go_wp2
   go_ret2
   exact ⟨by first | rfl | (simp [errW_none, errW_some] <;> rfl) | (simp [*, errW_none, errW_some] <;> rfl), by repeat (first | (with_reducible first | exact HB.out | apply qpA | apply qpN | apply qp1 | refine qpS ?_ GE134.out) | exact HB.out)⟩
 ·rw [if_neg c3] at H
  have c3b0 : (!(t135 == a0_0) || (!(t136 == a0_1))) = false := by simpa using c3
  clear c3
  as_aux_lemma =>
   simp only [Option.some.injEq, Prod.mk.injEq] at H
   obtain ⟨rfl, rfl⟩ := H
   go_enter Tryd.func129, Tryd.ntmps129
   try go_wp2_with (first | ((with_reducible refine gate_dst (N := 1) rfl ?_); refine box_event ?hg (N := 1) ?hd (cs := #[.int .i64 a0_0, .int .u64 a0_1]) (t := 217) ?hr ?_; (case hd => rfl); (case hg => rfl); (case hr => first | (go_simp; done) | (go_simp; rfl)); intro gb134 hg w7 hbox hb; have n0_ := qS (below_step (bW0 HB.out) hb); have n1_ := qS (hbox); have n2_ := qS ((by rw [hg]; exact (below_size (bW0 HB.out)) : w.heap.size ≤ gb134)); have n3_ := qS ((by rw [hg]; exact (below_size (bW0 HB.out)) : w.heap.size ≤ gb134)); clear HB; have HB := n0_; have BK134 := n1_; have GW134 := n2_; have GE134 := n3_; clear n0_ n1_ n2_ n3_; clear hb hbox hg))
   have n0_ := qS (qD BK134.out)
   have n1_ := qS (qp1 HB.out)
   clear BK134
   clear HB
   have BK134 := n0_
   have HB := n1_
   clear n0_ n1_
   refine start_ (n := 6) (S := fun w' => w'.cell? ⟨gb134, 0, none⟩ = some (.int .i64 a0_0) ∧ w'.cell? ⟨gb134, 1, none⟩ = some (.int .u64 a0_1)) (ds := []) #[false, false, false, false, false, false] (by kernel_rfl) rfl rfl ⟨(qC BK134.out 0).trans rfl, (qC BK134.out 1).trans rfl⟩ (fun hHeld => ?_)
   generalize w7.drew = w8 at BK134 HB hHeld ⊢
   refine pure_ (i := 0) (N := some 4) (v := ?_) (a' := ?_) #[true, false, false, false, false, false] rfl rfl (by kernel_rfl) (fun _ _ _ h => h) (Or.inl ⟨by rfl, ?_⟩) ?_ ?_
   rotate_left
   ·intro w'
    go_simp
    with_reducible rfl
   rotate_left
   ·simp only [Act.put, List.setIfInBounds_toArray, List.set_cons_zero, List.set_cons_succ, i64_w, i32_w]
    rfl
   refine take_ (i := 1) (N := some 5) (v := ?_) (a' := ?_) #[true, true, false, false, false, false] rfl rfl (by kernel_rfl) (fun _ _ _ h => h) (Or.inl ⟨by rfl, ?_⟩) hHeld ?_ ?_
   rotate_left
   ·rintro w' ⟨s0, s1⟩
    go_simp
    with_reducible rfl
   rotate_left
   ·simp only [Act.put, List.setIfInBounds_toArray, List.set_cons_zero, List.set_cons_succ, i64_w, i32_w]
    rfl
   refine pure_ (i := 2) (N := some 6) (v := ?_) (a' := ?_) #[true, true, true, false, false, false] rfl rfl (by kernel_rfl) (fun _ _ _ h => h) (Or.inl ⟨by rfl, ?_⟩) ?_ ?_
   rotate_left
   ·intro w'
    go_simp
    with_reducible rfl
   rotate_left
   ·simp only [Act.put, List.setIfInBounds_toArray, List.set_cons_zero, List.set_cons_succ, i64_w, i32_w]
    rfl
   refine take_ (i := 4) (N := some 8) (v := ?_) (a' := ?_) #[true, true, true, false, true, false] rfl rfl (by kernel_rfl) (fun _ _ _ h => h) (Or.inl ⟨by rfl, ?_⟩) hHeld ?_ ?_
   rotate_left
   ·rintro w' ⟨s0, s1⟩
    go_simp
    with_reducible rfl
   rotate_left
   ·simp only [Act.put, List.setIfInBounds_toArray, List.set_cons_zero, List.set_cons_succ, i64_w, i32_w]
    rfl
   refine one_ (i := 3) (N := some 7) #[true, true, true, true, true, false] rfl rfl (by kernel_rfl) (by decide) (fun K hK => ?_)
   refine goes_ Tryd.func174 (by kernel_rfl) rfl #[.int .i64 (wrap64 (a0_1))] (by rfl) rfl rfl (by (try simp only [List.map_toArray, List.map_cons, List.map_nil]); first | done | rfl | (simp only [*]; done) | (simp only [List.length_drop, List.length_take]; rfl) | (simp only [Act.eval, Array.getD_eq_getD_getElem?, Option.getD_some, *])) ?_
   with_reducible refine (wide_Of.calls (wrap64 (a0_1)) t135 t136 _ A2.out).mono ?_
   rintro e w9 ⟨rfl, hb⟩
   refine ⟨_, rfl, ?_⟩
   have n0_ := qS (qB (g := gb134) (o := .cells #[.int .i64 a0_0, .int .u64 a0_1] 217 (0, 0)) (qW BK134.out) hb)
   have n1_ := qS (below_step (bW1 HB.out GE134.out) hb)
   clear BK134
   clear HB
   have BK134 := n0_
   have HB := n1_
   clear n0_ n1_
   (try clear hb)
   (try clear hb2)
   (try clear hk)
   (try clear hi)
   refine hK.out _ _ ⟨(qC BK134.out 0).trans rfl, (qC BK134.out 1).trans rfl⟩ (fun hHeld => ?_)
   clear hK K
   refine norm_ (a' := ?_) ?_ ?_
   rotate_left
   ·show Act.put _ (some 7) _ = _
    simp only [Act.put, List.setIfInBounds_toArray, List.set_cons_zero, List.set_cons_succ, i64_w, i32_w]
    rfl
   refine pure_ (i := 5) (N := some 9) (v := ?_) (a' := ?_) #[true, true, true, true, true, true] rfl rfl (by kernel_rfl) (fun _ _ _ h => h) (Or.inl ⟨by rfl, ?_⟩) ?_ ?_
   rotate_left
   ·intro w'
    go_simp
    with_reducible rfl
   rotate_left
   ·simp only [Act.put, List.setIfInBounds_toArray, List.set_cons_zero, List.set_cons_succ, i64_w, i32_w]
    rfl
   refine done_ (by kernel_rfl) ?_
   have hcz10_0 : w9.cell? ⟨gb134, 0, none⟩ = some (.int .i64 a0_0) := (qC BK134.out 0).trans rfl
   have hcz10_1 : w9.cell? ⟨gb134, 1, none⟩ = some (.int .u64 a0_1) := (qC BK134.out 1).trans rfl
   have hfz10_0 := qF BK134.out 0
   have hfz10_1 := qF BK134.out 1
   try go_wp2
   go_ret2
   exact ⟨by first | rfl | (simp [errW_none, errW_some] <;> rfl) | (simp [*, errW_none, errW_some] <;> rfl), by repeat (first | (with_reducible first | exact HB.out | apply qpA | apply qpN | apply qp1 | refine qpS ?_ GE134.out) | exact HB.out)⟩

/-! ### wide_MulDiv: function 72 -/
def wide_MulDiv.f (k : Nat) (a0 : Int) (a1 : Int) (a2 : Int) : Option (Int × Option Int) := (wide_Mul.f a0 a1).bind fun bt137 => ((wide_Div.f k bt137.1 bt137.2 a2).bind fun bt139 => (if bt139.2.2.2.isNone = true then ((wide_Int.f bt139.1 bt139.2.1).bind fun bt145 => (some (bt145.1, bt145.2))) else (some (0, some (bt139.2.2.2.getD 0)))))
theorem wide_MulDiv.mono : ∀ a0 a1 a2 k, LeO (wide_MulDiv.f k a0 a1 a2) (wide_MulDiv.f (k + 1) a0 a1 a2) := by
 intro a0 a1 a2 k
 unfold wide_MulDiv.f
 repeat' first
   | (with_reducible exact wide_Div.mono _ _ _ _)
   | (with_reducible exact LeO.refl _)
   | (with_reducible exact LeO.none _)
   | (with_reducible refine LeO.ite ?_ ?_)
   | (with_reducible refine LeO.bind ?_ (fun _ => ?_))
   | exact wide_Div.mono _ _ _ _
   | exact LeO.none _
   | refine LeO.ite ?_ ?_
   | refine LeO.bind ?_ (fun _ => ?_)
set_option maxHeartbeats 8000000 in
set_option maxRecDepth 100000 in
theorem wide_MulDiv.calls (k : Nat) (a0 : Int) (a1 : Int) (a2 : Int) (r1 : Int) (r2 : Option Int) (w : World) (h : wide_MulDiv.f k a0 a1 a2 = some (r1, r2)) :
  Calls Tryd.prog 72 #[.int .i64 a0, .int .i64 a1, .int .i64 a2] w fun e w' => e = .returned (.tuple #[.int .i64 r1, errW r2]) ∧ Below w.heap.size w w' := by
 have hu217 := Tryd.underlying217
 have hu31 := Tryd.underlying31
 have hu162 := Tryd.underlying162
 have HB := qS (Below.refl w.heap.size w)
 have H : ((wide_Mul.f a0 a1).bind fun bt137 => ((wide_Div.f k bt137.1 bt137.2 a2).bind fun bt139 => (if bt139.2.2.2.isNone = true then ((wide_Int.f bt139.1 bt139.2.1).bind fun bt145 => (some (bt145.1, bt145.2))) else (some (0, some (bt139.2.2.2.getD 0)))))) = some (r1, r2) := h
 clear h
 replace H := Option.bind_eq_some_iff.mp H
 obtain ⟨⟨t137, t138⟩, A40, H⟩ := H
 replace H : ((wide_Div.f k t137 t138 a2).bind fun bt139 => (if bt139.2.2.2.isNone = true then ((wide_Int.f bt139.1 bt139.2.1).bind fun bt145 => (some (bt145.1, bt145.2))) else (some (0, some (bt139.2.2.2.getD 0))))) = some (r1, r2) := H
 have A4 := qS A40
 clear A40
 replace H := Option.bind_eq_some_iff.mp H
 obtain ⟨⟨t139, t140, t141, t142⟩, A50, H⟩ := H
 replace H : (if t142.isNone = true then ((wide_Int.f t139 t140).bind fun bt145 => (some (bt145.1, bt145.2))) else (some (0, some (t142.getD 0)))) = some (r1, r2) := H
 have A5 := qS A50
 clear A50
 rcases t142 with _ | q144
 ·have H1 : ((wide_Int.f t139 t140).bind fun bt145 => (some (bt145.1, bt145.2))) = some (r1, r2) := by rw [if_pos (show (none : Option Int).isNone = true by rfl)] at H; exact H
  clear H
  have H := H1
  clear H1
  try simp only [errW_none, errW_some]
  replace H := Option.bind_eq_some_iff.mp H
  obtain ⟨⟨t145, t146⟩, A60, H⟩ := H
  replace H : (some (t145, t146)) = some (r1, r2) := H
  have A6 := qS A60
  clear A60
  as_aux_lemma =>
   simp only [Option.some.injEq, Prod.mk.injEq] at H
   obtain ⟨rfl, rfl⟩ := H
   go_enter Tryd.func72, Tryd.ntmps72
   go_wp2_with (first | ((with_reducible refine gate_callee (f := 128) rfl ?_); refine goesL_ (some 14) rfl rfl Tryd.func128 (by kernel_rfl) rfl #[.int .i64 a0, .int .i64 a1] rfl (by (try simp only [List.map_toArray, List.map_cons, List.map_nil]); first | done | rfl | (simp only [*]; done) | (simp only [List.length_drop, List.length_take]; rfl) | (simp only [Act.eval, Array.getD_eq_getD_getElem?, Option.getD_some, *])) ?_; (with_reducible refine (wide_Mul.calls a0 a1 t137 t138 _ A4.out).mono ?_); rintro e w7 ⟨rfl, hb⟩; refine ⟨_, rfl, ?_⟩; have n0_ := qS (below_step (bW0 HB.out) hb); clear HB; have HB := n0_; clear n0_; (try clear hb); (try clear hb2); (try clear hk); (try clear hi)) | ((with_reducible refine gate_callee (f := 127) rfl ?_); refine goesL_ (some 16) rfl rfl Tryd.func127 (by kernel_rfl) rfl #[.agg #[.int .i64 t137, .int .u64 t138], .int .i64 a2] rfl (by (try simp only [List.map_toArray, List.map_cons, List.map_nil]); first | done | rfl | (simp only [*]; done) | (simp only [List.length_drop, List.length_take]; rfl) | (simp only [Act.eval, Array.getD_eq_getD_getElem?, Option.getD_some, *])) ?_; (with_reducible refine (wide_Div.calls k t137 t138 a2 t139 t140 t141 none _ A5.out).mono ?_); rintro e w8 ⟨rfl, hb⟩; refine ⟨_, rfl, ?_⟩; have n0_ := qS (below_step (bW0 HB.out) hb); clear HB; have HB := n0_; clear n0_; (try clear hb); (try clear hb2); (try clear hk); (try clear hi); (try simp only [errW_none, errW_some])) | ((with_reducible refine gate_dst (N := 8) rfl ?_); refine box_event ?hg (N := 8) ?hd (cs := #[.int .i64 0, .int .u64 0]) (t := 217) ?hr ?_; (case hd => rfl); (case hg => rfl); (case hr => first | (go_simp; done) | (go_simp; rfl)); intro gb143 hg w9 hbox hb; have n0_ := qS (below_step (bW0 HB.out) hb); have n1_ := qS (hbox); have n2_ := qS ((by rw [hg]; exact (below_size (bW0 HB.out)) : w.heap.size ≤ gb143)); have n3_ := qS ((by rw [hg]; exact (below_size (bW0 HB.out)) : w.heap.size ≤ gb143)); clear HB; have HB := n0_; have BK143 := n1_; have GW143 := n2_; have GE143 := n3_; clear n0_ n1_ n2_ n3_; clear hb hbox hg; have hcz10_0 : w9.cell? ⟨gb143, 0, none⟩ = some (.int .i64 0) := (qC BK143.out 0).trans rfl; have hcz10_1 : w9.cell? ⟨gb143, 1, none⟩ = some (.int .u64 0) := (qC BK143.out 1).trans rfl; have hfz10_0 := qF BK143.out 0; have hfz10_1 := qF BK143.out 1) | ((with_reducible refine gate_callee (f := 129) rfl ?_); refine goesL_ (some 24) rfl rfl Tryd.func129 (by kernel_rfl) rfl #[.agg #[.int .i64 t139, .int .u64 t140]] rfl (by (try simp only [List.map_toArray, List.map_cons, List.map_nil]); first | done | rfl | (simp only [*]; done) | (simp only [List.length_drop, List.length_take]; rfl) | (simp only [Act.eval, Array.getD_eq_getD_getElem?, Option.getD_some, *])) ?_; (with_reducible refine (wide_Int.calls t139 t140 t145 t146 _ A6.out).mono ?_); rintro e w11 ⟨rfl, hb⟩; refine ⟨_, rfl, ?_⟩; have n0_ := qS (qB (g := gb143) (o := .cells #[.int .i64 t139, .int .u64 t140] 217 (0, 0)) (by (with_reducible repeat (first | refine qN ?_ _ | refine qD ?_ | refine qA ?_ _)); refine blk_put (cs := #[.int .i64 t139, .int .u64 0]) ?_ 1 _ rfl; (with_reducible repeat (first | refine qN ?_ _ | refine qD ?_ | refine qA ?_ _)); refine blk_put (cs := #[.int .i64 0, .int .u64 0]) ?_ 0 _ rfl; (with_reducible repeat (first | refine qN ?_ _ | refine qD ?_ | refine qA ?_ _)); exact BK143.out) hb); have n1_ := qS (below_step (bW1 HB.out GE143.out) hb); clear BK143; clear HB; have BK143 := n0_; have HB := n1_; clear n0_ n1_; (try clear hb); (try clear hb2); (try clear hk); (try clear hi); (try simp only [errW_none, errW_some])))
   go_ret2
   exact ⟨by first | rfl | (simp [errW_none, errW_some] <;> rfl) | (simp [*, errW_none, errW_some] <;> rfl), by repeat (first | (with_reducible first | exact HB.out | apply qpA | apply qpN | apply qp1 | refine qpS ?_ GE143.out) | exact HB.out)⟩
 ·have H1 : (some (0, some q144)) = some (r1, r2) := by rw [if_neg (show ¬ (some q144).isNone = true by simp)] at H; exact H
  clear H
  have H := H1
  clear H1
  try simp only [errW_none, errW_some]
  as_aux_lemma =>
   simp only [Option.some.injEq, Prod.mk.injEq] at H
   obtain ⟨rfl, rfl⟩ := H
   go_enter Tryd.func72, Tryd.ntmps72
   go_wp2_with (first | ((with_reducible refine gate_callee (f := 128) rfl ?_); refine goesL_ (some 14) rfl rfl Tryd.func128 (by kernel_rfl) rfl #[.int .i64 a0, .int .i64 a1] rfl (by (try simp only [List.map_toArray, List.map_cons, List.map_nil]); first | done | rfl | (simp only [*]; done) | (simp only [List.length_drop, List.length_take]; rfl) | (simp only [Act.eval, Array.getD_eq_getD_getElem?, Option.getD_some, *])) ?_; (with_reducible refine (wide_Mul.calls a0 a1 t137 t138 _ A4.out).mono ?_); rintro e w12 ⟨rfl, hb⟩; refine ⟨_, rfl, ?_⟩; have n0_ := qS (below_step (bW0 HB.out) hb); clear HB; have HB := n0_; clear n0_; (try clear hb); (try clear hb2); (try clear hk); (try clear hi)) | ((with_reducible refine gate_callee (f := 127) rfl ?_); refine goesL_ (some 16) rfl rfl Tryd.func127 (by kernel_rfl) rfl #[.agg #[.int .i64 t137, .int .u64 t138], .int .i64 a2] rfl (by (try simp only [List.map_toArray, List.map_cons, List.map_nil]); first | done | rfl | (simp only [*]; done) | (simp only [List.length_drop, List.length_take]; rfl) | (simp only [Act.eval, Array.getD_eq_getD_getElem?, Option.getD_some, *])) ?_; (with_reducible refine (wide_Div.calls k t137 t138 a2 t139 t140 t141 (some q144) _ A5.out).mono ?_); rintro e w13 ⟨rfl, hb⟩; refine ⟨_, rfl, ?_⟩; have n0_ := qS (below_step (bW0 HB.out) hb); clear HB; have HB := n0_; clear n0_; (try clear hb); (try clear hb2); (try clear hk); (try clear hi); (try simp only [errW_none, errW_some])) | ((with_reducible refine gate_dst (N := 8) rfl ?_); refine box_event ?hg (N := 8) ?hd (cs := #[.int .i64 0, .int .u64 0]) (t := 217) ?hr ?_; (case hd => rfl); (case hg => rfl); (case hr => first | (go_simp; done) | (go_simp; rfl)); intro gb143 hg w14 hbox hb; have n0_ := qS (below_step (bW0 HB.out) hb); have n1_ := qS (hbox); have n2_ := qS ((by rw [hg]; exact (below_size (bW0 HB.out)) : w.heap.size ≤ gb143)); have n3_ := qS ((by rw [hg]; exact (below_size (bW0 HB.out)) : w.heap.size ≤ gb143)); clear HB; have HB := n0_; have BK143 := n1_; have GW143 := n2_; have GE143 := n3_; clear n0_ n1_ n2_ n3_; clear hb hbox hg; have hcz15_0 : w14.cell? ⟨gb143, 0, none⟩ = some (.int .i64 0) := (qC BK143.out 0).trans rfl; have hcz15_1 : w14.cell? ⟨gb143, 1, none⟩ = some (.int .u64 0) := (qC BK143.out 1).trans rfl; have hfz15_0 := qF BK143.out 0; have hfz15_1 := qF BK143.out 1))
   go_ret2
   exact ⟨by first | rfl | (simp [errW_none, errW_some] <;> rfl) | (simp [*, errW_none, errW_some] <;> rfl), by repeat (first | (with_reducible first | exact HB.out | apply qpA | apply qpN | apply qp1 | refine qpS ?_ GE143.out) | exact HB.out)⟩

/-! ### num_Clamp: function 171 -/
def num_Clamp.f (a0 : Int) (a1 : Int) (a2 : Int) : Option (Int) := some (mx a1 (mn a0 a2))
set_option maxHeartbeats 8000000 in
set_option maxRecDepth 100000 in
theorem num_Clamp.calls (a0 : Int) (a1 : Int) (a2 : Int) (r : Int) (w : World) (h : num_Clamp.f a0 a1 a2 = some r) :
  Calls Tryd.prog 171 #[.int .i64 a0, .int .i64 a1, .int .i64 a2] w fun e w' => e = .returned (.int .i64 r) ∧ Below w.heap.size w w' := by
 have HB := qS (Below.refl w.heap.size w)
 have H : (some (mx a1 (mn a0 a2))) = some r := h
 clear h
 obtain ⟨ji4, hji4⟩ : ∃ j_ : Int, (mn a0 a2) = j_ := ⟨_, rfl⟩
 replace H : (some (mx a1 (ji4))) = some r := by first | (rw [hji4] at H; exact H) | (simp only [hji4] at H ⊢; exact H)
 have hji4_ : (if a2 < a0 then a2 else a0) = ji4 := hji4
 obtain ⟨ji5, hji5⟩ : ∃ j_ : Int, (mx a1 (ji4)) = j_ := ⟨_, rfl⟩
 replace H : (some ji5) = some r := by first | (rw [hji5] at H; exact H) | (simp only [hji5] at H ⊢; exact H)
 have hji5_ : (if a1 < (ji4) then (ji4) else a1) = ji5 := hji5
 as_aux_lemma =>
  obtain rfl := Option.some.inj H
  go_enter Tryd.func171, Tryd.ntmps171
  go_wp2
  go_ret
  exact ⟨by first | rfl | (simp [errW_none, errW_some] <;> rfl) | (simp only [← hji4, ← hji5]; first | rfl | (simp [errW_none, errW_some] <;> rfl)) | (simp [*, errW_none, errW_some] <;> rfl), by repeat (first | (with_reducible first | exact HB.out | apply qpA | apply qpN | apply qp1) | exact HB.out)⟩

/-! ### ratio_Adjust: function 162 -/
def ratio_Adjust.f (k : Nat) (a0_0 : Int) (a0_1 : Int) (a1 : Int) : Option (Int × Int × Option Int) := (ratio_Check.f a0_0 a0_1).bind fun t149 => (if t149.isNone = true then ((num_Clamp.f a1 (-1073741824) 1073741824).bind fun t151 => ((wide_MulDiv.f k (wrap64 (a0_0)) (wrap64 (1073741824 + t151)) 1073741824).bind fun bt152 => (if bt152.2.isNone = true then (if bt152.1 < 1 then (some (0, 0, some 2)) else (if bt152.1 ≥ 4294967296 then (some (0, 0, some 2)) else (some ((bt152.1) % 4294967296, a0_1, none)))) else (some (0, 0, some 2))))) else (some (0, 0, some (t149.getD 0))))
theorem ratio_Adjust.mono : ∀ a0 a1 a2 k, LeO (ratio_Adjust.f k a0 a1 a2) (ratio_Adjust.f (k + 1) a0 a1 a2) := by
 intro a0 a1 a2 k
 unfold ratio_Adjust.f
 repeat' first
   | (with_reducible exact wide_MulDiv.mono _ _ _ _)
   | (with_reducible exact LeO.refl _)
   | (with_reducible exact LeO.none _)
   | (with_reducible refine LeO.ite ?_ ?_)
   | (with_reducible refine LeO.bind ?_ (fun _ => ?_))
   | exact wide_MulDiv.mono _ _ _ _
   | exact LeO.none _
   | refine LeO.ite ?_ ?_
   | refine LeO.bind ?_ (fun _ => ?_)
set_option maxHeartbeats 8000000 in
set_option maxRecDepth 100000 in
theorem ratio_Adjust.calls (k : Nat) (a0_0 : Int) (a0_1 : Int) (a1 : Int) (r1 : Int) (r2 : Int) (r3 : Option Int) (w : World) (h : ratio_Adjust.f k a0_0 a0_1 a1 = some (r1, r2, r3)) :
  Calls Tryd.prog 162 #[.agg #[.int .u32 a0_0, .int .i64 a0_1], .int .i64 a1] w fun e w' => e = .returned (.tuple #[.agg #[.int .u32 r1, .int .i64 r2], errW r3]) ∧ Below w.heap.size w w' := by
 have hu58 := Tryd.underlying58
 have hu31 := Tryd.underlying31
 have hu162 := Tryd.underlying162
 have HB := qS (Below.refl w.heap.size w)
 have H : ((ratio_Check.f a0_0 a0_1).bind fun t149 => (if t149.isNone = true then ((num_Clamp.f a1 (-1073741824) 1073741824).bind fun t151 => ((wide_MulDiv.f k (wrap64 (a0_0)) (wrap64 (1073741824 + t151)) 1073741824).bind fun bt152 => (if bt152.2.isNone = true then (if bt152.1 < 1 then (some (0, 0, some 2)) else (if bt152.1 ≥ 4294967296 then (some (0, 0, some 2)) else (some ((bt152.1) % 4294967296, a0_1, none)))) else (some (0, 0, some 2))))) else (some (0, 0, some (t149.getD 0))))) = some (r1, r2, r3) := h
 clear h
 replace H := Option.bind_eq_some_iff.mp H
 obtain ⟨t149, A30, H⟩ := H
 replace H : (if t149.isNone = true then ((num_Clamp.f a1 (-1073741824) 1073741824).bind fun t151 => ((wide_MulDiv.f k (wrap64 (a0_0)) (wrap64 (1073741824 + t151)) 1073741824).bind fun bt152 => (if bt152.2.isNone = true then (if bt152.1 < 1 then (some (0, 0, some 2)) else (if bt152.1 ≥ 4294967296 then (some (0, 0, some 2)) else (some ((bt152.1) % 4294967296, a0_1, none)))) else (some (0, 0, some 2))))) else (some (0, 0, some (t149.getD 0)))) = some (r1, r2, r3) := H
 have A3 := qS A30
 clear A30
 rcases t149 with _ | q150
 ·have H1 : ((num_Clamp.f a1 (-1073741824) 1073741824).bind fun t151 => ((wide_MulDiv.f k (wrap64 (a0_0)) (wrap64 (1073741824 + t151)) 1073741824).bind fun bt152 => (if bt152.2.isNone = true then (if bt152.1 < 1 then (some (0, 0, some 2)) else (if bt152.1 ≥ 4294967296 then (some (0, 0, some 2)) else (some ((bt152.1) % 4294967296, a0_1, none)))) else (some (0, 0, some 2))))) = some (r1, r2, r3) := by rw [if_pos (show (none : Option Int).isNone = true by rfl)] at H; exact H
  clear H
  have H := H1
  clear H1
  try simp only [errW_none, errW_some]
  replace H := Option.bind_eq_some_iff.mp H
  obtain ⟨t151, A40, H⟩ := H
  replace H : ((wide_MulDiv.f k (wrap64 (a0_0)) (wrap64 (1073741824 + t151)) 1073741824).bind fun bt152 => (if bt152.2.isNone = true then (if bt152.1 < 1 then (some (0, 0, some 2)) else (if bt152.1 ≥ 4294967296 then (some (0, 0, some 2)) else (some ((bt152.1) % 4294967296, a0_1, none)))) else (some (0, 0, some 2)))) = some (r1, r2, r3) := H
  have A4 := qS A40
  clear A40
  replace H := Option.bind_eq_some_iff.mp H
  obtain ⟨⟨t152, t153⟩, A50, H⟩ := H
  replace H : (if t153.isNone = true then (if t152 < 1 then (some (0, 0, some 2)) else (if t152 ≥ 4294967296 then (some (0, 0, some 2)) else (some ((t152) % 4294967296, a0_1, none)))) else (some (0, 0, some 2))) = some (r1, r2, r3) := H
  have A5 := qS A50
  clear A50
  rcases t153 with _ | q154
  ·have H1 : (if t152 < 1 then (some (0, 0, some 2)) else (if t152 ≥ 4294967296 then (some (0, 0, some 2)) else (some ((t152) % 4294967296, a0_1, none)))) = some (r1, r2, r3) := by rw [if_pos (show (none : Option Int).isNone = true by rfl)] at H; exact H
   clear H
   have H := H1
   clear H1
   try simp only [errW_none, errW_some]
   by_cases c6 : t152 < 1
   ·rw [if_pos c6] at H
    have c6b0 : decide (t152 < 1) = true := decide_eq_true c6
    clear c6
    as_aux_lemma =>
     simp only [Option.some.injEq, Prod.mk.injEq] at H
     obtain ⟨rfl, rfl, rfl⟩ := H
     go_enter Tryd.func162, Tryd.ntmps162
     go_wp2_with (first | ((with_reducible refine gate_dst (N := 2) rfl ?_); refine box_event ?hg (N := 2) ?hd (cs := #[.int .u32 a0_0, .int .i64 a0_1]) (t := 58) ?hr ?_; (case hd => rfl); (case hg => rfl); (case hr => first | (go_simp; done) | (go_simp; rfl)); intro gb147 hg w7 hbox hb; have n0_ := qS (below_step (bW0 HB.out) hb); have n1_ := qS (hbox); have n2_ := qS ((by rw [hg]; exact (below_size (bW0 HB.out)) : w.heap.size ≤ gb147)); have n3_ := qS ((by rw [hg]; exact (below_size (bW0 HB.out)) : w.heap.size ≤ gb147)); clear HB; have HB := n0_; have BK147 := n1_; have GW147 := n2_; have GE147 := n3_; clear n0_ n1_ n2_ n3_; clear hb hbox hg) | ((with_reducible refine gate_dst (N := 4) rfl ?_); refine box_event ?hg (N := 4) ?hd (cs := #[.int .u32 0, .int .i64 0]) (t := 58) ?hr ?_; (case hd => rfl); (case hg => rfl); (case hr => first | (go_simp; done) | (go_simp; rfl)); intro gb148 hg w8 hbox hb; have n0_ := qS (qB (g := gb147) (o := .cells #[.int .u32 a0_0, .int .i64 a0_1] 58 (0, 0)) (qW BK147.out) hb); have n1_ := qS (below_step (bW1 HB.out GE147.out) hb); have n2_ := qS (hbox); have n3_ := qS ((by rw [hg]; exact (below_size (bW1 HB.out GE147.out)) : w.heap.size ≤ gb148)); have n4_ := qS ((by rw [hg]; exact (below_size (bW1 HB.out GE147.out)) : w.heap.size ≤ gb148)); have n5_ := qS ((by rw [hg]; exact Nat.ne_of_lt (blk_lt (g := gb147) (o := .cells #[.int .u32 a0_0, .int .i64 a0_1] 58 (0, 0)) (qW BK147.out)) : gb147 ≠ gb148)); have n6_ := qS ((by rw [hg]; exact Nat.ne_of_gt (blk_lt (g := gb147) (o := .cells #[.int .u32 a0_0, .int .i64 a0_1] 58 (0, 0)) (qW BK147.out)) : gb148 ≠ gb147)); clear BK147; clear HB; have BK147 := n0_; have HB := n1_; have BK148 := n2_; have GW148 := n3_; have GE148 := n4_; have NB147_148 := n5_; have NB148_147 := n6_; clear n0_ n1_ n2_ n3_ n4_ n5_ n6_; clear hb hbox hg; have hnb9 := NB147_148.out; have hnc9 := NB148_147.out; have hcz10_0 : w8.cell? ⟨gb147, 0, none⟩ = some (.int .u32 a0_0) := (qC BK147.out 0).trans rfl; have hcz10_1 : w8.cell? ⟨gb147, 1, none⟩ = some (.int .i64 a0_1) := (qC BK147.out 1).trans rfl; have hfz10_0 := qF BK147.out 0; have hfz10_1 := qF BK147.out 1) | ((with_reducible refine gate_callee (f := 149) rfl ?_); refine goesL_ (some 10) rfl rfl Tryd.func149 (by kernel_rfl) rfl #[.agg #[.int .u32 a0_0, .int .i64 a0_1]] rfl (by (try simp only [List.map_toArray, List.map_cons, List.map_nil]); first | done | rfl | (simp only [*]; done) | (simp only [List.length_drop, List.length_take]; rfl) | (simp only [Act.eval, Array.getD_eq_getD_getElem?, Option.getD_some, *])) ?_; (with_reducible refine (ratio_Check.calls a0_0 a0_1 none _ A3.out).mono ?_); rintro e w11 ⟨rfl, hb⟩; refine ⟨_, rfl, ?_⟩; have n0_ := qS (qB (g := gb147) (o := .cells #[.int .u32 a0_0, .int .i64 a0_1] 58 (0, 0)) (qW BK147.out) hb); have n1_ := qS (qB (g := gb148) (o := .cells #[.int .u32 0, .int .i64 0] 58 (0, 0)) (qW BK148.out) hb); have n2_ := qS (below_step (bW2 HB.out GE147.out GE148.out) hb); clear BK147; clear BK148; clear HB; have BK147 := n0_; have BK148 := n1_; have HB := n2_; clear n0_ n1_ n2_; (try clear hb); (try clear hb2); (try clear hk); (try clear hi); (try simp only [errW_none, errW_some])) | ((with_reducible refine gate_callee (f := 171) rfl ?_); refine goesL_ (some 16) rfl rfl Tryd.func171 (by kernel_rfl) rfl #[.int .i64 a1, .int .i64 (-1073741824), .int .i64 1073741824] rfl (by (try simp only [List.map_toArray, List.map_cons, List.map_nil]); first | done | rfl | (simp only [*]; done) | (simp only [List.length_drop, List.length_take]; rfl) | (simp only [Act.eval, Array.getD_eq_getD_getElem?, Option.getD_some, *])) ?_; (with_reducible refine (num_Clamp.calls a1 (-1073741824) 1073741824 t151 _ A4.out).mono ?_); rintro e w12 ⟨rfl, hb⟩; refine ⟨_, rfl, ?_⟩; have n0_ := qS (qB (g := gb147) (o := .cells #[.int .u32 a0_0, .int .i64 a0_1] 58 (0, 0)) (qW BK147.out) hb); have n1_ := qS (qB (g := gb148) (o := .cells #[.int .u32 0, .int .i64 0] 58 (0, 0)) (qW BK148.out) hb); have n2_ := qS (below_step (bW2 HB.out GE147.out GE148.out) hb); clear BK147; clear BK148; clear HB; have BK147 := n0_; have BK148 := n1_; have HB := n2_; clear n0_ n1_ n2_; (try clear hb); (try clear hb2); (try clear hk); (try clear hi); have hcz13_0 : w12.cell? ⟨gb147, 0, none⟩ = some (.int .u32 a0_0) := (qC BK147.out 0).trans rfl; have hcz13_1 : w12.cell? ⟨gb147, 1, none⟩ = some (.int .i64 a0_1) := (qC BK147.out 1).trans rfl; have hfz13_0 := qF BK147.out 0; have hfz13_1 := qF BK147.out 1) | ((with_reducible refine gate_callee (f := 72) rfl ?_); refine goesL_ (some 23) rfl rfl Tryd.func72 (by kernel_rfl) rfl #[.int .i64 (wrap64 (a0_0)), .int .i64 (wrap64 (1073741824 + t151)), .int .i64 1073741824] rfl (by (try simp only [List.map_toArray, List.map_cons, List.map_nil]); first | done | rfl | (simp only [*]; done) | (simp only [List.length_drop, List.length_take]; rfl) | (simp only [Act.eval, Array.getD_eq_getD_getElem?, Option.getD_some, *])) ?_; (with_reducible refine (wide_MulDiv.calls k (wrap64 (a0_0)) (wrap64 (1073741824 + t151)) 1073741824 t152 none _ A5.out).mono ?_); rintro e w14 ⟨rfl, hb⟩; refine ⟨_, rfl, ?_⟩; have n0_ := qS (qB (g := gb147) (o := .cells #[.int .u32 a0_0, .int .i64 a0_1] 58 (0, 0)) (qW BK147.out) hb); have n1_ := qS (qB (g := gb148) (o := .cells #[.int .u32 0, .int .i64 0] 58 (0, 0)) (qW BK148.out) hb); have n2_ := qS (below_step (bW2 HB.out GE147.out GE148.out) hb); clear BK147; clear BK148; clear HB; have BK147 := n0_; have BK148 := n1_; have HB := n2_; clear n0_ n1_ n2_; (try clear hb); (try clear hb2); (try clear hk); (try clear hi); (try simp only [errW_none, errW_some]); have hcz15_0 : w14.cell? ⟨gb148, 0, none⟩ = some (.int .u32 0) := (qC BK148.out 0).trans rfl; have hcz15_1 : w14.cell? ⟨gb148, 1, none⟩ = some (.int .i64 0) := (qC BK148.out 1).trans rfl; have hfz15_0 := qF BK148.out 0; have hfz15_1 := qF BK148.out 1))
     refine bodyPost_ret (results_ct rfl _ _ gb148 58 #[.int .u32 0, .int .i64 0] (0, 0) _ rfl (by (with_reducible repeat (first | refine qN ?_ _ | refine qD ?_ | refine qA ?_ _)); refine blk_put (cs := #[.int .u32 0, .int .i64 0]) ?_ 1 _ rfl; (with_reducible repeat (first | refine qN ?_ _ | refine qD ?_ | refine qA ?_ _)); refine blk_put (cs := #[.int .u32 0, .int .i64 0]) ?_ 0 _ rfl; (with_reducible repeat (first | refine qN ?_ _ | refine qD ?_ | refine qA ?_ _)); exact BK148.out) Tryd.underlying58 rfl (by kernel_rfl)) rfl ?_
     exact ⟨by first | rfl | (simp [errW_none, errW_some] <;> rfl) | (simp [*, errW_none, errW_some] <;> rfl), by repeat (first | (with_reducible first | exact HB.out | apply qpA | apply qpN | apply qp1 | refine qpS ?_ GE147.out | refine qpS ?_ GE148.out) | exact HB.out)⟩
   ·rw [if_neg c6] at H
    have c6b0 : decide (t152 < 1) = false := decide_eq_false c6
    clear c6
    by_cases c16 : t152 ≥ 4294967296
    ·rw [if_pos c16] at H
     have c16b0 : decide (4294967296 ≤ t152) = true := decide_eq_true c16
     clear c16
     as_aux_lemma =>
      simp only [Option.some.injEq, Prod.mk.injEq] at H
      obtain ⟨rfl, rfl, rfl⟩ := H
      go_enter Tryd.func162, Tryd.ntmps162
      go_wp2_with (first | ((with_reducible refine gate_dst (N := 2) rfl ?_); refine box_event ?hg (N := 2) ?hd (cs := #[.int .u32 a0_0, .int .i64 a0_1]) (t := 58) ?hr ?_; (case hd => rfl); (case hg => rfl); (case hr => first | (go_simp; done) | (go_simp; rfl)); intro gb147 hg w17 hbox hb; have n0_ := qS (below_step (bW0 HB.out) hb); have n1_ := qS (hbox); have n2_ := qS ((by rw [hg]; exact (below_size (bW0 HB.out)) : w.heap.size ≤ gb147)); have n3_ := qS ((by rw [hg]; exact (below_size (bW0 HB.out)) : w.heap.size ≤ gb147)); clear HB; have HB := n0_; have BK147 := n1_; have GW147 := n2_; have GE147 := n3_; clear n0_ n1_ n2_ n3_; clear hb hbox hg) | ((with_reducible refine gate_dst (N := 4) rfl ?_); refine box_event ?hg (N := 4) ?hd (cs := #[.int .u32 0, .int .i64 0]) (t := 58) ?hr ?_; (case hd => rfl); (case hg => rfl); (case hr => first | (go_simp; done) | (go_simp; rfl)); intro gb148 hg w18 hbox hb; have n0_ := qS (qB (g := gb147) (o := .cells #[.int .u32 a0_0, .int .i64 a0_1] 58 (0, 0)) (qW BK147.out) hb); have n1_ := qS (below_step (bW1 HB.out GE147.out) hb); have n2_ := qS (hbox); have n3_ := qS ((by rw [hg]; exact (below_size (bW1 HB.out GE147.out)) : w.heap.size ≤ gb148)); have n4_ := qS ((by rw [hg]; exact (below_size (bW1 HB.out GE147.out)) : w.heap.size ≤ gb148)); have n5_ := qS ((by rw [hg]; exact Nat.ne_of_lt (blk_lt (g := gb147) (o := .cells #[.int .u32 a0_0, .int .i64 a0_1] 58 (0, 0)) (qW BK147.out)) : gb147 ≠ gb148)); have n6_ := qS ((by rw [hg]; exact Nat.ne_of_gt (blk_lt (g := gb147) (o := .cells #[.int .u32 a0_0, .int .i64 a0_1] 58 (0, 0)) (qW BK147.out)) : gb148 ≠ gb147)); clear BK147; clear HB; have BK147 := n0_; have HB := n1_; have BK148 := n2_; have GW148 := n3_; have GE148 := n4_; have NB147_148 := n5_; have NB148_147 := n6_; clear n0_ n1_ n2_ n3_ n4_ n5_ n6_; clear hb hbox hg; have hnb19 := NB147_148.out; have hnc19 := NB148_147.out; have hcz20_0 : w18.cell? ⟨gb147, 0, none⟩ = some (.int .u32 a0_0) := (qC BK147.out 0).trans rfl; have hcz20_1 : w18.cell? ⟨gb147, 1, none⟩ = some (.int .i64 a0_1) := (qC BK147.out 1).trans rfl; have hfz20_0 := qF BK147.out 0; have hfz20_1 := qF BK147.out 1) | ((with_reducible refine gate_callee (f := 149) rfl ?_); refine goesL_ (some 10) rfl rfl Tryd.func149 (by kernel_rfl) rfl #[.agg #[.int .u32 a0_0, .int .i64 a0_1]] rfl (by (try simp only [List.map_toArray, List.map_cons, List.map_nil]); first | done | rfl | (simp only [*]; done) | (simp only [List.length_drop, List.length_take]; rfl) | (simp only [Act.eval, Array.getD_eq_getD_getElem?, Option.getD_some, *])) ?_; (with_reducible refine (ratio_Check.calls a0_0 a0_1 none _ A3.out).mono ?_); rintro e w21 ⟨rfl, hb⟩; refine ⟨_, rfl, ?_⟩; have n0_ := qS (qB (g := gb147) (o := .cells #[.int .u32 a0_0, .int .i64 a0_1] 58 (0, 0)) (qW BK147.out) hb); have n1_ := qS (qB (g := gb148) (o := .cells #[.int .u32 0, .int .i64 0] 58 (0, 0)) (qW BK148.out) hb); have n2_ := qS (below_step (bW2 HB.out GE147.out GE148.out) hb); clear BK147; clear BK148; clear HB; have BK147 := n0_; have BK148 := n1_; have HB := n2_; clear n0_ n1_ n2_; (try clear hb); (try clear hb2); (try clear hk); (try clear hi); (try simp only [errW_none, errW_some])) | ((with_reducible refine gate_callee (f := 171) rfl ?_); refine goesL_ (some 16) rfl rfl Tryd.func171 (by kernel_rfl) rfl #[.int .i64 a1, .int .i64 (-1073741824), .int .i64 1073741824] rfl (by (try simp only [List.map_toArray, List.map_cons, List.map_nil]); first | done | rfl | (simp only [*]; done) | (simp only [List.length_drop, List.length_take]; rfl) | (simp only [Act.eval, Array.getD_eq_getD_getElem?, Option.getD_some, *])) ?_; (with_reducible refine (num_Clamp.calls a1 (-1073741824) 1073741824 t151 _ A4.out).mono ?_); rintro e w22 ⟨rfl, hb⟩; refine ⟨_, rfl, ?_⟩; have n0_ := qS (qB (g := gb147) (o := .cells #[.int .u32 a0_0, .int .i64 a0_1] 58 (0, 0)) (qW BK147.out) hb); have n1_ := qS (qB (g := gb148) (o := .cells #[.int .u32 0, .int .i64 0] 58 (0, 0)) (qW BK148.out) hb); have n2_ := qS (below_step (bW2 HB.out GE147.out GE148.out) hb); clear BK147; clear BK148; clear HB; have BK147 := n0_; have BK148 := n1_; have HB := n2_; clear n0_ n1_ n2_; (try clear hb); (try clear hb2); (try clear hk); (try clear hi); have hcz23_0 : w22.cell? ⟨gb147, 0, none⟩ = some (.int .u32 a0_0) := (qC BK147.out 0).trans rfl; have hcz23_1 : w22.cell? ⟨gb147, 1, none⟩ = some (.int .i64 a0_1) := (qC BK147.out 1).trans rfl; have hfz23_0 := qF BK147.out 0; have hfz23_1 := qF BK147.out 1) | ((with_reducible refine gate_callee (f := 72) rfl ?_); refine goesL_ (some 23) rfl rfl Tryd.func72 (by kernel_rfl) rfl #[.int .i64 (wrap64 (a0_0)), .int .i64 (wrap64 (1073741824 + t151)), .int .i64 1073741824] rfl (by (try simp only [List.map_toArray, List.map_cons, List.map_nil]); first | done | rfl | (simp only [*]; done) | (simp only [List.length_drop, List.length_take]; rfl) | (simp only [Act.eval, Array.getD_eq_getD_getElem?, Option.getD_some, *])) ?_; (with_reducible refine (wide_MulDiv.calls k (wrap64 (a0_0)) (wrap64 (1073741824 + t151)) 1073741824 t152 none _ A5.out).mono ?_); rintro e w24 ⟨rfl, hb⟩; refine ⟨_, rfl, ?_⟩; have n0_ := qS (qB (g := gb147) (o := .cells #[.int .u32 a0_0, .int .i64 a0_1] 58 (0, 0)) (qW BK147.out) hb); have n1_ := qS (qB (g := gb148) (o := .cells #[.int .u32 0, .int .i64 0] 58 (0, 0)) (qW BK148.out) hb); have n2_ := qS (below_step (bW2 HB.out GE147.out GE148.out) hb); clear BK147; clear BK148; clear HB; have BK147 := n0_; have BK148 := n1_; have HB := n2_; clear n0_ n1_ n2_; (try clear hb); (try clear hb2); (try clear hk); (try clear hi); (try simp only [errW_none, errW_some]); have hcz25_0 : w24.cell? ⟨gb148, 0, none⟩ = some (.int .u32 0) := (qC BK148.out 0).trans rfl; have hcz25_1 : w24.cell? ⟨gb148, 1, none⟩ = some (.int .i64 0) := (qC BK148.out 1).trans rfl; have hfz25_0 := qF BK148.out 0; have hfz25_1 := qF BK148.out 1))
      refine bodyPost_ret (results_ct rfl _ _ gb148 58 #[.int .u32 0, .int .i64 0] (0, 0) _ rfl (by (with_reducible repeat (first | refine qN ?_ _ | refine qD ?_ | refine qA ?_ _)); refine blk_put (cs := #[.int .u32 0, .int .i64 0]) ?_ 1 _ rfl; (with_reducible repeat (first | refine qN ?_ _ | refine qD ?_ | refine qA ?_ _)); refine blk_put (cs := #[.int .u32 0, .int .i64 0]) ?_ 0 _ rfl; (with_reducible repeat (first | refine qN ?_ _ | refine qD ?_ | refine qA ?_ _)); exact BK148.out) Tryd.underlying58 rfl (by kernel_rfl)) rfl ?_
      exact ⟨by first | rfl | (simp [errW_none, errW_some] <;> rfl) | (simp [*, errW_none, errW_some] <;> rfl), by repeat (first | (with_reducible first | exact HB.out | apply qpA | apply qpN | apply qp1 | refine qpS ?_ GE147.out | refine qpS ?_ GE148.out) | exact HB.out)⟩
    ·rw [if_neg c16] at H
     have c16b0 : decide (4294967296 ≤ t152) = false := decide_eq_false c16
     clear c16
     as_aux_lemma =>
      simp only [Option.some.injEq, Prod.mk.injEq] at H
      obtain ⟨rfl, rfl, rfl⟩ := H
      go_enter Tryd.func162, Tryd.ntmps162
      go_wp2_with (first | ((with_reducible refine gate_dst (N := 2) rfl ?_); refine box_event ?hg (N := 2) ?hd (cs := #[.int .u32 a0_0, .int .i64 a0_1]) (t := 58) ?hr ?_; (case hd => rfl); (case hg => rfl); (case hr => first | (go_simp; done) | (go_simp; rfl)); intro gb147 hg w26 hbox hb; have n0_ := qS (below_step (bW0 HB.out) hb); have n1_ := qS (hbox); have n2_ := qS ((by rw [hg]; exact (below_size (bW0 HB.out)) : w.heap.size ≤ gb147)); have n3_ := qS ((by rw [hg]; exact (below_size (bW0 HB.out)) : w.heap.size ≤ gb147)); clear HB; have HB := n0_; have BK147 := n1_; have GW147 := n2_; have GE147 := n3_; clear n0_ n1_ n2_ n3_; clear hb hbox hg) | ((with_reducible refine gate_dst (N := 4) rfl ?_); refine box_event ?hg (N := 4) ?hd (cs := #[.int .u32 0, .int .i64 0]) (t := 58) ?hr ?_; (case hd => rfl); (case hg => rfl); (case hr => first | (go_simp; done) | (go_simp; rfl)); intro gb148 hg w27 hbox hb; have n0_ := qS (qB (g := gb147) (o := .cells #[.int .u32 a0_0, .int .i64 a0_1] 58 (0, 0)) (qW BK147.out) hb); have n1_ := qS (below_step (bW1 HB.out GE147.out) hb); have n2_ := qS (hbox); have n3_ := qS ((by rw [hg]; exact (below_size (bW1 HB.out GE147.out)) : w.heap.size ≤ gb148)); have n4_ := qS ((by rw [hg]; exact (below_size (bW1 HB.out GE147.out)) : w.heap.size ≤ gb148)); have n5_ := qS ((by rw [hg]; exact Nat.ne_of_lt (blk_lt (g := gb147) (o := .cells #[.int .u32 a0_0, .int .i64 a0_1] 58 (0, 0)) (qW BK147.out)) : gb147 ≠ gb148)); have n6_ := qS ((by rw [hg]; exact Nat.ne_of_gt (blk_lt (g := gb147) (o := .cells #[.int .u32 a0_0, .int .i64 a0_1] 58 (0, 0)) (qW BK147.out)) : gb148 ≠ gb147)); clear BK147; clear HB; have BK147 := n0_; have HB := n1_; have BK148 := n2_; have GW148 := n3_; have GE148 := n4_; have NB147_148 := n5_; have NB148_147 := n6_; clear n0_ n1_ n2_ n3_ n4_ n5_ n6_; clear hb hbox hg; have hnb28 := NB147_148.out; have hnc28 := NB148_147.out; have hcz29_0 : w27.cell? ⟨gb147, 0, none⟩ = some (.int .u32 a0_0) := (qC BK147.out 0).trans rfl; have hcz29_1 : w27.cell? ⟨gb147, 1, none⟩ = some (.int .i64 a0_1) := (qC BK147.out 1).trans rfl; have hfz29_0 := qF BK147.out 0; have hfz29_1 := qF BK147.out 1) | ((with_reducible refine gate_callee (f := 149) rfl ?_); refine goesL_ (some 10) rfl rfl Tryd.func149 (by kernel_rfl) rfl #[.agg #[.int .u32 a0_0, .int .i64 a0_1]] rfl (by (try simp only [List.map_toArray, List.map_cons, List.map_nil]); first | done | rfl | (simp only [*]; done) | (simp only [List.length_drop, List.length_take]; rfl) | (simp only [Act.eval, Array.getD_eq_getD_getElem?, Option.getD_some, *])) ?_; (with_reducible refine (ratio_Check.calls a0_0 a0_1 none _ A3.out).mono ?_); rintro e w30 ⟨rfl, hb⟩; refine ⟨_, rfl, ?_⟩; have n0_ := qS (qB (g := gb147) (o := .cells #[.int .u32 a0_0, .int .i64 a0_1] 58 (0, 0)) (qW BK147.out) hb); have n1_ := qS (qB (g := gb148) (o := .cells #[.int .u32 0, .int .i64 0] 58 (0, 0)) (qW BK148.out) hb); have n2_ := qS (below_step (bW2 HB.out GE147.out GE148.out) hb); clear BK147; clear BK148; clear HB; have BK147 := n0_; have BK148 := n1_; have HB := n2_; clear n0_ n1_ n2_; (try clear hb); (try clear hb2); (try clear hk); (try clear hi); (try simp only [errW_none, errW_some])) | ((with_reducible refine gate_callee (f := 171) rfl ?_); refine goesL_ (some 16) rfl rfl Tryd.func171 (by kernel_rfl) rfl #[.int .i64 a1, .int .i64 (-1073741824), .int .i64 1073741824] rfl (by (try simp only [List.map_toArray, List.map_cons, List.map_nil]); first | done | rfl | (simp only [*]; done) | (simp only [List.length_drop, List.length_take]; rfl) | (simp only [Act.eval, Array.getD_eq_getD_getElem?, Option.getD_some, *])) ?_; (with_reducible refine (num_Clamp.calls a1 (-1073741824) 1073741824 t151 _ A4.out).mono ?_); rintro e w31 ⟨rfl, hb⟩; refine ⟨_, rfl, ?_⟩; have n0_ := qS (qB (g := gb147) (o := .cells #[.int .u32 a0_0, .int .i64 a0_1] 58 (0, 0)) (qW BK147.out) hb); have n1_ := qS (qB (g := gb148) (o := .cells #[.int .u32 0, .int .i64 0] 58 (0, 0)) (qW BK148.out) hb); have n2_ := qS (below_step (bW2 HB.out GE147.out GE148.out) hb); clear BK147; clear BK148; clear HB; have BK147 := n0_; have BK148 := n1_; have HB := n2_; clear n0_ n1_ n2_; (try clear hb); (try clear hb2); (try clear hk); (try clear hi); have hcz32_0 : w31.cell? ⟨gb147, 0, none⟩ = some (.int .u32 a0_0) := (qC BK147.out 0).trans rfl; have hcz32_1 : w31.cell? ⟨gb147, 1, none⟩ = some (.int .i64 a0_1) := (qC BK147.out 1).trans rfl; have hfz32_0 := qF BK147.out 0; have hfz32_1 := qF BK147.out 1) | ((with_reducible refine gate_callee (f := 72) rfl ?_); refine goesL_ (some 23) rfl rfl Tryd.func72 (by kernel_rfl) rfl #[.int .i64 (wrap64 (a0_0)), .int .i64 (wrap64 (1073741824 + t151)), .int .i64 1073741824] rfl (by (try simp only [List.map_toArray, List.map_cons, List.map_nil]); first | done | rfl | (simp only [*]; done) | (simp only [List.length_drop, List.length_take]; rfl) | (simp only [Act.eval, Array.getD_eq_getD_getElem?, Option.getD_some, *])) ?_; (with_reducible refine (wide_MulDiv.calls k (wrap64 (a0_0)) (wrap64 (1073741824 + t151)) 1073741824 t152 none _ A5.out).mono ?_); rintro e w33 ⟨rfl, hb⟩; refine ⟨_, rfl, ?_⟩; have n0_ := qS (qB (g := gb147) (o := .cells #[.int .u32 a0_0, .int .i64 a0_1] 58 (0, 0)) (qW BK147.out) hb); have n1_ := qS (qB (g := gb148) (o := .cells #[.int .u32 0, .int .i64 0] 58 (0, 0)) (qW BK148.out) hb); have n2_ := qS (below_step (bW2 HB.out GE147.out GE148.out) hb); clear BK147; clear BK148; clear HB; have BK147 := n0_; have BK148 := n1_; have HB := n2_; clear n0_ n1_ n2_; (try clear hb); (try clear hb2); (try clear hk); (try clear hi); (try simp only [errW_none, errW_some]); have hcz34_0 : w33.cell? ⟨gb147, 0, none⟩ = some (.int .u32 a0_0) := (qC BK147.out 0).trans rfl; have hcz34_1 : w33.cell? ⟨gb147, 1, none⟩ = some (.int .i64 a0_1) := (qC BK147.out 1).trans rfl; have hfz34_0 := qF BK147.out 0; have hfz34_1 := qF BK147.out 1; have hcz35_0 : w33.cell? ⟨gb148, 0, none⟩ = some (.int .u32 0) := (qC BK148.out 0).trans rfl; have hcz35_1 : w33.cell? ⟨gb148, 1, none⟩ = some (.int .i64 0) := (qC BK148.out 1).trans rfl; have hfz35_0 := qF BK148.out 0; have hfz35_1 := qF BK148.out 1))
      refine bodyPost_ret (results_ct rfl _ _ gb148 58 #[.int .u32 ((t152) % 4294967296), .int .i64 a0_1] (0, 0) _ rfl (by (with_reducible repeat (first | refine qN ?_ _ | refine qD ?_ | refine qA ?_ _)); refine blk_put (cs := #[.int .u32 ((t152) % 4294967296), .int .i64 0]) ?_ 1 _ rfl; (with_reducible repeat (first | refine qN ?_ _ | refine qD ?_ | refine qA ?_ _)); refine blk_put (cs := #[.int .u32 0, .int .i64 0]) ?_ 0 _ rfl; (with_reducible repeat (first | refine qN ?_ _ | refine qD ?_ | refine qA ?_ _)); exact BK148.out) Tryd.underlying58 rfl (by kernel_rfl)) rfl ?_
      exact ⟨by first | rfl | (simp [errW_none, errW_some] <;> rfl) | (simp [*, errW_none, errW_some] <;> rfl), by repeat (first | (with_reducible first | exact HB.out | apply qpA | apply qpN | apply qp1 | refine qpS ?_ GE147.out | refine qpS ?_ GE148.out) | exact HB.out)⟩
  ·have H1 : (some (0, 0, some 2)) = some (r1, r2, r3) := by rw [if_neg (show ¬ (some q154).isNone = true by simp)] at H; exact H
   clear H
   have H := H1
   clear H1
   try simp only [errW_none, errW_some]
   as_aux_lemma =>
    simp only [Option.some.injEq, Prod.mk.injEq] at H
    obtain ⟨rfl, rfl, rfl⟩ := H
    go_enter Tryd.func162, Tryd.ntmps162
    go_wp2_with (first | ((with_reducible refine gate_dst (N := 2) rfl ?_); refine box_event ?hg (N := 2) ?hd (cs := #[.int .u32 a0_0, .int .i64 a0_1]) (t := 58) ?hr ?_; (case hd => rfl); (case hg => rfl); (case hr => first | (go_simp; done) | (go_simp; rfl)); intro gb147 hg w36 hbox hb; have n0_ := qS (below_step (bW0 HB.out) hb); have n1_ := qS (hbox); have n2_ := qS ((by rw [hg]; exact (below_size (bW0 HB.out)) : w.heap.size ≤ gb147)); have n3_ := qS ((by rw [hg]; exact (below_size (bW0 HB.out)) : w.heap.size ≤ gb147)); clear HB; have HB := n0_; have BK147 := n1_; have GW147 := n2_; have GE147 := n3_; clear n0_ n1_ n2_ n3_; clear hb hbox hg) | ((with_reducible refine gate_dst (N := 4) rfl ?_); refine box_event ?hg (N := 4) ?hd (cs := #[.int .u32 0, .int .i64 0]) (t := 58) ?hr ?_; (case hd => rfl); (case hg => rfl); (case hr => first | (go_simp; done) | (go_simp; rfl)); intro gb148 hg w37 hbox hb; have n0_ := qS (qB (g := gb147) (o := .cells #[.int .u32 a0_0, .int .i64 a0_1] 58 (0, 0)) (qW BK147.out) hb); have n1_ := qS (below_step (bW1 HB.out GE147.out) hb); have n2_ := qS (hbox); have n3_ := qS ((by rw [hg]; exact (below_size (bW1 HB.out GE147.out)) : w.heap.size ≤ gb148)); have n4_ := qS ((by rw [hg]; exact (below_size (bW1 HB.out GE147.out)) : w.heap.size ≤ gb148)); have n5_ := qS ((by rw [hg]; exact Nat.ne_of_lt (blk_lt (g := gb147) (o := .cells #[.int .u32 a0_0, .int .i64 a0_1] 58 (0, 0)) (qW BK147.out)) : gb147 ≠ gb148)); have n6_ := qS ((by rw [hg]; exact Nat.ne_of_gt (blk_lt (g := gb147) (o := .cells #[.int .u32 a0_0, .int .i64 a0_1] 58 (0, 0)) (qW BK147.out)) : gb148 ≠ gb147)); clear BK147; clear HB; have BK147 := n0_; have HB := n1_; have BK148 := n2_; have GW148 := n3_; have GE148 := n4_; have NB147_148 := n5_; have NB148_147 := n6_; clear n0_ n1_ n2_ n3_ n4_ n5_ n6_; clear hb hbox hg; have hnb38 := NB147_148.out; have hnc38 := NB148_147.out; have hcz39_0 : w37.cell? ⟨gb147, 0, none⟩ = some (.int .u32 a0_0) := (qC BK147.out 0).trans rfl; have hcz39_1 : w37.cell? ⟨gb147, 1, none⟩ = some (.int .i64 a0_1) := (qC BK147.out 1).trans rfl; have hfz39_0 := qF BK147.out 0; have hfz39_1 := qF BK147.out 1) | ((with_reducible refine gate_callee (f := 149) rfl ?_); refine goesL_ (some 10) rfl rfl Tryd.func149 (by kernel_rfl) rfl #[.agg #[.int .u32 a0_0, .int .i64 a0_1]] rfl (by (try simp only [List.map_toArray, List.map_cons, List.map_nil]); first | done | rfl | (simp only [*]; done) | (simp only [List.length_drop, List.length_take]; rfl) | (simp only [Act.eval, Array.getD_eq_getD_getElem?, Option.getD_some, *])) ?_; (with_reducible refine (ratio_Check.calls a0_0 a0_1 none _ A3.out).mono ?_); rintro e w40 ⟨rfl, hb⟩; refine ⟨_, rfl, ?_⟩; have n0_ := qS (qB (g := gb147) (o := .cells #[.int .u32 a0_0, .int .i64 a0_1] 58 (0, 0)) (qW BK147.out) hb); have n1_ := qS (qB (g := gb148) (o := .cells #[.int .u32 0, .int .i64 0] 58 (0, 0)) (qW BK148.out) hb); have n2_ := qS (below_step (bW2 HB.out GE147.out GE148.out) hb); clear BK147; clear BK148; clear HB; have BK147 := n0_; have BK148 := n1_; have HB := n2_; clear n0_ n1_ n2_; (try clear hb); (try clear hb2); (try clear hk); (try clear hi); (try simp only [errW_none, errW_some])) | ((with_reducible refine gate_callee (f := 171) rfl ?_); refine goesL_ (some 16) rfl rfl Tryd.func171 (by kernel_rfl) rfl #[.int .i64 a1, .int .i64 (-1073741824), .int .i64 1073741824] rfl (by (try simp only [List.map_toArray, List.map_cons, List.map_nil]); first | done | rfl | (simp only [*]; done) | (simp only [List.length_drop, List.length_take]; rfl) | (simp only [Act.eval, Array.getD_eq_getD_getElem?, Option.getD_some, *])) ?_; (with_reducible refine (num_Clamp.calls a1 (-1073741824) 1073741824 t151 _ A4.out).mono ?_); rintro e w41 ⟨rfl, hb⟩; refine ⟨_, rfl, ?_⟩; have n0_ := qS (qB (g := gb147) (o := .cells #[.int .u32 a0_0, .int .i64 a0_1] 58 (0, 0)) (qW BK147.out) hb); have n1_ := qS (qB (g := gb148) (o := .cells #[.int .u32 0, .int .i64 0] 58 (0, 0)) (qW BK148.out) hb); have n2_ := qS (below_step (bW2 HB.out GE147.out GE148.out) hb); clear BK147; clear BK148; clear HB; have BK147 := n0_; have BK148 := n1_; have HB := n2_; clear n0_ n1_ n2_; (try clear hb); (try clear hb2); (try clear hk); (try clear hi); have hcz42_0 : w41.cell? ⟨gb147, 0, none⟩ = some (.int .u32 a0_0) := (qC BK147.out 0).trans rfl; have hcz42_1 : w41.cell? ⟨gb147, 1, none⟩ = some (.int .i64 a0_1) := (qC BK147.out 1).trans rfl; have hfz42_0 := qF BK147.out 0; have hfz42_1 := qF BK147.out 1) | ((with_reducible refine gate_callee (f := 72) rfl ?_); refine goesL_ (some 23) rfl rfl Tryd.func72 (by kernel_rfl) rfl #[.int .i64 (wrap64 (a0_0)), .int .i64 (wrap64 (1073741824 + t151)), .int .i64 1073741824] rfl (by (try simp only [List.map_toArray, List.map_cons, List.map_nil]); first | done | rfl | (simp only [*]; done) | (simp only [List.length_drop, List.length_take]; rfl) | (simp only [Act.eval, Array.getD_eq_getD_getElem?, Option.getD_some, *])) ?_; (with_reducible refine (wide_MulDiv.calls k (wrap64 (a0_0)) (wrap64 (1073741824 + t151)) 1073741824 t152 (some q154) _ A5.out).mono ?_); rintro e w43 ⟨rfl, hb⟩; refine ⟨_, rfl, ?_⟩; have n0_ := qS (qB (g := gb147) (o := .cells #[.int .u32 a0_0, .int .i64 a0_1] 58 (0, 0)) (qW BK147.out) hb); have n1_ := qS (qB (g := gb148) (o := .cells #[.int .u32 0, .int .i64 0] 58 (0, 0)) (qW BK148.out) hb); have n2_ := qS (below_step (bW2 HB.out GE147.out GE148.out) hb); clear BK147; clear BK148; clear HB; have BK147 := n0_; have BK148 := n1_; have HB := n2_; clear n0_ n1_ n2_; (try clear hb); (try clear hb2); (try clear hk); (try clear hi); (try simp only [errW_none, errW_some]); have hcz44_0 : w43.cell? ⟨gb148, 0, none⟩ = some (.int .u32 0) := (qC BK148.out 0).trans rfl; have hcz44_1 : w43.cell? ⟨gb148, 1, none⟩ = some (.int .i64 0) := (qC BK148.out 1).trans rfl; have hfz44_0 := qF BK148.out 0; have hfz44_1 := qF BK148.out 1))
    refine bodyPost_ret (results_ct rfl _ _ gb148 58 #[.int .u32 0, .int .i64 0] (0, 0) _ rfl (by (with_reducible repeat (first | refine qN ?_ _ | refine qD ?_ | refine qA ?_ _)); refine blk_put (cs := #[.int .u32 0, .int .i64 0]) ?_ 1 _ rfl; (with_reducible repeat (first | refine qN ?_ _ | refine qD ?_ | refine qA ?_ _)); refine blk_put (cs := #[.int .u32 0, .int .i64 0]) ?_ 0 _ rfl; (with_reducible repeat (first | refine qN ?_ _ | refine qD ?_ | refine qA ?_ _)); exact BK148.out) Tryd.underlying58 rfl (by kernel_rfl)) rfl ?_
    exact ⟨by first | rfl | (simp [errW_none, errW_some] <;> rfl) | (simp [*, errW_none, errW_some] <;> rfl), by repeat (first | (with_reducible first | exact HB.out | apply qpA | apply qpN | apply qp1 | refine qpS ?_ GE147.out | refine qpS ?_ GE148.out) | exact HB.out)⟩
 ·have H1 : (some (0, 0, some q150)) = some (r1, r2, r3) := by rw [if_neg (show ¬ (some q150).isNone = true by simp)] at H; exact H
  clear H
  have H := H1
  clear H1
  try simp only [errW_none, errW_some]
  as_aux_lemma =>
   simp only [Option.some.injEq, Prod.mk.injEq] at H
   obtain ⟨rfl, rfl, rfl⟩ := H
   go_enter Tryd.func162, Tryd.ntmps162
   go_wp2_with (first | ((with_reducible refine gate_dst (N := 2) rfl ?_); refine box_event ?hg (N := 2) ?hd (cs := #[.int .u32 a0_0, .int .i64 a0_1]) (t := 58) ?hr ?_; (case hd => rfl); (case hg => rfl); (case hr => first | (go_simp; done) | (go_simp; rfl)); intro gb147 hg w45 hbox hb; have n0_ := qS (below_step (bW0 HB.out) hb); have n1_ := qS (hbox); have n2_ := qS ((by rw [hg]; exact (below_size (bW0 HB.out)) : w.heap.size ≤ gb147)); have n3_ := qS ((by rw [hg]; exact (below_size (bW0 HB.out)) : w.heap.size ≤ gb147)); clear HB; have HB := n0_; have BK147 := n1_; have GW147 := n2_; have GE147 := n3_; clear n0_ n1_ n2_ n3_; clear hb hbox hg) | ((with_reducible refine gate_dst (N := 4) rfl ?_); refine box_event ?hg (N := 4) ?hd (cs := #[.int .u32 0, .int .i64 0]) (t := 58) ?hr ?_; (case hd => rfl); (case hg => rfl); (case hr => first | (go_simp; done) | (go_simp; rfl)); intro gb148 hg w46 hbox hb; have n0_ := qS (qB (g := gb147) (o := .cells #[.int .u32 a0_0, .int .i64 a0_1] 58 (0, 0)) (qW BK147.out) hb); have n1_ := qS (below_step (bW1 HB.out GE147.out) hb); have n2_ := qS (hbox); have n3_ := qS ((by rw [hg]; exact (below_size (bW1 HB.out GE147.out)) : w.heap.size ≤ gb148)); have n4_ := qS ((by rw [hg]; exact (below_size (bW1 HB.out GE147.out)) : w.heap.size ≤ gb148)); have n5_ := qS ((by rw [hg]; exact Nat.ne_of_lt (blk_lt (g := gb147) (o := .cells #[.int .u32 a0_0, .int .i64 a0_1] 58 (0, 0)) (qW BK147.out)) : gb147 ≠ gb148)); have n6_ := qS ((by rw [hg]; exact Nat.ne_of_gt (blk_lt (g := gb147) (o := .cells #[.int .u32 a0_0, .int .i64 a0_1] 58 (0, 0)) (qW BK147.out)) : gb148 ≠ gb147)); clear BK147; clear HB; have BK147 := n0_; have HB := n1_; have BK148 := n2_; have GW148 := n3_; have GE148 := n4_; have NB147_148 := n5_; have NB148_147 := n6_; clear n0_ n1_ n2_ n3_ n4_ n5_ n6_; clear hb hbox hg; have hnb47 := NB147_148.out; have hnc47 := NB148_147.out; have hcz48_0 : w46.cell? ⟨gb147, 0, none⟩ = some (.int .u32 a0_0) := (qC BK147.out 0).trans rfl; have hcz48_1 : w46.cell? ⟨gb147, 1, none⟩ = some (.int .i64 a0_1) := (qC BK147.out 1).trans rfl; have hfz48_0 := qF BK147.out 0; have hfz48_1 := qF BK147.out 1) | ((with_reducible refine gate_callee (f := 149) rfl ?_); refine goesL_ (some 10) rfl rfl Tryd.func149 (by kernel_rfl) rfl #[.agg #[.int .u32 a0_0, .int .i64 a0_1]] rfl (by (try simp only [List.map_toArray, List.map_cons, List.map_nil]); first | done | rfl | (simp only [*]; done) | (simp only [List.length_drop, List.length_take]; rfl) | (simp only [Act.eval, Array.getD_eq_getD_getElem?, Option.getD_some, *])) ?_; (with_reducible refine (ratio_Check.calls a0_0 a0_1 (some q150) _ A3.out).mono ?_); rintro e w49 ⟨rfl, hb⟩; refine ⟨_, rfl, ?_⟩; have n0_ := qS (qB (g := gb147) (o := .cells #[.int .u32 a0_0, .int .i64 a0_1] 58 (0, 0)) (qW BK147.out) hb); have n1_ := qS (qB (g := gb148) (o := .cells #[.int .u32 0, .int .i64 0] 58 (0, 0)) (qW BK148.out) hb); have n2_ := qS (below_step (bW2 HB.out GE147.out GE148.out) hb); clear BK147; clear BK148; clear HB; have BK147 := n0_; have BK148 := n1_; have HB := n2_; clear n0_ n1_ n2_; (try clear hb); (try clear hb2); (try clear hk); (try clear hi); (try simp only [errW_none, errW_some]); have hcz50_0 : w49.cell? ⟨gb148, 0, none⟩ = some (.int .u32 0) := (qC BK148.out 0).trans rfl; have hcz50_1 : w49.cell? ⟨gb148, 1, none⟩ = some (.int .i64 0) := (qC BK148.out 1).trans rfl; have hfz50_0 := qF BK148.out 0; have hfz50_1 := qF BK148.out 1))
   refine bodyPost_ret (results_ct rfl _ _ gb148 58 #[.int .u32 0, .int .i64 0] (0, 0) _ rfl (by (with_reducible repeat (first | refine qN ?_ _ | refine qD ?_ | refine qA ?_ _)); refine blk_put (cs := #[.int .u32 0, .int .i64 0]) ?_ 1 _ rfl; (with_reducible repeat (first | refine qN ?_ _ | refine qD ?_ | refine qA ?_ _)); refine blk_put (cs := #[.int .u32 0, .int .i64 0]) ?_ 0 _ rfl; (with_reducible repeat (first | refine qN ?_ _ | refine qD ?_ | refine qA ?_ _)); exact BK148.out) Tryd.underlying58 rfl (by kernel_rfl)) rfl ?_
   exact ⟨by first | rfl | (simp [errW_none, errW_some] <;> rfl) | (simp [*, errW_none, errW_some] <;> rfl), by repeat (first | (with_reducible first | exact HB.out | apply qpA | apply qpN | apply qp1 | refine qpS ?_ GE147.out | refine qpS ?_ GE148.out) | exact HB.out)⟩

/-! ### host_Factor: function 117 -/
def host_Factor.f (k : Nat) (a0_0 : Int) (a0_1 : Int) (a0_2 : Int) (a0_3 : Int) (a0_4 : Int) (a0_5 : Int) (a0_6 : Int) (a0_7 : Bool) (a0_8 : Int) (a0_9 : Int) (a0_10 : Int) (a0_11 : Int) (a0_12 : Int) : Option (Int × Int × Option Int) := (host_Check.f k a0_0 a0_1 a0_2 a0_3 a0_4 a0_5 a0_6 a0_7 a0_8 a0_9 a0_10 a0_11 a0_12).bind fun t157 => (if t157.isNone = true then ((ratio_Adjust.f k a0_0 a0_1 a0_11).bind fun bt159 => (some (bt159.1, bt159.2.1, bt159.2.2))) else (some (0, 0, some (t157.getD 0))))
theorem host_Factor.mono : ∀ a0 a1 a2 a3 a4 a5 a6 a7 a8 a9 a10 a11 a12 k, LeO (host_Factor.f k a0 a1 a2 a3 a4 a5 a6 a7 a8 a9 a10 a11 a12) (host_Factor.f (k + 1) a0 a1 a2 a3 a4 a5 a6 a7 a8 a9 a10 a11 a12) := by
 intro a0 a1 a2 a3 a4 a5 a6 a7 a8 a9 a10 a11 a12 k
 unfold host_Factor.f
 repeat' first
   | (with_reducible exact host_Check.mono _ _ _ _ _ _ _ _ _ _ _ _ _ _)
   | (with_reducible exact ratio_Adjust.mono _ _ _ _)
   | (with_reducible exact LeO.refl _)
   | (with_reducible exact LeO.none _)
   | (with_reducible refine LeO.ite ?_ ?_)
   | (with_reducible refine LeO.bind ?_ (fun _ => ?_))
   | exact host_Check.mono _ _ _ _ _ _ _ _ _ _ _ _ _ _
   | exact ratio_Adjust.mono _ _ _ _
   | exact LeO.none _
   | refine LeO.ite ?_ ?_
   | refine LeO.bind ?_ (fun _ => ?_)
set_option maxHeartbeats 8000000 in
set_option maxRecDepth 100000 in
theorem host_Factor.calls (k : Nat) (a0_0 : Int) (a0_1 : Int) (a0_2 : Int) (a0_3 : Int) (a0_4 : Int) (a0_5 : Int) (a0_6 : Int) (a0_7 : Bool) (a0_8 : Int) (a0_9 : Int) (a0_10 : Int) (a0_11 : Int) (a0_12 : Int) (r1 : Int) (r2 : Int) (r3 : Option Int) (w : World) (h : host_Factor.f k a0_0 a0_1 a0_2 a0_3 a0_4 a0_5 a0_6 a0_7 a0_8 a0_9 a0_10 a0_11 a0_12 = some (r1, r2, r3)) :
  Calls Tryd.prog 117 #[.agg #[.int .u32 a0_0, .int .i64 a0_1, .int .i64 a0_2, .int .i64 a0_3, .int .i64 a0_4, .int .i64 a0_5, .int .i64 a0_6, .bool a0_7, .int .i64 a0_8, .int .i64 a0_9, .int .i64 a0_10, .int .i64 a0_11, .int .i64 a0_12]] w fun e w' => e = .returned (.tuple #[.agg #[.int .u32 r1, .int .i64 r2], errW r3]) ∧ Below w.heap.size w w' := by
 have hu137 := Tryd.underlying137
 have hu58 := Tryd.underlying58
 have hu31 := Tryd.underlying31
 have hu162 := Tryd.underlying162
 have HB := qS (Below.refl w.heap.size w)
 have H : ((host_Check.f k a0_0 a0_1 a0_2 a0_3 a0_4 a0_5 a0_6 a0_7 a0_8 a0_9 a0_10 a0_11 a0_12).bind fun t157 => (if t157.isNone = true then ((ratio_Adjust.f k a0_0 a0_1 a0_11).bind fun bt159 => (some (bt159.1, bt159.2.1, bt159.2.2))) else (some (0, 0, some (t157.getD 0))))) = some (r1, r2, r3) := h
 clear h
 replace H := Option.bind_eq_some_iff.mp H
 obtain ⟨t157, A20, H⟩ := H
 replace H : (if t157.isNone = true then ((ratio_Adjust.f k a0_0 a0_1 a0_11).bind fun bt159 => (some (bt159.1, bt159.2.1, bt159.2.2))) else (some (0, 0, some (t157.getD 0)))) = some (r1, r2, r3) := H
 have A2 := qS A20
 clear A20
 rcases t157 with _ | q158
 ·have H1 : ((ratio_Adjust.f k a0_0 a0_1 a0_11).bind fun bt159 => (some (bt159.1, bt159.2.1, bt159.2.2))) = some (r1, r2, r3) := by rw [if_pos (show (none : Option Int).isNone = true by rfl)] at H; exact H
  clear H
  have H := H1
  clear H1
  try simp only [errW_none, errW_some]
  replace H := Option.bind_eq_some_iff.mp H
  obtain ⟨⟨t159, t160, t161⟩, A30, H⟩ := H
  replace H : (some (t159, t160, t161)) = some (r1, r2, r3) := H
  have A3 := qS A30
  clear A30
  as_aux_lemma =>
   simp only [Option.some.injEq, Prod.mk.injEq] at H
   obtain ⟨rfl, rfl, rfl⟩ := H
   go_enter Tryd.func117, Tryd.ntmps117
   go_wp2_with (first | ((with_reducible refine gate_dst (N := 1) rfl ?_); refine box_event ?hg (N := 1) ?hd (cs := #[.int .u32 a0_0, .int .i64 a0_1, .int .i64 a0_2, .int .i64 a0_3, .int .i64 a0_4, .int .i64 a0_5, .int .i64 a0_6, .bool a0_7, .int .i64 a0_8, .int .i64 a0_9, .int .i64 a0_10, .int .i64 a0_11, .int .i64 a0_12]) (t := 137) ?hr ?_; (case hd => rfl); (case hg => rfl); (case hr => first | (go_simp; done) | (go_simp; rfl)); intro gb155 hg w4 hbox hb; have n0_ := qS (below_step (bW0 HB.out) hb); have n1_ := qS (hbox); have n2_ := qS ((by rw [hg]; exact (below_size (bW0 HB.out)) : w.heap.size ≤ gb155)); have n3_ := qS ((by rw [hg]; exact (below_size (bW0 HB.out)) : w.heap.size ≤ gb155)); clear HB; have HB := n0_; have BK155 := n1_; have GW155 := n2_; have GE155 := n3_; clear n0_ n1_ n2_ n3_; clear hb hbox hg) | ((with_reducible refine gate_dst (N := 2) rfl ?_); refine box_event ?hg (N := 2) ?hd (cs := #[.int .u32 0, .int .i64 0]) (t := 58) ?hr ?_; (case hd => rfl); (case hg => rfl); (case hr => first | (go_simp; done) | (go_simp; rfl)); intro gb156 hg w5 hbox hb; have n0_ := qS (qB (g := gb155) (o := .cells (ce5_0 a0_0 a0_1 a0_2 a0_3 a0_4 a0_5 a0_6 a0_7 a0_8 a0_9 a0_10 a0_11 a0_12) 137 (0, 0)) (qW BK155.out) hb); have n1_ := qS (below_step (bW1 HB.out GE155.out) hb); have n2_ := qS (hbox); have n3_ := qS ((by rw [hg]; exact (below_size (bW1 HB.out GE155.out)) : w.heap.size ≤ gb156)); have n4_ := qS ((by rw [hg]; exact (below_size (bW1 HB.out GE155.out)) : w.heap.size ≤ gb156)); have n5_ := qS ((by rw [hg]; exact Nat.ne_of_lt (blk_lt (g := gb155) (o := .cells (ce5_0 a0_0 a0_1 a0_2 a0_3 a0_4 a0_5 a0_6 a0_7 a0_8 a0_9 a0_10 a0_11 a0_12) 137 (0, 0)) (qW BK155.out)) : gb155 ≠ gb156)); have n6_ := qS ((by rw [hg]; exact Nat.ne_of_gt (blk_lt (g := gb155) (o := .cells (ce5_0 a0_0 a0_1 a0_2 a0_3 a0_4 a0_5 a0_6 a0_7 a0_8 a0_9 a0_10 a0_11 a0_12) 137 (0, 0)) (qW BK155.out)) : gb156 ≠ gb155)); clear BK155; clear HB; have BK155 := n0_; have HB := n1_; have BK156 := n2_; have GW156 := n3_; have GE156 := n4_; have NB155_156 := n5_; have NB156_155 := n6_; clear n0_ n1_ n2_ n3_ n4_ n5_ n6_; clear hb hbox hg; have hnb6 := NB155_156.out; have hnc6 := NB156_155.out; obtain ⟨hcz7_0, hcz7_1, hcz7_2, hcz7_3, hcz7_4, hcz7_5, hcz7_6, hcz7_7, hcz7_8, hcz7_9, hcz7_10, hcz7_11, hcz7_12, hfz7_0, hfz7_1, hfz7_2, hfz7_3, hfz7_4, hfz7_5, hfz7_6, hfz7_7, hfz7_8, hfz7_9, hfz7_10, hfz7_11, hfz7_12⟩ := cz13 BK155.out) | ((with_reducible refine gate_dst (N := 5) rfl ?_); refine rowget_event rfl rfl gb155 0 137 #[.int .u32 a0_0, .int .i64 a0_1, .int .i64 a0_2, .int .i64 a0_3, .int .i64 a0_4, .int .i64 a0_5, .int .i64 a0_6, .bool a0_7, .int .i64 a0_8, .int .i64 a0_9, .int .i64 a0_10, .int .i64 a0_11, .int .i64 a0_12] #[.int .u32 a0_0, .int .i64 a0_1, .int .i64 a0_2, .int .i64 a0_3, .int .i64 a0_4, .int .i64 a0_5, .int .i64 a0_6, .bool a0_7, .int .i64 a0_8, .int .i64 a0_9, .int .i64 a0_10, .int .i64 a0_11, .int .i64 a0_12] _ rfl (qW BK155.out) rfl Tryd.underlying137 rfl (by kernel_rfl) ?_) | (go_at_call 63; refine calls_of_args (args' := #[.agg #[.int .u32 a0_0, .int .i64 a0_1, .int .i64 a0_2, .int .i64 a0_3, .int .i64 a0_4, .int .i64 a0_5, .int .i64 a0_6, .bool a0_7, .int .i64 a0_8, .int .i64 a0_9, .int .i64 a0_10, .int .i64 a0_11, .int .i64 a0_12]]) ?_ ?_; (focus (first | (rw [show (a0_7) = true by with_reducible assumption]) | (rw [show (a0_7) = false by with_reducible assumption]) | rfl | (simp only [*]; done) | (simp [*]; done))); (with_reducible refine (host_Check.calls k a0_0 a0_1 a0_2 a0_3 a0_4 a0_5 a0_6 a0_7 a0_8 a0_9 a0_10 a0_11 a0_12 none _ A2.out).mono ?_); rintro e w8 ⟨rfl, hb⟩; have n0_ := qS (qB (g := gb155) (o := .cells (ce5_0 a0_0 a0_1 a0_2 a0_3 a0_4 a0_5 a0_6 a0_7 a0_8 a0_9 a0_10 a0_11 a0_12) 137 (0, 0)) (qW BK155.out) hb); have n1_ := qS (qB (g := gb156) (o := .cells #[.int .u32 0, .int .i64 0] 58 (0, 0)) (qW BK156.out) hb); have n2_ := qS (below_step (bW2 HB.out GE155.out GE156.out) hb); clear BK155; clear BK156; clear HB; have BK155 := n0_; have BK156 := n1_; have HB := n2_; clear n0_ n1_ n2_; (try clear hb); (try clear hb2); (try clear hk); (try clear hi); (try simp only [errW_none, errW_some]); obtain ⟨hcz9_0, hcz9_1, hcz9_2, hcz9_3, hcz9_4, hcz9_5, hcz9_6, hcz9_7, hcz9_8, hcz9_9, hcz9_10, hcz9_11, hcz9_12, hfz9_0, hfz9_1, hfz9_2, hfz9_3, hfz9_4, hfz9_5, hfz9_6, hfz9_7, hfz9_8, hfz9_9, hfz9_10, hfz9_11, hfz9_12⟩ := cz13 BK155.out) | ((with_reducible refine gate_callee (f := 162) rfl ?_); refine goesL_ (some 17) rfl rfl Tryd.func162 (by kernel_rfl) rfl #[.agg #[.int .u32 a0_0, .int .i64 a0_1], .int .i64 a0_11] rfl (by (try simp only [List.map_toArray, List.map_cons, List.map_nil]); first | done | rfl | (simp only [*]; done) | (simp only [List.length_drop, List.length_take]; rfl) | (simp only [Act.eval, Array.getD_eq_getD_getElem?, Option.getD_some, *])) ?_; (with_reducible refine (ratio_Adjust.calls k a0_0 a0_1 a0_11 t159 t160 t161 _ A3.out).mono ?_); rintro e w10 ⟨rfl, hb⟩; refine ⟨_, rfl, ?_⟩; have n0_ := qS (qB (g := gb155) (o := .cells (ce5_0 a0_0 a0_1 a0_2 a0_3 a0_4 a0_5 a0_6 a0_7 a0_8 a0_9 a0_10 a0_11 a0_12) 137 (0, 0)) (qW BK155.out) hb); have n1_ := qS (qB (g := gb156) (o := .cells #[.int .u32 0, .int .i64 0] 58 (0, 0)) (qW BK156.out) hb); have n2_ := qS (below_step (bW2 HB.out GE155.out GE156.out) hb); clear BK155; clear BK156; clear HB; have BK155 := n0_; have BK156 := n1_; have HB := n2_; clear n0_ n1_ n2_; (try clear hb); (try clear hb2); (try clear hk); (try clear hi); (try simp only [errW_none, errW_some]); have hcz11_0 : w10.cell? ⟨gb156, 0, none⟩ = some (.int .u32 0) := (qC BK156.out 0).trans rfl; have hcz11_1 : w10.cell? ⟨gb156, 1, none⟩ = some (.int .i64 0) := (qC BK156.out 1).trans rfl; have hfz11_0 := qF BK156.out 0; have hfz11_1 := qF BK156.out 1))
   refine bodyPost_ret (results_ct rfl _ _ gb156 58 #[.int .u32 t159, .int .i64 t160] (0, 0) _ rfl (by (with_reducible repeat (first | refine qN ?_ _ | refine qD ?_ | refine qA ?_ _)); refine blk_put (cs := #[.int .u32 t159, .int .i64 0]) ?_ 1 _ rfl; (with_reducible repeat (first | refine qN ?_ _ | refine qD ?_ | refine qA ?_ _)); refine blk_put (cs := #[.int .u32 0, .int .i64 0]) ?_ 0 _ rfl; (with_reducible repeat (first | refine qN ?_ _ | refine qD ?_ | refine qA ?_ _)); exact BK156.out) Tryd.underlying58 rfl (by kernel_rfl)) rfl ?_
   exact ⟨by first | rfl | (simp [errW_none, errW_some] <;> rfl) | (simp [*, errW_none, errW_some] <;> rfl), by repeat (first | (with_reducible first | exact HB.out | apply qpA | apply qpN | apply qp1 | refine qpS ?_ GE155.out | refine qpS ?_ GE156.out) | exact HB.out)⟩
 ·have H1 : (some (0, 0, some q158)) = some (r1, r2, r3) := by rw [if_neg (show ¬ (some q158).isNone = true by simp)] at H; exact H
  clear H
  have H := H1
  clear H1
  try simp only [errW_none, errW_some]
  as_aux_lemma =>
   simp only [Option.some.injEq, Prod.mk.injEq] at H
   obtain ⟨rfl, rfl, rfl⟩ := H
   go_enter Tryd.func117, Tryd.ntmps117
   go_wp2_with (first | ((with_reducible refine gate_dst (N := 1) rfl ?_); refine box_event ?hg (N := 1) ?hd (cs := #[.int .u32 a0_0, .int .i64 a0_1, .int .i64 a0_2, .int .i64 a0_3, .int .i64 a0_4, .int .i64 a0_5, .int .i64 a0_6, .bool a0_7, .int .i64 a0_8, .int .i64 a0_9, .int .i64 a0_10, .int .i64 a0_11, .int .i64 a0_12]) (t := 137) ?hr ?_; (case hd => rfl); (case hg => rfl); (case hr => first | (go_simp; done) | (go_simp; rfl)); intro gb155 hg w12 hbox hb; have n0_ := qS (below_step (bW0 HB.out) hb); have n1_ := qS (hbox); have n2_ := qS ((by rw [hg]; exact (below_size (bW0 HB.out)) : w.heap.size ≤ gb155)); have n3_ := qS ((by rw [hg]; exact (below_size (bW0 HB.out)) : w.heap.size ≤ gb155)); clear HB; have HB := n0_; have BK155 := n1_; have GW155 := n2_; have GE155 := n3_; clear n0_ n1_ n2_ n3_; clear hb hbox hg) | ((with_reducible refine gate_dst (N := 2) rfl ?_); refine box_event ?hg (N := 2) ?hd (cs := #[.int .u32 0, .int .i64 0]) (t := 58) ?hr ?_; (case hd => rfl); (case hg => rfl); (case hr => first | (go_simp; done) | (go_simp; rfl)); intro gb156 hg w13 hbox hb; have n0_ := qS (qB (g := gb155) (o := .cells (ce5_0 a0_0 a0_1 a0_2 a0_3 a0_4 a0_5 a0_6 a0_7 a0_8 a0_9 a0_10 a0_11 a0_12) 137 (0, 0)) (qW BK155.out) hb); have n1_ := qS (below_step (bW1 HB.out GE155.out) hb); have n2_ := qS (hbox); have n3_ := qS ((by rw [hg]; exact (below_size (bW1 HB.out GE155.out)) : w.heap.size ≤ gb156)); have n4_ := qS ((by rw [hg]; exact (below_size (bW1 HB.out GE155.out)) : w.heap.size ≤ gb156)); have n5_ := qS ((by rw [hg]; exact Nat.ne_of_lt (blk_lt (g := gb155) (o := .cells (ce5_0 a0_0 a0_1 a0_2 a0_3 a0_4 a0_5 a0_6 a0_7 a0_8 a0_9 a0_10 a0_11 a0_12) 137 (0, 0)) (qW BK155.out)) : gb155 ≠ gb156)); have n6_ := qS ((by rw [hg]; exact Nat.ne_of_gt (blk_lt (g := gb155) (o := .cells (ce5_0 a0_0 a0_1 a0_2 a0_3 a0_4 a0_5 a0_6 a0_7 a0_8 a0_9 a0_10 a0_11 a0_12) 137 (0, 0)) (qW BK155.out)) : gb156 ≠ gb155)); clear BK155; clear HB; have BK155 := n0_; have HB := n1_; have BK156 := n2_; have GW156 := n3_; have GE156 := n4_; have NB155_156 := n5_; have NB156_155 := n6_; clear n0_ n1_ n2_ n3_ n4_ n5_ n6_; clear hb hbox hg; have hnb14 := NB155_156.out; have hnc14 := NB156_155.out; obtain ⟨hcz15_0, hcz15_1, hcz15_2, hcz15_3, hcz15_4, hcz15_5, hcz15_6, hcz15_7, hcz15_8, hcz15_9, hcz15_10, hcz15_11, hcz15_12, hfz15_0, hfz15_1, hfz15_2, hfz15_3, hfz15_4, hfz15_5, hfz15_6, hfz15_7, hfz15_8, hfz15_9, hfz15_10, hfz15_11, hfz15_12⟩ := cz13 BK155.out) | ((with_reducible refine gate_dst (N := 5) rfl ?_); refine rowget_event rfl rfl gb155 0 137 #[.int .u32 a0_0, .int .i64 a0_1, .int .i64 a0_2, .int .i64 a0_3, .int .i64 a0_4, .int .i64 a0_5, .int .i64 a0_6, .bool a0_7, .int .i64 a0_8, .int .i64 a0_9, .int .i64 a0_10, .int .i64 a0_11, .int .i64 a0_12] #[.int .u32 a0_0, .int .i64 a0_1, .int .i64 a0_2, .int .i64 a0_3, .int .i64 a0_4, .int .i64 a0_5, .int .i64 a0_6, .bool a0_7, .int .i64 a0_8, .int .i64 a0_9, .int .i64 a0_10, .int .i64 a0_11, .int .i64 a0_12] _ rfl (qW BK155.out) rfl Tryd.underlying137 rfl (by kernel_rfl) ?_) | (go_at_call 63; refine calls_of_args (args' := #[.agg #[.int .u32 a0_0, .int .i64 a0_1, .int .i64 a0_2, .int .i64 a0_3, .int .i64 a0_4, .int .i64 a0_5, .int .i64 a0_6, .bool a0_7, .int .i64 a0_8, .int .i64 a0_9, .int .i64 a0_10, .int .i64 a0_11, .int .i64 a0_12]]) ?_ ?_; (focus (first | (rw [show (a0_7) = true by with_reducible assumption]) | (rw [show (a0_7) = false by with_reducible assumption]) | rfl | (simp only [*]; done) | (simp [*]; done))); (with_reducible refine (host_Check.calls k a0_0 a0_1 a0_2 a0_3 a0_4 a0_5 a0_6 a0_7 a0_8 a0_9 a0_10 a0_11 a0_12 (some q158) _ A2.out).mono ?_); rintro e w16 ⟨rfl, hb⟩; have n0_ := qS (qB (g := gb155) (o := .cells (ce5_0 a0_0 a0_1 a0_2 a0_3 a0_4 a0_5 a0_6 a0_7 a0_8 a0_9 a0_10 a0_11 a0_12) 137 (0, 0)) (qW BK155.out) hb); have n1_ := qS (qB (g := gb156) (o := .cells #[.int .u32 0, .int .i64 0] 58 (0, 0)) (qW BK156.out) hb); have n2_ := qS (below_step (bW2 HB.out GE155.out GE156.out) hb); clear BK155; clear BK156; clear HB; have BK155 := n0_; have BK156 := n1_; have HB := n2_; clear n0_ n1_ n2_; (try clear hb); (try clear hb2); (try clear hk); (try clear hi); (try simp only [errW_none, errW_some]); have hcz17_0 : w16.cell? ⟨gb156, 0, none⟩ = some (.int .u32 0) := (qC BK156.out 0).trans rfl; have hcz17_1 : w16.cell? ⟨gb156, 1, none⟩ = some (.int .i64 0) := (qC BK156.out 1).trans rfl; have hfz17_0 := qF BK156.out 0; have hfz17_1 := qF BK156.out 1))
   refine bodyPost_ret (results_ct rfl _ _ gb156 58 #[.int .u32 0, .int .i64 0] (0, 0) _ rfl (by (with_reducible repeat (first | refine qN ?_ _ | refine qD ?_ | refine qA ?_ _)); refine blk_put (cs := #[.int .u32 0, .int .i64 0]) ?_ 1 _ rfl; (with_reducible repeat (first | refine qN ?_ _ | refine qD ?_ | refine qA ?_ _)); refine blk_put (cs := #[.int .u32 0, .int .i64 0]) ?_ 0 _ rfl; (with_reducible repeat (first | refine qN ?_ _ | refine qD ?_ | refine qA ?_ _)); exact BK156.out) Tryd.underlying58 rfl (by kernel_rfl)) rfl ?_
   exact ⟨by first | rfl | (simp [errW_none, errW_some] <;> rfl) | (simp [*, errW_none, errW_some] <;> rfl), by repeat (first | (with_reducible first | exact HB.out | apply qpA | apply qpN | apply qp1 | refine qpS ?_ GE155.out | refine qpS ?_ GE156.out) | exact HB.out)⟩

end Go.Proofs.YtcpbfckmngbgdaaDoor.MHo
