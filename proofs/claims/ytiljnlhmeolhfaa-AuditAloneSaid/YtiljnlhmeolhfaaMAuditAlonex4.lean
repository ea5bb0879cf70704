/- Printed by wip/gen/mp.py: Go functions as plain Lean functions, and that the calls do what these say. -/
import Derived.Test.YtiljnlhmeolhfaaMAuditAlonex0
import Derived.Test.YtiljnlhmeolhfaaMAuditAlonex1
import Derived.Test.YtiljnlhmeolhfaaMAuditAlonex3
namespace Go.Proofs.Ytiljnlhmeolhfaa.MAuditAlone
open Go.RowKit Go.Proofs.YtiljnlhmeolhfaaW.PrintWords Go.Proofs.YtiljnlhmeolhfaaW.PrintLast Go.Proofs.YtiljnlhmeolhfaaW.PrintMore
attribute [local go_sem] max2_int min2_int max_two min_two max_three min_three max_four min_four   -- for this text's walks alone
set_option linter.unusedVariables false
set_option linter.unusedSimpArgs false

attribute [local go_sem high] eqA46
-- NOT PRINTED: function 40 (audit_Back_1)

/-! ### audit_Back: function 18 -/
def audit_Back.f (l0 : List (S46)) (a1 : ByteArray) : Option Int := if l0.length ≤ 140737488351232 then some (idxB a1 0 false l0 0) else none
theorem audit_Back.calls (A0 : Option Addr) (c0 : Nat) (l0 : List (S46)) (a1 : ByteArray) (r : Int) (w : World) (hr0 : Kd.C k46 w A0 l0.length l0) (hc0 : l0.length ≤ c0) (h : audit_Back.f l0 a1 = some r) :
    Calls Try.prog 18 #[.slice A0 l0.length c0, .string a1] w fun e w' => e = .returned (.int .i64 r) ∧ Below w.heap.size w w' := by
  unfold audit_Back.f at h
  split at h
  · rename_i hL
    obtain rfl := Option.some.inj h
    exact back_walk A0 c0 l0 a1 w hr0 hc0 hL
  · cases h

-- NOT PRINTED: function 41 (audit_Coarse_1)

/-! ### audit_Coarse: function 20 -/
def audit_Coarse.f (l0 : List (S46)) (a1 : ByteArray) : Option Int := if l0.length ≤ 140737488351232 then idx (coarseP a1) l0 0 else none
theorem audit_Coarse.calls (A0 : Option Addr) (c0 : Nat) (l0 : List (S46)) (a1 : ByteArray) (r : Int) (w : World) (hr0 : Kd.C k46 w A0 l0.length l0) (hc0 : l0.length ≤ c0) (h : audit_Coarse.f l0 a1 = some r) :
    Calls Try.prog 20 #[.slice A0 l0.length c0, .string a1] w fun e w' => e = .returned (.int .i64 r) ∧ Below w.heap.size w w' := by
  unfold audit_Coarse.f at h
  split at h
  · rename_i hL
    exact coarse_walk A0 c0 l0 a1 r w hr0 hc0 hL h
  · cases h

-- NOT PRINTED: function 44 (audit_Far_1)

/-! ### audit_Far: function 22 -/
def audit_Far.f (l0 : List (S46)) (a1 : ByteArray) : Option Int := if l0.length ≤ 140737488351232 then idx (farP a1) l0 0 else none
theorem audit_Far.calls (A0 : Option Addr) (c0 : Nat) (l0 : List (S46)) (a1 : ByteArray) (r : Int) (w : World) (hr0 : Kd.C k46 w A0 l0.length l0) (hc0 : l0.length ≤ c0) (h : audit_Far.f l0 a1 = some r) :
    Calls Try.prog 22 #[.slice A0 l0.length c0, .string a1] w fun e w' => e = .returned (.int .i64 r) ∧ Below w.heap.size w w' := by
  unfold audit_Far.f at h
  split at h
  · rename_i hL
    exact far_walk A0 c0 l0 a1 r w hr0 hc0 hL h
  · cases h

-- NOT PRINTED: function 48 (audit_Event_48)

/-! ### audit_Event_told: function 50 -/
def audit_Event_told.f (a0_0 : Int) (a0_1 : ByteArray) (a0_2 : Bool) (a0_3 : Int) (a0_4 : Int) (a0_5 : Int) (a0_6 : Int) (a0_7 : Int) (a0_8 : Bool) (a0_9 : Int) : Option (Int × ByteArray × Bool × Int × Int × Int × Int × Int × Bool × Int) := some (0, a0_1, a0_2, a0_3, a0_4, a0_5, a0_6, a0_7, false, 0)
set_option maxHeartbeats 8000000 in
set_option maxRecDepth 100000 in
theorem audit_Event_told.calls (a0_0 : Int) (a0_1 : ByteArray) (a0_2 : Bool) (a0_3 : Int) (a0_4 : Int) (a0_5 : Int) (a0_6 : Int) (a0_7 : Int) (a0_8 : Bool) (a0_9 : Int) (r1 : Int) (r2 : ByteArray) (r3 : Bool) (r4 : Int) (r5 : Int) (r6 : Int) (r7 : Int) (r8 : Int) (r9 : Bool) (r10 : Int) (w : World) (h : audit_Event_told.f a0_0 a0_1 a0_2 a0_3 a0_4 a0_5 a0_6 a0_7 a0_8 a0_9 = some (r1, r2, r3, r4, r5, r6, r7, r8, r9, r10)) :
  Calls Try.prog 50 #[.agg #[.int .i64 a0_0, .string a0_1, .bool a0_2, .int .i64 a0_3, .int .i64 a0_4, .int .i64 a0_5, .int .i64 a0_6, .int .i64 a0_7, .bool a0_8, .int .i64 a0_9]] w fun e w' => e = .returned (.agg #[.int .i64 r1, .string r2, .bool r3, .int .i64 r4, .int .i64 r5, .int .i64 r6, .int .i64 r7, .int .i64 r8, .bool r9, .int .i64 r10]) ∧ Below w.heap.size w w' := by
 have hu46 := Try.underlying46
 have HB := qS (Below.refl w.heap.size w)
 have H : (some (0, a0_1, a0_2, a0_3, a0_4, a0_5, a0_6, a0_7, false, 0)) = some (r1, r2, r3, r4, r5, r6, r7, r8, r9, r10) := h
 clear h
 simp only [Option.some.injEq, Prod.mk.injEq] at H
 obtain ⟨rfl, rfl, rfl, rfl, rfl, rfl, rfl, rfl, rfl, rfl⟩ := H
 go_enter Try.func50, Try.ntmps50
 go_wp2_with (first | ((with_reducible refine gate_dst (N := 1) rfl ?_); refine box_event ?hg (N := 1) ?hd (cs := #[.int .i64 a0_0, .string a0_1, .bool a0_2, .int .i64 a0_3, .int .i64 a0_4, .int .i64 a0_5, .int .i64 a0_6, .int .i64 a0_7, .bool a0_8, .int .i64 a0_9]) (t := 46) ?hr ?_; (case hd => rfl); (case hg => rfl); (case hr => first | (go_simp; done) | (go_simp; rfl)); intro gb120 hg w2 hbox hb; have n0_ := qS (below_step (by repeat (first | (with_reducible first | exact HB.out | apply qpA | apply qpN | apply qp1) | exact HB.out)) hb); have n1_ := qS (hbox); have n2_ := qS ((by rw [hg]; exact (below_size (by repeat (first | (with_reducible first | exact HB.out | apply qpA | apply qpN | apply qp1) | exact HB.out))) : w.heap.size ≤ gb120)); have n3_ := qS ((by rw [hg]; exact (below_size (by repeat (first | (with_reducible first | exact HB.out | apply qpA | apply qpN | apply qp1) | exact HB.out))) : w.heap.size ≤ gb120)); clear HB; have HB := n0_; have BK120 := n1_; have GW120 := n2_; have GE120 := n3_; clear n0_ n1_ n2_ n3_; clear hb hbox hg) | ((with_reducible refine gate_dst (N := 2) rfl ?_); refine box_event ?hg (N := 2) ?hd (cs := #[.int .i64 0, .string (⟨#[]⟩ : ByteArray), .bool false, .int .i64 0, .int .i64 0, .int .i64 0, .int .i64 0, .int .i64 0, .bool false, .int .i64 0]) (t := 46) ?hr ?_; (case hd => rfl); (case hg => rfl); (case hr => first | (go_simp; done) | (go_simp; rfl)); intro gb121 hg w3 hbox hb; have n0_ := qS (qB (g := gb120) (o := .cells #[.int .i64 a0_0, .string a0_1, .bool a0_2, .int .i64 a0_3, .int .i64 a0_4, .int .i64 a0_5, .int .i64 a0_6, .int .i64 a0_7, .bool a0_8, .int .i64 a0_9] 46 (0, 0)) (by (with_reducible repeat (first | refine qN ?_ _ | refine qD ?_ | refine qA ?_ _)); exact BK120.out) hb); have n1_ := qS (below_step (by repeat (first | (with_reducible first | exact HB.out | apply qpA | apply qpN | apply qp1 | refine qpS ?_ GE120.out) | exact HB.out)) hb); have n2_ := qS (hbox); have n3_ := qS ((by rw [hg]; exact (below_size (by repeat (first | (with_reducible first | exact HB.out | apply qpA | apply qpN | apply qp1 | refine qpS ?_ GE120.out) | exact HB.out))) : w.heap.size ≤ gb121)); have n4_ := qS ((by rw [hg]; exact (below_size (by repeat (first | (with_reducible first | exact HB.out | apply qpA | apply qpN | apply qp1 | refine qpS ?_ GE120.out) | exact HB.out))) : w.heap.size ≤ gb121)); have n5_ := qS ((by rw [hg]; exact Nat.ne_of_lt (blk_lt (g := gb120) (o := .cells #[.int .i64 a0_0, .string a0_1, .bool a0_2, .int .i64 a0_3, .int .i64 a0_4, .int .i64 a0_5, .int .i64 a0_6, .int .i64 a0_7, .bool a0_8, .int .i64 a0_9] 46 (0, 0)) (by (with_reducible repeat (first | refine qN ?_ _ | refine qD ?_ | refine qA ?_ _)); exact BK120.out)) : gb120 ≠ gb121)); have n6_ := qS ((by rw [hg]; exact Nat.ne_of_gt (blk_lt (g := gb120) (o := .cells #[.int .i64 a0_0, .string a0_1, .bool a0_2, .int .i64 a0_3, .int .i64 a0_4, .int .i64 a0_5, .int .i64 a0_6, .int .i64 a0_7, .bool a0_8, .int .i64 a0_9] 46 (0, 0)) (by (with_reducible repeat (first | refine qN ?_ _ | refine qD ?_ | refine qA ?_ _)); exact BK120.out)) : gb121 ≠ gb120)); clear BK120; clear HB; have BK120 := n0_; have HB := n1_; have BK121 := n2_; have GW121 := n3_; have GE121 := n4_; have NB120_121 := n5_; have NB121_120 := n6_; clear n0_ n1_ n2_ n3_ n4_ n5_ n6_; clear hb hbox hg; have hnb4 := NB120_121.out; have hnc4 := NB121_120.out; have hcz5_0 : w3.cell? ⟨gb120, 0, none⟩ = some (.int .i64 a0_0) := (qC BK120.out 0).trans rfl; have hcz5_1 : w3.cell? ⟨gb120, 1, none⟩ = some (.string a0_1) := (qC BK120.out 1).trans rfl; have hcz5_2 : w3.cell? ⟨gb120, 2, none⟩ = some (.bool a0_2) := (qC BK120.out 2).trans rfl; have hcz5_3 : w3.cell? ⟨gb120, 3, none⟩ = some (.int .i64 a0_3) := (qC BK120.out 3).trans rfl; have hcz5_4 : w3.cell? ⟨gb120, 4, none⟩ = some (.int .i64 a0_4) := (qC BK120.out 4).trans rfl; have hcz5_5 : w3.cell? ⟨gb120, 5, none⟩ = some (.int .i64 a0_5) := (qC BK120.out 5).trans rfl; have hcz5_6 : w3.cell? ⟨gb120, 6, none⟩ = some (.int .i64 a0_6) := (qC BK120.out 6).trans rfl; have hcz5_7 : w3.cell? ⟨gb120, 7, none⟩ = some (.int .i64 a0_7) := (qC BK120.out 7).trans rfl; have hcz5_8 : w3.cell? ⟨gb120, 8, none⟩ = some (.bool a0_8) := (qC BK120.out 8).trans rfl; have hcz5_9 : w3.cell? ⟨gb120, 9, none⟩ = some (.int .i64 a0_9) := (qC BK120.out 9).trans rfl; have hfz5_0 := qF BK120.out 0; have hfz5_1 := qF BK120.out 1; have hfz5_2 := qF BK120.out 2; have hfz5_3 := qF BK120.out 3; have hfz5_4 := qF BK120.out 4; have hfz5_5 := qF BK120.out 5; have hfz5_6 := qF BK120.out 6; have hfz5_7 := qF BK120.out 7; have hfz5_8 := qF BK120.out 8; have hfz5_9 := qF BK120.out 9) | ((with_reducible refine gate_dst (N := 6) rfl ?_); refine rowget_event rfl rfl gb120 0 46 #[.int .i64 0, .string a0_1, .bool a0_2, .int .i64 a0_3, .int .i64 a0_4, .int .i64 a0_5, .int .i64 a0_6, .int .i64 a0_7, .bool false, .int .i64 0] #[.int .i64 0, .string a0_1, .bool a0_2, .int .i64 a0_3, .int .i64 a0_4, .int .i64 a0_5, .int .i64 a0_6, .int .i64 a0_7, .bool false, .int .i64 0] _ rfl (by (with_reducible repeat (first | refine qN ?_ _ | refine qD ?_ | refine qA ?_ _)); refine blk_put (cs := #[.int .i64 0, .string a0_1, .bool a0_2, .int .i64 a0_3, .int .i64 a0_4, .int .i64 a0_5, .int .i64 a0_6, .int .i64 a0_7, .bool false, .int .i64 a0_9]) ?_ 9 _ rfl; (with_reducible repeat (first | refine qN ?_ _ | refine qD ?_ | refine qA ?_ _)); refine blk_put (cs := #[.int .i64 0, .string a0_1, .bool a0_2, .int .i64 a0_3, .int .i64 a0_4, .int .i64 a0_5, .int .i64 a0_6, .int .i64 a0_7, .bool a0_8, .int .i64 a0_9]) ?_ 8 _ rfl; (with_reducible repeat (first | refine qN ?_ _ | refine qD ?_ | refine qA ?_ _)); refine blk_put (cs := #[.int .i64 a0_0, .string a0_1, .bool a0_2, .int .i64 a0_3, .int .i64 a0_4, .int .i64 a0_5, .int .i64 a0_6, .int .i64 a0_7, .bool a0_8, .int .i64 a0_9]) ?_ 0 _ rfl; (with_reducible repeat (first | refine qN ?_ _ | refine qD ?_ | refine qA ?_ _)); exact BK120.out) rfl Try.underlying46 rfl (by kernel_rfl) ?_) | ((with_reducible refine gate_store (t := 46) (p := 2) rfl ?_); refine rowput_event rfl rfl rfl gb121 0 46 #[.int .i64 0, .string (⟨#[]⟩ : ByteArray), .bool false, .int .i64 0, .int .i64 0, .int .i64 0, .int .i64 0, .int .i64 0, .bool false, .int .i64 0] #[.int .i64 0, .string a0_1, .bool a0_2, .int .i64 a0_3, .int .i64 a0_4, .int .i64 a0_5, .int .i64 a0_6, .int .i64 a0_7, .bool false, .int .i64 0] _ [.int .i64 0, .string a0_1, .bool a0_2, .int .i64 a0_3, .int .i64 a0_4, .int .i64 a0_5, .int .i64 a0_6, .int .i64 a0_7, .bool false, .int .i64 0] rfl rfl rfl (by (with_reducible repeat (first | refine qN ?_ _ | refine qD ?_ | refine qA ?_ _)); refine blk_far ?_ NB121_120.out _; (with_reducible repeat (first | refine qN ?_ _ | refine qD ?_ | refine qA ?_ _)); refine blk_far ?_ NB121_120.out _; (with_reducible repeat (first | refine qN ?_ _ | refine qD ?_ | refine qA ?_ _)); refine blk_far ?_ NB121_120.out _; (with_reducible repeat (first | refine qN ?_ _ | refine qD ?_ | refine qA ?_ _)); exact BK121.out) (by kernel_rfl) (by simp) (by simp [Value.oneCell']) rfl (by repeat (first | (with_reducible first | exact HB.out | apply qpA | apply qpN | apply qp1 | refine qpS ?_ GE120.out | refine qpS ?_ GE121.out) | exact HB.out)) GE121.out ?_; intro w6 hnw_ hfar_ hb_; have n0_ : Aside0 (w6.heap[gb120]? = some (.cells #[.int .i64 0, .string a0_1, .bool a0_2, .int .i64 a0_3, .int .i64 a0_4, .int .i64 a0_5, .int .i64 a0_6, .int .i64 a0_7, .bool false, .int .i64 0] 46 (0, 0))) := ⟨(hfar_ _ NB120_121.out).trans (by (with_reducible repeat (first | refine qN ?_ _ | refine qD ?_ | refine qA ?_ _)); refine blk_put (cs := #[.int .i64 0, .string a0_1, .bool a0_2, .int .i64 a0_3, .int .i64 a0_4, .int .i64 a0_5, .int .i64 a0_6, .int .i64 a0_7, .bool false, .int .i64 a0_9]) ?_ 9 _ rfl; (with_reducible repeat (first | refine qN ?_ _ | refine qD ?_ | refine qA ?_ _)); refine blk_put (cs := #[.int .i64 0, .string a0_1, .bool a0_2, .int .i64 a0_3, .int .i64 a0_4, .int .i64 a0_5, .int .i64 a0_6, .int .i64 a0_7, .bool a0_8, .int .i64 a0_9]) ?_ 8 _ rfl; (with_reducible repeat (first | refine qN ?_ _ | refine qD ?_ | refine qA ?_ _)); refine blk_put (cs := #[.int .i64 a0_0, .string a0_1, .bool a0_2, .int .i64 a0_3, .int .i64 a0_4, .int .i64 a0_5, .int .i64 a0_6, .int .i64 a0_7, .bool a0_8, .int .i64 a0_9]) ?_ 0 _ rfl; (with_reducible repeat (first | refine qN ?_ _ | refine qD ?_ | refine qA ?_ _)); exact BK120.out)⟩; have n1_ : Aside0 (w6.heap[gb121]? = some (.cells #[.int .i64 0, .string a0_1, .bool a0_2, .int .i64 a0_3, .int .i64 a0_4, .int .i64 a0_5, .int .i64 a0_6, .int .i64 a0_7, .bool false, .int .i64 0] 46 (0, 0))) := ⟨hnw_⟩; have nb_ := qS hb_; clear hnw_ hfar_ hb_ HB BK120 BK121; have BK120 := n0_; have BK121 := n1_; have HB := nb_; clear nb_ n0_ n1_))
 refine bodyPost_ret (results_cell_row rfl _ _ gb121 46 #[.int .i64 0, .string a0_1, .bool a0_2, .int .i64 a0_3, .int .i64 a0_4, .int .i64 a0_5, .int .i64 a0_6, .int .i64 a0_7, .bool false, .int .i64 0] (0, 0) _ rfl (by (with_reducible repeat (first | refine qN ?_ _ | refine qD ?_ | refine qA ?_ _)); exact BK121.out) Try.underlying46 rfl (by kernel_rfl)) rfl ?_
 exact ⟨by first | rfl | (simp [errW_none, errW_some] <;> rfl) | (simp [*, errW_none, errW_some] <;> rfl), by repeat (first | (with_reducible first | exact HB.out | apply qpA | apply qpN | apply qp1 | refine qpS ?_ GE120.out | refine qpS ?_ GE121.out) | exact HB.out)⟩

/-! ### audit_Same_1: function 49 -/
def audit_Same_1.f (a0_0 : Int) (a0_1 : ByteArray) (a0_2 : Bool) (a0_3 : Int) (a0_4 : Int) (a0_5 : Int) (a0_6 : Int) (a0_7 : Int) (a0_8 : Bool) (a0_9 : Int) (a1_0 : Int) (a1_1 : ByteArray) (a1_2 : Bool) (a1_3 : Int) (a1_4 : Int) (a1_5 : Int) (a1_6 : Int) (a1_7 : Int) (a1_8 : Bool) (a1_9 : Int) : Option (Bool) := (audit_Event_told.f a0_0 a0_1 a0_2 a0_3 a0_4 a0_5 a0_6 a0_7 a0_8 a0_9).bind fun bt124 => ((audit_Event_told.f a1_0 a1_1 a1_2 a1_3 a1_4 a1_5 a1_6 a1_7 a1_8 a1_9).bind fun bt134 => (some (bt124.1 == bt134.1 && (bt124.2.1.toList == bt134.2.1.toList && (bt124.2.2.1 == bt134.2.2.1 && (bt124.2.2.2.1 == bt134.2.2.2.1 && ((bt124.2.2.2.2.1 == bt134.2.2.2.2.1 && (bt124.2.2.2.2.2.1 == bt134.2.2.2.2.2.1 && (bt124.2.2.2.2.2.2.1 == bt134.2.2.2.2.2.2.1 && (bt124.2.2.2.2.2.2.2.1 == bt134.2.2.2.2.2.2.2.1)))) && (bt124.2.2.2.2.2.2.2.2.1 == bt134.2.2.2.2.2.2.2.2.1 && (bt124.2.2.2.2.2.2.2.2.2 == bt134.2.2.2.2.2.2.2.2.2)))))))))
set_option maxHeartbeats 8000000 in
set_option maxRecDepth 100000 in
theorem audit_Same_1.calls (a0_0 : Int) (a0_1 : ByteArray) (a0_2 : Bool) (a0_3 : Int) (a0_4 : Int) (a0_5 : Int) (a0_6 : Int) (a0_7 : Int) (a0_8 : Bool) (a0_9 : Int) (a1_0 : Int) (a1_1 : ByteArray) (a1_2 : Bool) (a1_3 : Int) (a1_4 : Int) (a1_5 : Int) (a1_6 : Int) (a1_7 : Int) (a1_8 : Bool) (a1_9 : Int) (r : Bool) (w : World) (h : audit_Same_1.f a0_0 a0_1 a0_2 a0_3 a0_4 a0_5 a0_6 a0_7 a0_8 a0_9 a1_0 a1_1 a1_2 a1_3 a1_4 a1_5 a1_6 a1_7 a1_8 a1_9 = some r) :
  Calls Try.prog 49 #[.agg #[.int .i64 a0_0, .string a0_1, .bool a0_2, .int .i64 a0_3, .int .i64 a0_4, .int .i64 a0_5, .int .i64 a0_6, .int .i64 a0_7, .bool a0_8, .int .i64 a0_9], .agg #[.int .i64 a1_0, .string a1_1, .bool a1_2, .int .i64 a1_3, .int .i64 a1_4, .int .i64 a1_5, .int .i64 a1_6, .int .i64 a1_7, .bool a1_8, .int .i64 a1_9]] w fun e w' => e = .returned (.bool r) ∧ Below w.heap.size w w' := by
 have hu46 := Try.underlying46
 have HB := qS (Below.refl w.heap.size w)
 have H : ((audit_Event_told.f a0_0 a0_1 a0_2 a0_3 a0_4 a0_5 a0_6 a0_7 a0_8 a0_9).bind fun bt124 => ((audit_Event_told.f a1_0 a1_1 a1_2 a1_3 a1_4 a1_5 a1_6 a1_7 a1_8 a1_9).bind fun bt134 => (some (bt124.1 == bt134.1 && (bt124.2.1.toList == bt134.2.1.toList && (bt124.2.2.1 == bt134.2.2.1 && (bt124.2.2.2.1 == bt134.2.2.2.1 && ((bt124.2.2.2.2.1 == bt134.2.2.2.2.1 && (bt124.2.2.2.2.2.1 == bt134.2.2.2.2.2.1 && (bt124.2.2.2.2.2.2.1 == bt134.2.2.2.2.2.2.1 && (bt124.2.2.2.2.2.2.2.1 == bt134.2.2.2.2.2.2.2.1)))) && (bt124.2.2.2.2.2.2.2.2.1 == bt134.2.2.2.2.2.2.2.2.1 && (bt124.2.2.2.2.2.2.2.2.2 == bt134.2.2.2.2.2.2.2.2.2)))))))))) = some r := h
 clear h
 replace H := Option.bind_eq_some_iff.mp H
 obtain ⟨⟨t124, t125, t126, t127, t128, t129, t130, t131, t132, t133⟩, A30, H⟩ := H
 replace H : ((audit_Event_told.f a1_0 a1_1 a1_2 a1_3 a1_4 a1_5 a1_6 a1_7 a1_8 a1_9).bind fun bt134 => (some (t124 == bt134.1 && (t125.toList == bt134.2.1.toList && (t126 == bt134.2.2.1 && (t127 == bt134.2.2.2.1 && ((t128 == bt134.2.2.2.2.1 && (t129 == bt134.2.2.2.2.2.1 && (t130 == bt134.2.2.2.2.2.2.1 && (t131 == bt134.2.2.2.2.2.2.2.1)))) && (t132 == bt134.2.2.2.2.2.2.2.2.1 && (t133 == bt134.2.2.2.2.2.2.2.2.2))))))))) = some r := H
 have A3 := qS A30
 clear A30
 replace H := Option.bind_eq_some_iff.mp H
 obtain ⟨⟨t134, t135, t136, t137, t138, t139, t140, t141, t142, t143⟩, A40, H⟩ := H
 replace H : (some (t124 == t134 && (t125.toList == t135.toList && (t126 == t136 && (t127 == t137 && ((t128 == t138 && (t129 == t139 && (t130 == t140 && (t131 == t141)))) && (t132 == t142 && (t133 == t143)))))))) = some r := H
 have A4 := qS A40
 clear A40
 obtain rfl := Option.some.inj H
 go_enter Try.func49, Try.ntmps49
 try go_wp2_with (first | ((with_reducible refine gate_dst (N := 2) rfl ?_); refine box_event ?hg (N := 2) ?hd (cs := #[.int .i64 a0_0, .string a0_1, .bool a0_2, .int .i64 a0_3, .int .i64 a0_4, .int .i64 a0_5, .int .i64 a0_6, .int .i64 a0_7, .bool a0_8, .int .i64 a0_9]) (t := 46) ?hr ?_; (case hd => rfl); (case hg => rfl); (case hr => first | (go_simp; done) | (go_simp; rfl)); intro gb122 hg w5 hbox hb; have n0_ := qS (below_step (by repeat (first | (with_reducible first | exact HB.out | apply qpA | apply qpN | apply qp1) | exact HB.out)) hb); have n1_ := qS (hbox); have n2_ := qS ((by rw [hg]; exact (below_size (by repeat (first | (with_reducible first | exact HB.out | apply qpA | apply qpN | apply qp1) | exact HB.out))) : w.heap.size ≤ gb122)); have n3_ := qS ((by rw [hg]; exact (below_size (by repeat (first | (with_reducible first | exact HB.out | apply qpA | apply qpN | apply qp1) | exact HB.out))) : w.heap.size ≤ gb122)); clear HB; have HB := n0_; have BK122 := n1_; have GW122 := n2_; have GE122 := n3_; clear n0_ n1_ n2_ n3_; clear hb hbox hg) | ((with_reducible refine gate_dst (N := 3) rfl ?_); refine box_event ?hg (N := 3) ?hd (cs := #[.int .i64 a1_0, .string a1_1, .bool a1_2, .int .i64 a1_3, .int .i64 a1_4, .int .i64 a1_5, .int .i64 a1_6, .int .i64 a1_7, .bool a1_8, .int .i64 a1_9]) (t := 46) ?hr ?_; (case hd => rfl); (case hg => rfl); (case hr => first | (go_simp; done) | (go_simp; rfl)); intro gb123 hg w6 hbox hb; have n0_ := qS (qB (g := gb122) (o := .cells #[.int .i64 a0_0, .string a0_1, .bool a0_2, .int .i64 a0_3, .int .i64 a0_4, .int .i64 a0_5, .int .i64 a0_6, .int .i64 a0_7, .bool a0_8, .int .i64 a0_9] 46 (0, 0)) (by (with_reducible repeat (first | refine qN ?_ _ | refine qD ?_ | refine qA ?_ _)); exact BK122.out) hb); have n1_ := qS (below_step (by repeat (first | (with_reducible first | exact HB.out | apply qpA | apply qpN | apply qp1 | refine qpS ?_ GE122.out) | exact HB.out)) hb); have n2_ := qS (hbox); have n3_ := qS ((by rw [hg]; exact (below_size (by repeat (first | (with_reducible first | exact HB.out | apply qpA | apply qpN | apply qp1 | refine qpS ?_ GE122.out) | exact HB.out))) : w.heap.size ≤ gb123)); have n4_ := qS ((by rw [hg]; exact (below_size (by repeat (first | (with_reducible first | exact HB.out | apply qpA | apply qpN | apply qp1 | refine qpS ?_ GE122.out) | exact HB.out))) : w.heap.size ≤ gb123)); have n5_ := qS ((by rw [hg]; exact Nat.ne_of_lt (blk_lt (g := gb122) (o := .cells #[.int .i64 a0_0, .string a0_1, .bool a0_2, .int .i64 a0_3, .int .i64 a0_4, .int .i64 a0_5, .int .i64 a0_6, .int .i64 a0_7, .bool a0_8, .int .i64 a0_9] 46 (0, 0)) (by (with_reducible repeat (first | refine qN ?_ _ | refine qD ?_ | refine qA ?_ _)); exact BK122.out)) : gb122 ≠ gb123)); have n6_ := qS ((by rw [hg]; exact Nat.ne_of_gt (blk_lt (g := gb122) (o := .cells #[.int .i64 a0_0, .string a0_1, .bool a0_2, .int .i64 a0_3, .int .i64 a0_4, .int .i64 a0_5, .int .i64 a0_6, .int .i64 a0_7, .bool a0_8, .int .i64 a0_9] 46 (0, 0)) (by (with_reducible repeat (first | refine qN ?_ _ | refine qD ?_ | refine qA ?_ _)); exact BK122.out)) : gb123 ≠ gb122)); clear BK122; clear HB; have BK122 := n0_; have HB := n1_; have BK123 := n2_; have GW123 := n3_; have GE123 := n4_; have NB122_123 := n5_; have NB123_122 := n6_; clear n0_ n1_ n2_ n3_ n4_ n5_ n6_; clear hb hbox hg))
 have n0_ := qS (qD BK122.out)
 have n1_ := qS (qD BK123.out)
 have n2_ := qS (qp1 HB.out)
 clear BK122
 clear BK123
 clear HB
 have BK122 := n0_
 have BK123 := n1_
 have HB := n2_
 clear n0_ n1_ n2_
 refine start_ (n := 6) (S := fun w' => w'.cell? ⟨gb122, 0, none⟩ = some (.int .i64 a0_0) ∧ w'.cell? ⟨gb122, 1, none⟩ = some (.string a0_1) ∧ w'.cell? ⟨gb122, 2, none⟩ = some (.bool a0_2) ∧ w'.cell? ⟨gb122, 3, none⟩ = some (.int .i64 a0_3) ∧ w'.cell? ⟨gb122, 4, none⟩ = some (.int .i64 a0_4) ∧ w'.cell? ⟨gb122, 5, none⟩ = some (.int .i64 a0_5) ∧ w'.cell? ⟨gb122, 6, none⟩ = some (.int .i64 a0_6) ∧ w'.cell? ⟨gb122, 7, none⟩ = some (.int .i64 a0_7) ∧ w'.cell? ⟨gb122, 8, none⟩ = some (.bool a0_8) ∧ w'.cell? ⟨gb122, 9, none⟩ = some (.int .i64 a0_9) ∧ w'.cell? ⟨gb123, 0, none⟩ = some (.int .i64 a1_0) ∧ w'.cell? ⟨gb123, 1, none⟩ = some (.string a1_1) ∧ w'.cell? ⟨gb123, 2, none⟩ = some (.bool a1_2) ∧ w'.cell? ⟨gb123, 3, none⟩ = some (.int .i64 a1_3) ∧ w'.cell? ⟨gb123, 4, none⟩ = some (.int .i64 a1_4) ∧ w'.cell? ⟨gb123, 5, none⟩ = some (.int .i64 a1_5) ∧ w'.cell? ⟨gb123, 6, none⟩ = some (.int .i64 a1_6) ∧ w'.cell? ⟨gb123, 7, none⟩ = some (.int .i64 a1_7) ∧ w'.cell? ⟨gb123, 8, none⟩ = some (.bool a1_8) ∧ w'.cell? ⟨gb123, 9, none⟩ = some (.int .i64 a1_9)) (ds := []) #[false, false, false, false, false, false] (by kernel_rfl) rfl rfl ⟨(qC BK122.out 0).trans rfl, (qC BK122.out 1).trans rfl, (qC BK122.out 2).trans rfl, (qC BK122.out 3).trans rfl, (qC BK122.out 4).trans rfl, (qC BK122.out 5).trans rfl, (qC BK122.out 6).trans rfl, (qC BK122.out 7).trans rfl, (qC BK122.out 8).trans rfl, (qC BK122.out 9).trans rfl, (qC BK123.out 0).trans rfl, (qC BK123.out 1).trans rfl, (qC BK123.out 2).trans rfl, (qC BK123.out 3).trans rfl, (qC BK123.out 4).trans rfl, (qC BK123.out 5).trans rfl, (qC BK123.out 6).trans rfl, (qC BK123.out 7).trans rfl, (qC BK123.out 8).trans rfl, (qC BK123.out 9).trans rfl⟩ (fun hHeld => ?_)
 generalize w6.drew = w7 at BK122 BK123 HB hHeld ⊢
 refine take_ (i := 0) (N := some 5) (v := ?_) (a' := ?_) #[true, false, false, false, false, false] rfl rfl (by kernel_rfl) (fun _ _ _ h => h) (Or.inl ⟨by rfl, ?_⟩) hHeld ?_ ?_
 rotate_left
 ·rintro w' ⟨s0, s1, s2, s3, s4, s5, s6, s7, s8, s9, s10, s11, s12, s13, s14, s15, s16, s17, s18, s19⟩
  go_simp
  with_reducible rfl
 rotate_left
 ·simp only [Act.put, List.setIfInBounds_toArray, List.set_cons_zero, List.set_cons_succ, i64_w, i32_w]
  rfl
 refine take_ (i := 2) (N := some 7) (v := ?_) (a' := ?_) #[true, false, true, false, false, false] rfl rfl (by kernel_rfl) (fun _ _ _ h => h) (Or.inl ⟨by rfl, ?_⟩) hHeld ?_ ?_
 rotate_left
 ·rintro w' ⟨s0, s1, s2, s3, s4, s5, s6, s7, s8, s9, s10, s11, s12, s13, s14, s15, s16, s17, s18, s19⟩
  go_simp
  with_reducible rfl
 rotate_left
 ·simp only [Act.put, List.setIfInBounds_toArray, List.set_cons_zero, List.set_cons_succ, i64_w, i32_w]
  rfl
 refine one_ (i := 1) (N := some 6) #[true, true, true, false, false, false] rfl rfl (by kernel_rfl) (by decide) (fun K hK => ?_)
 refine goes_ Try.func50 (by kernel_rfl) rfl #[.agg #[.int .i64 a0_0, .string a0_1, .bool a0_2, .int .i64 a0_3, .int .i64 a0_4, .int .i64 a0_5, .int .i64 a0_6, .int .i64 a0_7, .bool a0_8, .int .i64 a0_9]] (by rfl) rfl rfl (by (try simp only [List.map_toArray, List.map_cons, List.map_nil]); first | done | rfl | (simp only [*]; done) | (simp only [List.length_drop, List.length_take]; rfl) | (simp only [Act.eval, Array.getD_eq_getD_getElem?, Option.getD_some, *])) ?_
 with_reducible refine (audit_Event_told.calls a0_0 a0_1 a0_2 a0_3 a0_4 a0_5 a0_6 a0_7 a0_8 a0_9 t124 t125 t126 t127 t128 t129 t130 t131 t132 t133 _ A3.out).mono ?_
 rintro e w8 ⟨rfl, hb⟩
 refine ⟨_, rfl, ?_⟩
 have n0_ := qS (qB (g := gb122) (o := .cells #[.int .i64 a0_0, .string a0_1, .bool a0_2, .int .i64 a0_3, .int .i64 a0_4, .int .i64 a0_5, .int .i64 a0_6, .int .i64 a0_7, .bool a0_8, .int .i64 a0_9] 46 (0, 0)) (by (with_reducible repeat (first | refine qN ?_ _ | refine qD ?_ | refine qA ?_ _)); exact BK122.out) hb)
 have n1_ := qS (qB (g := gb123) (o := .cells #[.int .i64 a1_0, .string a1_1, .bool a1_2, .int .i64 a1_3, .int .i64 a1_4, .int .i64 a1_5, .int .i64 a1_6, .int .i64 a1_7, .bool a1_8, .int .i64 a1_9] 46 (0, 0)) (by (with_reducible repeat (first | refine qN ?_ _ | refine qD ?_ | refine qA ?_ _)); exact BK123.out) hb)
 have n2_ := qS (below_step (by repeat (first | (with_reducible first | exact HB.out | apply qpA | apply qpN | apply qp1 | refine qpS ?_ GE122.out | refine qpS ?_ GE123.out) | exact HB.out)) hb)
 clear BK122
 clear BK123
 clear HB
 have BK122 := n0_
 have BK123 := n1_
 have HB := n2_
 clear n0_ n1_ n2_
 (try clear hb)
 (try clear hb2)
 (try clear hk)
 (try clear hi)
 refine hK.out _ _ ⟨(qC BK122.out 0).trans rfl, (qC BK122.out 1).trans rfl, (qC BK122.out 2).trans rfl, (qC BK122.out 3).trans rfl, (qC BK122.out 4).trans rfl, (qC BK122.out 5).trans rfl, (qC BK122.out 6).trans rfl, (qC BK122.out 7).trans rfl, (qC BK122.out 8).trans rfl, (qC BK122.out 9).trans rfl, (qC BK123.out 0).trans rfl, (qC BK123.out 1).trans rfl, (qC BK123.out 2).trans rfl, (qC BK123.out 3).trans rfl, (qC BK123.out 4).trans rfl, (qC BK123.out 5).trans rfl, (qC BK123.out 6).trans rfl, (qC BK123.out 7).trans rfl, (qC BK123.out 8).trans rfl, (qC BK123.out 9).trans rfl⟩ (fun hHeld => ?_)
 clear hK K
 refine norm_ (a' := ?_) ?_ ?_
 rotate_left
 ·show Act.put _ (some 6) _ = _
  simp only [Act.put, List.setIfInBounds_toArray, List.set_cons_zero, List.set_cons_succ, i64_w, i32_w]
  rfl
 refine one_ (i := 3) (N := some 8) #[true, true, true, true, false, false] rfl rfl (by kernel_rfl) (by decide) (fun K hK => ?_)
 refine goes_ Try.func50 (by kernel_rfl) rfl #[.agg #[.int .i64 a1_0, .string a1_1, .bool a1_2, .int .i64 a1_3, .int .i64 a1_4, .int .i64 a1_5, .int .i64 a1_6, .int .i64 a1_7, .bool a1_8, .int .i64 a1_9]] (by rfl) rfl rfl (by (try simp only [List.map_toArray, List.map_cons, List.map_nil]); first | done | rfl | (simp only [*]; done) | (simp only [List.length_drop, List.length_take]; rfl) | (simp only [Act.eval, Array.getD_eq_getD_getElem?, Option.getD_some, *])) ?_
 with_reducible refine (audit_Event_told.calls a1_0 a1_1 a1_2 a1_3 a1_4 a1_5 a1_6 a1_7 a1_8 a1_9 t134 t135 t136 t137 t138 t139 t140 t141 t142 t143 _ A4.out).mono ?_
 rintro e w9 ⟨rfl, hb⟩
 refine ⟨_, rfl, ?_⟩
 have n0_ := qS (qB (g := gb122) (o := .cells #[.int .i64 a0_0, .string a0_1, .bool a0_2, .int .i64 a0_3, .int .i64 a0_4, .int .i64 a0_5, .int .i64 a0_6, .int .i64 a0_7, .bool a0_8, .int .i64 a0_9] 46 (0, 0)) (by (with_reducible repeat (first | refine qN ?_ _ | refine qD ?_ | refine qA ?_ _)); exact BK122.out) hb)
 have n1_ := qS (qB (g := gb123) (o := .cells #[.int .i64 a1_0, .string a1_1, .bool a1_2, .int .i64 a1_3, .int .i64 a1_4, .int .i64 a1_5, .int .i64 a1_6, .int .i64 a1_7, .bool a1_8, .int .i64 a1_9] 46 (0, 0)) (by (with_reducible repeat (first | refine qN ?_ _ | refine qD ?_ | refine qA ?_ _)); exact BK123.out) hb)
 have n2_ := qS (below_step (by repeat (first | (with_reducible first | exact HB.out | apply qpA | apply qpN | apply qp1 | refine qpS ?_ GE122.out | refine qpS ?_ GE123.out) | exact HB.out)) hb)
 clear BK122
 clear BK123
 clear HB
 have BK122 := n0_
 have BK123 := n1_
 have HB := n2_
 clear n0_ n1_ n2_
 (try clear hb)
 (try clear hb2)
 (try clear hk)
 (try clear hi)
 refine hK.out _ _ ⟨(qC BK122.out 0).trans rfl, (qC BK122.out 1).trans rfl, (qC BK122.out 2).trans rfl, (qC BK122.out 3).trans rfl, (qC BK122.out 4).trans rfl, (qC BK122.out 5).trans rfl, (qC BK122.out 6).trans rfl, (qC BK122.out 7).trans rfl, (qC BK122.out 8).trans rfl, (qC BK122.out 9).trans rfl, (qC BK123.out 0).trans rfl, (qC BK123.out 1).trans rfl, (qC BK123.out 2).trans rfl, (qC BK123.out 3).trans rfl, (qC BK123.out 4).trans rfl, (qC BK123.out 5).trans rfl, (qC BK123.out 6).trans rfl, (qC BK123.out 7).trans rfl, (qC BK123.out 8).trans rfl, (qC BK123.out 9).trans rfl⟩ (fun hHeld => ?_)
 clear hK K
 refine norm_ (a' := ?_) ?_ ?_
 rotate_left
 ·show Act.put _ (some 8) _ = _
  simp only [Act.put, List.setIfInBounds_toArray, List.set_cons_zero, List.set_cons_succ, i64_w, i32_w]
  rfl
 refine pure_ (i := 4) (N := some 9) (v := ?_) (a' := ?_) #[true, true, true, true, true, false] rfl rfl (by kernel_rfl) (fun _ _ _ h => h) (Or.inl ⟨by rfl, ?_⟩) ?_ ?_
 rotate_left
 ·intro w'
  go_simp
  with_reducible rfl
 rotate_left
 ·simp only [Act.put, List.setIfInBounds_toArray, List.set_cons_zero, List.set_cons_succ, i64_w, i32_w]
  rfl
 refine pure_ (i := 5) (N := some 4) (v := ?_) (a' := ?_) #[true, true, true, true, true, true] rfl rfl (by kernel_rfl) (fun _ _ _ h => h) (Or.inl ⟨by rfl, ?_⟩) ?_ ?_
 rotate_left
 ·intro w'
  go_simp
  with_reducible rfl
 rotate_left
 ·simp only [Act.put, List.setIfInBounds_toArray, List.set_cons_zero, List.set_cons_succ, i64_w, i32_w]
  rfl
 refine done_ (by kernel_rfl) ?_
 try go_wp2
 go_ret
 exact ⟨by first | rfl | (simp [errW_none, errW_some] <;> rfl) | (simp [*, errW_none, errW_some] <;> rfl), by repeat (first | (with_reducible first | exact HB.out | apply qpA | apply qpN | apply qp1 | refine qpS ?_ GE122.out | refine qpS ?_ GE123.out) | exact HB.out)⟩

/-! ### audit_Event_48_at49: function 48 -/
def audit_Event_48_at49.l0 : Nat → List (S46) → List (S46) → Int → Int → Option (Bool)
 | 0, _, _, _, _ => none
 | k + 1, x1, x15, x16, x17 => if x17 < x16 then (if 0 ≤ x17 then (if x17 < (x15.length : Int) then (if x17 < (x1.length : Int) then ((audit_Same_1.f ((rd_T46 x15 x17).f0) ((rd_T46 x15 x17).f1) ((rd_T46 x15 x17).f2) ((rd_T46 x15 x17).f3) ((rd_T46 x15 x17).f4.f0) ((rd_T46 x15 x17).f4.f1) ((rd_T46 x15 x17).f4.f2) ((rd_T46 x15 x17).f4.f3) ((rd_T46 x15 x17).f5) ((rd_T46 x15 x17).f6) ((rd_T46 x1 x17).f0) ((rd_T46 x1 x17).f1) ((rd_T46 x1 x17).f2) ((rd_T46 x1 x17).f3) ((rd_T46 x1 x17).f4.f0) ((rd_T46 x1 x17).f4.f1) ((rd_T46 x1 x17).f4.f2) ((rd_T46 x1 x17).f4.f3) ((rd_T46 x1 x17).f5) ((rd_T46 x1 x17).f6)).bind fun t148 => (if t148 = true then (audit_Event_48_at49.l0 k x1 x15 x16 (wrap64 (x17 + 1))) else (some false))) else (none)) else (none)) else (none)) else (some true)
def audit_Event_48_at49.f (k : Nat) (l0 : List (S46)) (l1 : List (S46))  : Option (Bool) := if (l0.length : Int) = (l1.length : Int) then (audit_Event_48_at49.l0 k l1 l0 (l0.length : Int) 0) else (some false)
theorem audit_Event_48_at49.mono_l : ∀ k, (∀ y0 y1 y2 y3, LeO (audit_Event_48_at49.l0 k y0 y1 y2 y3) (audit_Event_48_at49.l0 (k + 1) y0 y1 y2 y3))
 | 0 => fun _ _ _ _ r h => by simp [audit_Event_48_at49.l0] at h
 | k + 1 => by
  have ih0 := audit_Event_48_at49.mono_l k
  ·intro y0 y1 y2 y3
   unfold audit_Event_48_at49.l0
   repeat' first
   | (with_reducible exact ih0 _ _ _ _)
   | (with_reducible exact LeO.refl _)
   | (with_reducible exact LeO.none _)
   | (with_reducible refine LeO.ite ?_ ?_)
   | (with_reducible refine LeO.bind ?_ (fun _ => ?_))
   | exact ih0 _ _ _ _
   | exact LeO.none _
   | refine LeO.ite ?_ ?_
   | refine LeO.bind ?_ (fun _ => ?_)
theorem audit_Event_48_at49.mono : ∀ a0 a1 k, LeO (audit_Event_48_at49.f k a0 a1) (audit_Event_48_at49.f (k + 1) a0 a1) := by
 intro a0 a1 k
 have ih0 := audit_Event_48_at49.mono_l k
 unfold audit_Event_48_at49.f
 repeat' first
   | (with_reducible exact ih0 _ _ _ _)
   | (with_reducible exact LeO.refl _)
   | (with_reducible exact LeO.none _)
   | (with_reducible refine LeO.ite ?_ ?_)
   | (with_reducible refine LeO.bind ?_ (fun _ => ?_))
   | exact ih0 _ _ _ _
   | exact LeO.none _
   | refine LeO.ite ?_ ?_
   | refine LeO.bind ?_ (fun _ => ?_)
set_option maxHeartbeats 8000000 in
set_option maxRecDepth 100000 in
theorem audit_Event_48_at49.calls (k : Nat) (A0 : Option Addr) (c0 : Nat) (l0 : List (S46)) (A1 : Option Addr) (c1 : Nat) (l1 : List (S46))  (r : Bool) (w : World) (hr0 : Kd.C k46 w A0 l0.length l0) (hc0 : l0.length ≤ c0) (hr1 : Kd.C k46 w A1 l1.length l1) (hc1 : l1.length ≤ c1) (h : audit_Event_48_at49.f k l0 l1 = some r) :
  Calls Try.prog 48 #[.slice A0 l0.length c0, .slice A1 l1.length c1, .func (.func 49) #[] #[]] w fun e w' => e = .returned (.bool r) ∧ Below w.heap.size w w' := by
 have hu46 := Try.underlying46
 have HR0 := qS hr0
 have HC0 := qS hc0
 clear hr0 hc0
 have HR1 := qS hr1
 have HC1 := qS hc1
 clear hr1 hc1
 have HB := qS (Below.refl w.heap.size w)
 have H : (if (l0.length : Int) = (l1.length : Int) then (audit_Event_48_at49.l0 k l1 l0 (l0.length : Int) 0) else (some false)) = some r := h
 clear h
 by_cases c4 : (l0.length : Int) = (l1.length : Int)
 ·rw [if_pos c4] at H
  have c4b0 : ((l0.length : Int) == (l1.length : Int)) = true := beq_iff_eq.mpr c4
  have c4b1 : ((l0.length : Int) != (l1.length : Int)) = false := bne_eq_false_iff_eq.mpr c4
  have c4b2 : (l0.length == l1.length) = true := by first | simpa using c4 | (simp at c4 ⊢; omega)
  clear c4
  have H' := qS H
  clear H
  go_enter Try.func48, Try.ntmps48
  go_wp2
  go_loopg [17] k (fun kq v17 w' => ∃ (x17_1 : Int), v17 = .int .i64 x17_1 ∧ Aside0 (audit_Event_48_at49.l0 kq l1 l0 (l0.length : Int) x17_1 = some r) ∧ Aside0 (kq ≤ k) ∧ Aside0 (Below w.heap.size w w'))
  case atStart => exact ⟨(0), (by first | rfl | (simp; done) | (simp [*]; done)), H', ⟨Nat.le_refl _⟩, ⟨by repeat (first | (with_reducible first | exact HB.out | apply qpA | apply qpN | apply qp1) | exact HB.out)⟩⟩
  case round =>
   clear H'
   try clear c1
   try clear p2
   try clear c4
   try clear c4b0
   try clear c4b1
   try clear c4b2
   obtain ⟨x17_1, rfl, HA, HK1, HB⟩ := hrel
   cases gk with
   | zero => exact absurd HA.out (by simp [audit_Event_48_at49.l0])
   | succ k1 =>
    have H := HA.out
    clear HA
    simp only [audit_Event_48_at49.l0] at H
    by_cases c5 : x17_1 < (l0.length : Int)
    ·rw [if_pos c5] at H
     have c5b0 : decide (x17_1 < (l0.length : Int)) = true := decide_eq_true c5
     clear c5
     by_cases c6 : 0 ≤ x17_1
     ·rw [if_pos c6] at H
      have c6b0 : decide (0 ≤ x17_1) = true := decide_eq_true c6
      clear c6
      by_cases c7 : x17_1 < (l0.length : Int)
      ·rw [if_pos c7] at H
       have c7b0 : decide (x17_1 < (l0.length : Int)) = true := decide_eq_true c7
       clear c7
       by_cases c8 : x17_1 < (l1.length : Int)
       ·rw [if_pos c8] at H
        have c8b0 : decide (x17_1 < (l1.length : Int)) = true := decide_eq_true c8
        clear c8
        replace H := Option.bind_eq_some_iff.mp H
        obtain ⟨t148, A90, H⟩ := H
        replace H : (if t148 = true then (audit_Event_48_at49.l0 k1 l1 l0 (l0.length : Int) (wrap64 (x17_1 + 1))) else (some false)) = some r := H
        have A9 := qS A90
        clear A90
        by_cases c10 : t148 = true
        ·subst c10
         have H1 : (audit_Event_48_at49.l0 k1 l1 l0 (l0.length : Int) (wrap64 (x17_1 + 1))) = some r := by rw [if_pos rfl] at H; exact H
         clear H
         have H := H1
         clear H1
         have H' := qS H
         clear H
         have p144 : 0 ≤ (x17_1 : Int) := of_decide_eq_true (by first | (with_reducible assumption) | assumption)
         have q144 : x17_1 < (l0.length : Int) := of_decide_eq_true (by first | (with_reducible assumption) | assumption)
         obtain ⟨ad144, e144, hx144_0, hx144_1, hx144_2, hx144_3, hx144_4, hx144_5, hx144_6, hx144_7, hx144_8, hx144_9⟩ := at_T46 HR0.out x17_1 p144 q144
         cases e144
         replace hx144_0 := (HB.out.cell (World.block_lt_of_cell? w _ hx144_0)).trans hx144_0
         replace hx144_1 := (HB.out.cell (World.block_lt_of_cell? w _ hx144_1)).trans hx144_1
         replace hx144_2 := (HB.out.cell (World.block_lt_of_cell? w _ hx144_2)).trans hx144_2
         replace hx144_3 := (HB.out.cell (World.block_lt_of_cell? w _ hx144_3)).trans hx144_3
         replace hx144_4 := (HB.out.cell (World.block_lt_of_cell? w _ hx144_4)).trans hx144_4
         replace hx144_5 := (HB.out.cell (World.block_lt_of_cell? w _ hx144_5)).trans hx144_5
         replace hx144_6 := (HB.out.cell (World.block_lt_of_cell? w _ hx144_6)).trans hx144_6
         replace hx144_7 := (HB.out.cell (World.block_lt_of_cell? w _ hx144_7)).trans hx144_7
         replace hx144_8 := (HB.out.cell (World.block_lt_of_cell? w _ hx144_8)).trans hx144_8
         replace hx144_9 := (HB.out.cell (World.block_lt_of_cell? w _ hx144_9)).trans hx144_9
         replace p144 := eq_true p144
         replace q144 := eq_true q144
         go_wp2_with (first | ((with_reducible refine gate_dst (N := 8) rfl ?_); refine box_event ?hg (N := 8) ?hd (cs := #[.int .i64 0, .string (⟨#[]⟩ : ByteArray), .bool false, .int .i64 0, .int .i64 0, .int .i64 0, .int .i64 0, .int .i64 0, .bool false, .int .i64 0]) (t := 46) ?hr ?_; (case hd => rfl); (case hg => rfl); (case hr => first | (go_simp; done) | (go_simp; rfl)); intro gb145 hg w11 hbox hb; have n0_ := qS (below_step (by repeat (first | (with_reducible first | exact HB.out | apply qpA | apply qpN | apply qp1) | exact HB.out)) hb); have n1_ := qS (hbox); have n2_ := qS ((by rw [hg]; exact (below_size (by repeat (first | (with_reducible first | exact HB.out | apply qpA | apply qpN | apply qp1) | exact HB.out))) : w.heap.size ≤ gb145)); have n3_ := qS ((by rw [hg]; exact (below_size (by repeat (first | (with_reducible first | exact HB.out | apply qpA | apply qpN | apply qp1) | exact HB.out))) : w.heap.size ≤ gb145)); clear HB; have HB := n0_; have BK145 := n1_; have GW145 := n2_; have GE145 := n3_; clear n0_ n1_ n2_ n3_; clear hb hbox hg) | ((with_reducible refine gate_store (t := 46) (p := 8) rfl ?_); refine rowput_event rfl rfl rfl gb145 0 46 #[.int .i64 0, .string (⟨#[]⟩ : ByteArray), .bool false, .int .i64 0, .int .i64 0, .int .i64 0, .int .i64 0, .int .i64 0, .bool false, .int .i64 0] #[.int .i64 ((rd_T46 l0 x17_1).f0), .string ((rd_T46 l0 x17_1).f1), .bool ((rd_T46 l0 x17_1).f2), .int .i64 ((rd_T46 l0 x17_1).f3), .int .i64 ((rd_T46 l0 x17_1).f4.f0), .int .i64 ((rd_T46 l0 x17_1).f4.f1), .int .i64 ((rd_T46 l0 x17_1).f4.f2), .int .i64 ((rd_T46 l0 x17_1).f4.f3), .bool ((rd_T46 l0 x17_1).f5), .int .i64 ((rd_T46 l0 x17_1).f6)] _ [.int .i64 ((rd_T46 l0 x17_1).f0), .string ((rd_T46 l0 x17_1).f1), .bool ((rd_T46 l0 x17_1).f2), .int .i64 ((rd_T46 l0 x17_1).f3), .int .i64 ((rd_T46 l0 x17_1).f4.f0), .int .i64 ((rd_T46 l0 x17_1).f4.f1), .int .i64 ((rd_T46 l0 x17_1).f4.f2), .int .i64 ((rd_T46 l0 x17_1).f4.f3), .bool ((rd_T46 l0 x17_1).f5), .int .i64 ((rd_T46 l0 x17_1).f6)] rfl rfl rfl (by (with_reducible repeat (first | refine qN ?_ _ | refine qD ?_ | refine qA ?_ _)); exact BK145.out) (by kernel_rfl) (by simp) (by simp [Value.oneCell']) rfl (by repeat (first | (with_reducible first | exact HB.out | apply qpA | apply qpN | apply qp1 | refine qpS ?_ GE145.out) | exact HB.out)) GE145.out ?_; intro w12 hnw_ hfar_ hb_; have n0_ : Aside0 (w12.heap[gb145]? = some (.cells #[.int .i64 ((rd_T46 l0 x17_1).f0), .string ((rd_T46 l0 x17_1).f1), .bool ((rd_T46 l0 x17_1).f2), .int .i64 ((rd_T46 l0 x17_1).f3), .int .i64 ((rd_T46 l0 x17_1).f4.f0), .int .i64 ((rd_T46 l0 x17_1).f4.f1), .int .i64 ((rd_T46 l0 x17_1).f4.f2), .int .i64 ((rd_T46 l0 x17_1).f4.f3), .bool ((rd_T46 l0 x17_1).f5), .int .i64 ((rd_T46 l0 x17_1).f6)] 46 (0, 0))) := ⟨hnw_⟩; have nb_ := qS hb_; clear hnw_ hfar_ hb_ HB BK145; have BK145 := n0_; have HB := nb_; clear nb_ n0_; have p146 : 0 ≤ (x17_1 : Int) := of_decide_eq_true (by first | (with_reducible assumption) | assumption); have q146 : x17_1 < (l1.length : Int) := of_decide_eq_true (by first | (with_reducible assumption) | assumption); obtain ⟨ad146, e146, hx146_0, hx146_1, hx146_2, hx146_3, hx146_4, hx146_5, hx146_6, hx146_7, hx146_8, hx146_9⟩ := at_T46 HR1.out x17_1 p146 q146; cases e146; replace hx146_0 := (HB.out.cell (World.block_lt_of_cell? w _ hx146_0)).trans hx146_0; replace hx146_1 := (HB.out.cell (World.block_lt_of_cell? w _ hx146_1)).trans hx146_1; replace hx146_2 := (HB.out.cell (World.block_lt_of_cell? w _ hx146_2)).trans hx146_2; replace hx146_3 := (HB.out.cell (World.block_lt_of_cell? w _ hx146_3)).trans hx146_3; replace hx146_4 := (HB.out.cell (World.block_lt_of_cell? w _ hx146_4)).trans hx146_4; replace hx146_5 := (HB.out.cell (World.block_lt_of_cell? w _ hx146_5)).trans hx146_5; replace hx146_6 := (HB.out.cell (World.block_lt_of_cell? w _ hx146_6)).trans hx146_6; replace hx146_7 := (HB.out.cell (World.block_lt_of_cell? w _ hx146_7)).trans hx146_7; replace hx146_8 := (HB.out.cell (World.block_lt_of_cell? w _ hx146_8)).trans hx146_8; replace hx146_9 := (HB.out.cell (World.block_lt_of_cell? w _ hx146_9)).trans hx146_9; replace p146 := eq_true p146; replace q146 := eq_true q146) | ((with_reducible refine gate_dst (N := 9) rfl ?_); refine box_event ?hg (N := 9) ?hd (cs := #[.int .i64 0, .string (⟨#[]⟩ : ByteArray), .bool false, .int .i64 0, .int .i64 0, .int .i64 0, .int .i64 0, .int .i64 0, .bool false, .int .i64 0]) (t := 46) ?hr ?_; (case hd => rfl); (case hg => rfl); (case hr => first | (go_simp; done) | (go_simp; rfl)); intro gb147 hg w13 hbox hb; have n0_ := qS (qB (g := gb145) (o := .cells #[.int .i64 ((rd_T46 l0 x17_1).f0), .string ((rd_T46 l0 x17_1).f1), .bool ((rd_T46 l0 x17_1).f2), .int .i64 ((rd_T46 l0 x17_1).f3), .int .i64 ((rd_T46 l0 x17_1).f4.f0), .int .i64 ((rd_T46 l0 x17_1).f4.f1), .int .i64 ((rd_T46 l0 x17_1).f4.f2), .int .i64 ((rd_T46 l0 x17_1).f4.f3), .bool ((rd_T46 l0 x17_1).f5), .int .i64 ((rd_T46 l0 x17_1).f6)] 46 (0, 0)) (by (with_reducible repeat (first | refine qN ?_ _ | refine qD ?_ | refine qA ?_ _)); exact BK145.out) hb); have n1_ := qS (below_step (by repeat (first | (with_reducible first | exact HB.out | apply qpA | apply qpN | apply qp1 | refine qpS ?_ GE145.out) | exact HB.out)) hb); have n2_ := qS (hbox); have n3_ := qS ((by rw [hg]; exact (below_size (by repeat (first | (with_reducible first | exact HB.out | apply qpA | apply qpN | apply qp1 | refine qpS ?_ GE145.out) | exact HB.out))) : w.heap.size ≤ gb147)); have n4_ := qS ((by rw [hg]; exact (below_size (by repeat (first | (with_reducible first | exact HB.out | apply qpA | apply qpN | apply qp1 | refine qpS ?_ GE145.out) | exact HB.out))) : w.heap.size ≤ gb147)); have n5_ := qS ((by rw [hg]; exact Nat.ne_of_lt (blk_lt (g := gb145) (o := .cells #[.int .i64 ((rd_T46 l0 x17_1).f0), .string ((rd_T46 l0 x17_1).f1), .bool ((rd_T46 l0 x17_1).f2), .int .i64 ((rd_T46 l0 x17_1).f3), .int .i64 ((rd_T46 l0 x17_1).f4.f0), .int .i64 ((rd_T46 l0 x17_1).f4.f1), .int .i64 ((rd_T46 l0 x17_1).f4.f2), .int .i64 ((rd_T46 l0 x17_1).f4.f3), .bool ((rd_T46 l0 x17_1).f5), .int .i64 ((rd_T46 l0 x17_1).f6)] 46 (0, 0)) (by (with_reducible repeat (first | refine qN ?_ _ | refine qD ?_ | refine qA ?_ _)); exact BK145.out)) : gb145 ≠ gb147)); have n6_ := qS ((by rw [hg]; exact Nat.ne_of_gt (blk_lt (g := gb145) (o := .cells #[.int .i64 ((rd_T46 l0 x17_1).f0), .string ((rd_T46 l0 x17_1).f1), .bool ((rd_T46 l0 x17_1).f2), .int .i64 ((rd_T46 l0 x17_1).f3), .int .i64 ((rd_T46 l0 x17_1).f4.f0), .int .i64 ((rd_T46 l0 x17_1).f4.f1), .int .i64 ((rd_T46 l0 x17_1).f4.f2), .int .i64 ((rd_T46 l0 x17_1).f4.f3), .bool ((rd_T46 l0 x17_1).f5), .int .i64 ((rd_T46 l0 x17_1).f6)] 46 (0, 0)) (by (with_reducible repeat (first | refine qN ?_ _ | refine qD ?_ | refine qA ?_ _)); exact BK145.out)) : gb147 ≠ gb145)); clear BK145; clear HB; have BK145 := n0_; have HB := n1_; have BK147 := n2_; have GW147 := n3_; have GE147 := n4_; have NB145_147 := n5_; have NB147_145 := n6_; clear n0_ n1_ n2_ n3_ n4_ n5_ n6_; clear hb hbox hg) | ((with_reducible refine gate_store (t := 46) (p := 9) rfl ?_); refine rowput_event rfl rfl rfl gb147 0 46 #[.int .i64 0, .string (⟨#[]⟩ : ByteArray), .bool false, .int .i64 0, .int .i64 0, .int .i64 0, .int .i64 0, .int .i64 0, .bool false, .int .i64 0] #[.int .i64 ((rd_T46 l1 x17_1).f0), .string ((rd_T46 l1 x17_1).f1), .bool ((rd_T46 l1 x17_1).f2), .int .i64 ((rd_T46 l1 x17_1).f3), .int .i64 ((rd_T46 l1 x17_1).f4.f0), .int .i64 ((rd_T46 l1 x17_1).f4.f1), .int .i64 ((rd_T46 l1 x17_1).f4.f2), .int .i64 ((rd_T46 l1 x17_1).f4.f3), .bool ((rd_T46 l1 x17_1).f5), .int .i64 ((rd_T46 l1 x17_1).f6)] _ [.int .i64 ((rd_T46 l1 x17_1).f0), .string ((rd_T46 l1 x17_1).f1), .bool ((rd_T46 l1 x17_1).f2), .int .i64 ((rd_T46 l1 x17_1).f3), .int .i64 ((rd_T46 l1 x17_1).f4.f0), .int .i64 ((rd_T46 l1 x17_1).f4.f1), .int .i64 ((rd_T46 l1 x17_1).f4.f2), .int .i64 ((rd_T46 l1 x17_1).f4.f3), .bool ((rd_T46 l1 x17_1).f5), .int .i64 ((rd_T46 l1 x17_1).f6)] rfl rfl rfl (by (with_reducible repeat (first | refine qN ?_ _ | refine qD ?_ | refine qA ?_ _)); exact BK147.out) (by kernel_rfl) (by simp) (by simp [Value.oneCell']) rfl (by repeat (first | (with_reducible first | exact HB.out | apply qpA | apply qpN | apply qp1 | refine qpS ?_ GE145.out | refine qpS ?_ GE147.out) | exact HB.out)) GE147.out ?_; intro w14 hnw_ hfar_ hb_; have n0_ : Aside0 (w14.heap[gb145]? = some (.cells #[.int .i64 ((rd_T46 l0 x17_1).f0), .string ((rd_T46 l0 x17_1).f1), .bool ((rd_T46 l0 x17_1).f2), .int .i64 ((rd_T46 l0 x17_1).f3), .int .i64 ((rd_T46 l0 x17_1).f4.f0), .int .i64 ((rd_T46 l0 x17_1).f4.f1), .int .i64 ((rd_T46 l0 x17_1).f4.f2), .int .i64 ((rd_T46 l0 x17_1).f4.f3), .bool ((rd_T46 l0 x17_1).f5), .int .i64 ((rd_T46 l0 x17_1).f6)] 46 (0, 0))) := ⟨(hfar_ _ NB145_147.out).trans (by (with_reducible repeat (first | refine qN ?_ _ | refine qD ?_ | refine qA ?_ _)); exact BK145.out)⟩; have n1_ : Aside0 (w14.heap[gb147]? = some (.cells #[.int .i64 ((rd_T46 l1 x17_1).f0), .string ((rd_T46 l1 x17_1).f1), .bool ((rd_T46 l1 x17_1).f2), .int .i64 ((rd_T46 l1 x17_1).f3), .int .i64 ((rd_T46 l1 x17_1).f4.f0), .int .i64 ((rd_T46 l1 x17_1).f4.f1), .int .i64 ((rd_T46 l1 x17_1).f4.f2), .int .i64 ((rd_T46 l1 x17_1).f4.f3), .bool ((rd_T46 l1 x17_1).f5), .int .i64 ((rd_T46 l1 x17_1).f6)] 46 (0, 0))) := ⟨hnw_⟩; have nb_ := qS hb_; clear hnw_ hfar_ hb_ HB BK145 BK147; have BK145 := n0_; have BK147 := n1_; have HB := nb_; clear nb_ n0_ n1_; have hnb15 := NB145_147.out; have hnc15 := NB147_145.out; have hcz16_0 : w14.cell? ⟨gb145, 0, none⟩ = some (.int .i64 ((rd_T46 l0 x17_1).f0)) := (qC BK145.out 0).trans rfl; have hcz16_1 : w14.cell? ⟨gb145, 1, none⟩ = some (.string ((rd_T46 l0 x17_1).f1)) := (qC BK145.out 1).trans rfl; have hcz16_2 : w14.cell? ⟨gb145, 2, none⟩ = some (.bool ((rd_T46 l0 x17_1).f2)) := (qC BK145.out 2).trans rfl; have hcz16_3 : w14.cell? ⟨gb145, 3, none⟩ = some (.int .i64 ((rd_T46 l0 x17_1).f3)) := (qC BK145.out 3).trans rfl; have hcz16_4 : w14.cell? ⟨gb145, 4, none⟩ = some (.int .i64 ((rd_T46 l0 x17_1).f4.f0)) := (qC BK145.out 4).trans rfl; have hcz16_5 : w14.cell? ⟨gb145, 5, none⟩ = some (.int .i64 ((rd_T46 l0 x17_1).f4.f1)) := (qC BK145.out 5).trans rfl; have hcz16_6 : w14.cell? ⟨gb145, 6, none⟩ = some (.int .i64 ((rd_T46 l0 x17_1).f4.f2)) := (qC BK145.out 6).trans rfl; have hcz16_7 : w14.cell? ⟨gb145, 7, none⟩ = some (.int .i64 ((rd_T46 l0 x17_1).f4.f3)) := (qC BK145.out 7).trans rfl; have hcz16_8 : w14.cell? ⟨gb145, 8, none⟩ = some (.bool ((rd_T46 l0 x17_1).f5)) := (qC BK145.out 8).trans rfl; have hcz16_9 : w14.cell? ⟨gb145, 9, none⟩ = some (.int .i64 ((rd_T46 l0 x17_1).f6)) := (qC BK145.out 9).trans rfl; have hfz16_0 := qF BK145.out 0; have hfz16_1 := qF BK145.out 1; have hfz16_2 := qF BK145.out 2; have hfz16_3 := qF BK145.out 3; have hfz16_4 := qF BK145.out 4; have hfz16_5 := qF BK145.out 5; have hfz16_6 := qF BK145.out 6; have hfz16_7 := qF BK145.out 7; have hfz16_8 := qF BK145.out 8; have hfz16_9 := qF BK145.out 9) | ((with_reducible refine gate_dst (N := 27) rfl ?_); refine rowget_event rfl rfl gb145 0 46 #[.int .i64 ((rd_T46 l0 x17_1).f0), .string ((rd_T46 l0 x17_1).f1), .bool ((rd_T46 l0 x17_1).f2), .int .i64 ((rd_T46 l0 x17_1).f3), .int .i64 ((rd_T46 l0 x17_1).f4.f0), .int .i64 ((rd_T46 l0 x17_1).f4.f1), .int .i64 ((rd_T46 l0 x17_1).f4.f2), .int .i64 ((rd_T46 l0 x17_1).f4.f3), .bool ((rd_T46 l0 x17_1).f5), .int .i64 ((rd_T46 l0 x17_1).f6)] #[.int .i64 ((rd_T46 l0 x17_1).f0), .string ((rd_T46 l0 x17_1).f1), .bool ((rd_T46 l0 x17_1).f2), .int .i64 ((rd_T46 l0 x17_1).f3), .int .i64 ((rd_T46 l0 x17_1).f4.f0), .int .i64 ((rd_T46 l0 x17_1).f4.f1), .int .i64 ((rd_T46 l0 x17_1).f4.f2), .int .i64 ((rd_T46 l0 x17_1).f4.f3), .bool ((rd_T46 l0 x17_1).f5), .int .i64 ((rd_T46 l0 x17_1).f6)] _ rfl (by (with_reducible repeat (first | refine qN ?_ _ | refine qD ?_ | refine qA ?_ _)); exact BK145.out) rfl Try.underlying46 rfl (by kernel_rfl) ?_; have hcz17_0 : w14.cell? ⟨gb147, 0, none⟩ = some (.int .i64 ((rd_T46 l1 x17_1).f0)) := (qC BK147.out 0).trans rfl; have hcz17_1 : w14.cell? ⟨gb147, 1, none⟩ = some (.string ((rd_T46 l1 x17_1).f1)) := (qC BK147.out 1).trans rfl; have hcz17_2 : w14.cell? ⟨gb147, 2, none⟩ = some (.bool ((rd_T46 l1 x17_1).f2)) := (qC BK147.out 2).trans rfl; have hcz17_3 : w14.cell? ⟨gb147, 3, none⟩ = some (.int .i64 ((rd_T46 l1 x17_1).f3)) := (qC BK147.out 3).trans rfl; have hcz17_4 : w14.cell? ⟨gb147, 4, none⟩ = some (.int .i64 ((rd_T46 l1 x17_1).f4.f0)) := (qC BK147.out 4).trans rfl; have hcz17_5 : w14.cell? ⟨gb147, 5, none⟩ = some (.int .i64 ((rd_T46 l1 x17_1).f4.f1)) := (qC BK147.out 5).trans rfl; have hcz17_6 : w14.cell? ⟨gb147, 6, none⟩ = some (.int .i64 ((rd_T46 l1 x17_1).f4.f2)) := (qC BK147.out 6).trans rfl; have hcz17_7 : w14.cell? ⟨gb147, 7, none⟩ = some (.int .i64 ((rd_T46 l1 x17_1).f4.f3)) := (qC BK147.out 7).trans rfl; have hcz17_8 : w14.cell? ⟨gb147, 8, none⟩ = some (.bool ((rd_T46 l1 x17_1).f5)) := (qC BK147.out 8).trans rfl; have hcz17_9 : w14.cell? ⟨gb147, 9, none⟩ = some (.int .i64 ((rd_T46 l1 x17_1).f6)) := (qC BK147.out 9).trans rfl; have hfz17_0 := qF BK147.out 0; have hfz17_1 := qF BK147.out 1; have hfz17_2 := qF BK147.out 2; have hfz17_3 := qF BK147.out 3; have hfz17_4 := qF BK147.out 4; have hfz17_5 := qF BK147.out 5; have hfz17_6 := qF BK147.out 6; have hfz17_7 := qF BK147.out 7; have hfz17_8 := qF BK147.out 8; have hfz17_9 := qF BK147.out 9) | ((with_reducible refine gate_dst (N := 28) rfl ?_); refine rowget_event rfl rfl gb147 0 46 #[.int .i64 ((rd_T46 l1 x17_1).f0), .string ((rd_T46 l1 x17_1).f1), .bool ((rd_T46 l1 x17_1).f2), .int .i64 ((rd_T46 l1 x17_1).f3), .int .i64 ((rd_T46 l1 x17_1).f4.f0), .int .i64 ((rd_T46 l1 x17_1).f4.f1), .int .i64 ((rd_T46 l1 x17_1).f4.f2), .int .i64 ((rd_T46 l1 x17_1).f4.f3), .bool ((rd_T46 l1 x17_1).f5), .int .i64 ((rd_T46 l1 x17_1).f6)] #[.int .i64 ((rd_T46 l1 x17_1).f0), .string ((rd_T46 l1 x17_1).f1), .bool ((rd_T46 l1 x17_1).f2), .int .i64 ((rd_T46 l1 x17_1).f3), .int .i64 ((rd_T46 l1 x17_1).f4.f0), .int .i64 ((rd_T46 l1 x17_1).f4.f1), .int .i64 ((rd_T46 l1 x17_1).f4.f2), .int .i64 ((rd_T46 l1 x17_1).f4.f3), .bool ((rd_T46 l1 x17_1).f5), .int .i64 ((rd_T46 l1 x17_1).f6)] _ rfl (by (with_reducible repeat (first | refine qN ?_ _ | refine qD ?_ | refine qA ?_ _)); exact BK147.out) rfl Try.underlying46 rfl (by kernel_rfl) ?_) | (go_at_call 49; refine calls_of_args (args' := #[.agg #[.int .i64 ((rd_T46 l0 x17_1).f0), .string ((rd_T46 l0 x17_1).f1), .bool ((rd_T46 l0 x17_1).f2), .int .i64 ((rd_T46 l0 x17_1).f3), .int .i64 ((rd_T46 l0 x17_1).f4.f0), .int .i64 ((rd_T46 l0 x17_1).f4.f1), .int .i64 ((rd_T46 l0 x17_1).f4.f2), .int .i64 ((rd_T46 l0 x17_1).f4.f3), .bool ((rd_T46 l0 x17_1).f5), .int .i64 ((rd_T46 l0 x17_1).f6)], .agg #[.int .i64 ((rd_T46 l1 x17_1).f0), .string ((rd_T46 l1 x17_1).f1), .bool ((rd_T46 l1 x17_1).f2), .int .i64 ((rd_T46 l1 x17_1).f3), .int .i64 ((rd_T46 l1 x17_1).f4.f0), .int .i64 ((rd_T46 l1 x17_1).f4.f1), .int .i64 ((rd_T46 l1 x17_1).f4.f2), .int .i64 ((rd_T46 l1 x17_1).f4.f3), .bool ((rd_T46 l1 x17_1).f5), .int .i64 ((rd_T46 l1 x17_1).f6)]]) ?_ ?_; (focus (first | (rw [show ((rd_T46 l0 x17_1).f2) = true by with_reducible assumption]) | (rw [show ((rd_T46 l0 x17_1).f2) = false by with_reducible assumption]) | (rw [show ((rd_T46 l0 x17_1).f5) = true by with_reducible assumption]) | (rw [show ((rd_T46 l0 x17_1).f5) = false by with_reducible assumption]) | (rw [show ((rd_T46 l1 x17_1).f2) = true by with_reducible assumption]) | (rw [show ((rd_T46 l1 x17_1).f2) = false by with_reducible assumption]) | (rw [show ((rd_T46 l1 x17_1).f5) = true by with_reducible assumption]) | (rw [show ((rd_T46 l1 x17_1).f5) = false by with_reducible assumption]) | rfl | (simp only [*]; done) | (simp [*]; done))); (with_reducible refine (audit_Same_1.calls ((rd_T46 l0 x17_1).f0) ((rd_T46 l0 x17_1).f1) ((rd_T46 l0 x17_1).f2) ((rd_T46 l0 x17_1).f3) ((rd_T46 l0 x17_1).f4.f0) ((rd_T46 l0 x17_1).f4.f1) ((rd_T46 l0 x17_1).f4.f2) ((rd_T46 l0 x17_1).f4.f3) ((rd_T46 l0 x17_1).f5) ((rd_T46 l0 x17_1).f6) ((rd_T46 l1 x17_1).f0) ((rd_T46 l1 x17_1).f1) ((rd_T46 l1 x17_1).f2) ((rd_T46 l1 x17_1).f3) ((rd_T46 l1 x17_1).f4.f0) ((rd_T46 l1 x17_1).f4.f1) ((rd_T46 l1 x17_1).f4.f2) ((rd_T46 l1 x17_1).f4.f3) ((rd_T46 l1 x17_1).f5) ((rd_T46 l1 x17_1).f6) true _ A9.out).mono ?_); rintro e w18 ⟨rfl, hb⟩; have n0_ := qS (qB (g := gb145) (o := .cells #[.int .i64 ((rd_T46 l0 x17_1).f0), .string ((rd_T46 l0 x17_1).f1), .bool ((rd_T46 l0 x17_1).f2), .int .i64 ((rd_T46 l0 x17_1).f3), .int .i64 ((rd_T46 l0 x17_1).f4.f0), .int .i64 ((rd_T46 l0 x17_1).f4.f1), .int .i64 ((rd_T46 l0 x17_1).f4.f2), .int .i64 ((rd_T46 l0 x17_1).f4.f3), .bool ((rd_T46 l0 x17_1).f5), .int .i64 ((rd_T46 l0 x17_1).f6)] 46 (0, 0)) (by (with_reducible repeat (first | refine qN ?_ _ | refine qD ?_ | refine qA ?_ _)); exact BK145.out) hb); have n1_ := qS (qB (g := gb147) (o := .cells #[.int .i64 ((rd_T46 l1 x17_1).f0), .string ((rd_T46 l1 x17_1).f1), .bool ((rd_T46 l1 x17_1).f2), .int .i64 ((rd_T46 l1 x17_1).f3), .int .i64 ((rd_T46 l1 x17_1).f4.f0), .int .i64 ((rd_T46 l1 x17_1).f4.f1), .int .i64 ((rd_T46 l1 x17_1).f4.f2), .int .i64 ((rd_T46 l1 x17_1).f4.f3), .bool ((rd_T46 l1 x17_1).f5), .int .i64 ((rd_T46 l1 x17_1).f6)] 46 (0, 0)) (by (with_reducible repeat (first | refine qN ?_ _ | refine qD ?_ | refine qA ?_ _)); exact BK147.out) hb); have n2_ := qS (below_step (by repeat (first | (with_reducible first | exact HB.out | apply qpA | apply qpN | apply qp1 | refine qpS ?_ GE145.out | refine qpS ?_ GE147.out) | exact HB.out)) hb); clear BK145; clear BK147; clear HB; have BK145 := n0_; have BK147 := n1_; have HB := n2_; clear n0_ n1_ n2_; (try clear hb); (try clear hb2); (try clear hk); (try clear hi)))
         go_roundg k1
         case measure => have := HK1.out; omega
         case rel => exact ⟨(wrap64 (x17_1 + 1)), (by first | rfl | (simp; done) | (simp [*]; done)), H', ⟨by have := HK1.out; omega⟩, ⟨by repeat (first | (with_reducible first | exact HB.out | apply qpA | apply qpN | apply qp1 | refine qpS ?_ GE145.out | refine qpS ?_ GE147.out) | exact HB.out)⟩⟩
        ·replace c10 := Bool.eq_false_iff.mpr c10
         subst c10
         have H1 : (some false) = some r := by rw [if_neg (show ¬ (false = true) by decide)] at H; exact H
         clear H
         have H := H1
         clear H1
         obtain rfl := Option.some.inj H
         have p144 : 0 ≤ (x17_1 : Int) := of_decide_eq_true (by first | (with_reducible assumption) | assumption)
         have q144 : x17_1 < (l0.length : Int) := of_decide_eq_true (by first | (with_reducible assumption) | assumption)
         obtain ⟨ad144, e144, hx144_0, hx144_1, hx144_2, hx144_3, hx144_4, hx144_5, hx144_6, hx144_7, hx144_8, hx144_9⟩ := at_T46 HR0.out x17_1 p144 q144
         cases e144
         replace hx144_0 := (HB.out.cell (World.block_lt_of_cell? w _ hx144_0)).trans hx144_0
         replace hx144_1 := (HB.out.cell (World.block_lt_of_cell? w _ hx144_1)).trans hx144_1
         replace hx144_2 := (HB.out.cell (World.block_lt_of_cell? w _ hx144_2)).trans hx144_2
         replace hx144_3 := (HB.out.cell (World.block_lt_of_cell? w _ hx144_3)).trans hx144_3
         replace hx144_4 := (HB.out.cell (World.block_lt_of_cell? w _ hx144_4)).trans hx144_4
         replace hx144_5 := (HB.out.cell (World.block_lt_of_cell? w _ hx144_5)).trans hx144_5
         replace hx144_6 := (HB.out.cell (World.block_lt_of_cell? w _ hx144_6)).trans hx144_6
         replace hx144_7 := (HB.out.cell (World.block_lt_of_cell? w _ hx144_7)).trans hx144_7
         replace hx144_8 := (HB.out.cell (World.block_lt_of_cell? w _ hx144_8)).trans hx144_8
         replace hx144_9 := (HB.out.cell (World.block_lt_of_cell? w _ hx144_9)).trans hx144_9
         replace p144 := eq_true p144
         replace q144 := eq_true q144
         go_wp2_with (first | ((with_reducible refine gate_dst (N := 8) rfl ?_); refine box_event ?hg (N := 8) ?hd (cs := #[.int .i64 0, .string (⟨#[]⟩ : ByteArray), .bool false, .int .i64 0, .int .i64 0, .int .i64 0, .int .i64 0, .int .i64 0, .bool false, .int .i64 0]) (t := 46) ?hr ?_; (case hd => rfl); (case hg => rfl); (case hr => first | (go_simp; done) | (go_simp; rfl)); intro gb145 hg w19 hbox hb; have n0_ := qS (below_step (by repeat (first | (with_reducible first | exact HB.out | apply qpA | apply qpN | apply qp1) | exact HB.out)) hb); have n1_ := qS (hbox); have n2_ := qS ((by rw [hg]; exact (below_size (by repeat (first | (with_reducible first | exact HB.out | apply qpA | apply qpN | apply qp1) | exact HB.out))) : w.heap.size ≤ gb145)); have n3_ := qS ((by rw [hg]; exact (below_size (by repeat (first | (with_reducible first | exact HB.out | apply qpA | apply qpN | apply qp1) | exact HB.out))) : w.heap.size ≤ gb145)); clear HB; have HB := n0_; have BK145 := n1_; have GW145 := n2_; have GE145 := n3_; clear n0_ n1_ n2_ n3_; clear hb hbox hg) | ((with_reducible refine gate_store (t := 46) (p := 8) rfl ?_); refine rowput_event rfl rfl rfl gb145 0 46 #[.int .i64 0, .string (⟨#[]⟩ : ByteArray), .bool false, .int .i64 0, .int .i64 0, .int .i64 0, .int .i64 0, .int .i64 0, .bool false, .int .i64 0] #[.int .i64 ((rd_T46 l0 x17_1).f0), .string ((rd_T46 l0 x17_1).f1), .bool ((rd_T46 l0 x17_1).f2), .int .i64 ((rd_T46 l0 x17_1).f3), .int .i64 ((rd_T46 l0 x17_1).f4.f0), .int .i64 ((rd_T46 l0 x17_1).f4.f1), .int .i64 ((rd_T46 l0 x17_1).f4.f2), .int .i64 ((rd_T46 l0 x17_1).f4.f3), .bool ((rd_T46 l0 x17_1).f5), .int .i64 ((rd_T46 l0 x17_1).f6)] _ [.int .i64 ((rd_T46 l0 x17_1).f0), .string ((rd_T46 l0 x17_1).f1), .bool ((rd_T46 l0 x17_1).f2), .int .i64 ((rd_T46 l0 x17_1).f3), .int .i64 ((rd_T46 l0 x17_1).f4.f0), .int .i64 ((rd_T46 l0 x17_1).f4.f1), .int .i64 ((rd_T46 l0 x17_1).f4.f2), .int .i64 ((rd_T46 l0 x17_1).f4.f3), .bool ((rd_T46 l0 x17_1).f5), .int .i64 ((rd_T46 l0 x17_1).f6)] rfl rfl rfl (by (with_reducible repeat (first | refine qN ?_ _ | refine qD ?_ | refine qA ?_ _)); exact BK145.out) (by kernel_rfl) (by simp) (by simp [Value.oneCell']) rfl (by repeat (first | (with_reducible first | exact HB.out | apply qpA | apply qpN | apply qp1 | refine qpS ?_ GE145.out) | exact HB.out)) GE145.out ?_; intro w20 hnw_ hfar_ hb_; have n0_ : Aside0 (w20.heap[gb145]? = some (.cells #[.int .i64 ((rd_T46 l0 x17_1).f0), .string ((rd_T46 l0 x17_1).f1), .bool ((rd_T46 l0 x17_1).f2), .int .i64 ((rd_T46 l0 x17_1).f3), .int .i64 ((rd_T46 l0 x17_1).f4.f0), .int .i64 ((rd_T46 l0 x17_1).f4.f1), .int .i64 ((rd_T46 l0 x17_1).f4.f2), .int .i64 ((rd_T46 l0 x17_1).f4.f3), .bool ((rd_T46 l0 x17_1).f5), .int .i64 ((rd_T46 l0 x17_1).f6)] 46 (0, 0))) := ⟨hnw_⟩; have nb_ := qS hb_; clear hnw_ hfar_ hb_ HB BK145; have BK145 := n0_; have HB := nb_; clear nb_ n0_; have p146 : 0 ≤ (x17_1 : Int) := of_decide_eq_true (by first | (with_reducible assumption) | assumption); have q146 : x17_1 < (l1.length : Int) := of_decide_eq_true (by first | (with_reducible assumption) | assumption); obtain ⟨ad146, e146, hx146_0, hx146_1, hx146_2, hx146_3, hx146_4, hx146_5, hx146_6, hx146_7, hx146_8, hx146_9⟩ := at_T46 HR1.out x17_1 p146 q146; cases e146; replace hx146_0 := (HB.out.cell (World.block_lt_of_cell? w _ hx146_0)).trans hx146_0; replace hx146_1 := (HB.out.cell (World.block_lt_of_cell? w _ hx146_1)).trans hx146_1; replace hx146_2 := (HB.out.cell (World.block_lt_of_cell? w _ hx146_2)).trans hx146_2; replace hx146_3 := (HB.out.cell (World.block_lt_of_cell? w _ hx146_3)).trans hx146_3; replace hx146_4 := (HB.out.cell (World.block_lt_of_cell? w _ hx146_4)).trans hx146_4; replace hx146_5 := (HB.out.cell (World.block_lt_of_cell? w _ hx146_5)).trans hx146_5; replace hx146_6 := (HB.out.cell (World.block_lt_of_cell? w _ hx146_6)).trans hx146_6; replace hx146_7 := (HB.out.cell (World.block_lt_of_cell? w _ hx146_7)).trans hx146_7; replace hx146_8 := (HB.out.cell (World.block_lt_of_cell? w _ hx146_8)).trans hx146_8; replace hx146_9 := (HB.out.cell (World.block_lt_of_cell? w _ hx146_9)).trans hx146_9; replace p146 := eq_true p146; replace q146 := eq_true q146) | ((with_reducible refine gate_dst (N := 9) rfl ?_); refine box_event ?hg (N := 9) ?hd (cs := #[.int .i64 0, .string (⟨#[]⟩ : ByteArray), .bool false, .int .i64 0, .int .i64 0, .int .i64 0, .int .i64 0, .int .i64 0, .bool false, .int .i64 0]) (t := 46) ?hr ?_; (case hd => rfl); (case hg => rfl); (case hr => first | (go_simp; done) | (go_simp; rfl)); intro gb147 hg w21 hbox hb; have n0_ := qS (qB (g := gb145) (o := .cells #[.int .i64 ((rd_T46 l0 x17_1).f0), .string ((rd_T46 l0 x17_1).f1), .bool ((rd_T46 l0 x17_1).f2), .int .i64 ((rd_T46 l0 x17_1).f3), .int .i64 ((rd_T46 l0 x17_1).f4.f0), .int .i64 ((rd_T46 l0 x17_1).f4.f1), .int .i64 ((rd_T46 l0 x17_1).f4.f2), .int .i64 ((rd_T46 l0 x17_1).f4.f3), .bool ((rd_T46 l0 x17_1).f5), .int .i64 ((rd_T46 l0 x17_1).f6)] 46 (0, 0)) (by (with_reducible repeat (first | refine qN ?_ _ | refine qD ?_ | refine qA ?_ _)); exact BK145.out) hb); have n1_ := qS (below_step (by repeat (first | (with_reducible first | exact HB.out | apply qpA | apply qpN | apply qp1 | refine qpS ?_ GE145.out) | exact HB.out)) hb); have n2_ := qS (hbox); have n3_ := qS ((by rw [hg]; exact (below_size (by repeat (first | (with_reducible first | exact HB.out | apply qpA | apply qpN | apply qp1 | refine qpS ?_ GE145.out) | exact HB.out))) : w.heap.size ≤ gb147)); have n4_ := qS ((by rw [hg]; exact (below_size (by repeat (first | (with_reducible first | exact HB.out | apply qpA | apply qpN | apply qp1 | refine qpS ?_ GE145.out) | exact HB.out))) : w.heap.size ≤ gb147)); have n5_ := qS ((by rw [hg]; exact Nat.ne_of_lt (blk_lt (g := gb145) (o := .cells #[.int .i64 ((rd_T46 l0 x17_1).f0), .string ((rd_T46 l0 x17_1).f1), .bool ((rd_T46 l0 x17_1).f2), .int .i64 ((rd_T46 l0 x17_1).f3), .int .i64 ((rd_T46 l0 x17_1).f4.f0), .int .i64 ((rd_T46 l0 x17_1).f4.f1), .int .i64 ((rd_T46 l0 x17_1).f4.f2), .int .i64 ((rd_T46 l0 x17_1).f4.f3), .bool ((rd_T46 l0 x17_1).f5), .int .i64 ((rd_T46 l0 x17_1).f6)] 46 (0, 0)) (by (with_reducible repeat (first | refine qN ?_ _ | refine qD ?_ | refine qA ?_ _)); exact BK145.out)) : gb145 ≠ gb147)); have n6_ := qS ((by rw [hg]; exact Nat.ne_of_gt (blk_lt (g := gb145) (o := .cells #[.int .i64 ((rd_T46 l0 x17_1).f0), .string ((rd_T46 l0 x17_1).f1), .bool ((rd_T46 l0 x17_1).f2), .int .i64 ((rd_T46 l0 x17_1).f3), .int .i64 ((rd_T46 l0 x17_1).f4.f0), .int .i64 ((rd_T46 l0 x17_1).f4.f1), .int .i64 ((rd_T46 l0 x17_1).f4.f2), .int .i64 ((rd_T46 l0 x17_1).f4.f3), .bool ((rd_T46 l0 x17_1).f5), .int .i64 ((rd_T46 l0 x17_1).f6)] 46 (0, 0)) (by (with_reducible repeat (first | refine qN ?_ _ | refine qD ?_ | refine qA ?_ _)); exact BK145.out)) : gb147 ≠ gb145)); clear BK145; clear HB; have BK145 := n0_; have HB := n1_; have BK147 := n2_; have GW147 := n3_; have GE147 := n4_; have NB145_147 := n5_; have NB147_145 := n6_; clear n0_ n1_ n2_ n3_ n4_ n5_ n6_; clear hb hbox hg) | ((with_reducible refine gate_store (t := 46) (p := 9) rfl ?_); refine rowput_event rfl rfl rfl gb147 0 46 #[.int .i64 0, .string (⟨#[]⟩ : ByteArray), .bool false, .int .i64 0, .int .i64 0, .int .i64 0, .int .i64 0, .int .i64 0, .bool false, .int .i64 0] #[.int .i64 ((rd_T46 l1 x17_1).f0), .string ((rd_T46 l1 x17_1).f1), .bool ((rd_T46 l1 x17_1).f2), .int .i64 ((rd_T46 l1 x17_1).f3), .int .i64 ((rd_T46 l1 x17_1).f4.f0), .int .i64 ((rd_T46 l1 x17_1).f4.f1), .int .i64 ((rd_T46 l1 x17_1).f4.f2), .int .i64 ((rd_T46 l1 x17_1).f4.f3), .bool ((rd_T46 l1 x17_1).f5), .int .i64 ((rd_T46 l1 x17_1).f6)] _ [.int .i64 ((rd_T46 l1 x17_1).f0), .string ((rd_T46 l1 x17_1).f1), .bool ((rd_T46 l1 x17_1).f2), .int .i64 ((rd_T46 l1 x17_1).f3), .int .i64 ((rd_T46 l1 x17_1).f4.f0), .int .i64 ((rd_T46 l1 x17_1).f4.f1), .int .i64 ((rd_T46 l1 x17_1).f4.f2), .int .i64 ((rd_T46 l1 x17_1).f4.f3), .bool ((rd_T46 l1 x17_1).f5), .int .i64 ((rd_T46 l1 x17_1).f6)] rfl rfl rfl (by (with_reducible repeat (first | refine qN ?_ _ | refine qD ?_ | refine qA ?_ _)); exact BK147.out) (by kernel_rfl) (by simp) (by simp [Value.oneCell']) rfl (by repeat (first | (with_reducible first | exact HB.out | apply qpA | apply qpN | apply qp1 | refine qpS ?_ GE145.out | refine qpS ?_ GE147.out) | exact HB.out)) GE147.out ?_; intro w22 hnw_ hfar_ hb_; have n0_ : Aside0 (w22.heap[gb145]? = some (.cells #[.int .i64 ((rd_T46 l0 x17_1).f0), .string ((rd_T46 l0 x17_1).f1), .bool ((rd_T46 l0 x17_1).f2), .int .i64 ((rd_T46 l0 x17_1).f3), .int .i64 ((rd_T46 l0 x17_1).f4.f0), .int .i64 ((rd_T46 l0 x17_1).f4.f1), .int .i64 ((rd_T46 l0 x17_1).f4.f2), .int .i64 ((rd_T46 l0 x17_1).f4.f3), .bool ((rd_T46 l0 x17_1).f5), .int .i64 ((rd_T46 l0 x17_1).f6)] 46 (0, 0))) := ⟨(hfar_ _ NB145_147.out).trans (by (with_reducible repeat (first | refine qN ?_ _ | refine qD ?_ | refine qA ?_ _)); exact BK145.out)⟩; have n1_ : Aside0 (w22.heap[gb147]? = some (.cells #[.int .i64 ((rd_T46 l1 x17_1).f0), .string ((rd_T46 l1 x17_1).f1), .bool ((rd_T46 l1 x17_1).f2), .int .i64 ((rd_T46 l1 x17_1).f3), .int .i64 ((rd_T46 l1 x17_1).f4.f0), .int .i64 ((rd_T46 l1 x17_1).f4.f1), .int .i64 ((rd_T46 l1 x17_1).f4.f2), .int .i64 ((rd_T46 l1 x17_1).f4.f3), .bool ((rd_T46 l1 x17_1).f5), .int .i64 ((rd_T46 l1 x17_1).f6)] 46 (0, 0))) := ⟨hnw_⟩; have nb_ := qS hb_; clear hnw_ hfar_ hb_ HB BK145 BK147; have BK145 := n0_; have BK147 := n1_; have HB := nb_; clear nb_ n0_ n1_; have hnb23 := NB145_147.out; have hnc23 := NB147_145.out; have hcz24_0 : w22.cell? ⟨gb145, 0, none⟩ = some (.int .i64 ((rd_T46 l0 x17_1).f0)) := (qC BK145.out 0).trans rfl; have hcz24_1 : w22.cell? ⟨gb145, 1, none⟩ = some (.string ((rd_T46 l0 x17_1).f1)) := (qC BK145.out 1).trans rfl; have hcz24_2 : w22.cell? ⟨gb145, 2, none⟩ = some (.bool ((rd_T46 l0 x17_1).f2)) := (qC BK145.out 2).trans rfl; have hcz24_3 : w22.cell? ⟨gb145, 3, none⟩ = some (.int .i64 ((rd_T46 l0 x17_1).f3)) := (qC BK145.out 3).trans rfl; have hcz24_4 : w22.cell? ⟨gb145, 4, none⟩ = some (.int .i64 ((rd_T46 l0 x17_1).f4.f0)) := (qC BK145.out 4).trans rfl; have hcz24_5 : w22.cell? ⟨gb145, 5, none⟩ = some (.int .i64 ((rd_T46 l0 x17_1).f4.f1)) := (qC BK145.out 5).trans rfl; have hcz24_6 : w22.cell? ⟨gb145, 6, none⟩ = some (.int .i64 ((rd_T46 l0 x17_1).f4.f2)) := (qC BK145.out 6).trans rfl; have hcz24_7 : w22.cell? ⟨gb145, 7, none⟩ = some (.int .i64 ((rd_T46 l0 x17_1).f4.f3)) := (qC BK145.out 7).trans rfl; have hcz24_8 : w22.cell? ⟨gb145, 8, none⟩ = some (.bool ((rd_T46 l0 x17_1).f5)) := (qC BK145.out 8).trans rfl; have hcz24_9 : w22.cell? ⟨gb145, 9, none⟩ = some (.int .i64 ((rd_T46 l0 x17_1).f6)) := (qC BK145.out 9).trans rfl; have hfz24_0 := qF BK145.out 0; have hfz24_1 := qF BK145.out 1; have hfz24_2 := qF BK145.out 2; have hfz24_3 := qF BK145.out 3; have hfz24_4 := qF BK145.out 4; have hfz24_5 := qF BK145.out 5; have hfz24_6 := qF BK145.out 6; have hfz24_7 := qF BK145.out 7; have hfz24_8 := qF BK145.out 8; have hfz24_9 := qF BK145.out 9) | ((with_reducible refine gate_dst (N := 27) rfl ?_); refine rowget_event rfl rfl gb145 0 46 #[.int .i64 ((rd_T46 l0 x17_1).f0), .string ((rd_T46 l0 x17_1).f1), .bool ((rd_T46 l0 x17_1).f2), .int .i64 ((rd_T46 l0 x17_1).f3), .int .i64 ((rd_T46 l0 x17_1).f4.f0), .int .i64 ((rd_T46 l0 x17_1).f4.f1), .int .i64 ((rd_T46 l0 x17_1).f4.f2), .int .i64 ((rd_T46 l0 x17_1).f4.f3), .bool ((rd_T46 l0 x17_1).f5), .int .i64 ((rd_T46 l0 x17_1).f6)] #[.int .i64 ((rd_T46 l0 x17_1).f0), .string ((rd_T46 l0 x17_1).f1), .bool ((rd_T46 l0 x17_1).f2), .int .i64 ((rd_T46 l0 x17_1).f3), .int .i64 ((rd_T46 l0 x17_1).f4.f0), .int .i64 ((rd_T46 l0 x17_1).f4.f1), .int .i64 ((rd_T46 l0 x17_1).f4.f2), .int .i64 ((rd_T46 l0 x17_1).f4.f3), .bool ((rd_T46 l0 x17_1).f5), .int .i64 ((rd_T46 l0 x17_1).f6)] _ rfl (by (with_reducible repeat (first | refine qN ?_ _ | refine qD ?_ | refine qA ?_ _)); exact BK145.out) rfl Try.underlying46 rfl (by kernel_rfl) ?_; have hcz25_0 : w22.cell? ⟨gb147, 0, none⟩ = some (.int .i64 ((rd_T46 l1 x17_1).f0)) := (qC BK147.out 0).trans rfl; have hcz25_1 : w22.cell? ⟨gb147, 1, none⟩ = some (.string ((rd_T46 l1 x17_1).f1)) := (qC BK147.out 1).trans rfl; have hcz25_2 : w22.cell? ⟨gb147, 2, none⟩ = some (.bool ((rd_T46 l1 x17_1).f2)) := (qC BK147.out 2).trans rfl; have hcz25_3 : w22.cell? ⟨gb147, 3, none⟩ = some (.int .i64 ((rd_T46 l1 x17_1).f3)) := (qC BK147.out 3).trans rfl; have hcz25_4 : w22.cell? ⟨gb147, 4, none⟩ = some (.int .i64 ((rd_T46 l1 x17_1).f4.f0)) := (qC BK147.out 4).trans rfl; have hcz25_5 : w22.cell? ⟨gb147, 5, none⟩ = some (.int .i64 ((rd_T46 l1 x17_1).f4.f1)) := (qC BK147.out 5).trans rfl; have hcz25_6 : w22.cell? ⟨gb147, 6, none⟩ = some (.int .i64 ((rd_T46 l1 x17_1).f4.f2)) := (qC BK147.out 6).trans rfl; have hcz25_7 : w22.cell? ⟨gb147, 7, none⟩ = some (.int .i64 ((rd_T46 l1 x17_1).f4.f3)) := (qC BK147.out 7).trans rfl; have hcz25_8 : w22.cell? ⟨gb147, 8, none⟩ = some (.bool ((rd_T46 l1 x17_1).f5)) := (qC BK147.out 8).trans rfl; have hcz25_9 : w22.cell? ⟨gb147, 9, none⟩ = some (.int .i64 ((rd_T46 l1 x17_1).f6)) := (qC BK147.out 9).trans rfl; have hfz25_0 := qF BK147.out 0; have hfz25_1 := qF BK147.out 1; have hfz25_2 := qF BK147.out 2; have hfz25_3 := qF BK147.out 3; have hfz25_4 := qF BK147.out 4; have hfz25_5 := qF BK147.out 5; have hfz25_6 := qF BK147.out 6; have hfz25_7 := qF BK147.out 7; have hfz25_8 := qF BK147.out 8; have hfz25_9 := qF BK147.out 9) | ((with_reducible refine gate_dst (N := 28) rfl ?_); refine rowget_event rfl rfl gb147 0 46 #[.int .i64 ((rd_T46 l1 x17_1).f0), .string ((rd_T46 l1 x17_1).f1), .bool ((rd_T46 l1 x17_1).f2), .int .i64 ((rd_T46 l1 x17_1).f3), .int .i64 ((rd_T46 l1 x17_1).f4.f0), .int .i64 ((rd_T46 l1 x17_1).f4.f1), .int .i64 ((rd_T46 l1 x17_1).f4.f2), .int .i64 ((rd_T46 l1 x17_1).f4.f3), .bool ((rd_T46 l1 x17_1).f5), .int .i64 ((rd_T46 l1 x17_1).f6)] #[.int .i64 ((rd_T46 l1 x17_1).f0), .string ((rd_T46 l1 x17_1).f1), .bool ((rd_T46 l1 x17_1).f2), .int .i64 ((rd_T46 l1 x17_1).f3), .int .i64 ((rd_T46 l1 x17_1).f4.f0), .int .i64 ((rd_T46 l1 x17_1).f4.f1), .int .i64 ((rd_T46 l1 x17_1).f4.f2), .int .i64 ((rd_T46 l1 x17_1).f4.f3), .bool ((rd_T46 l1 x17_1).f5), .int .i64 ((rd_T46 l1 x17_1).f6)] _ rfl (by (with_reducible repeat (first | refine qN ?_ _ | refine qD ?_ | refine qA ?_ _)); exact BK147.out) rfl Try.underlying46 rfl (by kernel_rfl) ?_) | (go_at_call 49; refine calls_of_args (args' := #[.agg #[.int .i64 ((rd_T46 l0 x17_1).f0), .string ((rd_T46 l0 x17_1).f1), .bool ((rd_T46 l0 x17_1).f2), .int .i64 ((rd_T46 l0 x17_1).f3), .int .i64 ((rd_T46 l0 x17_1).f4.f0), .int .i64 ((rd_T46 l0 x17_1).f4.f1), .int .i64 ((rd_T46 l0 x17_1).f4.f2), .int .i64 ((rd_T46 l0 x17_1).f4.f3), .bool ((rd_T46 l0 x17_1).f5), .int .i64 ((rd_T46 l0 x17_1).f6)], .agg #[.int .i64 ((rd_T46 l1 x17_1).f0), .string ((rd_T46 l1 x17_1).f1), .bool ((rd_T46 l1 x17_1).f2), .int .i64 ((rd_T46 l1 x17_1).f3), .int .i64 ((rd_T46 l1 x17_1).f4.f0), .int .i64 ((rd_T46 l1 x17_1).f4.f1), .int .i64 ((rd_T46 l1 x17_1).f4.f2), .int .i64 ((rd_T46 l1 x17_1).f4.f3), .bool ((rd_T46 l1 x17_1).f5), .int .i64 ((rd_T46 l1 x17_1).f6)]]) ?_ ?_; (focus (first | (rw [show ((rd_T46 l0 x17_1).f2) = true by with_reducible assumption]) | (rw [show ((rd_T46 l0 x17_1).f2) = false by with_reducible assumption]) | (rw [show ((rd_T46 l0 x17_1).f5) = true by with_reducible assumption]) | (rw [show ((rd_T46 l0 x17_1).f5) = false by with_reducible assumption]) | (rw [show ((rd_T46 l1 x17_1).f2) = true by with_reducible assumption]) | (rw [show ((rd_T46 l1 x17_1).f2) = false by with_reducible assumption]) | (rw [show ((rd_T46 l1 x17_1).f5) = true by with_reducible assumption]) | (rw [show ((rd_T46 l1 x17_1).f5) = false by with_reducible assumption]) | rfl | (simp only [*]; done) | (simp [*]; done))); (with_reducible refine (audit_Same_1.calls ((rd_T46 l0 x17_1).f0) ((rd_T46 l0 x17_1).f1) ((rd_T46 l0 x17_1).f2) ((rd_T46 l0 x17_1).f3) ((rd_T46 l0 x17_1).f4.f0) ((rd_T46 l0 x17_1).f4.f1) ((rd_T46 l0 x17_1).f4.f2) ((rd_T46 l0 x17_1).f4.f3) ((rd_T46 l0 x17_1).f5) ((rd_T46 l0 x17_1).f6) ((rd_T46 l1 x17_1).f0) ((rd_T46 l1 x17_1).f1) ((rd_T46 l1 x17_1).f2) ((rd_T46 l1 x17_1).f3) ((rd_T46 l1 x17_1).f4.f0) ((rd_T46 l1 x17_1).f4.f1) ((rd_T46 l1 x17_1).f4.f2) ((rd_T46 l1 x17_1).f4.f3) ((rd_T46 l1 x17_1).f5) ((rd_T46 l1 x17_1).f6) false _ A9.out).mono ?_); rintro e w26 ⟨rfl, hb⟩; have n0_ := qS (qB (g := gb145) (o := .cells #[.int .i64 ((rd_T46 l0 x17_1).f0), .string ((rd_T46 l0 x17_1).f1), .bool ((rd_T46 l0 x17_1).f2), .int .i64 ((rd_T46 l0 x17_1).f3), .int .i64 ((rd_T46 l0 x17_1).f4.f0), .int .i64 ((rd_T46 l0 x17_1).f4.f1), .int .i64 ((rd_T46 l0 x17_1).f4.f2), .int .i64 ((rd_T46 l0 x17_1).f4.f3), .bool ((rd_T46 l0 x17_1).f5), .int .i64 ((rd_T46 l0 x17_1).f6)] 46 (0, 0)) (by (with_reducible repeat (first | refine qN ?_ _ | refine qD ?_ | refine qA ?_ _)); exact BK145.out) hb); have n1_ := qS (qB (g := gb147) (o := .cells #[.int .i64 ((rd_T46 l1 x17_1).f0), .string ((rd_T46 l1 x17_1).f1), .bool ((rd_T46 l1 x17_1).f2), .int .i64 ((rd_T46 l1 x17_1).f3), .int .i64 ((rd_T46 l1 x17_1).f4.f0), .int .i64 ((rd_T46 l1 x17_1).f4.f1), .int .i64 ((rd_T46 l1 x17_1).f4.f2), .int .i64 ((rd_T46 l1 x17_1).f4.f3), .bool ((rd_T46 l1 x17_1).f5), .int .i64 ((rd_T46 l1 x17_1).f6)] 46 (0, 0)) (by (with_reducible repeat (first | refine qN ?_ _ | refine qD ?_ | refine qA ?_ _)); exact BK147.out) hb); have n2_ := qS (below_step (by repeat (first | (with_reducible first | exact HB.out | apply qpA | apply qpN | apply qp1 | refine qpS ?_ GE145.out | refine qpS ?_ GE147.out) | exact HB.out)) hb); clear BK145; clear BK147; clear HB; have BK145 := n0_; have BK147 := n1_; have HB := n2_; clear n0_ n1_ n2_; (try clear hb); (try clear hb2); (try clear hk); (try clear hi)))
         go_ret
         exact ⟨by first | rfl | (simp [errW_none, errW_some] <;> rfl) | (simp [*, errW_none, errW_some] <;> rfl), by repeat (first | (with_reducible first | exact HB.out | apply qpA | apply qpN | apply qp1 | refine qpS ?_ GE145.out | refine qpS ?_ GE147.out) | exact HB.out)⟩
       ·rw [if_neg c8] at H
        exact absurd H (by simp)
      ·rw [if_neg c7] at H
       exact absurd H (by simp)
     ·rw [if_neg c6] at H
      exact absurd H (by simp)
    ·rw [if_neg c5] at H
     have c5b0 : decide (x17_1 < (l0.length : Int)) = false := decide_eq_false c5
     clear c5
     obtain rfl := Option.some.inj H
     go_wp2
     go_ret
     exact ⟨by first | rfl | (simp [errW_none, errW_some] <;> rfl) | (simp [*, errW_none, errW_some] <;> rfl), by repeat (first | (with_reducible first | exact HB.out | apply qpA | apply qpN | apply qp1) | exact HB.out)⟩
 ·rw [if_neg c4] at H
  have c4b0 : ((l0.length : Int) == (l1.length : Int)) = false := beq_eq_false_iff_ne.mpr c4
  have c4b1 : ((l0.length : Int) != (l1.length : Int)) = true := bne_iff_ne.mpr c4
  have c4b2 : (l0.length == l1.length) = false := by first | simpa using c4 | (simp at c4 ⊢; omega)
  obtain rfl := Option.some.inj H
  go_enter Try.func48, Try.ntmps48
  go_wp2
  go_ret
  exact ⟨by first | rfl | (simp [errW_none, errW_some] <;> rfl) | (simp [*, errW_none, errW_some] <;> rfl), by repeat (first | (with_reducible first | exact HB.out | apply qpA | apply qpN | apply qp1) | exact HB.out)⟩

/-! ### audit_Same: function 24 -/
def audit_Same.f (k : Nat) (l0 : List (S46)) (l1 : List (S46)) (a2 : ByteArray) : Option (Bool) := (audit_Seen.f l0 a2).bind fun t149 => ((audit_Seen.f l1 a2).bind fun t152 => ((audit_Event_48_at49.f k t149 t152).bind fun t155 => (some t155)))
theorem audit_Same.mono : ∀ a0 a1 a2 k, LeO (audit_Same.f k a0 a1 a2) (audit_Same.f (k + 1) a0 a1 a2) := by
 intro a0 a1 a2 k
 unfold audit_Same.f
 repeat' first
   | (with_reducible exact audit_Event_48_at49.mono _ _ _)
   | (with_reducible exact LeO.refl _)
   | (with_reducible exact LeO.none _)
   | (with_reducible refine LeO.ite ?_ ?_)
   | (with_reducible refine LeO.bind ?_ (fun _ => ?_))
   | exact audit_Event_48_at49.mono _ _ _
   | exact LeO.none _
   | refine LeO.ite ?_ ?_
   | refine LeO.bind ?_ (fun _ => ?_)
set_option maxHeartbeats 8000000 in
set_option maxRecDepth 100000 in
theorem audit_Same.calls (k : Nat) (A0 : Option Addr) (c0 : Nat) (l0 : List (S46)) (A1 : Option Addr) (c1 : Nat) (l1 : List (S46)) (a2 : ByteArray) (r : Bool) (w : World) (hr0 : Kd.C k46 w A0 l0.length l0) (hc0 : l0.length ≤ c0) (hr1 : Kd.C k46 w A1 l1.length l1) (hc1 : l1.length ≤ c1) (h : audit_Same.f k l0 l1 a2 = some r) :
  Calls Try.prog 24 #[.slice A0 l0.length c0, .slice A1 l1.length c1, .string a2] w fun e w' => e = .returned (.bool r) ∧ Below w.heap.size w w' := by
 have HR0 := qS hr0
 have HC0 := qS hc0
 clear hr0 hc0
 have HR1 := qS hr1
 have HC1 := qS hc1
 clear hr1 hc1
 have HB := qS (Below.refl w.heap.size w)
 have H : ((audit_Seen.f l0 a2).bind fun t149 => ((audit_Seen.f l1 a2).bind fun t152 => ((audit_Event_48_at49.f k t149 t152).bind fun t155 => (some t155)))) = some r := h
 clear h
 replace H := Option.bind_eq_some_iff.mp H
 obtain ⟨t149, A40, H⟩ := H
 replace H : ((audit_Seen.f l1 a2).bind fun t152 => ((audit_Event_48_at49.f k t149 t152).bind fun t155 => (some t155))) = some r := H
 have A4 := qS A40
 clear A40
 replace H := Option.bind_eq_some_iff.mp H
 obtain ⟨t152, A50, H⟩ := H
 replace H : ((audit_Event_48_at49.f k t149 t152).bind fun t155 => (some t155)) = some r := H
 have A5 := qS A50
 clear A50
 replace H := Option.bind_eq_some_iff.mp H
 obtain ⟨t155, A60, H⟩ := H
 replace H : (some t155) = some r := H
 have A6 := qS A60
 clear A60
 obtain rfl := Option.some.inj H
 go_enter Try.func24, Try.ntmps24
 go_wp2_with (first | ((with_reducible refine gate_callee (f := 16) rfl ?_); refine goesL_ (some 9) rfl rfl Try.func16 (by kernel_rfl) rfl #[.slice A0 l0.length c0, .string a2] rfl (by (try simp only [List.map_toArray, List.map_cons, List.map_nil]); first | done | rfl | (simp only [*]; done) | (simp only [List.length_drop, List.length_take]; rfl) | (simp only [Act.eval, Array.getD_eq_getD_getElem?, Option.getD_some, *])) ?_; (with_reducible refine (audit_Seen.calls _ _ l0 a2 t149 _ ?side1 ?side2 A4.out).mono ?_); (case side1 => repeat (first | exact HR0.out | (with_reducible refine Kd.C_alloc ?_ _) | (with_reducible refine Kd.C_drewN ?_ _) | (with_reducible refine Kd.C_drew ?_))); (case side2 => exact HC0.out); rintro e w7 ⟨v150, rfl, ho0, hb⟩; refine ⟨_, rfl, ?_⟩; have n0_ := qS (Kd.R_lower ho0 (below_size (by repeat (first | (with_reducible first | exact HB.out | apply qpA | apply qpN | apply qp1) | exact HB.out)))); have n1_ := qS (below_step (by repeat (first | (with_reducible first | exact HB.out | apply qpA | apply qpN | apply qp1) | exact HB.out)) hb); clear HB; have HO151 := n0_; have HB := n1_; clear n0_ n1_; (try clear hb); (try clear hb2); (try clear hk); (try clear hi); (try clear ho0)) | ((with_reducible refine gate_callee (f := 16) rfl ?_); refine goesL_ (some 12) rfl rfl Try.func16 (by kernel_rfl) rfl #[.slice A1 l1.length c1, .string a2] rfl (by (try simp only [List.map_toArray, List.map_cons, List.map_nil]); first | done | rfl | (simp only [*]; done) | (simp only [List.length_drop, List.length_take]; rfl) | (simp only [Act.eval, Array.getD_eq_getD_getElem?, Option.getD_some, *])) ?_; (with_reducible refine (audit_Seen.calls _ _ l1 a2 t152 _ ?side1 ?side2 A5.out).mono ?_); (case side1 => repeat (first | exact (Kd.C_below HR1.out HB.out) | (with_reducible refine Kd.C_alloc ?_ _) | (with_reducible refine Kd.C_drewN ?_ _) | (with_reducible refine Kd.C_drew ?_))); (case side2 => exact HC1.out); rintro e w8 ⟨v153, rfl, ho0, hb⟩; refine ⟨_, rfl, ?_⟩; have n0_ := qS (Kd.R_elder' (by (with_reducible repeat (first | apply Kd.R_alloc | apply Kd.R_drewN | apply Kd.R_drew)); exact HO151.out) (Kd.R_base ho0) hb); have n1_ := qS (Kd.R_lower (Kd.R_new' ho0 (Kd.R_lt (by (with_reducible repeat (first | apply Kd.R_alloc | apply Kd.R_drewN | apply Kd.R_drew)); exact HO151.out))) (below_size (by repeat (first | (with_reducible first | exact HB.out | apply qpA | apply qpN | apply qp1) | exact HB.out)))); have n2_ := qS (below_step (by repeat (first | (with_reducible first | exact HB.out | apply qpA | apply qpN | apply qp1) | exact HB.out)) hb); clear HO151; clear HB; have HO151 := n0_; have HO154 := n1_; have HB := n2_; clear n0_ n1_ n2_; (try clear hb); (try clear hb2); (try clear hk); (try clear hi); (try clear ho0); obtain ⟨Ao9, co9, eo9⟩ := Kd.R_slice HO151.out; subst eo9; obtain ⟨Ao10, co10, eo10⟩ := Kd.R_slice HO154.out; subst eo10) | ((with_reducible refine gate_callee (f := 48) rfl ?_); refine goesL_ (some 13) rfl rfl Try.func48 (by kernel_rfl) rfl #[.slice Ao9 t149.length co9, .slice Ao10 t152.length co10, .func (.func 49) #[] #[]] rfl (by (try simp only [List.map_toArray, List.map_cons, List.map_nil]); first | done | rfl | (simp only [*]; done) | (simp only [List.length_drop, List.length_take]; rfl) | (simp only [Act.eval, Array.getD_eq_getD_getElem?, Option.getD_some, *])) ?_; (with_reducible refine (audit_Event_48_at49.calls k _ _ t149 _ _ t152  t155 _ ?side1 ?side2 ?side3 ?side4 A6.out).mono ?_); (case side1 => repeat (first | exact (Kd.R_reads' HO151.out).2.2 | (with_reducible refine Kd.C_alloc ?_ _) | (with_reducible refine Kd.C_drewN ?_ _) | (with_reducible refine Kd.C_drew ?_))); (case side2 => exact (Kd.R_reads' HO151.out).2.1); (case side3 => repeat (first | exact (Kd.R_reads' HO154.out).2.2 | (with_reducible refine Kd.C_alloc ?_ _) | (with_reducible refine Kd.C_drewN ?_ _) | (with_reducible refine Kd.C_drew ?_))); (case side4 => exact (Kd.R_reads' HO154.out).2.1); rintro e w11 ⟨rfl, hb⟩; refine ⟨_, rfl, ?_⟩; have n0_ := qS (Kd.R_below (by (with_reducible repeat (first | apply Kd.R_alloc | apply Kd.R_drewN | apply Kd.R_drew)); exact HO151.out) hb); have n1_ := qS (Kd.R_below (by (with_reducible repeat (first | apply Kd.R_alloc | apply Kd.R_drewN | apply Kd.R_drew)); exact HO154.out) hb); have n2_ := qS (below_step (by repeat (first | (with_reducible first | exact HB.out | apply qpA | apply qpN | apply qp1) | exact HB.out)) hb); clear HO151; clear HO154; clear HB; have HO151 := n0_; have HO154 := n1_; have HB := n2_; clear n0_ n1_ n2_; (try clear hb); (try clear hb2); (try clear hk); (try clear hi)))
 go_ret
 exact ⟨by first | rfl | (simp [errW_none, errW_some] <;> rfl) | (simp [*, errW_none, errW_some] <;> rfl), by repeat (first | (with_reducible first | exact HB.out | apply qpA | apply qpN | apply qp1) | exact HB.out)⟩

/-! ### audit_Worst: function 26 -/
def audit_Worst.l0 : Nat → Int → Bool → List (S46) → Int → Int → Option (Int)
 | 0, _, _, _, _, _ => none
 | k + 1, x5, x6, x11, x12, x13 => if x13 < x12 then (if 0 ≤ x13 then (if x13 < (x11.length : Int) then (if x6 = true then (if ((rd_T46 x11 x13).f4.f1) > x5 then (audit_Worst.l0 k ((rd_T46 x11 x13).f4.f1) true x11 x12 (wrap64 (x13 + 1))) else (audit_Worst.l0 k x5 x6 x11 x12 (wrap64 (x13 + 1)))) else (audit_Worst.l0 k ((rd_T46 x11 x13).f4.f1) true x11 x12 (wrap64 (x13 + 1)))) else (none)) else (none)) else (some x5)
def audit_Worst.f (k : Nat) (l0 : List (S46)) (a1 : ByteArray) : Option (Int) := (audit_Seen.f l0 a1).bind fun t156 => (audit_Worst.l0 k 0 false t156 (t156.length : Int) 0)
theorem audit_Worst.mono_l : ∀ k, (∀ y0 y1 y2 y3 y4, LeO (audit_Worst.l0 k y0 y1 y2 y3 y4) (audit_Worst.l0 (k + 1) y0 y1 y2 y3 y4))
 | 0 => fun _ _ _ _ _ r h => by simp [audit_Worst.l0] at h
 | k + 1 => by
  have ih0 := audit_Worst.mono_l k
  ·intro y0 y1 y2 y3 y4
   unfold audit_Worst.l0
   repeat' first
   | (with_reducible exact ih0 _ _ _ _ _)
   | (with_reducible exact LeO.refl _)
   | (with_reducible exact LeO.none _)
   | (with_reducible refine LeO.ite ?_ ?_)
   | (with_reducible refine LeO.bind ?_ (fun _ => ?_))
   | exact ih0 _ _ _ _ _
   | exact LeO.none _
   | refine LeO.ite ?_ ?_
   | refine LeO.bind ?_ (fun _ => ?_)
theorem audit_Worst.mono : ∀ a0 a1 k, LeO (audit_Worst.f k a0 a1) (audit_Worst.f (k + 1) a0 a1) := by
 intro a0 a1 k
 have ih0 := audit_Worst.mono_l k
 unfold audit_Worst.f
 repeat' first
   | (with_reducible exact ih0 _ _ _ _ _)
   | (with_reducible exact LeO.refl _)
   | (with_reducible exact LeO.none _)
   | (with_reducible refine LeO.ite ?_ ?_)
   | (with_reducible refine LeO.bind ?_ (fun _ => ?_))
   | exact ih0 _ _ _ _ _
   | exact LeO.none _
   | refine LeO.ite ?_ ?_
   | refine LeO.bind ?_ (fun _ => ?_)
set_option maxHeartbeats 8000000 in
set_option maxRecDepth 100000 in
theorem audit_Worst.calls (k : Nat) (A0 : Option Addr) (c0 : Nat) (l0 : List (S46)) (a1 : ByteArray) (r : Int) (w : World) (hr0 : Kd.C k46 w A0 l0.length l0) (hc0 : l0.length ≤ c0) (h : audit_Worst.f k l0 a1 = some r) :
  Calls Try.prog 26 #[.slice A0 l0.length c0, .string a1] w fun e w' => e = .returned (.int .i64 r) ∧ Below w.heap.size w w' := by
 have hu46 := Try.underlying46
 have HR0 := qS hr0
 have HC0 := qS hc0
 clear hr0 hc0
 have HB := qS (Below.refl w.heap.size w)
 have H : ((audit_Seen.f l0 a1).bind fun t156 => (audit_Worst.l0 k 0 false t156 (t156.length : Int) 0)) = some r := h
 clear h
 replace H := Option.bind_eq_some_iff.mp H
 obtain ⟨t156, A30, H⟩ := H
 replace H : (audit_Worst.l0 k 0 false t156 (t156.length : Int) 0) = some r := H
 have A3 := qS A30
 clear A30
 have H' := qS H
 clear H
 go_enter Try.func26, Try.ntmps26
 go_wp2_with (first | ((with_reducible refine gate_callee (f := 16) rfl ?_); refine goesL_ (some 11) rfl rfl Try.func16 (by kernel_rfl) rfl #[.slice A0 l0.length c0, .string a1] rfl (by (try simp only [List.map_toArray, List.map_cons, List.map_nil]); first | done | rfl | (simp only [*]; done) | (simp only [List.length_drop, List.length_take]; rfl) | (simp only [Act.eval, Array.getD_eq_getD_getElem?, Option.getD_some, *])) ?_; (with_reducible refine (audit_Seen.calls _ _ l0 a1 t156 _ ?side1 ?side2 A3.out).mono ?_); (case side1 => repeat (first | exact HR0.out | (with_reducible refine Kd.C_alloc ?_ _) | (with_reducible refine Kd.C_drewN ?_ _) | (with_reducible refine Kd.C_drew ?_))); (case side2 => exact HC0.out); rintro e w4 ⟨v157, rfl, ho0, hb⟩; refine ⟨_, rfl, ?_⟩; have n0_ := qS (Kd.R_lower ho0 (below_size (by repeat (first | (with_reducible first | exact HB.out | apply qpA | apply qpN | apply qp1) | exact HB.out)))); have n1_ := qS (below_step (by repeat (first | (with_reducible first | exact HB.out | apply qpA | apply qpN | apply qp1) | exact HB.out)) hb); clear HB; have HO158 := n0_; have HB := n1_; clear n0_ n1_; (try clear hb); (try clear hb2); (try clear hk); (try clear hi); (try clear ho0); obtain ⟨Ao5, co5, eo5⟩ := Kd.R_slice HO158.out; subst eo5))
 go_loopg [5, 6, 13] k (fun kq v5 v6 v13 w' => ∃ (x5_1 : Int) (x6_1 : Bool) (x13_1 : Int), v5 = .int .i64 x5_1 ∧ v6 = .bool x6_1 ∧ v13 = .int .i64 x13_1 ∧ Aside0 (audit_Worst.l0 kq x5_1 x6_1 t156 (t156.length : Int) x13_1 = some r) ∧ Aside0 (kq ≤ k) ∧ Aside0 (Kd.R k46 46 w' w.heap.size (fun _ => True) (.slice Ao5 t156.length co5) t156) ∧ Aside0 (Below w.heap.size w w'))
 case atStart => exact ⟨(0), (false), (0), (by first | rfl | (simp; done) | (simp [*]; done)), (by first | rfl | (simp; done) | (simp [*]; done)), (by first | rfl | (simp; done) | (simp [*]; done)), H', ⟨Nat.le_refl _⟩, ⟨by (with_reducible repeat (first | apply Kd.R_alloc | apply Kd.R_drewN | apply Kd.R_drew)); exact HO158.out⟩, ⟨by repeat (first | (with_reducible first | exact HB.out | apply qpA | apply qpN | apply qp1) | exact HB.out)⟩⟩
 case round =>
  clear H'
  try clear c1
  try clear c2
  try clear p2
  obtain ⟨x5_1, x6_1, x13_1, rfl, rfl, rfl, HA, HK1, HO_11, HB⟩ := hrel
  cases gk with
  | zero => exact absurd HA.out (by simp [audit_Worst.l0])
  | succ k1 =>
   have H := HA.out
   clear HA
   simp only [audit_Worst.l0] at H
   by_cases c6 : x13_1 < (t156.length : Int)
   ·rw [if_pos c6] at H
    have c6b0 : decide (x13_1 < (t156.length : Int)) = true := decide_eq_true c6
    clear c6
    by_cases c7 : 0 ≤ x13_1
    ·rw [if_pos c7] at H
     have c7b0 : decide (0 ≤ x13_1) = true := decide_eq_true c7
     clear c7
     by_cases c8 : x13_1 < (t156.length : Int)
     ·rw [if_pos c8] at H
      have c8b0 : decide (x13_1 < (t156.length : Int)) = true := decide_eq_true c8
      clear c8
      by_cases c9 : x6_1 = true
      ·subst c9
       have H1 : (if ((rd_T46 t156 x13_1).f4.f1) > x5_1 then (audit_Worst.l0 k1 ((rd_T46 t156 x13_1).f4.f1) true t156 (t156.length : Int) (wrap64 (x13_1 + 1))) else (audit_Worst.l0 k1 x5_1 true t156 (t156.length : Int) (wrap64 (x13_1 + 1)))) = some r := by rw [if_pos rfl] at H; exact H
       clear H
       have H := H1
       clear H1
       by_cases c10 : ((rd_T46 t156 x13_1).f4.f1) > x5_1
       ·rw [if_pos c10] at H
        have c10b0 : decide (x5_1 < ((rd_T46 t156 x13_1).f4.f1)) = true := decide_eq_true c10
        clear c10
        have H' := qS H
        clear H
        have p159 : 0 ≤ (x13_1 : Int) := of_decide_eq_true (by first | (with_reducible assumption) | assumption)
        have q159 : x13_1 < (t156.length : Int) := of_decide_eq_true (by first | (with_reducible assumption) | assumption)
        obtain ⟨ad159, e159, hx159_0, hx159_1, hx159_2, hx159_3, hx159_4, hx159_5, hx159_6, hx159_7, hx159_8, hx159_9⟩ := at_T46 (Kd.R_reads' HO_11.out).2.2 x13_1 p159 q159
        cases e159
        replace p159 := eq_true p159
        replace q159 := eq_true q159
        go_wp2_with (first | ((with_reducible refine gate_dst (N := 8) rfl ?_); refine box_event ?hg (N := 8) ?hd (cs := #[.int .i64 0, .string (⟨#[]⟩ : ByteArray), .bool false, .int .i64 0, .int .i64 0, .int .i64 0, .int .i64 0, .int .i64 0, .bool false, .int .i64 0]) (t := 46) ?hr ?_; (case hd => rfl); (case hg => rfl); (case hr => first | (go_simp; done) | (go_simp; rfl)); intro gb160 hg w11 hbox hb; have n0_ := qS (Kd.R_below (Kd.R_elderB (by (with_reducible repeat (first | apply Kd.R_alloc | apply Kd.R_drewN | apply Kd.R_drew)); exact HO_11.out) gb160 (Nat.le_of_eq hg.symm)) hb); have n1_ := qS (below_step (by repeat (first | (with_reducible first | exact HB.out | apply qpA | apply qpN | apply qp1) | exact HB.out)) hb); have n2_ := qS (hbox); have n3_ := qS ((by rw [hg]; exact (below_size (by repeat (first | (with_reducible first | exact HB.out | apply qpA | apply qpN | apply qp1) | exact HB.out))) : w.heap.size ≤ gb160)); have n4_ := qS ((by rw [hg]; exact (below_size (by repeat (first | (with_reducible first | exact HB.out | apply qpA | apply qpN | apply qp1) | exact HB.out))) : w.heap.size ≤ gb160)); clear HO_11; clear HB; have HO_11 := n0_; have HB := n1_; have BK160 := n2_; have GW160 := n3_; have GE160 := n4_; clear n0_ n1_ n2_ n3_ n4_; clear hb hbox hg; have hcz12_0 : w11.cell? ⟨gb160, 0, none⟩ = some (.int .i64 0) := (qC BK160.out 0).trans rfl; have hcz12_1 : w11.cell? ⟨gb160, 1, none⟩ = some (.string (⟨#[]⟩ : ByteArray)) := (qC BK160.out 1).trans rfl; have hcz12_2 : w11.cell? ⟨gb160, 2, none⟩ = some (.bool false) := (qC BK160.out 2).trans rfl; have hcz12_3 : w11.cell? ⟨gb160, 3, none⟩ = some (.int .i64 0) := (qC BK160.out 3).trans rfl; have hcz12_4 : w11.cell? ⟨gb160, 4, none⟩ = some (.int .i64 0) := (qC BK160.out 4).trans rfl; have hcz12_5 : w11.cell? ⟨gb160, 5, none⟩ = some (.int .i64 0) := (qC BK160.out 5).trans rfl; have hcz12_6 : w11.cell? ⟨gb160, 6, none⟩ = some (.int .i64 0) := (qC BK160.out 6).trans rfl; have hcz12_7 : w11.cell? ⟨gb160, 7, none⟩ = some (.int .i64 0) := (qC BK160.out 7).trans rfl; have hcz12_8 : w11.cell? ⟨gb160, 8, none⟩ = some (.bool false) := (qC BK160.out 8).trans rfl; have hcz12_9 : w11.cell? ⟨gb160, 9, none⟩ = some (.int .i64 0) := (qC BK160.out 9).trans rfl; have hfz12_0 := qF BK160.out 0; have hfz12_1 := qF BK160.out 1; have hfz12_2 := qF BK160.out 2; have hfz12_3 := qF BK160.out 3; have hfz12_4 := qF BK160.out 4; have hfz12_5 := qF BK160.out 5; have hfz12_6 := qF BK160.out 6; have hfz12_7 := qF BK160.out 7; have hfz12_8 := qF BK160.out 8; have hfz12_9 := qF BK160.out 9))
        go_roundg k1
        case measure => have := HK1.out; omega
        case rel => exact ⟨((rd_T46 t156 x13_1).f4.f1), (true), (wrap64 (x13_1 + 1)), (by first | rfl | (simp; done) | (simp [*]; done)), (by first | rfl | (simp; done) | (simp [*]; done)), (by first | rfl | (simp; done) | (simp [*]; done)), H', ⟨by have := HK1.out; omega⟩, ⟨by (with_reducible repeat (first | apply Kd.R_alloc | apply Kd.R_drewN | apply Kd.R_drew)); exact Kd.R_mono (Kd.R_far (p := ⟨gb160, 9, none⟩) (Kd.R_far (p := ⟨gb160, 8, none⟩) (Kd.R_far (p := ⟨gb160, 7, none⟩) (Kd.R_far (p := ⟨gb160, 6, none⟩) (Kd.R_far (p := ⟨gb160, 5, none⟩) (Kd.R_far (p := ⟨gb160, 4, none⟩) (Kd.R_far (p := ⟨gb160, 3, none⟩) (Kd.R_far (p := ⟨gb160, 2, none⟩) (Kd.R_far (p := ⟨gb160, 1, none⟩) (Kd.R_far (p := ⟨gb160, 0, none⟩) (Kd.R_mono HO_11.out (fun k_ hk => (⟨hk, hk.2⟩ : _ ∧ k_ ≠ gb160))) (fun _ hk => hk.2) (.int .i64 ((rd_T46 t156 x13_1).f0))) (fun _ hk => hk.2) (.string ((rd_T46 t156 x13_1).f1))) (fun _ hk => hk.2) (.bool ((rd_T46 t156 x13_1).f2))) (fun _ hk => hk.2) (.int .i64 ((rd_T46 t156 x13_1).f3))) (fun _ hk => hk.2) (.int .i64 ((rd_T46 t156 x13_1).f4.f0))) (fun _ hk => hk.2) (.int .i64 ((rd_T46 t156 x13_1).f4.f1))) (fun _ hk => hk.2) (.int .i64 ((rd_T46 t156 x13_1).f4.f2))) (fun _ hk => hk.2) (.int .i64 ((rd_T46 t156 x13_1).f4.f3))) (fun _ hk => hk.2) (.bool ((rd_T46 t156 x13_1).f5))) (fun _ hk => hk.2) (.int .i64 ((rd_T46 t156 x13_1).f6))) (fun _ hk => by first | exact trivial | exact True.intro)⟩, ⟨by repeat (first | (with_reducible first | exact HB.out | apply qpA | apply qpN | apply qp1 | refine qpS ?_ GE160.out) | exact HB.out)⟩⟩
       ·rw [if_neg c10] at H
        have c10b0 : decide (x5_1 < ((rd_T46 t156 x13_1).f4.f1)) = false := decide_eq_false c10
        clear c10
        have H' := qS H
        clear H
        have p159 : 0 ≤ (x13_1 : Int) := of_decide_eq_true (by first | (with_reducible assumption) | assumption)
        have q159 : x13_1 < (t156.length : Int) := of_decide_eq_true (by first | (with_reducible assumption) | assumption)
        obtain ⟨ad159, e159, hx159_0, hx159_1, hx159_2, hx159_3, hx159_4, hx159_5, hx159_6, hx159_7, hx159_8, hx159_9⟩ := at_T46 (Kd.R_reads' HO_11.out).2.2 x13_1 p159 q159
        cases e159
        replace p159 := eq_true p159
        replace q159 := eq_true q159
        go_wp2_with (first | ((with_reducible refine gate_dst (N := 8) rfl ?_); refine box_event ?hg (N := 8) ?hd (cs := #[.int .i64 0, .string (⟨#[]⟩ : ByteArray), .bool false, .int .i64 0, .int .i64 0, .int .i64 0, .int .i64 0, .int .i64 0, .bool false, .int .i64 0]) (t := 46) ?hr ?_; (case hd => rfl); (case hg => rfl); (case hr => first | (go_simp; done) | (go_simp; rfl)); intro gb160 hg w13 hbox hb; have n0_ := qS (Kd.R_below (Kd.R_elderB (by (with_reducible repeat (first | apply Kd.R_alloc | apply Kd.R_drewN | apply Kd.R_drew)); exact HO_11.out) gb160 (Nat.le_of_eq hg.symm)) hb); have n1_ := qS (below_step (by repeat (first | (with_reducible first | exact HB.out | apply qpA | apply qpN | apply qp1) | exact HB.out)) hb); have n2_ := qS (hbox); have n3_ := qS ((by rw [hg]; exact (below_size (by repeat (first | (with_reducible first | exact HB.out | apply qpA | apply qpN | apply qp1) | exact HB.out))) : w.heap.size ≤ gb160)); have n4_ := qS ((by rw [hg]; exact (below_size (by repeat (first | (with_reducible first | exact HB.out | apply qpA | apply qpN | apply qp1) | exact HB.out))) : w.heap.size ≤ gb160)); clear HO_11; clear HB; have HO_11 := n0_; have HB := n1_; have BK160 := n2_; have GW160 := n3_; have GE160 := n4_; clear n0_ n1_ n2_ n3_ n4_; clear hb hbox hg; have hcz14_0 : w13.cell? ⟨gb160, 0, none⟩ = some (.int .i64 0) := (qC BK160.out 0).trans rfl; have hcz14_1 : w13.cell? ⟨gb160, 1, none⟩ = some (.string (⟨#[]⟩ : ByteArray)) := (qC BK160.out 1).trans rfl; have hcz14_2 : w13.cell? ⟨gb160, 2, none⟩ = some (.bool false) := (qC BK160.out 2).trans rfl; have hcz14_3 : w13.cell? ⟨gb160, 3, none⟩ = some (.int .i64 0) := (qC BK160.out 3).trans rfl; have hcz14_4 : w13.cell? ⟨gb160, 4, none⟩ = some (.int .i64 0) := (qC BK160.out 4).trans rfl; have hcz14_5 : w13.cell? ⟨gb160, 5, none⟩ = some (.int .i64 0) := (qC BK160.out 5).trans rfl; have hcz14_6 : w13.cell? ⟨gb160, 6, none⟩ = some (.int .i64 0) := (qC BK160.out 6).trans rfl; have hcz14_7 : w13.cell? ⟨gb160, 7, none⟩ = some (.int .i64 0) := (qC BK160.out 7).trans rfl; have hcz14_8 : w13.cell? ⟨gb160, 8, none⟩ = some (.bool false) := (qC BK160.out 8).trans rfl; have hcz14_9 : w13.cell? ⟨gb160, 9, none⟩ = some (.int .i64 0) := (qC BK160.out 9).trans rfl; have hfz14_0 := qF BK160.out 0; have hfz14_1 := qF BK160.out 1; have hfz14_2 := qF BK160.out 2; have hfz14_3 := qF BK160.out 3; have hfz14_4 := qF BK160.out 4; have hfz14_5 := qF BK160.out 5; have hfz14_6 := qF BK160.out 6; have hfz14_7 := qF BK160.out 7; have hfz14_8 := qF BK160.out 8; have hfz14_9 := qF BK160.out 9))
        go_roundg k1
        case measure => have := HK1.out; omega
        case rel => exact ⟨(x5_1), (true), (wrap64 (x13_1 + 1)), (by first | rfl | (simp; done) | (simp [*]; done)), (by first | rfl | (simp; done) | (simp [*]; done)), (by first | rfl | (simp; done) | (simp [*]; done)), H', ⟨by have := HK1.out; omega⟩, ⟨by (with_reducible repeat (first | apply Kd.R_alloc | apply Kd.R_drewN | apply Kd.R_drew)); exact Kd.R_mono (Kd.R_far (p := ⟨gb160, 9, none⟩) (Kd.R_far (p := ⟨gb160, 8, none⟩) (Kd.R_far (p := ⟨gb160, 7, none⟩) (Kd.R_far (p := ⟨gb160, 6, none⟩) (Kd.R_far (p := ⟨gb160, 5, none⟩) (Kd.R_far (p := ⟨gb160, 4, none⟩) (Kd.R_far (p := ⟨gb160, 3, none⟩) (Kd.R_far (p := ⟨gb160, 2, none⟩) (Kd.R_far (p := ⟨gb160, 1, none⟩) (Kd.R_far (p := ⟨gb160, 0, none⟩) (Kd.R_mono HO_11.out (fun k_ hk => (⟨hk, hk.2⟩ : _ ∧ k_ ≠ gb160))) (fun _ hk => hk.2) (.int .i64 ((rd_T46 t156 x13_1).f0))) (fun _ hk => hk.2) (.string ((rd_T46 t156 x13_1).f1))) (fun _ hk => hk.2) (.bool ((rd_T46 t156 x13_1).f2))) (fun _ hk => hk.2) (.int .i64 ((rd_T46 t156 x13_1).f3))) (fun _ hk => hk.2) (.int .i64 ((rd_T46 t156 x13_1).f4.f0))) (fun _ hk => hk.2) (.int .i64 ((rd_T46 t156 x13_1).f4.f1))) (fun _ hk => hk.2) (.int .i64 ((rd_T46 t156 x13_1).f4.f2))) (fun _ hk => hk.2) (.int .i64 ((rd_T46 t156 x13_1).f4.f3))) (fun _ hk => hk.2) (.bool ((rd_T46 t156 x13_1).f5))) (fun _ hk => hk.2) (.int .i64 ((rd_T46 t156 x13_1).f6))) (fun _ hk => by first | exact trivial | exact True.intro)⟩, ⟨by repeat (first | (with_reducible first | exact HB.out | apply qpA | apply qpN | apply qp1 | refine qpS ?_ GE160.out) | exact HB.out)⟩⟩
      ·replace c9 := Bool.eq_false_iff.mpr c9
       subst c9
       have H1 : (audit_Worst.l0 k1 ((rd_T46 t156 x13_1).f4.f1) true t156 (t156.length : Int) (wrap64 (x13_1 + 1))) = some r := by rw [if_neg (show ¬ (false = true) by decide)] at H; exact H
       clear H
       have H := H1
       clear H1
       have H' := qS H
       clear H
       have p159 : 0 ≤ (x13_1 : Int) := of_decide_eq_true (by first | (with_reducible assumption) | assumption)
       have q159 : x13_1 < (t156.length : Int) := of_decide_eq_true (by first | (with_reducible assumption) | assumption)
       obtain ⟨ad159, e159, hx159_0, hx159_1, hx159_2, hx159_3, hx159_4, hx159_5, hx159_6, hx159_7, hx159_8, hx159_9⟩ := at_T46 (Kd.R_reads' HO_11.out).2.2 x13_1 p159 q159
       cases e159
       replace p159 := eq_true p159
       replace q159 := eq_true q159
       go_wp2_with (first | ((with_reducible refine gate_dst (N := 8) rfl ?_); refine box_event ?hg (N := 8) ?hd (cs := #[.int .i64 0, .string (⟨#[]⟩ : ByteArray), .bool false, .int .i64 0, .int .i64 0, .int .i64 0, .int .i64 0, .int .i64 0, .bool false, .int .i64 0]) (t := 46) ?hr ?_; (case hd => rfl); (case hg => rfl); (case hr => first | (go_simp; done) | (go_simp; rfl)); intro gb160 hg w15 hbox hb; have n0_ := qS (Kd.R_below (Kd.R_elderB (by (with_reducible repeat (first | apply Kd.R_alloc | apply Kd.R_drewN | apply Kd.R_drew)); exact HO_11.out) gb160 (Nat.le_of_eq hg.symm)) hb); have n1_ := qS (below_step (by repeat (first | (with_reducible first | exact HB.out | apply qpA | apply qpN | apply qp1) | exact HB.out)) hb); have n2_ := qS (hbox); have n3_ := qS ((by rw [hg]; exact (below_size (by repeat (first | (with_reducible first | exact HB.out | apply qpA | apply qpN | apply qp1) | exact HB.out))) : w.heap.size ≤ gb160)); have n4_ := qS ((by rw [hg]; exact (below_size (by repeat (first | (with_reducible first | exact HB.out | apply qpA | apply qpN | apply qp1) | exact HB.out))) : w.heap.size ≤ gb160)); clear HO_11; clear HB; have HO_11 := n0_; have HB := n1_; have BK160 := n2_; have GW160 := n3_; have GE160 := n4_; clear n0_ n1_ n2_ n3_ n4_; clear hb hbox hg; have hcz16_0 : w15.cell? ⟨gb160, 0, none⟩ = some (.int .i64 0) := (qC BK160.out 0).trans rfl; have hcz16_1 : w15.cell? ⟨gb160, 1, none⟩ = some (.string (⟨#[]⟩ : ByteArray)) := (qC BK160.out 1).trans rfl; have hcz16_2 : w15.cell? ⟨gb160, 2, none⟩ = some (.bool false) := (qC BK160.out 2).trans rfl; have hcz16_3 : w15.cell? ⟨gb160, 3, none⟩ = some (.int .i64 0) := (qC BK160.out 3).trans rfl; have hcz16_4 : w15.cell? ⟨gb160, 4, none⟩ = some (.int .i64 0) := (qC BK160.out 4).trans rfl; have hcz16_5 : w15.cell? ⟨gb160, 5, none⟩ = some (.int .i64 0) := (qC BK160.out 5).trans rfl; have hcz16_6 : w15.cell? ⟨gb160, 6, none⟩ = some (.int .i64 0) := (qC BK160.out 6).trans rfl; have hcz16_7 : w15.cell? ⟨gb160, 7, none⟩ = some (.int .i64 0) := (qC BK160.out 7).trans rfl; have hcz16_8 : w15.cell? ⟨gb160, 8, none⟩ = some (.bool false) := (qC BK160.out 8).trans rfl; have hcz16_9 : w15.cell? ⟨gb160, 9, none⟩ = some (.int .i64 0) := (qC BK160.out 9).trans rfl; have hfz16_0 := qF BK160.out 0; have hfz16_1 := qF BK160.out 1; have hfz16_2 := qF BK160.out 2; have hfz16_3 := qF BK160.out 3; have hfz16_4 := qF BK160.out 4; have hfz16_5 := qF BK160.out 5; have hfz16_6 := qF BK160.out 6; have hfz16_7 := qF BK160.out 7; have hfz16_8 := qF BK160.out 8; have hfz16_9 := qF BK160.out 9))
       go_roundg k1
       case measure => have := HK1.out; omega
       case rel => exact ⟨((rd_T46 t156 x13_1).f4.f1), (true), (wrap64 (x13_1 + 1)), (by first | rfl | (simp; done) | (simp [*]; done)), (by first | rfl | (simp; done) | (simp [*]; done)), (by first | rfl | (simp; done) | (simp [*]; done)), H', ⟨by have := HK1.out; omega⟩, ⟨by (with_reducible repeat (first | apply Kd.R_alloc | apply Kd.R_drewN | apply Kd.R_drew)); exact Kd.R_mono (Kd.R_far (p := ⟨gb160, 9, none⟩) (Kd.R_far (p := ⟨gb160, 8, none⟩) (Kd.R_far (p := ⟨gb160, 7, none⟩) (Kd.R_far (p := ⟨gb160, 6, none⟩) (Kd.R_far (p := ⟨gb160, 5, none⟩) (Kd.R_far (p := ⟨gb160, 4, none⟩) (Kd.R_far (p := ⟨gb160, 3, none⟩) (Kd.R_far (p := ⟨gb160, 2, none⟩) (Kd.R_far (p := ⟨gb160, 1, none⟩) (Kd.R_far (p := ⟨gb160, 0, none⟩) (Kd.R_mono HO_11.out (fun k_ hk => (⟨hk, hk.2⟩ : _ ∧ k_ ≠ gb160))) (fun _ hk => hk.2) (.int .i64 ((rd_T46 t156 x13_1).f0))) (fun _ hk => hk.2) (.string ((rd_T46 t156 x13_1).f1))) (fun _ hk => hk.2) (.bool ((rd_T46 t156 x13_1).f2))) (fun _ hk => hk.2) (.int .i64 ((rd_T46 t156 x13_1).f3))) (fun _ hk => hk.2) (.int .i64 ((rd_T46 t156 x13_1).f4.f0))) (fun _ hk => hk.2) (.int .i64 ((rd_T46 t156 x13_1).f4.f1))) (fun _ hk => hk.2) (.int .i64 ((rd_T46 t156 x13_1).f4.f2))) (fun _ hk => hk.2) (.int .i64 ((rd_T46 t156 x13_1).f4.f3))) (fun _ hk => hk.2) (.bool ((rd_T46 t156 x13_1).f5))) (fun _ hk => hk.2) (.int .i64 ((rd_T46 t156 x13_1).f6))) (fun _ hk => by first | exact trivial | exact True.intro)⟩, ⟨by repeat (first | (with_reducible first | exact HB.out | apply qpA | apply qpN | apply qp1 | refine qpS ?_ GE160.out) | exact HB.out)⟩⟩
     ·rw [if_neg c8] at H
      exact absurd H (by simp)
    ·rw [if_neg c7] at H
     exact absurd H (by simp)
   ·rw [if_neg c6] at H
    have c6b0 : decide (x13_1 < (t156.length : Int)) = false := decide_eq_false c6
    clear c6
    obtain rfl := Option.some.inj H
    go_wp2
    go_ret
    exact ⟨by first | rfl | (simp [errW_none, errW_some] <;> rfl) | (simp [*, errW_none, errW_some] <;> rfl), by repeat (first | (with_reducible first | exact HB.out | apply qpA | apply qpN | apply qp1) | exact HB.out)⟩

/-! ### fuseelaw38_sure: function 14 -/
def fuseelaw38_sure.f (k : Nat)  : Option (Bool) := (some (([(⟨0, (⟨#[97]⟩ : ByteArray), false, 1, (⟨5, 2, 0, 0⟩ : S44), true, 8⟩ : S46), (⟨0, (⟨#[97]⟩ : ByteArray), false, 2, (⟨3, 9, 0, 0⟩ : S44), false, 0⟩ : S46)] : List (S46)) : List (S46))).bind fun y161 => ((audit_Back.f y161 (⟨#[97]⟩ : ByteArray)).bind fun t164 => (if t164 = 1 then ((audit_Coarse.f y161 (⟨#[97]⟩ : ByteArray)).bind fun t165 => (if t165 = 1 then ((audit_Far.f y161 (⟨#[97]⟩ : ByteArray)).bind fun t166 => (if t166 = 0 then ((audit_Back.f y161 (⟨#[98]⟩ : ByteArray)).bind fun t167 => (if t167 = (-1) then ((audit_Worst.f k y161 (⟨#[97]⟩ : ByteArray)).bind fun t168 => (if t168 = 9 then ((audit_Seen.f y161 (⟨#[98]⟩ : ByteArray)).bind fun t169 => (if (t169.length : Int) = 0 then ((audit_Same.f k y161 y161 (⟨#[97]⟩ : ByteArray)).bind fun t172 => (some t172)) else (none))) else (none))) else (none))) else (none))) else (none))) else (none)))
theorem fuseelaw38_sure.mono : ∀ k, LeO (fuseelaw38_sure.f k ) (fuseelaw38_sure.f (k + 1) ) := by
 intro  k
 unfold fuseelaw38_sure.f
 repeat' first
   | (with_reducible exact audit_Same.mono _ _ _ _)
   | (with_reducible exact audit_Worst.mono _ _ _)
   | (with_reducible exact LeO.refl _)
   | (with_reducible exact LeO.none _)
   | (with_reducible refine LeO.ite ?_ ?_)
   | (with_reducible refine LeO.bind ?_ (fun _ => ?_))
   | exact audit_Same.mono _ _ _ _
   | exact audit_Worst.mono _ _ _
   | exact LeO.none _
   | refine LeO.ite ?_ ?_
   | refine LeO.bind ?_ (fun _ => ?_)
set_option maxHeartbeats 8000000 in
set_option maxRecDepth 100000 in
theorem fuseelaw38_sure.calls (k : Nat)  (r : Bool) (w : World) (h : fuseelaw38_sure.f k  = some r) :
  Calls Try.prog 14 #[] w fun e w' => e = .returned (.bool r) ∧ Below w.heap.size w w' := by
 have hu44 := Try.underlying44
 have hu46 := Try.underlying46
 have HB := qS (Below.refl w.heap.size w)
 have H : ((some (([(⟨0, (⟨#[97]⟩ : ByteArray), false, 1, (⟨5, 2, 0, 0⟩ : S44), true, 8⟩ : S46), (⟨0, (⟨#[97]⟩ : ByteArray), false, 2, (⟨3, 9, 0, 0⟩ : S44), false, 0⟩ : S46)] : List (S46)) : List (S46))).bind fun y161 => ((audit_Back.f y161 (⟨#[97]⟩ : ByteArray)).bind fun t164 => (if t164 = 1 then ((audit_Coarse.f y161 (⟨#[97]⟩ : ByteArray)).bind fun t165 => (if t165 = 1 then ((audit_Far.f y161 (⟨#[97]⟩ : ByteArray)).bind fun t166 => (if t166 = 0 then ((audit_Back.f y161 (⟨#[98]⟩ : ByteArray)).bind fun t167 => (if t167 = (-1) then ((audit_Worst.f k y161 (⟨#[97]⟩ : ByteArray)).bind fun t168 => (if t168 = 9 then ((audit_Seen.f y161 (⟨#[98]⟩ : ByteArray)).bind fun t169 => (if (t169.length : Int) = 0 then ((audit_Same.f k y161 y161 (⟨#[97]⟩ : ByteArray)).bind fun t172 => (some t172)) else (none))) else (none))) else (none))) else (none))) else (none))) else (none)))) = some r := h
 clear h
 obtain ⟨y161, hy161⟩ : ∃ y_ : List (S46), y_ = (([(⟨0, (⟨#[97]⟩ : ByteArray), false, 1, (⟨5, 2, 0, 0⟩ : S44), true, 8⟩ : S46), (⟨0, (⟨#[97]⟩ : ByteArray), false, 2, (⟨3, 9, 0, 0⟩ : S44), false, 0⟩ : S46)] : List (S46))) := ⟨_, rfl⟩
 replace H : ((audit_Back.f y161 (⟨#[97]⟩ : ByteArray)).bind fun t164 => (if t164 = 1 then ((audit_Coarse.f y161 (⟨#[97]⟩ : ByteArray)).bind fun t165 => (if t165 = 1 then ((audit_Far.f y161 (⟨#[97]⟩ : ByteArray)).bind fun t166 => (if t166 = 0 then ((audit_Back.f y161 (⟨#[98]⟩ : ByteArray)).bind fun t167 => (if t167 = (-1) then ((audit_Worst.f k y161 (⟨#[97]⟩ : ByteArray)).bind fun t168 => (if t168 = 9 then ((audit_Seen.f y161 (⟨#[98]⟩ : ByteArray)).bind fun t169 => (if (t169.length : Int) = 0 then ((audit_Same.f k y161 y161 (⟨#[97]⟩ : ByteArray)).bind fun t172 => (some t172)) else (none))) else (none))) else (none))) else (none))) else (none))) else (none))) = some r := by first | (rw [hy161]; with_reducible exact H) | (have H2_ := (Option.bind_some _ _).symm.trans H; rw [hy161]; with_reducible exact H2_) | (have H2_ := (Option.bind_some _ _).symm.trans H; with_reducible exact H2_) | with_reducible exact H | (rw [hy161]; exact H) | exact H
 have Ny161 := qS hy161
 clear hy161
 replace H := Option.bind_eq_some_iff.mp H
 obtain ⟨t164, A10, H⟩ := H
 replace H : (if t164 = 1 then ((audit_Coarse.f y161 (⟨#[97]⟩ : ByteArray)).bind fun t165 => (if t165 = 1 then ((audit_Far.f y161 (⟨#[97]⟩ : ByteArray)).bind fun t166 => (if t166 = 0 then ((audit_Back.f y161 (⟨#[98]⟩ : ByteArray)).bind fun t167 => (if t167 = (-1) then ((audit_Worst.f k y161 (⟨#[97]⟩ : ByteArray)).bind fun t168 => (if t168 = 9 then ((audit_Seen.f y161 (⟨#[98]⟩ : ByteArray)).bind fun t169 => (if (t169.length : Int) = 0 then ((audit_Same.f k y161 y161 (⟨#[97]⟩ : ByteArray)).bind fun t172 => (some t172)) else (none))) else (none))) else (none))) else (none))) else (none))) else (none)) = some r := H
 have A1 := qS A10
 clear A10
 by_cases c2 : t164 = 1
 ·rw [if_pos c2] at H
  have c2b0 : (t164 == 1) = true := beq_iff_eq.mpr c2
  have c2b1 : (t164 != 1) = false := bne_eq_false_iff_eq.mpr c2
  clear c2
  replace H := Option.bind_eq_some_iff.mp H
  obtain ⟨t165, A30, H⟩ := H
  replace H : (if t165 = 1 then ((audit_Far.f y161 (⟨#[97]⟩ : ByteArray)).bind fun t166 => (if t166 = 0 then ((audit_Back.f y161 (⟨#[98]⟩ : ByteArray)).bind fun t167 => (if t167 = (-1) then ((audit_Worst.f k y161 (⟨#[97]⟩ : ByteArray)).bind fun t168 => (if t168 = 9 then ((audit_Seen.f y161 (⟨#[98]⟩ : ByteArray)).bind fun t169 => (if (t169.length : Int) = 0 then ((audit_Same.f k y161 y161 (⟨#[97]⟩ : ByteArray)).bind fun t172 => (some t172)) else (none))) else (none))) else (none))) else (none))) else (none)) = some r := H
  have A3 := qS A30
  clear A30
  by_cases c4 : t165 = 1
  ·rw [if_pos c4] at H
   have c4b0 : (t165 == 1) = true := beq_iff_eq.mpr c4
   have c4b1 : (t165 != 1) = false := bne_eq_false_iff_eq.mpr c4
   clear c4
   replace H := Option.bind_eq_some_iff.mp H
   obtain ⟨t166, A50, H⟩ := H
   replace H : (if t166 = 0 then ((audit_Back.f y161 (⟨#[98]⟩ : ByteArray)).bind fun t167 => (if t167 = (-1) then ((audit_Worst.f k y161 (⟨#[97]⟩ : ByteArray)).bind fun t168 => (if t168 = 9 then ((audit_Seen.f y161 (⟨#[98]⟩ : ByteArray)).bind fun t169 => (if (t169.length : Int) = 0 then ((audit_Same.f k y161 y161 (⟨#[97]⟩ : ByteArray)).bind fun t172 => (some t172)) else (none))) else (none))) else (none))) else (none)) = some r := H
   have A5 := qS A50
   clear A50
   by_cases c6 : t166 = 0
   ·rw [if_pos c6] at H
    have c6b0 : (t166 == 0) = true := beq_iff_eq.mpr c6
    have c6b1 : (t166 != 0) = false := bne_eq_false_iff_eq.mpr c6
    clear c6
    replace H := Option.bind_eq_some_iff.mp H
    obtain ⟨t167, A70, H⟩ := H
    replace H : (if t167 = (-1) then ((audit_Worst.f k y161 (⟨#[97]⟩ : ByteArray)).bind fun t168 => (if t168 = 9 then ((audit_Seen.f y161 (⟨#[98]⟩ : ByteArray)).bind fun t169 => (if (t169.length : Int) = 0 then ((audit_Same.f k y161 y161 (⟨#[97]⟩ : ByteArray)).bind fun t172 => (some t172)) else (none))) else (none))) else (none)) = some r := H
    have A7 := qS A70
    clear A70
    by_cases c8 : t167 = (-1)
    ·rw [if_pos c8] at H
     have c8b0 : (t167 == (-1)) = true := beq_iff_eq.mpr c8
     have c8b1 : (t167 != (-1)) = false := bne_eq_false_iff_eq.mpr c8
     clear c8
     replace H := Option.bind_eq_some_iff.mp H
     obtain ⟨t168, A90, H⟩ := H
     replace H : (if t168 = 9 then ((audit_Seen.f y161 (⟨#[98]⟩ : ByteArray)).bind fun t169 => (if (t169.length : Int) = 0 then ((audit_Same.f k y161 y161 (⟨#[97]⟩ : ByteArray)).bind fun t172 => (some t172)) else (none))) else (none)) = some r := H
     have A9 := qS A90
     clear A90
     by_cases c10 : t168 = 9
     ·rw [if_pos c10] at H
      have c10b0 : (t168 == 9) = true := beq_iff_eq.mpr c10
      have c10b1 : (t168 != 9) = false := bne_eq_false_iff_eq.mpr c10
      clear c10
      replace H := Option.bind_eq_some_iff.mp H
      obtain ⟨t169, A110, H⟩ := H
      replace H : (if (t169.length : Int) = 0 then ((audit_Same.f k y161 y161 (⟨#[97]⟩ : ByteArray)).bind fun t172 => (some t172)) else (none)) = some r := H
      have A11 := qS A110
      clear A110
      by_cases c12 : (t169.length : Int) = 0
      ·rw [if_pos c12] at H
       have c12b0 : ((t169.length : Int) == 0) = true := beq_iff_eq.mpr c12
       have c12b1 : ((t169.length : Int) != 0) = false := bne_eq_false_iff_eq.mpr c12
       clear c12
       replace H := Option.bind_eq_some_iff.mp H
       obtain ⟨t172, A130, H⟩ := H
       replace H : (some t172) = some r := H
       have A13 := qS A130
       clear A130
       obtain rfl := Option.some.inj H
       go_enter Try.func14, Try.ntmps14
       go_wp2_with (first | ((with_reducible refine gate_dst (N := 6) rfl ?_); (try (refine gate_guard (by rfl) ?_; dsimp only)); refine Kd.R_lit k46 _ 46 ?hg (N := 6) ?hd (xs := ([(⟨0, (⟨#[97]⟩ : ByteArray), false, 1, (⟨5, 2, 0, 0⟩ : S44), true, 8⟩ : S46), (⟨0, (⟨#[97]⟩ : ByteArray), false, 2, (⟨3, 9, 0, 0⟩ : S44), false, 0⟩ : S46)] : List (S46))) (inner := [.int .i64 0, .string (⟨#[97]⟩ : ByteArray), .bool false, .int .i64 1, .int .i64 5, .int .i64 2, .int .i64 0, .int .i64 0, .bool true, .int .i64 8, .int .i64 0, .string (⟨#[97]⟩ : ByteArray), .bool false, .int .i64 2, .int .i64 3, .int .i64 9, .int .i64 0, .int .i64 0, .bool false, .int .i64 0]) (ok := fun _ => True) (okp := fun _ => True) ?hr ?hp (fun _ hk => hk) trivial (Below.refl _ _) (Nat.le_refl _) (by simp) ?_; (case hd => rfl); (case hg => rfl); (case hr => first | (go_simp; done) | (go_simp; rfl)); (case hp => exact (Reps.c10 (show Kd.M k46 _ _ _ (⟨0, (⟨#[97]⟩ : ByteArray), false, 1, (⟨5, 2, 0, 0⟩ : S44), true, 8⟩ : S46) [.int .i64 0, .string (⟨#[97]⟩ : ByteArray), .bool false, .int .i64 1, .int .i64 5, .int .i64 2, .int .i64 0, .int .i64 0, .bool true, .int .i64 8] from (k46_mkM _ _ _ (⟨0, (⟨#[97]⟩ : ByteArray), false, 1, (⟨5, 2, 0, 0⟩ : S44), true, 8⟩ : S46) )) (Reps.c10 (show Kd.M k46 _ _ _ (⟨0, (⟨#[97]⟩ : ByteArray), false, 2, (⟨3, 9, 0, 0⟩ : S44), false, 0⟩ : S46) [.int .i64 0, .string (⟨#[97]⟩ : ByteArray), .bool false, .int .i64 2, .int .i64 3, .int .i64 9, .int .i64 0, .int .i64 0, .bool false, .int .i64 0] from (k46_mkM _ _ _ (⟨0, (⟨#[97]⟩ : ByteArray), false, 2, (⟨3, 9, 0, 0⟩ : S44), false, 0⟩ : S46) )) (Reps.none _ _)))); intro v162 w14 ho15 hb hg_ hnew_; clear hg_ hnew_; (first | rw [← Ny161.out] at ho15 | (simp only [Int.reduceToNat] at ho15; rw [← Ny161.out] at ho15)); have n0_ := qS (Kd.R_lower ho15 (below_size (by repeat (first | (with_reducible first | exact HB.out | apply qpA | apply qpN | apply qp1) | exact HB.out)))); have n1_ := qS (below_step (by repeat (first | (with_reducible first | exact HB.out | apply qpA | apply qpN | apply qp1) | exact HB.out)) hb); clear HB; have HO163 := n0_; have HB := n1_; clear n0_ n1_; clear hb ho15; obtain ⟨Ao16, co16, eo16⟩ := Kd.R_slice HO163.out; subst eo16) | ((with_reducible refine gate_callee (f := 18) rfl ?_); refine goesL_ (some 8) rfl rfl Try.func18 (by kernel_rfl) rfl #[.slice Ao16 y161.length co16, .string (⟨#[97]⟩ : ByteArray)] rfl (by (try simp only [List.map_toArray, List.map_cons, List.map_nil]); first | done | rfl | (simp only [*]; done) | (simp only [List.length_drop, List.length_take]; rfl) | (simp only [Act.eval, Array.getD_eq_getD_getElem?, Option.getD_some, *])) ?_; (with_reducible refine (audit_Back.calls _ _ y161 (⟨#[97]⟩ : ByteArray) t164 _ ?side1 ?side2 A1.out).mono ?_); (case side1 => repeat (first | exact (Kd.R_reads' HO163.out).2.2 | (with_reducible refine Kd.C_alloc ?_ _) | (with_reducible refine Kd.C_drewN ?_ _) | (with_reducible refine Kd.C_drew ?_))); (case side2 => exact (Kd.R_reads' HO163.out).2.1); rintro e w17 ⟨rfl, hb⟩; refine ⟨_, rfl, ?_⟩; have n0_ := qS (Kd.R_below (by (with_reducible repeat (first | apply Kd.R_alloc | apply Kd.R_drewN | apply Kd.R_drew)); exact HO163.out) hb); have n1_ := qS (below_step (by repeat (first | (with_reducible first | exact HB.out | apply qpA | apply qpN | apply qp1) | exact HB.out)) hb); clear HO163; clear HB; have HO163 := n0_; have HB := n1_; clear n0_ n1_; (try clear hb); (try clear hb2); (try clear hk); (try clear hi)) | (go_at_call 20; (with_reducible refine (audit_Coarse.calls _ _ y161 (⟨#[97]⟩ : ByteArray) t165 _ ?side1 ?side2 A3.out).mono ?_); (case side1 => repeat (first | exact (Kd.R_reads' HO163.out).2.2 | (with_reducible refine Kd.C_alloc ?_ _) | (with_reducible refine Kd.C_drewN ?_ _) | (with_reducible refine Kd.C_drew ?_))); (case side2 => exact (Kd.R_reads' HO163.out).2.1); rintro e w18 ⟨rfl, hb⟩; have n0_ := qS (Kd.R_below (by (with_reducible repeat (first | apply Kd.R_alloc | apply Kd.R_drewN | apply Kd.R_drew)); exact HO163.out) hb); have n1_ := qS (below_step (by repeat (first | (with_reducible first | exact HB.out | apply qpA | apply qpN | apply qp1) | exact HB.out)) hb); clear HO163; clear HB; have HO163 := n0_; have HB := n1_; clear n0_ n1_; (try clear hb); (try clear hb2); (try clear hk); (try clear hi)) | (go_at_call 22; (with_reducible refine (audit_Far.calls _ _ y161 (⟨#[97]⟩ : ByteArray) t166 _ ?side1 ?side2 A5.out).mono ?_); (case side1 => repeat (first | exact (Kd.R_reads' HO163.out).2.2 | (with_reducible refine Kd.C_alloc ?_ _) | (with_reducible refine Kd.C_drewN ?_ _) | (with_reducible refine Kd.C_drew ?_))); (case side2 => exact (Kd.R_reads' HO163.out).2.1); rintro e w19 ⟨rfl, hb⟩; have n0_ := qS (Kd.R_below (by (with_reducible repeat (first | apply Kd.R_alloc | apply Kd.R_drewN | apply Kd.R_drew)); exact HO163.out) hb); have n1_ := qS (below_step (by repeat (first | (with_reducible first | exact HB.out | apply qpA | apply qpN | apply qp1) | exact HB.out)) hb); clear HO163; clear HB; have HO163 := n0_; have HB := n1_; clear n0_ n1_; (try clear hb); (try clear hb2); (try clear hk); (try clear hi)) | (go_at_call 18; (with_reducible refine (audit_Back.calls _ _ y161 (⟨#[98]⟩ : ByteArray) t167 _ ?side1 ?side2 A7.out).mono ?_); (case side1 => repeat (first | exact (Kd.R_reads' HO163.out).2.2 | (with_reducible refine Kd.C_alloc ?_ _) | (with_reducible refine Kd.C_drewN ?_ _) | (with_reducible refine Kd.C_drew ?_))); (case side2 => exact (Kd.R_reads' HO163.out).2.1); rintro e w20 ⟨rfl, hb⟩; have n0_ := qS (Kd.R_below (by (with_reducible repeat (first | apply Kd.R_alloc | apply Kd.R_drewN | apply Kd.R_drew)); exact HO163.out) hb); have n1_ := qS (below_step (by repeat (first | (with_reducible first | exact HB.out | apply qpA | apply qpN | apply qp1) | exact HB.out)) hb); clear HO163; clear HB; have HO163 := n0_; have HB := n1_; clear n0_ n1_; (try clear hb); (try clear hb2); (try clear hk); (try clear hi)) | (go_at_call 26; (with_reducible refine (audit_Worst.calls k _ _ y161 (⟨#[97]⟩ : ByteArray) t168 _ ?side1 ?side2 A9.out).mono ?_); (case side1 => repeat (first | exact (Kd.R_reads' HO163.out).2.2 | (with_reducible refine Kd.C_alloc ?_ _) | (with_reducible refine Kd.C_drewN ?_ _) | (with_reducible refine Kd.C_drew ?_))); (case side2 => exact (Kd.R_reads' HO163.out).2.1); rintro e w21 ⟨rfl, hb⟩; have n0_ := qS (Kd.R_below (by (with_reducible repeat (first | apply Kd.R_alloc | apply Kd.R_drewN | apply Kd.R_drew)); exact HO163.out) hb); have n1_ := qS (below_step (by repeat (first | (with_reducible first | exact HB.out | apply qpA | apply qpN | apply qp1) | exact HB.out)) hb); clear HO163; clear HB; have HO163 := n0_; have HB := n1_; clear n0_ n1_; (try clear hb); (try clear hb2); (try clear hk); (try clear hi)) | (go_at_call 16; (with_reducible refine (audit_Seen.calls _ _ y161 (⟨#[98]⟩ : ByteArray) t169 _ ?side1 ?side2 A11.out).mono ?_); (case side1 => repeat (first | exact (Kd.R_reads' HO163.out).2.2 | (with_reducible refine Kd.C_alloc ?_ _) | (with_reducible refine Kd.C_drewN ?_ _) | (with_reducible refine Kd.C_drew ?_))); (case side2 => exact (Kd.R_reads' HO163.out).2.1); rintro e w22 ⟨v170, rfl, ho0, hb⟩; have n0_ := qS (Kd.R_elder' (by (with_reducible repeat (first | apply Kd.R_alloc | apply Kd.R_drewN | apply Kd.R_drew)); exact HO163.out) (Kd.R_base ho0) hb); have n1_ := qS (Kd.R_lower (Kd.R_new' ho0 (Kd.R_lt (by (with_reducible repeat (first | apply Kd.R_alloc | apply Kd.R_drewN | apply Kd.R_drew)); exact HO163.out))) (below_size (by repeat (first | (with_reducible first | exact HB.out | apply qpA | apply qpN | apply qp1) | exact HB.out)))); have n2_ := qS (below_step (by repeat (first | (with_reducible first | exact HB.out | apply qpA | apply qpN | apply qp1) | exact HB.out)) hb); clear HO163; clear HB; have HO163 := n0_; have HO171 := n1_; have HB := n2_; clear n0_ n1_ n2_; (try clear hb); (try clear hb2); (try clear hk); (try clear hi); (try clear ho0); obtain ⟨Ao23, co23, eo23⟩ := Kd.R_slice HO171.out; subst eo23) | (go_at_call 24; (with_reducible refine (audit_Same.calls k _ _ y161 _ _ y161 (⟨#[97]⟩ : ByteArray) t172 _ ?side1 ?side2 ?side3 ?side4 A13.out).mono ?_); (case side1 => repeat (first | exact (Kd.R_reads' HO163.out).2.2 | (with_reducible refine Kd.C_alloc ?_ _) | (with_reducible refine Kd.C_drewN ?_ _) | (with_reducible refine Kd.C_drew ?_))); (case side2 => exact (Kd.R_reads' HO163.out).2.1); (case side3 => repeat (first | exact (Kd.R_reads' HO163.out).2.2 | (with_reducible refine Kd.C_alloc ?_ _) | (with_reducible refine Kd.C_drewN ?_ _) | (with_reducible refine Kd.C_drew ?_))); (case side4 => exact (Kd.R_reads' HO163.out).2.1); rintro e w24 ⟨rfl, hb⟩; have n0_ := qS (Kd.R_below (by (with_reducible repeat (first | apply Kd.R_alloc | apply Kd.R_drewN | apply Kd.R_drew)); exact HO163.out) hb); have n1_ := qS (Kd.R_below (by (with_reducible repeat (first | apply Kd.R_alloc | apply Kd.R_drewN | apply Kd.R_drew)); exact HO171.out) hb); have n2_ := qS (below_step (by repeat (first | (with_reducible first | exact HB.out | apply qpA | apply qpN | apply qp1) | exact HB.out)) hb); clear HO163; clear HO171; clear HB; have HO163 := n0_; have HO171 := n1_; have HB := n2_; clear n0_ n1_ n2_; (try clear hb); (try clear hb2); (try clear hk); (try clear hi)))
       go_ret
       exact ⟨by first | rfl | (simp [errW_none, errW_some] <;> rfl) | (simp [*, errW_none, errW_some] <;> rfl), by repeat (first | (with_reducible first | exact HB.out | apply qpA | apply qpN | apply qp1) | exact HB.out)⟩
      ·rw [if_neg c12] at H
       exact absurd H (by simp)
     ·rw [if_neg c10] at H
      exact absurd H (by simp)
    ·rw [if_neg c8] at H
     exact absurd H (by simp)
   ·rw [if_neg c6] at H
    exact absurd H (by simp)
  ·rw [if_neg c4] at H
   exact absurd H (by simp)
 ·rw [if_neg c2] at H
  exact absurd H (by simp)

/-! ### fuseelaw38_give: function 15 -/
def fuseelaw38_give.l0 : Nat → List (S68) → List (S46) → Int → Option ((List (S46)))
 | 0, _, _, _ => none
 | k + 1, x0, x3, x4 => if x4 < (x0.length : Int) then (if 0 ≤ x4 then (if x3.length < 1599289640401 then (fuseelaw38_give.l0 k x0 (x3 ++ [(⟨(rd_T68 x0 x4).f0, (rd_T68 x0 x4).f1, (rd_T68 x0 x4).f2, (rd_T68 x0 x4).f3, (⟨(rd_T68 x0 x4).f4.f0, (rd_T68 x0 x4).f4.f1, (rd_T68 x0 x4).f4.f2, (rd_T68 x0 x4).f4.f3⟩ : S44), (rd_T68 x0 x4).f5, (rd_T68 x0 x4).f6⟩ : S46)]) (wrap64 (x4 + 1))) else (none)) else (none)) else (some x3)
def fuseelaw38_give.f (k : Nat) (l0 : List (S68)) : Option ((List (S46))) := fuseelaw38_give.l0 k l0 ([] : List (S46)) 0
theorem fuseelaw38_give.mono_l : ∀ k, (∀ y0 y1 y2, LeO (fuseelaw38_give.l0 k y0 y1 y2) (fuseelaw38_give.l0 (k + 1) y0 y1 y2))
 | 0 => fun _ _ _ r h => by simp [fuseelaw38_give.l0] at h
 | k + 1 => by
  have ih0 := fuseelaw38_give.mono_l k
  ·intro y0 y1 y2
   unfold fuseelaw38_give.l0
   repeat' first
   | (with_reducible exact ih0 _ _ _)
   | (with_reducible exact LeO.refl _)
   | (with_reducible exact LeO.none _)
   | (with_reducible refine LeO.ite ?_ ?_)
   | (with_reducible refine LeO.bind ?_ (fun _ => ?_))
   | exact ih0 _ _ _
   | exact LeO.none _
   | refine LeO.ite ?_ ?_
   | refine LeO.bind ?_ (fun _ => ?_)
theorem fuseelaw38_give.mono : ∀ a0 k, LeO (fuseelaw38_give.f k a0) (fuseelaw38_give.f (k + 1) a0) := by
 intro a0 k
 have ih0 := fuseelaw38_give.mono_l k
 unfold fuseelaw38_give.f
 repeat' first
   | (with_reducible exact ih0 _ _ _)
   | (with_reducible exact LeO.refl _)
   | (with_reducible exact LeO.none _)
   | (with_reducible refine LeO.ite ?_ ?_)
   | (with_reducible refine LeO.bind ?_ (fun _ => ?_))
   | exact ih0 _ _ _
   | exact LeO.none _
   | refine LeO.ite ?_ ?_
   | refine LeO.bind ?_ (fun _ => ?_)
set_option maxHeartbeats 8000000 in
set_option maxRecDepth 100000 in
theorem fuseelaw38_give.calls (k : Nat) (A0 : Option Addr) (c0 : Nat) (l0 : List (S68)) (r : List (S46)) (w : World) (hr0 : Kd.C k68 w A0 l0.length l0) (hc0 : l0.length ≤ c0) (h : fuseelaw38_give.f k l0 = some r) :
  Calls Try.prog 15 #[.slice A0 l0.length c0] w fun e w' => ∃ v0_ : Value, e = .returned (v0_) ∧ Kd.R k46 46 w' w.heap.size (fun _ => True) v0_ r ∧ Below w.heap.size w w' := by
 have hu68 := Try.underlying68
 have hu66 := Try.underlying66
 have hu46 := Try.underlying46
 have HR0 := qS hr0
 have HC0 := qS hc0
 clear hr0 hc0
 have HB := qS (Below.refl w.heap.size w)
 have H : (fuseelaw38_give.l0 k l0 ([] : List (S46)) 0) = some r := h
 clear h
 have H' := qS H
 clear H
 go_enter Try.func15, Try.ntmps15
 go_wp2
 go_loopg [3, 4] k (fun kq v3 v4 w' => ∃ (x3_1 : List (S46)) (x4_1 : Int), v4 = .int .i64 x4_1 ∧ Aside0 (fuseelaw38_give.l0 kq l0 x3_1 x4_1 = some r) ∧ Aside0 (kq ≤ k) ∧ Aside0 (Kd.R k46 46 w' w.heap.size (fun _ => True) v3 x3_1) ∧ Aside0 (Below w.heap.size w w'))
 case atStart => exact ⟨(([] : List (S46))), (0), (by first | rfl | (simp; done) | (simp [*]; done)), H', ⟨Nat.le_refl _⟩, ⟨by first | exact Kd.R_nil _ _ _ _ _ | exact Kd.N_nil _ _ _ _ _ | exact Kd.V_nil _ _ _ _ _ | exact Kd.Q_nil _ _ _ _ _ | exact Kd.S_nil _ _ _ _ _⟩, ⟨by repeat (first | (with_reducible first | exact HB.out | apply qpA | apply qpN | apply qp1) | exact HB.out)⟩⟩
 case round =>
  clear H'
  try clear c1
  obtain ⟨x3_1, x4_1, rfl, HA, HK1, HO_3, HB⟩ := hrel
  cases gk with
  | zero => exact absurd HA.out (by simp [fuseelaw38_give.l0])
  | succ k1 =>
   have H := HA.out
   clear HA
   simp only [fuseelaw38_give.l0] at H
   by_cases c2 : x4_1 < (l0.length : Int)
   ·rw [if_pos c2] at H
    have c2b0 : decide (x4_1 < (l0.length : Int)) = true := decide_eq_true c2
    clear c2
    by_cases c3 : 0 ≤ x4_1
    ·rw [if_pos c3] at H
     have c3b0 : decide (0 ≤ x4_1) = true := decide_eq_true c3
     clear c3
     by_cases c4 : x3_1.length < 1599289640401
     ·rw [if_pos c4] at H
      have LMc4 := qS c4
      clear c4
      obtain ⟨y175, hy175⟩ : ∃ y_ : List (S46), y_ = (x3_1 ++ [(⟨(rd_T68 l0 x4_1).f0, (rd_T68 l0 x4_1).f1, (rd_T68 l0 x4_1).f2, (rd_T68 l0 x4_1).f3, (⟨(rd_T68 l0 x4_1).f4.f0, (rd_T68 l0 x4_1).f4.f1, (rd_T68 l0 x4_1).f4.f2, (rd_T68 l0 x4_1).f4.f3⟩ : S44), (rd_T68 l0 x4_1).f5, (rd_T68 l0 x4_1).f6⟩ : S46)]) := ⟨_, rfl⟩
      replace H : (fuseelaw38_give.l0 k1 l0 y175 (wrap64 (x4_1 + 1))) = some r := by first | (rw [hy175]; with_reducible exact H) | (have H2_ := (Option.bind_some _ _).symm.trans H; rw [hy175]; with_reducible exact H2_) | (have H2_ := (Option.bind_some _ _).symm.trans H; with_reducible exact H2_) | with_reducible exact H | (rw [hy175]; exact H) | exact H
      have Ny175 := qS hy175
      clear hy175
      have H' := qS H
      clear H
      have p173 : 0 ≤ (x4_1 : Int) := of_decide_eq_true (by first | (with_reducible assumption) | assumption)
      have q173 : x4_1 < (l0.length : Int) := of_decide_eq_true (by first | (with_reducible assumption) | assumption)
      obtain ⟨ad173, e173, hx173_0, hx173_1, hx173_2, hx173_3, hx173_4, hx173_5, hx173_6, hx173_7, hx173_8, hx173_9⟩ := at_T68 HR0.out x4_1 p173 q173
      cases e173
      replace hx173_0 := (HB.out.cell (World.block_lt_of_cell? w _ hx173_0)).trans hx173_0
      replace hx173_1 := (HB.out.cell (World.block_lt_of_cell? w _ hx173_1)).trans hx173_1
      replace hx173_2 := (HB.out.cell (World.block_lt_of_cell? w _ hx173_2)).trans hx173_2
      replace hx173_3 := (HB.out.cell (World.block_lt_of_cell? w _ hx173_3)).trans hx173_3
      replace hx173_4 := (HB.out.cell (World.block_lt_of_cell? w _ hx173_4)).trans hx173_4
      replace hx173_5 := (HB.out.cell (World.block_lt_of_cell? w _ hx173_5)).trans hx173_5
      replace hx173_6 := (HB.out.cell (World.block_lt_of_cell? w _ hx173_6)).trans hx173_6
      replace hx173_7 := (HB.out.cell (World.block_lt_of_cell? w _ hx173_7)).trans hx173_7
      replace hx173_8 := (HB.out.cell (World.block_lt_of_cell? w _ hx173_8)).trans hx173_8
      replace hx173_9 := (HB.out.cell (World.block_lt_of_cell? w _ hx173_9)).trans hx173_9
      replace p173 := eq_true p173
      replace q173 := eq_true q173
      go_wp2_with (first | ((with_reducible refine gate_dst (N := 5) rfl ?_); refine box_event ?hg (N := 5) ?hd (cs := #[.int .i64 0, .string (⟨#[]⟩ : ByteArray), .bool false, .int .i64 0, .int .i64 0, .int .i64 0, .int .i64 0, .int .i64 0, .bool false, .int .i64 0]) (t := 68) ?hr ?_; (case hd => rfl); (case hg => rfl); (case hr => first | (go_simp; done) | (go_simp; rfl)); intro gb174 hg w5 hbox hb; have n0_ := qS (Kd.R_below (by (with_reducible repeat (first | apply Kd.R_alloc | apply Kd.R_drewN | apply Kd.R_drew)); exact HO_3.out) hb); have n1_ := qS (below_step (by repeat (first | (with_reducible first | exact HB.out | apply qpA | apply qpN | apply qp1) | exact HB.out)) hb); have n2_ := qS (hbox); have n3_ := qS ((by rw [hg]; exact (below_size (by repeat (first | (with_reducible first | exact HB.out | apply qpA | apply qpN | apply qp1) | exact HB.out))) : w.heap.size ≤ gb174)); have n4_ := qS ((by rw [hg]; exact (below_size (by repeat (first | (with_reducible first | exact HB.out | apply qpA | apply qpN | apply qp1) | exact HB.out))) : w.heap.size ≤ gb174)); clear HO_3; clear HB; have HO_3 := n0_; have HB := n1_; have BK174 := n2_; have GW174 := n3_; have GE174 := n4_; clear n0_ n1_ n2_ n3_ n4_; clear hb hbox hg; have hcz6_0 : w5.cell? ⟨gb174, 0, none⟩ = some (.int .i64 0) := (qC BK174.out 0).trans rfl; have hcz6_1 : w5.cell? ⟨gb174, 1, none⟩ = some (.string (⟨#[]⟩ : ByteArray)) := (qC BK174.out 1).trans rfl; have hcz6_2 : w5.cell? ⟨gb174, 2, none⟩ = some (.bool false) := (qC BK174.out 2).trans rfl; have hcz6_3 : w5.cell? ⟨gb174, 3, none⟩ = some (.int .i64 0) := (qC BK174.out 3).trans rfl; have hcz6_4 : w5.cell? ⟨gb174, 4, none⟩ = some (.int .i64 0) := (qC BK174.out 4).trans rfl; have hcz6_5 : w5.cell? ⟨gb174, 5, none⟩ = some (.int .i64 0) := (qC BK174.out 5).trans rfl; have hcz6_6 : w5.cell? ⟨gb174, 6, none⟩ = some (.int .i64 0) := (qC BK174.out 6).trans rfl; have hcz6_7 : w5.cell? ⟨gb174, 7, none⟩ = some (.int .i64 0) := (qC BK174.out 7).trans rfl; have hcz6_8 : w5.cell? ⟨gb174, 8, none⟩ = some (.bool false) := (qC BK174.out 8).trans rfl; have hcz6_9 : w5.cell? ⟨gb174, 9, none⟩ = some (.int .i64 0) := (qC BK174.out 9).trans rfl; have hfz6_0 := qF BK174.out 0; have hfz6_1 := qF BK174.out 1; have hfz6_2 := qF BK174.out 2; have hfz6_3 := qF BK174.out 3; have hfz6_4 := qF BK174.out 4; have hfz6_5 := qF BK174.out 5; have hfz6_6 := qF BK174.out 6; have hfz6_7 := qF BK174.out 7; have hfz6_8 := qF BK174.out 8; have hfz6_9 := qF BK174.out 9) | ((with_reducible refine gate_builtin (b := .append) (xs := #[.tmp 16, .tmp 32]) rfl ?_); at_builtin; refine Kd.R_append k46 (w0 := w) w.heap.size rfl (.tmp 16) (.tmp 32) 39 46 (.agg #[(.int .i64 0), (.string ⟨#[]⟩), (.bool false), (.int .i64 0), (.int .i64 0), (.int .i64 0), (.int .i64 0), (.int .i64 0), (.bool false), (.int .i64 0)]) 88 rfl Try.underlying39 info46 rfl (by decide) (by omega) u3 x3_1 (⟨(rd_T68 l0 x4_1).f0, (rd_T68 l0 x4_1).f1, (rd_T68 l0 x4_1).f2, (rd_T68 l0 x4_1).f3, (⟨(rd_T68 l0 x4_1).f4.f0, (rd_T68 l0 x4_1).f4.f1, (rd_T68 l0 x4_1).f4.f2, (rd_T68 l0 x4_1).f4.f3⟩ : S44), (rd_T68 l0 x4_1).f5, (rd_T68 l0 x4_1).f6⟩ : S46) [.int .i64 ((rd_T68 l0 x4_1).f0), .string ((rd_T68 l0 x4_1).f1), .bool ((rd_T68 l0 x4_1).f2), .int .i64 ((rd_T68 l0 x4_1).f3), .int .i64 ((rd_T68 l0 x4_1).f4.f0), .int .i64 ((rd_T68 l0 x4_1).f4.f1), .int .i64 ((rd_T68 l0 x4_1).f4.f2), .int .i64 ((rd_T68 l0 x4_1).f4.f3), .bool ((rd_T68 l0 x4_1).f5), .int .i64 ((rd_T68 l0 x4_1).f6)] (fun _ => True) (fun _ => False) rfl (by first | (go_simp; done) | (go_simp; rfl)) ?aP (fun _ hk => hk.elim) ?aF ?aO ?aB ?aS ?aL ?_; (case aP => exact k46_mkM _ _ _ (⟨(rd_T68 l0 x4_1).f0, (rd_T68 l0 x4_1).f1, (rd_T68 l0 x4_1).f2, (rd_T68 l0 x4_1).f3, (⟨(rd_T68 l0 x4_1).f4.f0, (rd_T68 l0 x4_1).f4.f1, (rd_T68 l0 x4_1).f4.f2, (rd_T68 l0 x4_1).f4.f3⟩ : S44), (rd_T68 l0 x4_1).f5, (rd_T68 l0 x4_1).f6⟩ : S46)); (case aB => exact (by repeat (first | (with_reducible first | exact HB.out | apply qpA | apply qpN | apply qp1 | refine qpS ?_ GE174.out) | exact HB.out))); (case aF => exact (fun _ _ => trivial)); (case aO => exact (by (with_reducible repeat (first | apply Kd.R_alloc | apply Kd.R_drewN | apply Kd.R_drew)); exact Kd.R_mono (Kd.R_far (p := ⟨gb174, 9, none⟩) (Kd.R_far (p := ⟨gb174, 8, none⟩) (Kd.R_far (p := ⟨gb174, 7, none⟩) (Kd.R_far (p := ⟨gb174, 6, none⟩) (Kd.R_far (p := ⟨gb174, 5, none⟩) (Kd.R_far (p := ⟨gb174, 4, none⟩) (Kd.R_far (p := ⟨gb174, 3, none⟩) (Kd.R_far (p := ⟨gb174, 2, none⟩) (Kd.R_far (p := ⟨gb174, 1, none⟩) (Kd.R_far (p := ⟨gb174, 0, none⟩) (Kd.R_types HO_3.out BK174.out (by decide)) (fun _ hk => hk.2) (.int .i64 ((rd_T68 l0 x4_1).f0))) (fun _ hk => hk.2) (.string ((rd_T68 l0 x4_1).f1))) (fun _ hk => hk.2) (.bool ((rd_T68 l0 x4_1).f2))) (fun _ hk => hk.2) (.int .i64 ((rd_T68 l0 x4_1).f3))) (fun _ hk => hk.2) (.int .i64 ((rd_T68 l0 x4_1).f4.f0))) (fun _ hk => hk.2) (.int .i64 ((rd_T68 l0 x4_1).f4.f1))) (fun _ hk => hk.2) (.int .i64 ((rd_T68 l0 x4_1).f4.f2))) (fun _ hk => hk.2) (.int .i64 ((rd_T68 l0 x4_1).f4.f3))) (fun _ hk => hk.2) (.bool ((rd_T68 l0 x4_1).f5))) (fun _ hk => hk.2) (.int .i64 ((rd_T68 l0 x4_1).f6))) (fun _ hk => by first | exact trivial | exact True.intro))); (case aS => exact (below_size (by repeat (first | (with_reducible first | exact HB.out | apply qpA | apply qpN | apply qp1 | refine qpS ?_ GE174.out) | exact HB.out)))); (case aL => have := LMc4.out; omega); intro v176 w7 ho hb hg hat; rw [← Ny175.out] at ho; have n0_ := qS (blk_grown (g := gb174) (o := .cells #[.int .i64 ((rd_T68 l0 x4_1).f0), .string ((rd_T68 l0 x4_1).f1), .bool ((rd_T68 l0 x4_1).f2), .int .i64 ((rd_T68 l0 x4_1).f3), .int .i64 ((rd_T68 l0 x4_1).f4.f0), .int .i64 ((rd_T68 l0 x4_1).f4.f1), .int .i64 ((rd_T68 l0 x4_1).f4.f2), .int .i64 ((rd_T68 l0 x4_1).f4.f3), .bool ((rd_T68 l0 x4_1).f5), .int .i64 ((rd_T68 l0 x4_1).f6)] 68 (0, 0)) (by (with_reducible repeat (first | refine qN ?_ _ | refine qD ?_ | refine qA ?_ _)); refine blk_put (cs := #[.int .i64 ((rd_T68 l0 x4_1).f0), .string ((rd_T68 l0 x4_1).f1), .bool ((rd_T68 l0 x4_1).f2), .int .i64 ((rd_T68 l0 x4_1).f3), .int .i64 ((rd_T68 l0 x4_1).f4.f0), .int .i64 ((rd_T68 l0 x4_1).f4.f1), .int .i64 ((rd_T68 l0 x4_1).f4.f2), .int .i64 ((rd_T68 l0 x4_1).f4.f3), .bool ((rd_T68 l0 x4_1).f5), .int .i64 0]) ?_ 9 _ rfl; (with_reducible repeat (first | refine qN ?_ _ | refine qD ?_ | refine qA ?_ _)); refine blk_put (cs := #[.int .i64 ((rd_T68 l0 x4_1).f0), .string ((rd_T68 l0 x4_1).f1), .bool ((rd_T68 l0 x4_1).f2), .int .i64 ((rd_T68 l0 x4_1).f3), .int .i64 ((rd_T68 l0 x4_1).f4.f0), .int .i64 ((rd_T68 l0 x4_1).f4.f1), .int .i64 ((rd_T68 l0 x4_1).f4.f2), .int .i64 ((rd_T68 l0 x4_1).f4.f3), .bool false, .int .i64 0]) ?_ 8 _ rfl; (with_reducible repeat (first | refine qN ?_ _ | refine qD ?_ | refine qA ?_ _)); refine blk_put (cs := #[.int .i64 ((rd_T68 l0 x4_1).f0), .string ((rd_T68 l0 x4_1).f1), .bool ((rd_T68 l0 x4_1).f2), .int .i64 ((rd_T68 l0 x4_1).f3), .int .i64 ((rd_T68 l0 x4_1).f4.f0), .int .i64 ((rd_T68 l0 x4_1).f4.f1), .int .i64 ((rd_T68 l0 x4_1).f4.f2), .int .i64 0, .bool false, .int .i64 0]) ?_ 7 _ rfl; (with_reducible repeat (first | refine qN ?_ _ | refine qD ?_ | refine qA ?_ _)); refine blk_put (cs := #[.int .i64 ((rd_T68 l0 x4_1).f0), .string ((rd_T68 l0 x4_1).f1), .bool ((rd_T68 l0 x4_1).f2), .int .i64 ((rd_T68 l0 x4_1).f3), .int .i64 ((rd_T68 l0 x4_1).f4.f0), .int .i64 ((rd_T68 l0 x4_1).f4.f1), .int .i64 0, .int .i64 0, .bool false, .int .i64 0]) ?_ 6 _ rfl; (with_reducible repeat (first | refine qN ?_ _ | refine qD ?_ | refine qA ?_ _)); refine blk_put (cs := #[.int .i64 ((rd_T68 l0 x4_1).f0), .string ((rd_T68 l0 x4_1).f1), .bool ((rd_T68 l0 x4_1).f2), .int .i64 ((rd_T68 l0 x4_1).f3), .int .i64 ((rd_T68 l0 x4_1).f4.f0), .int .i64 0, .int .i64 0, .int .i64 0, .bool false, .int .i64 0]) ?_ 5 _ rfl; (with_reducible repeat (first | refine qN ?_ _ | refine qD ?_ | refine qA ?_ _)); refine blk_put (cs := #[.int .i64 ((rd_T68 l0 x4_1).f0), .string ((rd_T68 l0 x4_1).f1), .bool ((rd_T68 l0 x4_1).f2), .int .i64 ((rd_T68 l0 x4_1).f3), .int .i64 0, .int .i64 0, .int .i64 0, .int .i64 0, .bool false, .int .i64 0]) ?_ 4 _ rfl; (with_reducible repeat (first | refine qN ?_ _ | refine qD ?_ | refine qA ?_ _)); refine blk_put (cs := #[.int .i64 ((rd_T68 l0 x4_1).f0), .string ((rd_T68 l0 x4_1).f1), .bool ((rd_T68 l0 x4_1).f2), .int .i64 0, .int .i64 0, .int .i64 0, .int .i64 0, .int .i64 0, .bool false, .int .i64 0]) ?_ 3 _ rfl; (with_reducible repeat (first | refine qN ?_ _ | refine qD ?_ | refine qA ?_ _)); refine blk_put (cs := #[.int .i64 ((rd_T68 l0 x4_1).f0), .string ((rd_T68 l0 x4_1).f1), .bool false, .int .i64 0, .int .i64 0, .int .i64 0, .int .i64 0, .int .i64 0, .bool false, .int .i64 0]) ?_ 2 _ rfl; (with_reducible repeat (first | refine qN ?_ _ | refine qD ?_ | refine qA ?_ _)); refine blk_put (cs := #[.int .i64 ((rd_T68 l0 x4_1).f0), .string (⟨#[]⟩ : ByteArray), .bool false, .int .i64 0, .int .i64 0, .int .i64 0, .int .i64 0, .int .i64 0, .bool false, .int .i64 0]) ?_ 1 _ rfl; (with_reducible repeat (first | refine qN ?_ _ | refine qD ?_ | refine qA ?_ _)); refine blk_put (cs := #[.int .i64 0, .string (⟨#[]⟩ : ByteArray), .bool false, .int .i64 0, .int .i64 0, .int .i64 0, .int .i64 0, .int .i64 0, .bool false, .int .i64 0]) ?_ 0 _ rfl; (with_reducible repeat (first | refine qN ?_ _ | refine qD ?_ | refine qA ?_ _)); exact BK174.out) hg (Kd.R_ne HO_3.out BK174.out (by decide))); have n1_ := qS (hb); have n2_ := qS (ho); clear BK174; clear HB; clear HO_3; have BK174 := n0_; have HB := n1_; have HO177 := n2_; clear n0_ n1_ n2_; clear ho hb hg hat))
      go_roundg k1
      case measure => have := HK1.out; omega
      case rel => exact ⟨(y175), (wrap64 (x4_1 + 1)), (by first | rfl | (simp; done) | (simp [*]; done)), H', ⟨by have := HK1.out; omega⟩, ⟨by (with_reducible repeat (first | apply Kd.R_alloc | apply Kd.R_drewN | apply Kd.R_drew)); exact HO177.out⟩, ⟨by repeat (first | (with_reducible first | exact HB.out | apply qpA | apply qpN | apply qp1 | refine qpS ?_ GE174.out) | exact HB.out)⟩⟩
     ·rw [if_neg c4] at H
      exact absurd H (by simp)
    ·rw [if_neg c3] at H
     exact absurd H (by simp)
   ·rw [if_neg c2] at H
    have c2b0 : decide (x4_1 < (l0.length : Int)) = false := decide_eq_false c2
    clear c2
    obtain rfl := Option.some.inj H
    go_wp2
    go_ret
    exact ⟨_, by first | rfl | (simp [errW_none, errW_some] <;> rfl) | (simp [*, errW_none, errW_some] <;> rfl), by (with_reducible repeat (first | apply Kd.R_alloc | apply Kd.R_drewN | apply Kd.R_drew)); exact HO_3.out, by repeat (first | (with_reducible first | exact HB.out | apply qpA | apply qpN | apply qp1) | exact HB.out)⟩

/-! ### fuseelaw38_found: function 28 -/
def fuseelaw38_found.f (l0 : List (S46)) (a1 : ByteArray) (a2 : Int) : Option (Int) := if a2 = 0 then ((audit_Back.f l0 a1).bind fun t178 => (some t178)) else (if a2 = 1 then ((audit_Coarse.f l0 a1).bind fun t179 => (some t179)) else ((audit_Far.f l0 a1).bind fun t180 => (some t180)))
set_option maxHeartbeats 8000000 in
set_option maxRecDepth 100000 in
theorem fuseelaw38_found.calls (A0 : Option Addr) (c0 : Nat) (l0 : List (S46)) (a1 : ByteArray) (a2 : Int) (r : Int) (w : World) (hr0 : Kd.C k46 w A0 l0.length l0) (hc0 : l0.length ≤ c0) (h : fuseelaw38_found.f l0 a1 a2 = some r) :
  Calls Try.prog 28 #[.slice A0 l0.length c0, .string a1, .int .i64 a2] w fun e w' => e = .returned (.int .i64 r) ∧ Below w.heap.size w w' := by
 have HR0 := qS hr0
 have HC0 := qS hc0
 clear hr0 hc0
 have HB := qS (Below.refl w.heap.size w)
 have H : (if a2 = 0 then ((audit_Back.f l0 a1).bind fun t178 => (some t178)) else (if a2 = 1 then ((audit_Coarse.f l0 a1).bind fun t179 => (some t179)) else ((audit_Far.f l0 a1).bind fun t180 => (some t180)))) = some r := h
 clear h
 by_cases c4 : a2 = 0
 ·rw [if_pos c4] at H
  have c4b0 : (a2 == 0) = true := beq_iff_eq.mpr c4
  have c4b1 : (a2 != 0) = false := bne_eq_false_iff_eq.mpr c4
  clear c4
  replace H := Option.bind_eq_some_iff.mp H
  obtain ⟨t178, A50, H⟩ := H
  replace H : (some t178) = some r := H
  have A5 := qS A50
  clear A50
  obtain rfl := Option.some.inj H
  go_enter Try.func28, Try.ntmps28
  go_wp2_with (first | ((with_reducible refine gate_callee (f := 18) rfl ?_); refine goesL_ (some 12) rfl rfl Try.func18 (by kernel_rfl) rfl #[.slice A0 l0.length c0, .string a1] rfl (by (try simp only [List.map_toArray, List.map_cons, List.map_nil]); first | done | rfl | (simp only [*]; done) | (simp only [List.length_drop, List.length_take]; rfl) | (simp only [Act.eval, Array.getD_eq_getD_getElem?, Option.getD_some, *])) ?_; (with_reducible refine (audit_Back.calls _ _ l0 a1 t178 _ ?side1 ?side2 A5.out).mono ?_); (case side1 => repeat (first | exact HR0.out | (with_reducible refine Kd.C_alloc ?_ _) | (with_reducible refine Kd.C_drewN ?_ _) | (with_reducible refine Kd.C_drew ?_))); (case side2 => exact HC0.out); rintro e w6 ⟨rfl, hb⟩; refine ⟨_, rfl, ?_⟩; have n0_ := qS (below_step (by repeat (first | (with_reducible first | exact HB.out | apply qpA | apply qpN | apply qp1) | exact HB.out)) hb); clear HB; have HB := n0_; clear n0_; (try clear hb); (try clear hb2); (try clear hk); (try clear hi)))
  go_ret
  exact ⟨by first | rfl | (simp [errW_none, errW_some] <;> rfl) | (simp [*, errW_none, errW_some] <;> rfl), by repeat (first | (with_reducible first | exact HB.out | apply qpA | apply qpN | apply qp1) | exact HB.out)⟩
 ·rw [if_neg c4] at H
  have c4b0 : (a2 == 0) = false := beq_eq_false_iff_ne.mpr c4
  have c4b1 : (a2 != 0) = true := bne_iff_ne.mpr c4
  by_cases c7 : a2 = 1
  ·rw [if_pos c7] at H
   have c7b0 : (a2 == 1) = true := beq_iff_eq.mpr c7
   have c7b1 : (a2 != 1) = false := bne_eq_false_iff_eq.mpr c7
   clear c7
   replace H := Option.bind_eq_some_iff.mp H
   obtain ⟨t179, A80, H⟩ := H
   replace H : (some t179) = some r := H
   have A8 := qS A80
   clear A80
   obtain rfl := Option.some.inj H
   go_enter Try.func28, Try.ntmps28
   go_wp2_with (first | ((with_reducible refine gate_callee (f := 20) rfl ?_); refine goesL_ (some 17) rfl rfl Try.func20 (by kernel_rfl) rfl #[.slice A0 l0.length c0, .string a1] rfl (by (try simp only [List.map_toArray, List.map_cons, List.map_nil]); first | done | rfl | (simp only [*]; done) | (simp only [List.length_drop, List.length_take]; rfl) | (simp only [Act.eval, Array.getD_eq_getD_getElem?, Option.getD_some, *])) ?_; (with_reducible refine (audit_Coarse.calls _ _ l0 a1 t179 _ ?side1 ?side2 A8.out).mono ?_); (case side1 => repeat (first | exact HR0.out | (with_reducible refine Kd.C_alloc ?_ _) | (with_reducible refine Kd.C_drewN ?_ _) | (with_reducible refine Kd.C_drew ?_))); (case side2 => exact HC0.out); rintro e w9 ⟨rfl, hb⟩; refine ⟨_, rfl, ?_⟩; have n0_ := qS (below_step (by repeat (first | (with_reducible first | exact HB.out | apply qpA | apply qpN | apply qp1) | exact HB.out)) hb); clear HB; have HB := n0_; clear n0_; (try clear hb); (try clear hb2); (try clear hk); (try clear hi)))
   go_ret
   exact ⟨by first | rfl | (simp [errW_none, errW_some] <;> rfl) | (simp [*, errW_none, errW_some] <;> rfl), by repeat (first | (with_reducible first | exact HB.out | apply qpA | apply qpN | apply qp1) | exact HB.out)⟩
  ·rw [if_neg c7] at H
   have c7b0 : (a2 == 1) = false := beq_eq_false_iff_ne.mpr c7
   have c7b1 : (a2 != 1) = true := bne_iff_ne.mpr c7
   replace H := Option.bind_eq_some_iff.mp H
   obtain ⟨t180, A100, H⟩ := H
   replace H : (some t180) = some r := H
   have A10 := qS A100
   clear A100
   obtain rfl := Option.some.inj H
   go_enter Try.func28, Try.ntmps28
   go_wp2_with (first | ((with_reducible refine gate_callee (f := 22) rfl ?_); refine goesL_ (some 20) rfl rfl Try.func22 (by kernel_rfl) rfl #[.slice A0 l0.length c0, .string a1] rfl (by (try simp only [List.map_toArray, List.map_cons, List.map_nil]); first | done | rfl | (simp only [*]; done) | (simp only [List.length_drop, List.length_take]; rfl) | (simp only [Act.eval, Array.getD_eq_getD_getElem?, Option.getD_some, *])) ?_; (with_reducible refine (audit_Far.calls _ _ l0 a1 t180 _ ?side1 ?side2 A10.out).mono ?_); (case side1 => repeat (first | exact HR0.out | (with_reducible refine Kd.C_alloc ?_ _) | (with_reducible refine Kd.C_drewN ?_ _) | (with_reducible refine Kd.C_drew ?_))); (case side2 => exact HC0.out); rintro e w11 ⟨rfl, hb⟩; refine ⟨_, rfl, ?_⟩; have n0_ := qS (below_step (by repeat (first | (with_reducible first | exact HB.out | apply qpA | apply qpN | apply qp1) | exact HB.out)) hb); clear HB; have HB := n0_; clear n0_; (try clear hb); (try clear hb2); (try clear hk); (try clear hi)))
   go_ret
   exact ⟨by first | rfl | (simp [errW_none, errW_some] <;> rfl) | (simp [*, errW_none, errW_some] <;> rfl), by repeat (first | (with_reducible first | exact HB.out | apply qpA | apply qpN | apply qp1) | exact HB.out)⟩

end Go.Proofs.Ytiljnlhmeolhfaa.MAuditAlone
