/-
  The reference's numbers of 256 bits, walked: Number.
-/
import Derived.Test.YtpihgdehgkclmaaDoor02f
namespace Go.Proofs.YtpihgdehgkclmaaDoor.Big
open Go.RowKit Go.Proofs.YtpihgdehgkclmaaDoorW.PrintWords Go.Proofs.YtpihgdehgkclmaaDoorW.PrintLast Go.Proofs.YtpihgdehgkclmaaDoorW.PrintMore
set_option linter.unusedVariables false
set_option linter.unusedSimpArgs false
set_option maxHeartbeats 2000000 in
set_option maxRecDepth 100000 in
theorem number_no (b : Bool) (f : Nat → Nat)  (hT : ∀ W, Calls Tryd.prog 155 #[.agg (bg b f)] W fun e w' => e = .returned (.tuple #[.agg #[.int .i64 0, .int .u64 0], .bool false]) ∧ Below W.heap.size W w') (w : World) : Calls Tryd.prog 131 #[.agg (bg b f)] w fun e w' => e = .returned (.tuple #[.int .i64 (0), .bool false]) ∧ Below w.heap.size w w' := by
  obtain ⟨w1, hw1⟩ : ∃ w1, w1 = w.alloc (.cells (bg b f) 197) := ⟨_, rfl⟩
  have k1 : w1.heap[w.heap.size]? = some (.cells (bg b f) 197 (0, 0)) := by rw [hw1]; exact heap_alloc_new w _
  have hb1 : Below w.heap.size w w1 := by rw [hw1]; exact (Below.refl _ w).alloc (Nat.le_refl _) _
  obtain ⟨g1, hg1⟩ : ∃ g, g = w.heap.size := ⟨_, rfl⟩
  rw [← hg1] at k1
  have HX := Aside0.mk (And.intro k1 hb1)
  have HW := Lib.hid hw1
  have H1 := Lib.hid hg1
  clear hw1 k1 hb1 hg1
  go_enter Tryd.func131, Tryd.ntmps131
  go_upto_region 1 with (fail)
  rw [← HW.out, ← H1.out]
  go_wp2_with (first | ((with_reducible refine gate_dst (N := 7) rfl ?_); refine get9 rfl rfl g1 197 (b) (f) _ rfl HX.out.1 Tryd.underlying197 rfl (by kernel_rfl) ?_) | (go_at_call 155; (with_reducible refine (hT _).mono ?_); rintro e w2 ⟨rfl, hb2⟩; have HY := Aside0.mk (HX.out.2.trans (hb2.mono HX.out.2.size)); clear hb2))
  go_ret2
  exact ⟨rfl, HY.out.alloc HY.out.size _⟩
set_option maxHeartbeats 2000000 in
set_option maxRecDepth 100000 in
theorem number_hi (b : Bool) (f : Nat → Nat) (H L : Int) (n0 : H ≠ 0) (n1 : H ≠ -1) (hT : ∀ W, Calls Tryd.prog 155 #[.agg (bg b f)] W fun e w' => e = .returned (.tuple #[.agg #[.int .i64 H, .int .u64 L], .bool true]) ∧ Below W.heap.size W w') (w : World) : Calls Tryd.prog 131 #[.agg (bg b f)] w fun e w' => e = .returned (.tuple #[.int .i64 (0), .bool false]) ∧ Below w.heap.size w w' := by
  obtain ⟨w1, hw1⟩ : ∃ w1, w1 = w.alloc (.cells (bg b f) 197) := ⟨_, rfl⟩
  have k1 : w1.heap[w.heap.size]? = some (.cells (bg b f) 197 (0, 0)) := by rw [hw1]; exact heap_alloc_new w _
  have hb1 : Below w.heap.size w w1 := by rw [hw1]; exact (Below.refl _ w).alloc (Nat.le_refl _) _
  obtain ⟨g1, hg1⟩ : ∃ g, g = w.heap.size := ⟨_, rfl⟩
  rw [← hg1] at k1
  have HX := Aside0.mk (And.intro k1 hb1)
  have HW := Lib.hid hw1
  have H1 := Lib.hid hg1
  clear hw1 k1 hb1 hg1
  have e1 : (H == 0) = false := beq_eq_false_iff_ne.mpr n0
  have e2 : (H != 0) = true := bne_iff_ne.mpr n0
  have e3 : (H == -1) = false := beq_eq_false_iff_ne.mpr n1
  have e4 : (H != -1) = true := bne_iff_ne.mpr n1
  go_enter Tryd.func131, Tryd.ntmps131
  go_upto_region 1 with (fail)
  rw [← HW.out, ← H1.out]
  go_wp2_with (first | ((with_reducible refine gate_dst (N := 7) rfl ?_); refine get9 rfl rfl g1 197 (b) (f) _ rfl HX.out.1 Tryd.underlying197 rfl (by kernel_rfl) ?_) | (go_at_call 155; (with_reducible refine (hT _).mono ?_); rintro e w2 ⟨rfl, hb2⟩; have HY := Aside0.mk (HX.out.2.trans (hb2.mono HX.out.2.size)); clear hb2))
  go_ret2
  exact ⟨rfl, HY.out.alloc HY.out.size _⟩
set_option maxHeartbeats 2000000 in
set_option maxRecDepth 100000 in
theorem number_pos (b : Bool) (f : Nat → Nat) (L : Int) (l0 : 0 ≤ L) (l1 : L < 9223372036854775808) (hT : ∀ W, Calls Tryd.prog 155 #[.agg (bg b f)] W fun e w' => e = .returned (.tuple #[.agg #[.int .i64 0, .int .u64 L], .bool true]) ∧ Below W.heap.size W w') (w : World) : Calls Tryd.prog 131 #[.agg (bg b f)] w fun e w' => e = .returned (.tuple #[.int .i64 (L), .bool true]) ∧ Below w.heap.size w w' := by
  obtain ⟨w1, hw1⟩ : ∃ w1, w1 = w.alloc (.cells (bg b f) 197) := ⟨_, rfl⟩
  have k1 : w1.heap[w.heap.size]? = some (.cells (bg b f) 197 (0, 0)) := by rw [hw1]; exact heap_alloc_new w _
  have hb1 : Below w.heap.size w w1 := by rw [hw1]; exact (Below.refl _ w).alloc (Nat.le_refl _) _
  obtain ⟨g1, hg1⟩ : ∃ g, g = w.heap.size := ⟨_, rfl⟩
  rw [← hg1] at k1
  have HX := Aside0.mk (And.intro k1 hb1)
  have HW := Lib.hid hw1
  have H1 := Lib.hid hg1
  clear hw1 k1 hb1 hg1
  have e5 := decide_eq_false (show ¬ (9223372036854775808 ≤ L) by omega)
  go_enter Tryd.func131, Tryd.ntmps131
  go_upto_region 1 with (fail)
  rw [← HW.out, ← H1.out]
  go_wp2_with (first | ((with_reducible refine gate_dst (N := 7) rfl ?_); refine get9 rfl rfl g1 197 (b) (f) _ rfl HX.out.1 Tryd.underlying197 rfl (by kernel_rfl) ?_) | (go_at_call 155; (with_reducible refine (hT _).mono ?_); rintro e w2 ⟨rfl, hb2⟩; have HY := Aside0.mk (HX.out.2.trans (hb2.mono HX.out.2.size)); clear hb2))
  go_ret2
  exact ⟨rfl, HY.out.alloc HY.out.size _⟩
set_option maxHeartbeats 2000000 in
set_option maxRecDepth 100000 in
theorem number_big (b : Bool) (f : Nat → Nat) (L : Int) (l0 : 9223372036854775808 ≤ L) (hT : ∀ W, Calls Tryd.prog 155 #[.agg (bg b f)] W fun e w' => e = .returned (.tuple #[.agg #[.int .i64 0, .int .u64 L], .bool true]) ∧ Below W.heap.size W w') (w : World) : Calls Tryd.prog 131 #[.agg (bg b f)] w fun e w' => e = .returned (.tuple #[.int .i64 (0), .bool false]) ∧ Below w.heap.size w w' := by
  obtain ⟨w1, hw1⟩ : ∃ w1, w1 = w.alloc (.cells (bg b f) 197) := ⟨_, rfl⟩
  have k1 : w1.heap[w.heap.size]? = some (.cells (bg b f) 197 (0, 0)) := by rw [hw1]; exact heap_alloc_new w _
  have hb1 : Below w.heap.size w w1 := by rw [hw1]; exact (Below.refl _ w).alloc (Nat.le_refl _) _
  obtain ⟨g1, hg1⟩ : ∃ g, g = w.heap.size := ⟨_, rfl⟩
  rw [← hg1] at k1
  have HX := Aside0.mk (And.intro k1 hb1)
  have HW := Lib.hid hw1
  have H1 := Lib.hid hg1
  clear hw1 k1 hb1 hg1
  have e5 := decide_eq_true l0
  go_enter Tryd.func131, Tryd.ntmps131
  go_upto_region 1 with (fail)
  rw [← HW.out, ← H1.out]
  go_wp2_with (first | ((with_reducible refine gate_dst (N := 7) rfl ?_); refine get9 rfl rfl g1 197 (b) (f) _ rfl HX.out.1 Tryd.underlying197 rfl (by kernel_rfl) ?_) | (go_at_call 155; (with_reducible refine (hT _).mono ?_); rintro e w2 ⟨rfl, hb2⟩; have HY := Aside0.mk (HX.out.2.trans (hb2.mono HX.out.2.size)); clear hb2))
  go_ret2
  exact ⟨rfl, HY.out.alloc HY.out.size _⟩
set_option maxHeartbeats 2000000 in
set_option maxRecDepth 100000 in
theorem number_neg (b : Bool) (f : Nat → Nat) (L : Int) (l0 : 9223372036854775808 ≤ L) (l1 : L ≤ 18446744073709551615) (hT : ∀ W, Calls Tryd.prog 155 #[.agg (bg b f)] W fun e w' => e = .returned (.tuple #[.agg #[.int .i64 (-1), .int .u64 L], .bool true]) ∧ Below W.heap.size W w') (w : World) : Calls Tryd.prog 131 #[.agg (bg b f)] w fun e w' => e = .returned (.tuple #[.int .i64 (L - 18446744073709551616), .bool true]) ∧ Below w.heap.size w w' := by
  obtain ⟨w1, hw1⟩ : ∃ w1, w1 = w.alloc (.cells (bg b f) 197) := ⟨_, rfl⟩
  have k1 : w1.heap[w.heap.size]? = some (.cells (bg b f) 197 (0, 0)) := by rw [hw1]; exact heap_alloc_new w _
  have hb1 : Below w.heap.size w w1 := by rw [hw1]; exact (Below.refl _ w).alloc (Nat.le_refl _) _
  obtain ⟨g1, hg1⟩ : ∃ g, g = w.heap.size := ⟨_, rfl⟩
  rw [← hg1] at k1
  have HX := Aside0.mk (And.intro k1 hb1)
  have HW := Lib.hid hw1
  have H1 := Lib.hid hg1
  clear hw1 k1 hb1 hg1
  have e5 := decide_eq_true l0
  have e6 : wrap64 L = L - 18446744073709551616 := by unfold wrap64; omega
  go_enter Tryd.func131, Tryd.ntmps131
  go_upto_region 1 with (fail)
  rw [← HW.out, ← H1.out]
  go_wp2_with (first | ((with_reducible refine gate_dst (N := 7) rfl ?_); refine get9 rfl rfl g1 197 (b) (f) _ rfl HX.out.1 Tryd.underlying197 rfl (by kernel_rfl) ?_) | (go_at_call 155; (with_reducible refine (hT _).mono ?_); rintro e w2 ⟨rfl, hb2⟩; have HY := Aside0.mk (HX.out.2.trans (hb2.mono HX.out.2.size)); clear hb2))
  go_ret2
  exact ⟨by rw [← e6]; rfl, HY.out.alloc HY.out.size _⟩
set_option maxHeartbeats 2000000 in
set_option maxRecDepth 100000 in
theorem number_low (b : Bool) (f : Nat → Nat) (L : Int) (l1 : L < 9223372036854775808) (hT : ∀ W, Calls Tryd.prog 155 #[.agg (bg b f)] W fun e w' => e = .returned (.tuple #[.agg #[.int .i64 (-1), .int .u64 L], .bool true]) ∧ Below W.heap.size W w') (w : World) : Calls Tryd.prog 131 #[.agg (bg b f)] w fun e w' => e = .returned (.tuple #[.int .i64 (0), .bool false]) ∧ Below w.heap.size w w' := by
  obtain ⟨w1, hw1⟩ : ∃ w1, w1 = w.alloc (.cells (bg b f) 197) := ⟨_, rfl⟩
  have k1 : w1.heap[w.heap.size]? = some (.cells (bg b f) 197 (0, 0)) := by rw [hw1]; exact heap_alloc_new w _
  have hb1 : Below w.heap.size w w1 := by rw [hw1]; exact (Below.refl _ w).alloc (Nat.le_refl _) _
  obtain ⟨g1, hg1⟩ : ∃ g, g = w.heap.size := ⟨_, rfl⟩
  rw [← hg1] at k1
  have HX := Aside0.mk (And.intro k1 hb1)
  have HW := Lib.hid hw1
  have H1 := Lib.hid hg1
  clear hw1 k1 hb1 hg1
  have e5 := decide_eq_false (show ¬ (9223372036854775808 ≤ L) by omega)
  go_enter Tryd.func131, Tryd.ntmps131
  go_upto_region 1 with (fail)
  rw [← HW.out, ← H1.out]
  go_wp2_with (first | ((with_reducible refine gate_dst (N := 7) rfl ?_); refine get9 rfl rfl g1 197 (b) (f) _ rfl HX.out.1 Tryd.underlying197 rfl (by kernel_rfl) ?_) | (go_at_call 155; (with_reducible refine (hT _).mono ?_); rintro e w2 ⟨rfl, hb2⟩; have HY := Aside0.mk (HX.out.2.trans (hb2.mono HX.out.2.size)); clear hb2))
  go_ret2
  exact ⟨rfl, HY.out.alloc HY.out.size _⟩
theorem number_calls (z : Int) (h0 : -170141183460469231731687303715884105728 ≤ z) (h1 : z < 170141183460469231731687303715884105728) (w : World) : Calls Tryd.prog 131 #[.agg (big z)] w fun e w' => e = .returned (if -9223372036854775808 ≤ z ∧ z ≤ 9223372036854775807 then .tuple #[.int .i64 z, .bool true] else .tuple #[.int .i64 0, .bool false]) ∧ Below w.heap.size w w' := by
  unfold big
  rcases Int.lt_or_le z 0 with hz | hz
  · obtain ⟨m, hm⟩ : ∃ m : Nat, z = -((m : Int) + 1) := ⟨(-z - 1).toNat, by omega⟩
    have e1 : z.natAbs = m + 1 := by omega
    rw [decide_eq_true hz, e1]
    have hT := fun W => to_true_ok m (by omega) W
    by_cases hs : m < 9223372036854775808
    · have hH : -1 - ((m / 18446744073709551616 : Nat) : Int) = -1 := by omega
      rw [if_pos (by omega)]
      simp only [hH] at hT
      have := number_neg true _ _ (by omega) (by omega) hT w
      rwa [show 18446744073709551615 - ((m % 18446744073709551616 : Nat) : Int) - 18446744073709551616 = z by omega] at this
    · rw [if_neg (by omega)]
      by_cases hq : m < 18446744073709551616
      · have hH : -1 - ((m / 18446744073709551616 : Nat) : Int) = -1 := by omega
        simp only [hH] at hT
        exact number_low true _ _ (by omega) hT w
      · exact number_hi true _ _ _ (by omega) (by omega) hT w
  · obtain ⟨m, hm⟩ : ∃ m : Nat, z = (m : Int) := ⟨z.toNat, by omega⟩
    have e1 : z.natAbs = m := by omega
    rw [decide_eq_false (show ¬ z < 0 by omega), e1]
    have hT := fun W => to_false_ok m (by omega) W
    by_cases hs : m < 9223372036854775808
    · have hH : ((m / 18446744073709551616 : Nat) : Int) = 0 := by omega
      rw [if_pos (by omega)]
      simp only [hH] at hT
      have := number_pos false _ _ (by omega) (by omega) hT w
      rwa [show ((m % 18446744073709551616 : Nat) : Int) = z by omega] at this
    · rw [if_neg (by omega)]
      by_cases hq : m < 18446744073709551616
      · have hH : ((m / 18446744073709551616 : Nat) : Int) = 0 := by omega
        simp only [hH] at hT
        exact number_big false _ _ (by omega) hT w
      · exact number_hi false _ _ _ (by omega) (by omega) hT w
theorem number_out (z : Int) (h0 : z < -170141183460469231731687303715884105728 ∨ 170141183460469231731687303715884105728 ≤ z) (h1 : z.natAbs < P 8 - 1) (w : World) : Calls Tryd.prog 131 #[.agg (big z)] w fun e w' => e = .returned (.tuple #[.int .i64 0, .bool false]) ∧ Below w.heap.size w w' := by
  unfold big
  rcases Int.lt_or_le z 0 with hz | hz
  · obtain ⟨m, hm⟩ : ∃ m : Nat, z = -((m : Int) + 1) := ⟨(-z - 1).toNat, by omega⟩
    have e1 : z.natAbs = m + 1 := by omega
    rw [decide_eq_true hz, e1]
    exact number_no true _ (fun W => to_true_no m (by omega) W) w
  · obtain ⟨m, hm⟩ : ∃ m : Nat, z = (m : Int) := ⟨z.toNat, by omega⟩
    have e1 : z.natAbs = m := by omega
    rw [decide_eq_false (show ¬ z < 0 by omega), e1]
    exact number_no false _ (fun W => to_false_no m (by omega) W) w
end Go.Proofs.YtpihgdehgkclmaaDoor.Big
