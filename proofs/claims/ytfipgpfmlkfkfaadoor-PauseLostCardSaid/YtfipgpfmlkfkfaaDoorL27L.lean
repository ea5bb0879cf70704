/-
  The law PauseLost, walked.
-/
import Derived.Test.YtfipgpfmlkfkfaaDoorL27
namespace Go.Proofs.YtfipgpfmlkfkfaaDoor
open Go.RowKit
set_option linter.unusedVariables false
set_option linter.unusedSimpArgs false
set_option maxRecDepth 100000
attribute [local go_sem] cell_past frozen_past lo_ne lo_ne'

set_option maxHeartbeats 1000000 in
theorem PauseLost_bad (p0 : Bool) (p1 p2 t y0 y1 : Int) (w0 w : World) (hs : St w0 w)
    (ht1 : -2147483648 ≤ t)
    (ht2 : t ≤ 2147483647)
    (hy0 : 0 ≤ y0)
    (hy1 : y0 ≤ 4294967295)
    (hz0 : 0 ≤ y1)
    (hz1 : y1 ≤ 4294967295)
    (HC : Hid (∀ w, Calls Tryd.prog 47 #[.agg #[.bool p0, .int .i64 p1, .int .i64 p2]] w fun e w' => e = .returned (.iface 115 (.int .i64 1)) ∧ Below w.heap.size w w')) :
    Calls Tryd.prog 12 #[.agg #[.bool p0, .int .i64 p1, .int .i64 p2], .int .i32 t, .agg #[.int .u32 y0, .int .u32 y1]] w fun e w' => e = .returned (.bool true) ∧ St w0 w' := by
  all_goals
    go_enter Tryd.func12, Tryd.ntmps12
    go_wp2_with (first
      | (go_at_call 47; (with_reducible refine (HC.out _).mono ?_); rintro e w' ⟨rfl, hb1⟩; have hc1 := bcell hb1; have hf1 := bfrozen hb1; have hz1 := blo hb1)
      | (go_at_call 49; (with_reducible refine (sure27 w0 _ (by repeat (first | assumption | with_reducible apply St.drewN | with_reducible apply St.drew | with_reducible apply St.alloc | with_reducible refine St.step ?_ (by assumption) | with_reducible refine St.setCell ?_ (by simp <;> omega) _))).mono ?_); rintro e w' ⟨rfl, hb1⟩; have hc1 := bcell hb1; have hf1 := bfrozen hb1; have hz1 := blo hb1))
    go_ret
    exact ⟨by simp, by repeat (first | assumption | with_reducible apply St.drewN | with_reducible apply St.drew | with_reducible apply St.alloc | with_reducible refine St.step ?_ (by assumption) | with_reducible refine St.setCell ?_ (by simp <;> omega) _)⟩
set_option maxHeartbeats 1000000 in
theorem PauseLost_on (p1 p2 t y0 y1 : Int) (w0 w : World) (hs : St w0 w)
    (ht1 : -2147483648 ≤ t)
    (ht2 : t ≤ 2147483647)
    (hy0 : 0 ≤ y0)
    (hy1 : y0 ≤ 4294967295)
    (hz0 : 0 ≤ y1)
    (hz1 : y1 ≤ 4294967295)
    (HC : Hid (∀ w, Calls Tryd.prog 47 #[.agg #[.bool true, .int .i64 p1, .int .i64 p2]] w fun e w' => e = .returned (.nilIface) ∧ Below w.heap.size w w')) :
    Calls Tryd.prog 12 #[.agg #[.bool true, .int .i64 p1, .int .i64 p2], .int .i32 t, .agg #[.int .u32 y0, .int .u32 y1]] w fun e w' => e = .returned (.bool true) ∧ St w0 w' := by
  all_goals
    go_enter Tryd.func12, Tryd.ntmps12
    go_wp2_with (first
      | (go_at_call 47; (with_reducible refine (HC.out _).mono ?_); rintro e w' ⟨rfl, hb1⟩; have hc1 := bcell hb1; have hf1 := bfrozen hb1; have hz1 := blo hb1)
      | (go_at_call 49; (with_reducible refine (sure27 w0 _ (by repeat (first | assumption | with_reducible apply St.drewN | with_reducible apply St.drew | with_reducible apply St.alloc | with_reducible refine St.step ?_ (by assumption) | with_reducible refine St.setCell ?_ (by simp <;> omega) _))).mono ?_); rintro e w' ⟨rfl, hb1⟩; have hc1 := bcell hb1; have hf1 := bfrozen hb1; have hz1 := blo hb1))
    go_ret
    exact ⟨by simp, by repeat (first | assumption | with_reducible apply St.drewN | with_reducible apply St.drew | with_reducible apply St.alloc | with_reducible refine St.step ?_ (by assumption) | with_reducible refine St.setCell ?_ (by simp <;> omega) _)⟩
set_option maxHeartbeats 1000000 in
theorem PauseLost_much (p1 p2 t y0 y1 : Int) (w0 w : World) (hs : St w0 w)
    (ht1 : -2147483648 ≤ t)
    (ht2 : t ≤ 2147483647)
    (hy0 : 0 ≤ y0)
    (hy1 : y0 ≤ 4294967295)
    (hz0 : 0 ≤ y1)
    (hz1 : y1 ≤ 4294967295)
    (hm : 1152921504606846976 < p2)
    (HC : Hid (∀ w, Calls Tryd.prog 47 #[.agg #[.bool false, .int .i64 p1, .int .i64 p2]] w fun e w' => e = .returned (.nilIface) ∧ Below w.heap.size w w')) :
    Calls Tryd.prog 12 #[.agg #[.bool false, .int .i64 p1, .int .i64 p2], .int .i32 t, .agg #[.int .u32 y0, .int .u32 y1]] w fun e w' => e = .returned (.bool true) ∧ St w0 w' := by
  all_goals
    go_enter Tryd.func12, Tryd.ntmps12
    go_wp2_with (first
      | (go_at_call 47; (with_reducible refine (HC.out _).mono ?_); rintro e w' ⟨rfl, hb1⟩; have hc1 := bcell hb1; have hf1 := bfrozen hb1; have hz1 := blo hb1)
      | (go_at_call 49; (with_reducible refine (sure27 w0 _ (by repeat (first | assumption | with_reducible apply St.drewN | with_reducible apply St.drew | with_reducible apply St.alloc | with_reducible refine St.step ?_ (by assumption) | with_reducible refine St.setCell ?_ (by simp <;> omega) _))).mono ?_); rintro e w' ⟨rfl, hb1⟩; have hc1 := bcell hb1; have hf1 := bfrozen hb1; have hz1 := blo hb1))
    go_ret
    exact ⟨by simp, by repeat (first | assumption | with_reducible apply St.drewN | with_reducible apply St.drew | with_reducible apply St.alloc | with_reducible refine St.step ?_ (by assumption) | with_reducible refine St.setCell ?_ (by simp <;> omega) _)⟩
set_option maxHeartbeats 2000000 in
theorem PauseLost_ok (p2 t y0 y1 u v : Int) (w0 w : World) (hs : St w0 w)
    (ht1 : -2147483648 ≤ t)
    (ht2 : t ≤ 2147483647)
    (hy0 : 0 ≤ y0)
    (hy1 : y0 ≤ 4294967295)
    (hz0 : 0 ≤ y1)
    (hz1 : y1 ≤ 4294967295)
    (hm0 : 0 ≤ p2)
    (hm : p2 ≤ 1152921504606846976)
    (hv : wrap64 (u - y0) = v)
    (HC : Hid (∀ w, Calls Tryd.prog 47 #[.agg #[.bool false, .int .i64 0, .int .i64 p2]] w fun e w' => e = .returned (.nilIface) ∧ Below w.heap.size w w'))
    (H1 : Hid (∀ w, Calls Tryd.prog 40 #[.agg #[.bool false, .int .i64 0, .int .i64 p2], .int .i64 t] w fun e w' => e = .returned (.tuple #[.agg #[.bool true, .int .i64 t, .int .i64 p2], .nilIface]) ∧ Below w.heap.size w w'))
    (H2 : Hid (∀ w, Calls Tryd.prog 42 #[.agg #[.bool true, .int .i64 t, .int .i64 p2], .int .i64 (t + y0), .bool false] w fun e w' => e = .returned (.tuple #[.agg #[.bool false, .int .i64 0, .int .i64 (p2 + y0)], .nilIface]) ∧ Below w.heap.size w w'))
    (H3 : Hid (∀ w, Calls Tryd.prog 42 #[.agg #[.bool true, .int .i64 t, .int .i64 p2], .int .i64 (t + y0), .bool true] w fun e w' => e = .returned (.tuple #[.agg #[.bool false, .int .i64 0, .int .i64 p2], .nilIface]) ∧ Below w.heap.size w w'))
    (H4 : Hid (∀ w, Calls Tryd.prog 44 #[.agg #[.bool false, .int .i64 0, .int .i64 (p2 + y0)], .int .i64 (t + y0 + y1)] w fun e w' => e = .returned (.tuple #[.int .i64 v, .nilIface]) ∧ Below w.heap.size w w'))
    (H5 : Hid (∀ w, Calls Tryd.prog 44 #[.agg #[.bool false, .int .i64 0, .int .i64 p2], .int .i64 (t + y0 + y1)] w fun e w' => e = .returned (.tuple #[.int .i64 u, .nilIface]) ∧ Below w.heap.size w w')) :
    Calls Tryd.prog 12 #[.agg #[.bool false, .int .i64 0, .int .i64 p2], .int .i32 t, .agg #[.int .u32 y0, .int .u32 y1]] w fun e w' => e = .returned (.bool true) ∧ St w0 w' := by
  all_goals
    go_enter Tryd.func12, Tryd.ntmps12
    go_wp2_with (first
      | (go_at_call 47; (with_reducible refine (HC.out _).mono ?_); rintro e w' ⟨rfl, hb1⟩; have hc1 := bcell hb1; have hf1 := bfrozen hb1; have hz1 := blo hb1)
      | (go_at_call 40; (with_reducible refine (H1.out _).mono ?_); rintro e w' ⟨rfl, hb1⟩; have hc1 := bcell hb1; have hf1 := bfrozen hb1; have hz1 := blo hb1)
      | (go_at_call 42; (with_reducible refine (H2.out _).mono ?_); rintro e w' ⟨rfl, hb1⟩; have hc1 := bcell hb1; have hf1 := bfrozen hb1; have hz1 := blo hb1)
      | (go_at_call 42; (with_reducible refine (H3.out _).mono ?_); rintro e w' ⟨rfl, hb1⟩; have hc1 := bcell hb1; have hf1 := bfrozen hb1; have hz1 := blo hb1)
      | (go_at_call 44; (with_reducible refine (H4.out _).mono ?_); rintro e w' ⟨rfl, hb1⟩; have hc1 := bcell hb1; have hf1 := bfrozen hb1; have hz1 := blo hb1)
      | (go_at_call 44; (with_reducible refine (H5.out _).mono ?_); rintro e w' ⟨rfl, hb1⟩; have hc1 := bcell hb1; have hf1 := bfrozen hb1; have hz1 := blo hb1)
      | (go_at_call 49; (with_reducible refine (sure27 w0 _ (by repeat (first | assumption | with_reducible apply St.drewN | with_reducible apply St.drew | with_reducible apply St.alloc | with_reducible refine St.step ?_ (by assumption) | with_reducible refine St.setCell ?_ (by simp <;> omega) _))).mono ?_); rintro e w' ⟨rfl, hb1⟩; have hc1 := bcell hb1; have hf1 := bfrozen hb1; have hz1 := blo hb1))
    go_ret
    exact ⟨by simp, by repeat (first | assumption | with_reducible apply St.drewN | with_reducible apply St.drew | with_reducible apply St.alloc | with_reducible refine St.step ?_ (by assumption) | with_reducible refine St.setCell ?_ (by simp <;> omega) _)⟩

theorem PauseLost_walk (p0 : Bool) (p1 p2 t y0 y1 : Int) (h1 : R64 p1) (h2 : R64 p2) (ht : -2147483648 ≤ t ∧ t ≤ 2147483647) (hy : 0 ≤ y0 ∧ y0 ≤ 4294967295) (hz : 0 ≤ y1 ∧ y1 ≤ 4294967295) (w0 w : World) (hs : St w0 w) :
    Calls Tryd.prog 12 #[.agg #[.bool p0, .int .i64 p1, .int .i64 p2], .int .i32 t, .agg #[.int .u32 y0, .int .u32 y1]] w fun e w' => e = .returned (.bool true) ∧ St w0 w' := by
  have HC := fun w => PPauseTells.pause_Check.calls p0 p1 p2 _ w (PPauseTells.check_eq p0 p1 p2 h1)
  cases h : PPauseTells.okB p0 p1 p2
  · rw [h] at HC
    exact PauseLost_bad p0 p1 p2 t y0 y1 w0 w hs ht.1 ht.2 hy.1 hy.2 hz.1 hz.2 HC
  rw [h] at HC
  have hk := PPauseTells.okB_of h
  cases p0
  · by_cases hm : 1152921504606846976 < p2
    · exact PauseLost_much p1 p2 t y0 y1 w0 w hs ht.1 ht.2 hy.1 hy.2 hz.1 hz.2 hm HC
    have hp1 : p1 = 0 := by unfold PPauseTells.okB at h; simp at h; omega
    subst hp1
    have ok1 : ∀ b q r, -4611686018427387904 < q → q < 4611686018427387904 → (b = true ∨ q = 0) → 0 ≤ r → r ≤ 2305843009213693952 → PPauseTells.okB b q r = true := by
      intro b q r g1 g2 g3 g4 g5
      unfold PPauseTells.okB PPauseTells.tB; rcases g3 with rfl | rfl <;> simp <;> omega
    have tb : ∀ q, -4611686018427387904 < q → q < 4611686018427387904 → PPauseTells.tB q = true := by
      intro q g1 g2; unfold PPauseTells.tB; simp; omega
    have e1 : PPauseTells.stopR false 0 p2 t = (true, t, p2, none) := by
      unfold PPauseTells.stopR; rw [h, tb t (by omega) (by omega)]; simp
    have e2 : PPauseTells.goR true t p2 (t + y0) false = (false, 0, p2 + y0, none) := by
      unfold PPauseTells.goR; rw [ok1 true t p2 (by omega) (by omega) (.inl rfl) (by omega) (by omega), tb (t + y0) (by omega) (by omega)]
      simp [show ¬ (t + y0 < t) by omega, show ¬ (y0 < 0) by omega, show t + y0 - t = y0 by omega, show ¬ (2305843009213693952 < p2 + y0) by omega]
    have e3 : PPauseTells.goR true t p2 (t + y0) true = (false, 0, p2, none) := by
      unfold PPauseTells.goR; rw [ok1 true t p2 (by omega) (by omega) (.inl rfl) (by omega) (by omega), tb (t + y0) (by omega) (by omega)]
      simp [show ¬ (t + y0 < t) by omega, show ¬ (y0 < 0) by omega]
    have e4 : PPauseTells.viewR false 0 (p2 + y0) (t + y0 + y1) = (t + y0 + y1 - (p2 + y0), none) := by
      unfold PPauseTells.viewR; rw [ok1 false 0 (p2 + y0) (by omega) (by omega) (.inr rfl) (by omega) (by omega), tb (t + y0 + y1) (by omega) (by omega)]
      simp [tb (t + y0 + y1 - (p2 + y0)) (by omega) (by omega)]
    have e5 : PPauseTells.viewR false 0 p2 (t + y0 + y1) = (t + y0 + y1 - p2, none) := by
      unfold PPauseTells.viewR; rw [h, tb (t + y0 + y1) (by omega) (by omega)]
      simp [tb (t + y0 + y1 - p2) (by omega) (by omega)]
    have r0 : ∀ q, -4611686018427387904 < q → q < 4611686018427387904 → R64 q := by intro q g1 g2; unfold R64; omega
    exact PauseLost_ok p2 t y0 y1 _ _ w0 w hs ht.1 ht.2 hy.1 hy.2 hz.1 hz.2 (by omega) (by omega) ((R64.wrap (by unfold R64; omega)).trans (show t + y0 + y1 - p2 - y0 = t + y0 + y1 - (p2 + y0) by omega)) HC
      (fun w => by have := PPauseTells.pause_Stop.calls false 0 p2 t _ _ _ _ w (by rw [PPauseTells.stop_eq false 0 p2 t h1 (r0 t (by omega) (by omega)), e1]); simpa only [PPauseTells.errW] using this)
      (fun w => by have := PPauseTells.pause_Go.calls true t p2 (t + y0) false _ _ _ _ w (by rw [PPauseTells.go_eq true t p2 (t + y0) false (r0 t (by omega) (by omega)) (r0 _ (by omega) (by omega)), e2]); simpa only [PPauseTells.errW] using this)
      (fun w => by have := PPauseTells.pause_Go.calls true t p2 (t + y0) true _ _ _ _ w (by rw [PPauseTells.go_eq true t p2 (t + y0) true (r0 t (by omega) (by omega)) (r0 _ (by omega) (by omega)), e3]); simpa only [PPauseTells.errW] using this)
      (fun w => by have := PPauseTells.pause_View.calls 1 false 0 (p2 + y0) (t + y0 + y1) _ _ w (by rw [PPauseTells.view_eq false 0 (p2 + y0) (t + y0 + y1) h1 (r0 _ (by omega) (by omega)), e4]); simpa only [PPauseTells.errW] using this)
      (fun w => by have := PPauseTells.pause_View.calls 1 false 0 p2 (t + y0 + y1) _ _ w (by rw [PPauseTells.view_eq false 0 p2 (t + y0 + y1) h1 (r0 _ (by omega) (by omega)), e5]); simpa only [PPauseTells.errW] using this)
  · exact PauseLost_on p1 p2 t y0 y1 w0 w hs ht.1 ht.2 hy.1 hy.2 hz.1 hz.2 HC

end Go.Proofs.YtfipgpfmlkfkfaaDoor
