/-
  What the functions of package num, and those of its reference, answer.
-/
import Derived.Test.YtiljnlhmeolhfaaDoorMath
import Derived.Deep.Draws
import Derived.Deep.QuietTactic
import Derived.BigQuiet
import Derived.WalkLawsBesides
import Derived.Lib.Hide
namespace Go.Proofs.YtiljnlhmeolhfaaDoor
open Go.RowKit
set_option linter.unusedVariables false
set_option linter.unusedSimpArgs false
set_option maxRecDepth 100000

theorem add_ok (a b : Int) (w : World) (ha : R64 a) (hb : R64 b) (h : R64 (a + b)) :
    Calls Tryd.prog 41 #[.int .i64 a, .int .i64 b] w fun e w' => e = .returned (.tuple #[.int .i64 (a + b), .nilIface]) ∧ w = w' := by
  have hw := h.wrap
  have c1 : ((decide (a + b < a)) == (decide (b < 0))) = true := by
    by_cases hb0 : b < 0
    · simp [hb0]; omega
    · simp [hb0]; omega
  clear ha hb h
  go_enter Tryd.func41, Tryd.ntmps41
  go_wp2
  go_ret2
  exact ⟨by simp [*], rfl⟩
theorem add_bad (a b : Int) (w : World) (ha : R64 a) (hb : R64 b) (h : ¬ R64 (a + b)) :
    Calls Tryd.prog 41 #[.int .i64 a, .int .i64 b] w fun e w' => e = .returned (.tuple #[.int .i64 0, .iface 75 (.int .i64 2)]) ∧ w = w' := by
  have c1 : ((decide (wrap64 (a + b) < a)) == (decide (b < 0))) = false := by
    unfold R64 at *
    by_cases hb0 : b < 0
    · have : ¬ wrap64 (a + b) < a := by unfold wrap64; omega
      simp [hb0, this]
    · have : wrap64 (a + b) < a := by unfold wrap64; omega
      simp [hb0, this]
  clear ha hb h
  have hu23 := Tryd.underlying23
  have hu75 := Tryd.underlying75
  go_enter Tryd.func41, Tryd.ntmps41
  go_wp2
  go_ret2
  exact ⟨rfl, rfl⟩
theorem sub_ok (a b : Int) (w : World) (ha : R64 a) (hb : R64 b) (h : R64 (a - b)) :
    Calls Tryd.prog 42 #[.int .i64 a, .int .i64 b] w fun e w' => e = .returned (.tuple #[.int .i64 (a - b), .nilIface]) ∧ w = w' := by
  have hw := h.wrap
  have c1 : ((decide (a < a - b)) == (decide (b < 0))) = true := by
    by_cases hb0 : b < 0
    · simp [hb0]; omega
    · simp [hb0]; omega
  clear ha hb h
  go_enter Tryd.func42, Tryd.ntmps42
  go_wp2
  go_ret2
  exact ⟨by simp [*], rfl⟩
theorem sub_bad (a b : Int) (w : World) (ha : R64 a) (hb : R64 b) (h : ¬ R64 (a - b)) :
    Calls Tryd.prog 42 #[.int .i64 a, .int .i64 b] w fun e w' => e = .returned (.tuple #[.int .i64 0, .iface 75 (.int .i64 2)]) ∧ w = w' := by
  have c1 : ((decide (a < wrap64 (a - b))) == (decide (b < 0))) = false := by
    unfold R64 at *
    by_cases hb0 : b < 0
    · have : ¬ a < wrap64 (a - b) := by unfold wrap64; omega
      simp [hb0, this]
    · have : a < wrap64 (a - b) := by unfold wrap64; omega
      simp [hb0, this]
  clear ha hb h
  have hu23 := Tryd.underlying23
  have hu75 := Tryd.underlying75
  go_enter Tryd.func42, Tryd.ntmps42
  go_wp2
  go_ret2
  exact ⟨rfl, rfl⟩
theorem edge_true (w : World) :
    Calls Tryd.prog 63 #[.bool true] w fun e w' => e = .returned (.int .i64 (-9223372036854775808)) ∧ w = w' := by
  go_enter Tryd.func63, Tryd.ntmps63
  go_wp2
  go_ret
  exact ⟨rfl, rfl⟩
theorem edge_false (w : World) :
    Calls Tryd.prog 63 #[.bool false] w fun e w' => e = .returned (.int .i64 9223372036854775807) ∧ w = w' := by
  go_enter Tryd.func63, Tryd.ntmps63
  go_wp2
  go_ret
  exact ⟨rfl, rfl⟩
theorem addsat_any (a b : Int) (w : World) (ha : R64 a) (hb : R64 b) :
    Calls Tryd.prog 49 #[.int .i64 a, .int .i64 b] w fun e w' => e = .returned (.int .i64 (sat (a + b))) ∧ w = w' := by
  by_cases h : R64 (a + b)
  · rw [sat_of h]
    have hc := fun w => add_ok a b w ha hb h
    have HC := Lib.hid hc
    clear hc ha hb h
    go_enter Tryd.func49, Tryd.ntmps49
    go_wp2_with (go_at_call 41; refine (HC.out _).mono ?_; rintro e w' ⟨rfl, rfl⟩)
    go_ret
    exact ⟨rfl, rfl⟩
  · by_cases hb0 : b < 0
    · have hd : decide (b < 0) = true := decide_eq_true hb0
      have hs : sat (a + b) = -9223372036854775808 := by unfold R64 at *; unfold sat; (repeat' split) <;> omega
      rw [hs]
      have hc := fun w => add_bad a b w ha hb h
      have HC := Lib.hid hc
      clear hc ha hb h hs hb0
      go_enter Tryd.func49, Tryd.ntmps49
      go_wp2_with (first | (go_at_call 41; refine (HC.out _).mono ?_; rintro e w' ⟨rfl, rfl⟩) | (go_at_call 63; refine (edge_true _).mono ?_; rintro e w' ⟨rfl, rfl⟩))
      go_ret
      exact ⟨rfl, rfl⟩
    · have hd : decide (b < 0) = false := decide_eq_false hb0
      have hs : sat (a + b) = 9223372036854775807 := by unfold R64 at *; unfold sat; (repeat' split) <;> omega
      rw [hs]
      have hc := fun w => add_bad a b w ha hb h
      have HC := Lib.hid hc
      clear hc ha hb h hs hb0
      go_enter Tryd.func49, Tryd.ntmps49
      go_wp2_with (first | (go_at_call 41; refine (HC.out _).mono ?_; rintro e w' ⟨rfl, rfl⟩) | (go_at_call 63; refine (edge_false _).mono ?_; rintro e w' ⟨rfl, rfl⟩))
      go_ret
      exact ⟨rfl, rfl⟩
theorem subsat_any (a b : Int) (w : World) (ha : R64 a) (hb : R64 b) :
    Calls Tryd.prog 50 #[.int .i64 a, .int .i64 b] w fun e w' => e = .returned (.int .i64 (sat (a - b))) ∧ w = w' := by
  by_cases h : R64 (a - b)
  · rw [sat_of h]
    have hc := fun w => sub_ok a b w ha hb h
    have HC := Lib.hid hc
    clear hc ha hb h
    go_enter Tryd.func50, Tryd.ntmps50
    go_wp2_with (go_at_call 42; refine (HC.out _).mono ?_; rintro e w' ⟨rfl, rfl⟩)
    go_ret
    exact ⟨rfl, rfl⟩
  · by_cases hb0 : 0 < b
    · have hd : decide (0 < b) = true := decide_eq_true hb0
      have hs : sat (a - b) = -9223372036854775808 := by unfold R64 at *; unfold sat; (repeat' split) <;> omega
      rw [hs]
      have hc := fun w => sub_bad a b w ha hb h
      have HC := Lib.hid hc
      clear hc ha hb h hs hb0
      go_enter Tryd.func50, Tryd.ntmps50
      go_wp2_with (first | (go_at_call 42; refine (HC.out _).mono ?_; rintro e w' ⟨rfl, rfl⟩) | (go_at_call 63; refine (edge_true _).mono ?_; rintro e w' ⟨rfl, rfl⟩))
      go_ret
      exact ⟨rfl, rfl⟩
    · have hd : decide (0 < b) = false := decide_eq_false hb0
      have hs : sat (a - b) = 9223372036854775807 := by unfold R64 at *; unfold sat; (repeat' split) <;> omega
      rw [hs]
      have hc := fun w => sub_bad a b w ha hb h
      have HC := Lib.hid hc
      clear hc ha hb h hs hb0
      go_enter Tryd.func50, Tryd.ntmps50
      go_wp2_with (first | (go_at_call 42; refine (HC.out _).mono ?_; rintro e w' ⟨rfl, rfl⟩) | (go_at_call 63; refine (edge_false _).mono ?_; rintro e w' ⟨rfl, rfl⟩))
      go_ret
      exact ⟨rfl, rfl⟩
theorem div_bad (a b : Int) (w : World) (h : b < 1) :
    Calls Tryd.prog 53 #[.int .i64 a, .int .i64 b] w fun e w' => e = .returned (.tuple #[.int .i64 0, .int .i64 0, .iface 75 (.int .i64 1)]) ∧ w = w' := by
  have hu23 := Tryd.underlying23
  have hu75 := Tryd.underlying75
  go_enter Tryd.func53, Tryd.ntmps53
  go_wp2
  go_ret3
  exact ⟨rfl, rfl⟩
theorem div_ok (a b : Int) (w : World) (ha : R64 a) (hb : R64 b) (h : 1 ≤ b) :
    Calls Tryd.prog 53 #[.int .i64 a, .int .i64 b] w fun e w' => e = .returned (.tuple #[.int .i64 (a / b), .int .i64 (a % b), .nilIface]) ∧ ∃ n, w' = w.drewN n := by
  have hb0 : (b == 0) = false := beq_eq_false_iff_ne.mpr (by omega)
  have hr0 := Int.emod_nonneg a (show b ≠ 0 by omega)
  have hr1 := Int.emod_lt_of_pos a (show 0 < b by omega)
  have hq := div_bounds ha h
  have ht := (tdiv_range ha h).wrap
  rcases Int.lt_or_le a 0 with h0 | h0
  · have e1 := tdiv_neg h0 h
    have e2 := tmod_neg h0 h
    by_cases hz : a % b = 0
    · rw [if_pos hz, Int.add_zero] at e1
      rw [if_pos hz, Int.sub_zero, hz] at e2
      have hlt : 0 ≤ Int.tmod a b := by omega
      have E : wrap64 (Int.tdiv a b) = a / b ∧ Int.tmod a b = a % b := ⟨ht.trans e1, by omega⟩
      have HE := Lib.hid E
      clear E e1 e2 ht hr0 hr1 hq ha hb hz
      go_enter Tryd.func53, Tryd.ntmps53
      go_wp2
      go_quiet (fail)
      go_wp2
      go_ret3
      exact ⟨by simp [HE.out.1, HE.out.2], _, rfl⟩
    · rw [if_neg hz] at e1 e2
      have hlt : Int.tmod a b < 0 := by omega
      have e3 : wrap64 (wrap64 (Int.tdiv a b) - 1) = a / b := by rw [ht, e1]; rw [R64.wrap] <;> simp; exact hq.1
      have e4 : wrap64 (Int.tmod a b + b) = a % b := by rw [e2, R64.wrap] <;> first | omega | (unfold R64 at *; omega)
      have HE := Lib.hid (And.intro e3 e4)
      clear e1 e2 e3 e4 ht hr0 hr1 hq ha hb hz
      go_enter Tryd.func53, Tryd.ntmps53
      go_wp2
      go_quiet (fail)
      go_wp2
      go_ret3
      exact ⟨by simp [HE.out.1, HE.out.2], _, rfl⟩
  · have e1 := ht.trans (tdiv_of_nonneg (b := b) h0)
    have HE := Lib.hid e1
    clear hq ha hb ht e1
    go_enter Tryd.func53, Tryd.ntmps53
    go_wp2
    go_quiet (fail)
    go_wp2
    go_ret3
    exact ⟨by simp [HE.out], _, rfl⟩
theorem ceil_bad (a b : Int) (w : World) (h : b < 1) :
    Calls Tryd.prog 54 #[.int .i64 a, .int .i64 b] w fun e w' => e = .returned (.tuple #[.int .i64 0, .iface 75 (.int .i64 1)]) ∧ w = w' := by
  have hu23 := Tryd.underlying23
  have hu75 := Tryd.underlying75
  go_enter Tryd.func54, Tryd.ntmps54
  go_wp2_with (go_at_call 53; refine (div_bad _ _ _ h).mono ?_; rintro e w' ⟨rfl, rfl⟩)
  go_ret2
  exact ⟨rfl, rfl⟩
theorem ceil_ok (a b : Int) (w : World) (ha : R64 a) (hb : R64 b) (h : 1 ≤ b) :
    Calls Tryd.prog 54 #[.int .i64 a, .int .i64 b] w fun e w' => e = .returned (.tuple #[.int .i64 (ceilD a b), .nilIface]) ∧ ∃ n, w' = w.drewN n := by
  have hc := fun w => div_ok a b w ha hb h
  have HC := Lib.hid hc
  have hr := ceil_range ha h
  unfold ceilD at *
  by_cases hz : 0 < a % b
  · rw [if_pos hz] at *
    have hw := hr.wrap
    clear hc hr ha hb
    go_enter Tryd.func54, Tryd.ntmps54
    go_wp2_with (go_at_call 53; refine (HC.out _).mono ?_; rintro e w' ⟨rfl, nq, rfl⟩)
    go_ret2
    exact ⟨by simp [*], _, rfl⟩
  · rw [if_neg hz, Int.add_zero] at *
    clear hc hr ha hb
    go_enter Tryd.func54, Tryd.ntmps54
    go_wp2_with (go_at_call 53; refine (HC.out _).mono ?_; rintro e w' ⟨rfl, nq, rfl⟩)
    go_ret2
    exact ⟨by simp [*], _, rfl⟩
theorem mul_zero (a b : Int) (w : World) (h : a = 0 ∨ b = 0) :
    Calls Tryd.prog 43 #[.int .i64 a, .int .i64 b] w fun e w' => e = .returned (.tuple #[.int .i64 0, .nilIface]) ∧ w = w' := by
  by_cases ha : a = 0
  · have c1 : (a == 0) = true := beq_iff_eq.mpr ha
    clear ha h
    go_enter Tryd.func43, Tryd.ntmps43
    go_wp2
    go_ret2
    exact ⟨rfl, rfl⟩
  · have c1 : (a == 0) = false := beq_eq_false_iff_ne.mpr ha
    have c2 : (b == 0) = true := beq_iff_eq.mpr (h.resolve_left ha)
    clear ha h
    go_enter Tryd.func43, Tryd.ntmps43
    go_wp2
    go_ret2
    exact ⟨rfl, rfl⟩
theorem mul_ok (a b : Int) (w : World) (ha : R64 a) (hb : R64 b) (h : R64 (a * b)) :
    Calls Tryd.prog 43 #[.int .i64 a, .int .i64 b] w fun e w' => e = .returned (.tuple #[.int .i64 (a * b), .nilIface]) ∧ w = w' := by
  by_cases ha0 : a = 0
  · have := mul_zero a b w (Or.inl ha0); rw [ha0] at *; rw [Int.zero_mul]; exact this
  by_cases hb0 : b = 0
  · have := mul_zero a b w (Or.inr hb0); rw [hb0] at *; rw [Int.mul_zero]; exact this
  have c1 : (a == 0) = false := beq_eq_false_iff_ne.mpr ha0
  have c2 : (b == 0) = false := beq_eq_false_iff_ne.mpr hb0
  have e1 : wrap64 (a * b) = a * b := h.wrap
  have e2 : wrap64 (Int.tdiv (a * b) b) = a := by rw [Int.mul_tdiv_cancel a hb0]; exact ha.wrap
  have n1 : ¬ (a = -1 ∧ b = -9223372036854775808) := by
    intro ⟨h1, h2⟩; rw [h1, h2] at h; revert h; decide +kernel
  have n2 : ¬ (b = -1 ∧ a = -9223372036854775808) := by
    intro ⟨h1, h2⟩; rw [h1, h2] at h; revert h; decide +kernel
  have e3 : (wrap64 a != a) = false := by rw [ha.wrap]; simp
  have d1 : a = -1 → (b == -9223372036854775808) = false := fun h1 => beq_eq_false_iff_ne.mpr fun h2 => n1 ⟨h1, h2⟩
  have d2 : b = -1 → (a == -9223372036854775808) = false := fun h1 => beq_eq_false_iff_ne.mpr fun h2 => n2 ⟨h1, h2⟩
  have hbn : ¬ b = 0 := hb0
  clear n1 n2 ha hb h ha0 hb0
  by_cases y1 : a = -1
  · have x1 : (a == -1) = true := beq_iff_eq.mpr y1
    have x2 := d1 y1
    by_cases y3 : b = -1
    · have x3 : (b == -1) = true := beq_iff_eq.mpr y3
      have x4 := d2 y3
      clear d1 d2 y1 y3
      go_enter Tryd.func43, Tryd.ntmps43
      go_wp2
      go_ret2
      exact ⟨by first | rfl | (simp [*]; done), rfl⟩
    · have x3 : (b == -1) = false := beq_eq_false_iff_ne.mpr y3
      clear d1 d2 y1 y3
      go_enter Tryd.func43, Tryd.ntmps43
      go_wp2
      go_ret2
      exact ⟨by first | rfl | (simp [*]; done), rfl⟩
  · have x1 : (a == -1) = false := beq_eq_false_iff_ne.mpr y1
    by_cases y3 : b = -1
    · have x3 : (b == -1) = true := beq_iff_eq.mpr y3
      have x4 := d2 y3
      clear d1 d2 y1 y3
      go_enter Tryd.func43, Tryd.ntmps43
      go_wp2
      go_ret2
      exact ⟨by first | rfl | (simp [*]; done), rfl⟩
    · have x3 : (b == -1) = false := beq_eq_false_iff_ne.mpr y3
      clear d1 d2 y1 y3
      go_enter Tryd.func43, Tryd.ntmps43
      go_wp2
      go_ret2
      exact ⟨by first | rfl | (simp [*]; done), rfl⟩
theorem mul_bad (a b : Int) (w : World) (ha : R64 a) (hb : R64 b) (h : ¬ R64 (a * b)) :
    Calls Tryd.prog 43 #[.int .i64 a, .int .i64 b] w fun e w' => e = .returned (.tuple #[.int .i64 0, .iface 75 (.int .i64 2)]) ∧ w = w' := by
  have ha0 : a ≠ 0 := by rintro rfl; apply h; rw [Int.zero_mul]; unfold R64; omega
  have hb0 : b ≠ 0 := by rintro rfl; apply h; rw [Int.mul_zero]; unfold R64; omega
  have c1 : (a == 0) = false := beq_eq_false_iff_ne.mpr ha0
  have c2 : (b == 0) = false := beq_eq_false_iff_ne.mpr hb0
  have hu23 := Tryd.underlying23
  have hu75 := Tryd.underlying75
  by_cases s1 : b = -1 ∧ a = -9223372036854775808
  · have x3 : (b == -1) = true := beq_iff_eq.mpr s1.1
    have x4 : (a == -9223372036854775808) = true := beq_iff_eq.mpr s1.2
    have x1 : (a == -1) = false := by rw [s1.2]; decide +kernel
    clear ha hb h ha0 hb0 s1
    go_enter Tryd.func43, Tryd.ntmps43
    go_wp2
    go_ret2
    exact ⟨rfl, rfl⟩
  · have hs := mul_seen ha hb hb0 s1 h
    have e3 : (wrap64 (Int.tdiv (wrap64 (a * b)) b) != a) = true := bne_iff_ne.mpr hs
    rcases x1 : (a == -1) with _ | _ <;> rcases x2 : (b == -9223372036854775808) with _ | _ <;> rcases x3 : (b == -1) with _ | _ <;> rcases x4 : (a == -9223372036854775808) with _ | _
    all_goals
      have hbn : ¬ b = 0 := hb0
      clear ha hb h ha0 hb0 s1 hs
      go_enter Tryd.func43, Tryd.ntmps43
      go_wp2
      go_ret2
      exact ⟨rfl, rfl⟩
theorem clamp_any (v lo hi : Int) (w : World) :
    Calls Tryd.prog 55 #[.int .i64 v, .int .i64 lo, .int .i64 hi] w fun e w' => e = .returned (.int .i64 (max lo (min v hi))) ∧ w = w' := by
  go_enter Tryd.func55, Tryd.ntmps55
  go_wp2
  all_goals (go_ret; exact ⟨by simp <;> omega, rfl⟩)
theorem rclamp_any (v lo hi : Int) (w : World) :
    Calls Tryd.prog 56 #[.int .i64 v, .int .i64 lo, .int .i64 hi] w fun e w' => e = .returned (.int .i64 (max lo (min v hi))) ∧ w = w' := by
  go_enter Tryd.func56, Tryd.ntmps56
  go_wp2
  all_goals (go_ret; exact ⟨by simp <;> omega, rfl⟩)
theorem size_any (a : Int) (w : World) (ha : R64 a) :
    Calls Tryd.prog 51 #[.int .i64 a] w fun e w' => e = .returned (.int .i64 (if a < 0 then sat (-a) else a)) ∧ w = w' := by
  have hc : ∀ w, Calls Tryd.prog 50 #[.int .i64 0, .int .i64 a] w fun e w' => e = .returned (.int .i64 (sat (-a))) ∧ w = w' := fun w => by
    have := subsat_any 0 a w (by unfold R64; omega) ha; rw [Int.zero_sub] at this; exact this
  have HC := Lib.hid hc
  clear hc ha
  by_cases h : a < 0
  · rw [if_pos h]
    go_enter Tryd.func51, Tryd.ntmps51
    go_wp2_with (go_at_call 50; refine (HC.out _).mono ?_; rintro e w' ⟨rfl, rfl⟩)
    go_ret
    exact ⟨rfl, rfl⟩
  · rw [if_neg h]
    go_enter Tryd.func51, Tryd.ntmps51
    go_wp2
    go_ret
    exact ⟨rfl, rfl⟩
theorem size_neg (a : Int) (w : World) (ha : R64 a) (h : a < 0) :
    Calls Tryd.prog 51 #[.int .i64 a] w fun e w' => e = .returned (.int .i64 (sat (-a))) ∧ w = w' := by
  have := size_any a w ha; rw [if_pos h] at this; exact this
theorem size_pos (a : Int) (w : World) (ha : R64 a) (h : ¬ a < 0) :
    Calls Tryd.prog 51 #[.int .i64 a] w fun e w' => e = .returned (.int .i64 a) ∧ w = w' := by
  have := size_any a w ha; rw [if_neg h] at this; exact this
theorem rsum_ok (a b : Int) (w : World) (ha : R64 a) (hb : R64 b) (h : R64 (a + b)) :
    Calls Tryd.prog 44 #[.int .i64 a, .int .i64 b] w fun e w' => e = .returned (.tuple #[.int .i64 (a + b), .int .i64 0]) ∧ w = w' := by
  unfold R64 at *
  obtain ⟨ha1, ha2⟩ := ha
  obtain ⟨hb1, hb2⟩ := hb
  go_enter Tryd.func44, Tryd.ntmps44
  go_wp2
  all_goals first
    | (exfalso; omega; done)
    | (go_ret2; exact ⟨by first | rfl | (simp [*]; done), rfl⟩)
theorem rsum_hi (a b : Int) (w : World) (ha : R64 a) (hb : R64 b) (h : 9223372036854775807 < a + b) :
    Calls Tryd.prog 44 #[.int .i64 a, .int .i64 b] w fun e w' => e = .returned (.tuple #[.int .i64 0, .int .i64 1]) ∧ w = w' := by
  unfold R64 at *
  obtain ⟨ha1, ha2⟩ := ha
  obtain ⟨hb1, hb2⟩ := hb
  go_enter Tryd.func44, Tryd.ntmps44
  go_wp2
  all_goals first
    | (exfalso; omega; done)
    | (go_ret2; exact ⟨by first | rfl | (simp [*]; done), rfl⟩)
theorem rsum_lo (a b : Int) (w : World) (ha : R64 a) (hb : R64 b) (h : a + b < -9223372036854775808) :
    Calls Tryd.prog 44 #[.int .i64 a, .int .i64 b] w fun e w' => e = .returned (.tuple #[.int .i64 0, .int .i64 (-1)]) ∧ w = w' := by
  unfold R64 at *
  obtain ⟨ha1, ha2⟩ := ha
  obtain ⟨hb1, hb2⟩ := hb
  go_enter Tryd.func44, Tryd.ntmps44
  go_wp2
  all_goals first
    | (exfalso; omega; done)
    | (go_ret2; exact ⟨by first | rfl | (simp [*]; done), rfl⟩)
theorem rless_ok (a b : Int) (w : World) (ha : R64 a) (hb : R64 b) (h : R64 (a - b)) :
    Calls Tryd.prog 45 #[.int .i64 a, .int .i64 b] w fun e w' => e = .returned (.tuple #[.int .i64 (a - b), .int .i64 0]) ∧ w = w' := by
  unfold R64 at *
  obtain ⟨ha1, ha2⟩ := ha
  obtain ⟨hb1, hb2⟩ := hb
  go_enter Tryd.func45, Tryd.ntmps45
  go_wp2
  all_goals first
    | (exfalso; omega; done)
    | (go_ret2; exact ⟨by first | rfl | (simp [*]; done), rfl⟩)
theorem rless_hi (a b : Int) (w : World) (ha : R64 a) (hb : R64 b) (h : 9223372036854775807 < a - b) :
    Calls Tryd.prog 45 #[.int .i64 a, .int .i64 b] w fun e w' => e = .returned (.tuple #[.int .i64 0, .int .i64 1]) ∧ w = w' := by
  unfold R64 at *
  obtain ⟨ha1, ha2⟩ := ha
  obtain ⟨hb1, hb2⟩ := hb
  go_enter Tryd.func45, Tryd.ntmps45
  go_wp2
  all_goals first
    | (exfalso; omega; done)
    | (go_ret2; exact ⟨by first | rfl | (simp [*]; done), rfl⟩)
theorem rless_lo (a b : Int) (w : World) (ha : R64 a) (hb : R64 b) (h : a - b < -9223372036854775808) :
    Calls Tryd.prog 45 #[.int .i64 a, .int .i64 b] w fun e w' => e = .returned (.tuple #[.int .i64 0, .int .i64 (-1)]) ∧ w = w' := by
  unfold R64 at *
  obtain ⟨ha1, ha2⟩ := ha
  obtain ⟨hb1, hb2⟩ := hb
  go_enter Tryd.func45, Tryd.ntmps45
  go_wp2
  all_goals first
    | (exfalso; omega; done)
    | (go_ret2; exact ⟨by first | rfl | (simp [*]; done), rfl⟩)
theorem rbnd_0 (n : Int) (w : World) :
    Calls Tryd.prog 48 #[.int .i64 n, .int .i64 0] w fun e w' => e = .returned (.int .i64 n) ∧ w = w' := by
  go_enter Tryd.func48, Tryd.ntmps48
  go_wp2
  go_ret
  exact ⟨rfl, rfl⟩
theorem rbnd_hi (n : Int) (w : World) :
    Calls Tryd.prog 48 #[.int .i64 n, .int .i64 1] w fun e w' => e = .returned (.int .i64 9223372036854775807) ∧ w = w' := by
  go_enter Tryd.func48, Tryd.ntmps48
  go_wp2
  go_ret
  exact ⟨rfl, rfl⟩
theorem rbnd_lo (n : Int) (w : World) :
    Calls Tryd.prog 48 #[.int .i64 n, .int .i64 (-1)] w fun e w' => e = .returned (.int .i64 (-9223372036854775808)) ∧ w = w' := by
  go_enter Tryd.func48, Tryd.ntmps48
  go_wp2
  go_ret
  exact ⟨rfl, rfl⟩
theorem rdiv_ok (a b : Int) (w : World) (ha : R64 a) (hb : R64 b) (h : 1 ≤ b) :
    Calls Tryd.prog 21 #[.int .i64 a, .int .i64 b] w fun e w' => e = .returned (.tuple #[.int .i64 (a / b), .int .i64 (a % b)]) ∧ ∃ n, w' = w.drewN n := by
  have hbn : ¬ b = 0 := by omega
  have hb0 : (b == 0) = false := beq_eq_false_iff_ne.mpr (by omega)
  have hr0 := Int.emod_nonneg a (show b ≠ 0 by omega)
  have hr1 := Int.emod_lt_of_pos a (show 0 < b by omega)
  have hq := div_bounds ha h
  have ht := (tdiv_range ha h).wrap
  have hd := Int.mul_ediv_add_emod a b
  have hcomm : a / b * b = b * (a / b) := Int.mul_comm _ _
  have hlast : wrap64 (a - wrap64 (a / b * b)) = a % b := by
    rw [hcomm]; unfold R64 at *; unfold wrap64; omega
  rcases Int.lt_or_le a 0 with h0 | h0
  · have e1 := tdiv_neg h0 h
    by_cases hz : a % b = 0
    · rw [if_pos hz, Int.add_zero] at e1
      have e5 : wrap64 (a / b * b) = a := by rw [hcomm, show b * (a / b) = a by omega]; exact ha.wrap
      have e6 : ((wrap64 (wrap64 (Int.tdiv a b) * b)) != a) = false := by rw [ht, e1, e5]; simp
      have e7 : wrap64 (a - wrap64 (wrap64 (Int.tdiv a b) * b)) = a % b := by rw [ht, e1]; exact hlast
      have E := And.intro (ht.trans e1) hlast
      have HE := Lib.hid E
      clear E e1 e5 e7 ht hr0 hr1 hq hd hcomm hlast ha hb hz
      go_enter Tryd.func21, Tryd.ntmps21
      go_wp2
      (try go_quiet (fail))
      (try go_wp2)
      go_ret2
      exact ⟨by simp [HE.out.1, HE.out.2], by first | exact ⟨_, rfl⟩ | exact ⟨0, rfl⟩⟩
    · rw [if_neg hz] at e1
      have e5 : wrap64 (wrap64 (Int.tdiv a b) * b) ≠ a := by
        rw [ht, e1]
        have : (a / b + 1) * b = b * (a / b) + b := by rw [Int.add_mul, hcomm, Int.one_mul]
        rw [this]; unfold R64 at *; unfold wrap64; omega
      have e6 : ((wrap64 (wrap64 (Int.tdiv a b) * b)) != a) = true := bne_iff_ne.mpr e5
      have e3 : wrap64 (wrap64 (Int.tdiv a b) - 1) = a / b := by rw [ht, e1]; rw [R64.wrap] <;> simp; exact hq.1
      have e7 : wrap64 (a - wrap64 (wrap64 (wrap64 (Int.tdiv a b) - 1) * b)) = a % b := by rw [e3]; exact hlast
      have HE := Lib.hid (And.intro e3 hlast)
      clear e1 e3 e5 e7 ht hr0 hr1 hq hd hcomm hlast ha hb hz
      go_enter Tryd.func21, Tryd.ntmps21
      go_wp2
      (try go_quiet (fail))
      (try go_wp2)
      go_ret2
      exact ⟨by simp [HE.out.1, HE.out.2], by first | exact ⟨_, rfl⟩ | exact ⟨0, rfl⟩⟩
  · have e1 := ht.trans (tdiv_of_nonneg (b := b) h0)
    have e7 : wrap64 (a - wrap64 (wrap64 (Int.tdiv a b) * b)) = a % b := by rw [e1]; exact hlast
    have HE := Lib.hid (And.intro e1 hlast)
    clear e1 e7 ht hr0 hr1 hq hd hcomm hlast ha hb
    go_enter Tryd.func21, Tryd.ntmps21
    go_wp2
    (try go_quiet (fail))
    (try go_wp2)
    go_ret2
    exact ⟨by simp [HE.out.1, HE.out.2], by first | exact ⟨_, rfl⟩ | exact ⟨0, rfl⟩⟩
theorem rceil_ok (a b : Int) (w : World) (ha : R64 a) (hb : R64 b) (h : 1 ≤ b) :
    Calls Tryd.prog 57 #[.int .i64 a, .int .i64 b] w fun e w' => e = .returned (.int .i64 (ceilD a b)) ∧ ∃ n, w' = w.drewN n := by
  have hc := fun w => rdiv_ok a b w ha hb h
  have HC := Lib.hid hc
  have hr := ceil_range ha h
  have hr0 := Int.emod_nonneg a (show b ≠ 0 by omega)
  unfold ceilD at *
  by_cases hz : 0 < a % b
  · rw [if_pos hz] at *
    have hw := hr.wrap
    have c0 : (a % b != 0) = true := bne_iff_ne.mpr (by omega)
    clear hc hr ha hb hr0
    go_enter Tryd.func57, Tryd.ntmps57
    go_wp2_with (go_at_call 21; refine (HC.out _).mono ?_; rintro e w' ⟨rfl, nq, rfl⟩)
    go_ret
    exact ⟨by simp [*], _, rfl⟩
  · rw [if_neg hz, Int.add_zero] at *
    have c0 : (a % b != 0) = false := bne_eq_false_iff_eq.mpr (by omega)
    clear hc hr ha hb hr0 hz
    go_enter Tryd.func57, Tryd.ntmps57
    go_wp2_with (go_at_call 21; refine (HC.out _).mono ?_; rintro e w' ⟨rfl, nq, rfl⟩)
    go_ret
    exact ⟨by simp [*], _, rfl⟩
theorem rtimes_zero (a b : Int) (w : World) (h : a = 0 ∨ b = 0) :
    Calls Tryd.prog 46 #[.int .i64 a, .int .i64 b] w fun e w' => e = .returned (.tuple #[.int .i64 0, .bool true]) ∧ ∃ n, w' = w.drewN n := by
  by_cases ha : a = 0
  · have c1 : (a == 0) = true := beq_iff_eq.mpr ha
    clear ha h
    go_enter Tryd.func46, Tryd.ntmps46
    go_wp2
    go_ret2
    exact ⟨rfl, 0, rfl⟩
  · have c1 : (a == 0) = false := beq_eq_false_iff_ne.mpr ha
    have c2 : (b == 0) = true := beq_iff_eq.mpr (h.resolve_left ha)
    clear ha h
    go_enter Tryd.func46, Tryd.ntmps46
    go_wp2
    go_ret2
    exact ⟨rfl, 0, rfl⟩
theorem rtimes_pp (a b : Int) (w : World) (ha : R64 a) (hb : R64 b) (p1 : 0 < a) (p2 : 0 < b) :
    Calls Tryd.prog 46 #[.int .i64 a, .int .i64 b] w fun e w' => e = .returned (.tuple #[.int .i64 (wrap64 (a * b)), .bool (decide (R64 (a * b)))]) ∧ ∃ n, w' = w.drewN n := by
  have hT : decide (a ≤ 9223372036854775807 / b) = decide (R64 (a * b)) := times_pp ha hb p1 p2
  have HT := Lib.hid hT
  have c1 : (a == 0) = false := beq_eq_false_iff_ne.mpr (by omega)
  have c2 : (b == 0) = false := beq_eq_false_iff_ne.mpr (by omega)
  have hbn : ¬ b = 0 := by omega
  have han : ¬ a = 0 := by omega
  have q1 : ¬ a < 0 := by omega
  have q2 : ¬ b < 0 := by omega
  clear hT ha hb
  go_enter Tryd.func46, Tryd.ntmps46
  go_wp2
  go_quiet (fail)
  go_wp2
  go_ret2
  exact ⟨by simpa using HT.out, _, rfl⟩
theorem rtimes_nn (a b : Int) (w : World) (ha : R64 a) (hb : R64 b) (p1 : a < 0) (p2 : b < 0) :
    Calls Tryd.prog 46 #[.int .i64 a, .int .i64 b] w fun e w' => e = .returned (.tuple #[.int .i64 (wrap64 (a * b)), .bool (decide (R64 (a * b)))]) ∧ ∃ n, w' = w.drewN n := by
  have hT : decide (wrap64 (Int.tdiv 9223372036854775807 b) ≤ a) = decide (R64 (a * b)) := times_nn ha hb p1 p2
  have HT := Lib.hid hT
  have c1 : (a == 0) = false := beq_eq_false_iff_ne.mpr (by omega)
  have c2 : (b == 0) = false := beq_eq_false_iff_ne.mpr (by omega)
  have hbn : ¬ b = 0 := by omega
  have han : ¬ a = 0 := by omega
  have q1 : ¬ 0 < a := by omega
  have q2 : ¬ 0 < b := by omega
  clear hT ha hb
  go_enter Tryd.func46, Tryd.ntmps46
  go_wp2
  go_quiet (fail)
  go_wp2
  go_ret2
  exact ⟨by simpa using HT.out, _, rfl⟩
theorem rtimes_pn (a b : Int) (w : World) (ha : R64 a) (hb : R64 b) (p1 : 0 < a) (p2 : b < 0) :
    Calls Tryd.prog 46 #[.int .i64 a, .int .i64 b] w fun e w' => e = .returned (.tuple #[.int .i64 (wrap64 (a * b)), .bool (decide (R64 (a * b)))]) ∧ ∃ n, w' = w.drewN n := by
  have hT : decide (wrap64 (-Int.tdiv 9223372036854775808 a) ≤ b) = decide (R64 (a * b)) := times_pn ha hb p1 p2
  have HT := Lib.hid hT
  have c1 : (a == 0) = false := beq_eq_false_iff_ne.mpr (by omega)
  have c2 : (b == 0) = false := beq_eq_false_iff_ne.mpr (by omega)
  have hbn : ¬ b = 0 := by omega
  have han : ¬ a = 0 := by omega
  have q1 : ¬ a < 0 := by omega
  have q2 : ¬ 0 < b := by omega
  clear hT ha hb
  go_enter Tryd.func46, Tryd.ntmps46
  go_wp2
  go_quiet (fail)
  go_wp2
  go_ret2
  exact ⟨by simpa using HT.out, _, rfl⟩
theorem rtimes_np (a b : Int) (w : World) (ha : R64 a) (hb : R64 b) (p1 : a < 0) (p2 : 0 < b) :
    Calls Tryd.prog 46 #[.int .i64 a, .int .i64 b] w fun e w' => e = .returned (.tuple #[.int .i64 (wrap64 (a * b)), .bool (decide (R64 (a * b)))]) ∧ ∃ n, w' = w.drewN n := by
  have hT : decide (wrap64 (-Int.tdiv 9223372036854775808 b) ≤ a) = decide (R64 (a * b)) := times_np ha hb p1 p2
  have HT := Lib.hid hT
  have c1 : (a == 0) = false := beq_eq_false_iff_ne.mpr (by omega)
  have c2 : (b == 0) = false := beq_eq_false_iff_ne.mpr (by omega)
  have hbn : ¬ b = 0 := by omega
  have han : ¬ a = 0 := by omega
  have q1 : ¬ 0 < a := by omega
  have q2 : ¬ b < 0 := by omega
  clear hT ha hb
  go_enter Tryd.func46, Tryd.ntmps46
  go_wp2
  go_quiet (fail)
  go_wp2
  go_ret2
  exact ⟨by simpa using HT.out, _, rfl⟩
theorem rtimes_any (a b : Int) (w : World) (ha : R64 a) (hb : R64 b) :
    Calls Tryd.prog 46 #[.int .i64 a, .int .i64 b] w fun e w' => e = .returned (.tuple #[.int .i64 (wrap64 (a * b)), .bool (decide (R64 (a * b)))]) ∧ ∃ n, w' = w.drewN n := by
  by_cases hz : a = 0 ∨ b = 0
  · have h := rtimes_zero a b w hz
    have e : a * b = 0 := by rcases hz with rfl | rfl <;> simp
    rw [e, show wrap64 0 = 0 from by decide +kernel, show decide (R64 0) = true from by decide +kernel]
    exact h
  · have : (0 < a ∨ a < 0) ∧ (0 < b ∨ b < 0) := by omega
    rcases this with ⟨h1 | h1, h2 | h2⟩
    · exact rtimes_pp a b w ha hb h1 h2
    · exact rtimes_pn a b w ha hb h1 h2
    · exact rtimes_np a b w ha hb h1 h2
    · exact rtimes_nn a b w ha hb h1 h2
end Go.Proofs.YtiljnlhmeolhfaaDoor
