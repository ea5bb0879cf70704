/-
  What the functions of package quant, and those of its reference, answer.
-/
import Derived.Test.YtiljnlhmeolhfaaDoorNum
namespace Go.Proofs.YtiljnlhmeolhfaaDoor
open Go.RowKit
set_option linter.unusedVariables false
set_option linter.unusedSimpArgs false
set_option maxRecDepth 100000

/-- a step that may be -/
def okQ (q : Int) : Prop := 1 ≤ q ∧ q ≤ 68719476736
set_option maxHeartbeats 1000000 in
theorem qcheck_ok (q : Int) (w : World)
    (hq : 1 ≤ q)
    (hq2 : q ≤ 68719476736) :
    Calls Tryd.prog 17 #[.int .i64 q] w fun e w' => e = .returned (.nilIface) ∧ w = w' := by
  all_goals
    go_enter Tryd.func17, Tryd.ntmps17
    go_wp2
    go_ret
    exact ⟨rfl, rfl⟩
set_option maxHeartbeats 1000000 in
theorem qcheck_lo (q : Int) (w : World)
    (hq : q < 1) :
    Calls Tryd.prog 17 #[.int .i64 q] w fun e w' => e = .returned (.iface 75 (.int .i64 1)) ∧ w = w' := by
  have hu23 := Tryd.underlying23
  have hu75 := Tryd.underlying75
  all_goals
    go_enter Tryd.func17, Tryd.ntmps17
    go_wp2
    go_ret
    exact ⟨rfl, rfl⟩
set_option maxHeartbeats 1000000 in
theorem qcheck_hi (q : Int) (w : World)
    (hq : 1 ≤ q)
    (hq2 : 68719476736 < q) :
    Calls Tryd.prog 17 #[.int .i64 q] w fun e w' => e = .returned (.iface 75 (.int .i64 1)) ∧ w = w' := by
  have hu23 := Tryd.underlying23
  have hu75 := Tryd.underlying75
  all_goals
    go_enter Tryd.func17, Tryd.ntmps17
    go_wp2
    go_ret
    exact ⟨rfl, rfl⟩
theorem qcheck_bad (q : Int) (h : ¬ okQ q) : ∀ w, Calls Tryd.prog 17 #[.int .i64 q] w fun e w' => e = .returned (.iface 75 (.int .i64 1)) ∧ w = w' := fun w => by
  unfold okQ at h
  rcases Int.lt_or_le q 1 with h1 | h1
  · exact qcheck_lo q w h1
  · exact qcheck_hi q w h1 (by omega)
set_option maxHeartbeats 1000000 in
theorem qmay_ok (q : Int) (w : World)
    (hq : 1 ≤ q)
    (hq2 : q ≤ 68719476736) :
    Calls Tryd.prog 18 #[.int .i64 q] w fun e w' => e = .returned (.bool true) ∧ w = w' := by
  all_goals
    go_enter Tryd.func18, Tryd.ntmps18
    go_wp2
    go_ret
    exact ⟨by simp [*], rfl⟩
set_option maxHeartbeats 1000000 in
theorem qmay_lo (q : Int) (w : World)
    (hq : q < 1) :
    Calls Tryd.prog 18 #[.int .i64 q] w fun e w' => e = .returned (.bool false) ∧ w = w' := by
  all_goals
    go_enter Tryd.func18, Tryd.ntmps18
    go_wp2
    go_ret
    exact ⟨by simp [*], rfl⟩
set_option maxHeartbeats 1000000 in
theorem qmay_hi (q : Int) (w : World)
    (hq : 1 ≤ q)
    (hq2 : 68719476736 < q) :
    Calls Tryd.prog 18 #[.int .i64 q] w fun e w' => e = .returned (.bool false) ∧ w = w' := by
  all_goals
    go_enter Tryd.func18, Tryd.ntmps18
    go_wp2
    go_ret
    exact ⟨by simp [*], rfl⟩
theorem qmay_bad (q : Int) (h : ¬ okQ q) : ∀ w, Calls Tryd.prog 18 #[.int .i64 q] w fun e w' => e = .returned (.bool false) ∧ w = w' := fun w => by
  unfold okQ at h
  rcases Int.lt_or_le q 1 with h1 | h1
  · exact qmay_lo q w h1
  · exact qmay_hi q w h1 (by omega)
set_option maxHeartbeats 1000000 in
theorem qplace_bad0 (t q : Int) (w : World)
    (HC : Hid (∀ w, Calls Tryd.prog 17 #[.int .i64 q] w fun e w' => e = .returned (.iface 75 (.int .i64 1)) ∧ w = w')) :
    Calls Tryd.prog 15 #[.int .i64 t, .int .i64 q] w fun e w' => e = .returned (.tuple #[.int .i64 0, .iface 75 (.int .i64 1)]) ∧ w = w' := by
  all_goals
    go_enter Tryd.func15, Tryd.ntmps15
    go_wp2_with (first
      | (go_at_call 17; (with_reducible refine (HC.out _).mono ?_); rintro e w' ⟨rfl, rfl⟩))
    go_ret2
    exact ⟨rfl, rfl⟩
set_option maxHeartbeats 1000000 in
theorem qplace_ok0 (t q n r : Int) (w : World)
    (HC : Hid (∀ w, Calls Tryd.prog 17 #[.int .i64 q] w fun e w' => e = .returned (.nilIface) ∧ w = w'))
    (HD : Hid (∀ w, Calls Tryd.prog 53 #[.int .i64 t, .int .i64 q] w fun e w' => e = .returned (.tuple #[.int .i64 n, .int .i64 r, .nilIface]) ∧ Dr w w')) :
    Calls Tryd.prog 15 #[.int .i64 t, .int .i64 q] w fun e w' => e = .returned (.tuple #[.int .i64 n, .nilIface]) ∧ Dr w w' := by
  all_goals
    go_enter Tryd.func15, Tryd.ntmps15
    go_wp2_with (first
      | (go_at_call 17; (with_reducible refine (HC.out _).mono ?_); rintro e w' ⟨rfl, rfl⟩)
      | (go_at_call 53; (with_reducible refine (HD.out _).mono ?_); rintro e w' ⟨rfl, nq, rfl⟩))
    go_ret2
    exact ⟨rfl, by repeat (first | exact Dr.refl _ | apply Dr.step | apply Dr.drew)⟩
set_option maxHeartbeats 1000000 in
theorem qdown_bad0 (t q : Int) (w : World)
    (HP : Hid (∀ w, Calls Tryd.prog 15 #[.int .i64 t, .int .i64 q] w fun e w' => e = .returned (.tuple #[.int .i64 0, .iface 75 (.int .i64 1)]) ∧ w = w')) :
    Calls Tryd.prog 11 #[.int .i64 t, .int .i64 q] w fun e w' => e = .returned (.tuple #[.int .i64 0, .iface 75 (.int .i64 1)]) ∧ w = w' := by
  all_goals
    go_enter Tryd.func11, Tryd.ntmps11
    go_wp2_with (first
      | (go_at_call 15; (with_reducible refine (HP.out _).mono ?_); rintro e w' ⟨rfl, rfl⟩))
    go_ret2
    exact ⟨rfl, rfl⟩
set_option maxHeartbeats 1000000 in
theorem qdown_any0 (t q n v : Int) (E : Value) (w : World)
    (HP : Hid (∀ w, Calls Tryd.prog 15 #[.int .i64 t, .int .i64 q] w fun e w' => e = .returned (.tuple #[.int .i64 n, .nilIface]) ∧ Dr w w'))
    (HM : Hid (∀ w, Calls Tryd.prog 43 #[.int .i64 n, .int .i64 q] w fun e w' => e = .returned (.tuple #[.int .i64 v, E]) ∧ w = w')) :
    Calls Tryd.prog 11 #[.int .i64 t, .int .i64 q] w fun e w' => e = .returned (.tuple #[.int .i64 v, E]) ∧ Dr w w' := by
  all_goals
    go_enter Tryd.func11, Tryd.ntmps11
    go_wp2_with (first
      | (go_at_call 15; (with_reducible refine (HP.out _).mono ?_); rintro e w' ⟨rfl, nq, rfl⟩)
      | (go_at_call 43; (with_reducible refine (HM.out _).mono ?_); rintro e w' ⟨rfl, rfl⟩))
    go_ret2
    exact ⟨rfl, by repeat (first | exact Dr.refl _ | apply Dr.step | apply Dr.drew)⟩
set_option maxHeartbeats 1000000 in
theorem qup_bad0 (t q : Int) (w : World)
    (HC : Hid (∀ w, Calls Tryd.prog 17 #[.int .i64 q] w fun e w' => e = .returned (.iface 75 (.int .i64 1)) ∧ w = w')) :
    Calls Tryd.prog 13 #[.int .i64 t, .int .i64 q] w fun e w' => e = .returned (.tuple #[.int .i64 0, .iface 75 (.int .i64 1)]) ∧ w = w' := by
  all_goals
    go_enter Tryd.func13, Tryd.ntmps13
    go_wp2_with (first
      | (go_at_call 17; (with_reducible refine (HC.out _).mono ?_); rintro e w' ⟨rfl, rfl⟩))
    go_ret2
    exact ⟨rfl, rfl⟩
set_option maxHeartbeats 1000000 in
theorem qup_any0 (t q n v : Int) (E : Value) (w : World)
    (HC : Hid (∀ w, Calls Tryd.prog 17 #[.int .i64 q] w fun e w' => e = .returned (.nilIface) ∧ w = w'))
    (HD : Hid (∀ w, Calls Tryd.prog 54 #[.int .i64 t, .int .i64 q] w fun e w' => e = .returned (.tuple #[.int .i64 n, .nilIface]) ∧ Dr w w'))
    (HM : Hid (∀ w, Calls Tryd.prog 43 #[.int .i64 n, .int .i64 q] w fun e w' => e = .returned (.tuple #[.int .i64 v, E]) ∧ w = w')) :
    Calls Tryd.prog 13 #[.int .i64 t, .int .i64 q] w fun e w' => e = .returned (.tuple #[.int .i64 v, E]) ∧ Dr w w' := by
  all_goals
    go_enter Tryd.func13, Tryd.ntmps13
    go_wp2_with (first
      | (go_at_call 17; (with_reducible refine (HC.out _).mono ?_); rintro e w' ⟨rfl, rfl⟩)
      | (go_at_call 54; (with_reducible refine (HD.out _).mono ?_); rintro e w' ⟨rfl, nq, rfl⟩)
      | (go_at_call 43; (with_reducible refine (HM.out _).mono ?_); rintro e w' ⟨rfl, rfl⟩))
    go_ret2
    exact ⟨rfl, by repeat (first | exact Dr.refl _ | apply Dr.step | apply Dr.drew)⟩
set_option maxHeartbeats 1000000 in
theorem qis_bad0 (t q : Int) (w : World)
    (HC : Hid (∀ w, Calls Tryd.prog 17 #[.int .i64 q] w fun e w' => e = .returned (.iface 75 (.int .i64 1)) ∧ w = w')) :
    Calls Tryd.prog 19 #[.int .i64 t, .int .i64 q] w fun e w' => e = .returned (.bool false) ∧ w = w' := by
  all_goals
    go_enter Tryd.func19, Tryd.ntmps19
    go_wp2_with (first
      | (go_at_call 17; (with_reducible refine (HC.out _).mono ?_); rintro e w' ⟨rfl, rfl⟩))
    go_ret
    exact ⟨by simp, rfl⟩
set_option maxHeartbeats 1000000 in
theorem qis_any0 (t q : Int) (B : Bool) (w : World)
    (hq : 1 ≤ q)
    (hq0 : ¬ q = 0)
    (hB : (Int.tmod t q == 0) = B)
    (hB2 : (t % q == 0) = B)
    (HC : Hid (∀ w, Calls Tryd.prog 17 #[.int .i64 q] w fun e w' => e = .returned (.nilIface) ∧ w = w')) :
    Calls Tryd.prog 19 #[.int .i64 t, .int .i64 q] w fun e w' => e = .returned (.bool B) ∧ w = w' := by
  cases B
  all_goals
    go_enter Tryd.func19, Tryd.ntmps19
    go_wp2_with (first
      | (go_at_call 17; (with_reducible refine (HC.out _).mono ?_); rintro e w' ⟨rfl, rfl⟩))
    go_ret
    exact ⟨by simp [*], rfl⟩
set_option maxHeartbeats 1000000 in
theorem rqdown_bad0 (t q : Int) (w : World)
    (HC : Hid (∀ w, Calls Tryd.prog 18 #[.int .i64 q] w fun e w' => e = .returned (.bool false) ∧ w = w')) :
    Calls Tryd.prog 12 #[.int .i64 t, .int .i64 q] w fun e w' => e = .returned (.tuple #[.int .i64 0, .int .i64 1]) ∧ w = w' := by
  all_goals
    go_enter Tryd.func12, Tryd.ntmps12
    go_wp2_with (first
      | (go_at_call 18; (with_reducible refine (HC.out _).mono ?_); rintro e w' ⟨rfl, rfl⟩))
    go_ret2
    exact ⟨rfl, rfl⟩
set_option maxHeartbeats 1000000 in
theorem rqdown_ok0 (t q n r d : Int) (w : World)
    (HC : Hid (∀ w, Calls Tryd.prog 18 #[.int .i64 q] w fun e w' => e = .returned (.bool true) ∧ w = w'))
    (HD : Hid (∀ w, Calls Tryd.prog 21 #[.int .i64 t, .int .i64 q] w fun e w' => e = .returned (.tuple #[.int .i64 n, .int .i64 r]) ∧ Dr w w'))
    (HL : Hid (∀ w, Calls Tryd.prog 45 #[.int .i64 t, .int .i64 r] w fun e w' => e = .returned (.tuple #[.int .i64 d, .int .i64 0]) ∧ w = w')) :
    Calls Tryd.prog 12 #[.int .i64 t, .int .i64 q] w fun e w' => e = .returned (.tuple #[.int .i64 d, .int .i64 0]) ∧ Dr w w' := by
  all_goals
    go_enter Tryd.func12, Tryd.ntmps12
    go_wp2_with (first
      | (go_at_call 18; (with_reducible refine (HC.out _).mono ?_); rintro e w' ⟨rfl, rfl⟩)
      | (go_at_call 21; (with_reducible refine (HD.out _).mono ?_); rintro e w' ⟨rfl, nq, rfl⟩)
      | (go_at_call 45; (with_reducible refine (HL.out _).mono ?_); rintro e w' ⟨rfl, rfl⟩))
    go_ret2
    exact ⟨rfl, by repeat (first | exact Dr.refl _ | apply Dr.step | apply Dr.drew)⟩
set_option maxHeartbeats 1000000 in
theorem rqdown_no0 (t q n r d i : Int) (w : World)
    (hi : (i != 0) = true)
    (HC : Hid (∀ w, Calls Tryd.prog 18 #[.int .i64 q] w fun e w' => e = .returned (.bool true) ∧ w = w'))
    (HD : Hid (∀ w, Calls Tryd.prog 21 #[.int .i64 t, .int .i64 q] w fun e w' => e = .returned (.tuple #[.int .i64 n, .int .i64 r]) ∧ Dr w w'))
    (HL : Hid (∀ w, Calls Tryd.prog 45 #[.int .i64 t, .int .i64 r] w fun e w' => e = .returned (.tuple #[.int .i64 d, .int .i64 i]) ∧ w = w')) :
    Calls Tryd.prog 12 #[.int .i64 t, .int .i64 q] w fun e w' => e = .returned (.tuple #[.int .i64 0, .int .i64 2]) ∧ Dr w w' := by
  all_goals
    go_enter Tryd.func12, Tryd.ntmps12
    go_wp2_with (first
      | (go_at_call 18; (with_reducible refine (HC.out _).mono ?_); rintro e w' ⟨rfl, rfl⟩)
      | (go_at_call 21; (with_reducible refine (HD.out _).mono ?_); rintro e w' ⟨rfl, nq, rfl⟩)
      | (go_at_call 45; (with_reducible refine (HL.out _).mono ?_); rintro e w' ⟨rfl, rfl⟩))
    go_ret2
    exact ⟨rfl, by repeat (first | exact Dr.refl _ | apply Dr.step | apply Dr.drew)⟩
set_option maxHeartbeats 1000000 in
theorem rqup_bad0 (t q : Int) (w : World)
    (HC : Hid (∀ w, Calls Tryd.prog 18 #[.int .i64 q] w fun e w' => e = .returned (.bool false) ∧ w = w')) :
    Calls Tryd.prog 14 #[.int .i64 t, .int .i64 q] w fun e w' => e = .returned (.tuple #[.int .i64 0, .int .i64 1]) ∧ w = w' := by
  all_goals
    go_enter Tryd.func14, Tryd.ntmps14
    go_wp2_with (first
      | (go_at_call 18; (with_reducible refine (HC.out _).mono ?_); rintro e w' ⟨rfl, rfl⟩))
    go_ret2
    exact ⟨rfl, rfl⟩
set_option maxHeartbeats 1000000 in
theorem rqup_z0 (t q n r : Int) (w : World)
    (hr : (r == 0) = true)
    (HC : Hid (∀ w, Calls Tryd.prog 18 #[.int .i64 q] w fun e w' => e = .returned (.bool true) ∧ w = w'))
    (HD : Hid (∀ w, Calls Tryd.prog 21 #[.int .i64 t, .int .i64 q] w fun e w' => e = .returned (.tuple #[.int .i64 n, .int .i64 r]) ∧ Dr w w')) :
    Calls Tryd.prog 14 #[.int .i64 t, .int .i64 q] w fun e w' => e = .returned (.tuple #[.int .i64 t, .int .i64 0]) ∧ Dr w w' := by
  all_goals
    go_enter Tryd.func14, Tryd.ntmps14
    go_wp2_with (first
      | (go_at_call 18; (with_reducible refine (HC.out _).mono ?_); rintro e w' ⟨rfl, rfl⟩)
      | (go_at_call 21; (with_reducible refine (HD.out _).mono ?_); rintro e w' ⟨rfl, nq, rfl⟩))
    go_ret2
    exact ⟨rfl, by repeat (first | exact Dr.refl _ | apply Dr.step | apply Dr.drew)⟩
set_option maxHeartbeats 1000000 in
theorem rqup_ok0 (t q n r u x : Int) (w : World)
    (hr : (r == 0) = false)
    (hx : wrap64 (q - r) = x)
    (HC : Hid (∀ w, Calls Tryd.prog 18 #[.int .i64 q] w fun e w' => e = .returned (.bool true) ∧ w = w'))
    (HD : Hid (∀ w, Calls Tryd.prog 21 #[.int .i64 t, .int .i64 q] w fun e w' => e = .returned (.tuple #[.int .i64 n, .int .i64 r]) ∧ Dr w w'))
    (HL : Hid (∀ w, Calls Tryd.prog 44 #[.int .i64 t, .int .i64 x] w fun e w' => e = .returned (.tuple #[.int .i64 u, .int .i64 0]) ∧ w = w')) :
    Calls Tryd.prog 14 #[.int .i64 t, .int .i64 q] w fun e w' => e = .returned (.tuple #[.int .i64 u, .int .i64 0]) ∧ Dr w w' := by
  all_goals
    go_enter Tryd.func14, Tryd.ntmps14
    go_wp2_with (first
      | (go_at_call 18; (with_reducible refine (HC.out _).mono ?_); rintro e w' ⟨rfl, rfl⟩)
      | (go_at_call 21; (with_reducible refine (HD.out _).mono ?_); rintro e w' ⟨rfl, nq, rfl⟩)
      | (go_at_call 44; (with_reducible refine (HL.out _).mono ?_); rintro e w' ⟨rfl, rfl⟩))
    go_ret2
    exact ⟨rfl, by repeat (first | exact Dr.refl _ | apply Dr.step | apply Dr.drew)⟩
set_option maxHeartbeats 1000000 in
theorem rqup_no0 (t q n r u x i : Int) (w : World)
    (hr : (r == 0) = false)
    (hx : wrap64 (q - r) = x)
    (hi : (i != 0) = true)
    (HC : Hid (∀ w, Calls Tryd.prog 18 #[.int .i64 q] w fun e w' => e = .returned (.bool true) ∧ w = w'))
    (HD : Hid (∀ w, Calls Tryd.prog 21 #[.int .i64 t, .int .i64 q] w fun e w' => e = .returned (.tuple #[.int .i64 n, .int .i64 r]) ∧ Dr w w'))
    (HL : Hid (∀ w, Calls Tryd.prog 44 #[.int .i64 t, .int .i64 x] w fun e w' => e = .returned (.tuple #[.int .i64 u, .int .i64 i]) ∧ w = w')) :
    Calls Tryd.prog 14 #[.int .i64 t, .int .i64 q] w fun e w' => e = .returned (.tuple #[.int .i64 0, .int .i64 2]) ∧ Dr w w' := by
  all_goals
    go_enter Tryd.func14, Tryd.ntmps14
    go_wp2_with (first
      | (go_at_call 18; (with_reducible refine (HC.out _).mono ?_); rintro e w' ⟨rfl, rfl⟩)
      | (go_at_call 21; (with_reducible refine (HD.out _).mono ?_); rintro e w' ⟨rfl, nq, rfl⟩)
      | (go_at_call 44; (with_reducible refine (HL.out _).mono ?_); rintro e w' ⟨rfl, rfl⟩))
    go_ret2
    exact ⟨rfl, by repeat (first | exact Dr.refl _ | apply Dr.step | apply Dr.drew)⟩

/-- what is told of a step, down and up -/
theorem qplace_ok (t q : Int) (ht : R64 t) (h : okQ q) (w : World) :
    Calls Tryd.prog 15 #[.int .i64 t, .int .i64 q] w fun e w' => e = .returned (.tuple #[.int .i64 (t / q), .nilIface]) ∧ Dr w w' := by
  have hq : R64 q := by unfold okQ R64 at *; omega
  exact qplace_ok0 t q (t / q) (t % q) w (fun w => qcheck_ok q w h.1 h.2) (fun w => div_ok t q w ht hq h.1)
theorem qplace_bad (t q : Int) (h : ¬ okQ q) (w : World) :
    Calls Tryd.prog 15 #[.int .i64 t, .int .i64 q] w fun e w' => e = .returned (.tuple #[.int .i64 0, .iface 75 (.int .i64 1)]) ∧ w = w' :=
  qplace_bad0 t q w (qcheck_bad q h)
theorem qdown_ok (t q : Int) (ht : R64 t) (h : okQ q) (hd : R64 (t / q * q)) (w : World) :
    Calls Tryd.prog 11 #[.int .i64 t, .int .i64 q] w fun e w' => e = .returned (.tuple #[.int .i64 (t / q * q), .nilIface]) ∧ Dr w w' := by
  have hq : R64 q := by unfold okQ R64 at *; omega
  exact qdown_any0 t q (t / q) _ _ w (qplace_ok t q ht h) (fun w => mul_ok (t / q) q w (div_bounds ht h.1).1 hq hd)
theorem qdown_over (t q : Int) (ht : R64 t) (h : okQ q) (hd : ¬ R64 (t / q * q)) (w : World) :
    Calls Tryd.prog 11 #[.int .i64 t, .int .i64 q] w fun e w' => e = .returned (.tuple #[.int .i64 0, .iface 75 (.int .i64 2)]) ∧ Dr w w' := by
  have hq : R64 q := by unfold okQ R64 at *; omega
  exact qdown_any0 t q (t / q) _ _ w (qplace_ok t q ht h) (fun w => mul_bad (t / q) q w (div_bounds ht h.1).1 hq hd)
theorem qdown_bad (t q : Int) (h : ¬ okQ q) (w : World) :
    Calls Tryd.prog 11 #[.int .i64 t, .int .i64 q] w fun e w' => e = .returned (.tuple #[.int .i64 0, .iface 75 (.int .i64 1)]) ∧ w = w' :=
  qdown_bad0 t q w (qplace_bad t q h)
theorem qup_ok (t q : Int) (ht : R64 t) (h : okQ q) (hd : R64 (ceilD t q * q)) (w : World) :
    Calls Tryd.prog 13 #[.int .i64 t, .int .i64 q] w fun e w' => e = .returned (.tuple #[.int .i64 (ceilD t q * q), .nilIface]) ∧ Dr w w' := by
  have hq : R64 q := by unfold okQ R64 at *; omega
  exact qup_any0 t q (ceilD t q) _ _ w (fun w => qcheck_ok q w h.1 h.2) (fun w => ceil_ok t q w ht hq h.1) (fun w => mul_ok (ceilD t q) q w (ceil_range ht h.1) hq hd)
theorem qup_over (t q : Int) (ht : R64 t) (h : okQ q) (hd : ¬ R64 (ceilD t q * q)) (w : World) :
    Calls Tryd.prog 13 #[.int .i64 t, .int .i64 q] w fun e w' => e = .returned (.tuple #[.int .i64 0, .iface 75 (.int .i64 2)]) ∧ Dr w w' := by
  have hq : R64 q := by unfold okQ R64 at *; omega
  exact qup_any0 t q (ceilD t q) _ _ w (fun w => qcheck_ok q w h.1 h.2) (fun w => ceil_ok t q w ht hq h.1) (fun w => mul_bad (ceilD t q) q w (ceil_range ht h.1) hq hd)
theorem qup_bad (t q : Int) (h : ¬ okQ q) (w : World) :
    Calls Tryd.prog 13 #[.int .i64 t, .int .i64 q] w fun e w' => e = .returned (.tuple #[.int .i64 0, .iface 75 (.int .i64 1)]) ∧ w = w' :=
  qup_bad0 t q w (qcheck_bad q h)
theorem qis_ok (t q : Int) (h : okQ q) (w : World) :
    Calls Tryd.prog 19 #[.int .i64 t, .int .i64 q] w fun e w' => e = .returned (.bool (decide (t % q = 0))) ∧ w = w' := by
  have h1 := h.1
  refine qis_any0 t q _ w h.1 (by omega) ?_ ?_ (fun w => qcheck_ok q w h.1 h.2)
  · rcases Int.lt_or_le t 0 with h0 | h0
    · rw [tmod_neg h0 h.1, Bool.eq_iff_iff]
      have := Int.emod_lt_of_pos t (show 0 < q by omega)
      simp only [beq_iff_eq, decide_eq_true_eq]
      split <;> omega
    · rw [Int.tmod_eq_emod_of_nonneg h0, Bool.eq_iff_iff]; simp
  · rw [Bool.eq_iff_iff]; simp
theorem qis_bad (t q : Int) (h : ¬ okQ q) (w : World) :
    Calls Tryd.prog 19 #[.int .i64 t, .int .i64 q] w fun e w' => e = .returned (.bool false) ∧ w = w' :=
  qis_bad0 t q w (qcheck_bad q h)
theorem mul_div_eq (t q : Int) : t / q * q = t - t % q := by
  have := Int.mul_ediv_add_emod t q; have e : t / q * q = q * (t / q) := Int.mul_comm _ _; omega
theorem ceil_mul_eq (t q : Int) (h : 1 ≤ q) : ceilD t q * q = if t % q = 0 then t else t + (q - t % q) := by
  have := Int.mul_ediv_add_emod t q; have e : t / q * q = q * (t / q) := Int.mul_comm _ _
  have h0 := Int.emod_nonneg t (show q ≠ 0 by omega)
  unfold ceilD
  by_cases hz : t % q = 0
  · rw [if_pos hz, if_neg (by omega), Int.add_zero]; omega
  · rw [if_neg hz, if_pos (by omega), Int.add_mul, Int.one_mul]; omega
theorem rqdown_ok (t q : Int) (ht : R64 t) (h : okQ q) (hd : R64 (t / q * q)) (w : World) :
    Calls Tryd.prog 12 #[.int .i64 t, .int .i64 q] w fun e w' => e = .returned (.tuple #[.int .i64 (t / q * q), .int .i64 0]) ∧ Dr w w' := by
  have hq : R64 q := by unfold okQ R64 at *; omega
  have hr0 := Int.emod_nonneg t (show q ≠ 0 by have := h.1; omega)
  have hr1 := Int.emod_lt_of_pos t (show 0 < q by have := h.1; omega)
  rw [mul_div_eq] at *
  exact rqdown_ok0 t q (t / q) (t % q) _ w (fun w => qmay_ok q w h.1 h.2) (fun w => rdiv_ok t q w ht hq h.1) (fun w => rless_ok t (t % q) w ht (by unfold R64 at *; omega) hd)
theorem rqdown_over (t q : Int) (ht : R64 t) (h : okQ q) (hd : ¬ R64 (t / q * q)) (w : World) :
    Calls Tryd.prog 12 #[.int .i64 t, .int .i64 q] w fun e w' => e = .returned (.tuple #[.int .i64 0, .int .i64 2]) ∧ Dr w w' := by
  have hq : R64 q := by unfold okQ R64 at *; omega
  have hr0 := Int.emod_nonneg t (show q ≠ 0 by have := h.1; omega)
  have hr1 := Int.emod_lt_of_pos t (show 0 < q by have := h.1; omega)
  rw [mul_div_eq] at *
  exact rqdown_no0 t q (t / q) (t % q) _ _ w (by decide) (fun w => qmay_ok q w h.1 h.2) (fun w => rdiv_ok t q w ht hq h.1) (fun w => rless_lo t (t % q) w ht (by unfold R64 at *; omega) (by unfold R64 at *; omega))
theorem rqdown_bad (t q : Int) (h : ¬ okQ q) (w : World) :
    Calls Tryd.prog 12 #[.int .i64 t, .int .i64 q] w fun e w' => e = .returned (.tuple #[.int .i64 0, .int .i64 1]) ∧ w = w' :=
  rqdown_bad0 t q w (qmay_bad q h)
theorem rqup_ok (t q : Int) (ht : R64 t) (h : okQ q) (hd : R64 (ceilD t q * q)) (w : World) :
    Calls Tryd.prog 14 #[.int .i64 t, .int .i64 q] w fun e w' => e = .returned (.tuple #[.int .i64 (ceilD t q * q), .int .i64 0]) ∧ Dr w w' := by
  have hq : R64 q := by unfold okQ R64 at *; omega
  have h1 := h.1
  have hr0 := Int.emod_nonneg t (show q ≠ 0 by omega)
  have hr1 := Int.emod_lt_of_pos t (show 0 < q by omega)
  rw [ceil_mul_eq t q h1] at *
  by_cases hz : t % q = 0
  · rw [if_pos hz]
    exact rqup_z0 t q (t / q) (t % q) w (beq_iff_eq.mpr hz) (fun w => qmay_ok q w h.1 h.2) (fun w => rdiv_ok t q w ht hq h.1)
  · rw [if_neg hz] at *
    have hx : R64 (q - t % q) := by unfold R64 at *; omega
    exact rqup_ok0 t q (t / q) (t % q) _ _ w (beq_eq_false_iff_ne.mpr hz) hx.wrap (fun w => qmay_ok q w h.1 h.2) (fun w => rdiv_ok t q w ht hq h.1) (fun w => rsum_ok t _ w ht hx hd)
theorem rqup_over (t q : Int) (ht : R64 t) (h : okQ q) (hd : ¬ R64 (ceilD t q * q)) (w : World) :
    Calls Tryd.prog 14 #[.int .i64 t, .int .i64 q] w fun e w' => e = .returned (.tuple #[.int .i64 0, .int .i64 2]) ∧ Dr w w' := by
  have hq : R64 q := by unfold okQ R64 at *; omega
  have h1 := h.1
  have hr0 := Int.emod_nonneg t (show q ≠ 0 by omega)
  have hr1 := Int.emod_lt_of_pos t (show 0 < q by omega)
  rw [ceil_mul_eq t q h1] at *
  by_cases hz : t % q = 0
  · rw [if_pos hz] at hd; exact absurd ht hd
  · rw [if_neg hz] at *
    have hx : R64 (q - t % q) := by unfold R64 at *; omega
    exact rqup_no0 t q (t / q) (t % q) _ _ _ w (beq_eq_false_iff_ne.mpr hz) hx.wrap (by decide) (fun w => qmay_ok q w h.1 h.2) (fun w => rdiv_ok t q w ht hq h.1) (fun w => rsum_hi t _ w ht hx (by unfold R64 at *; omega))
theorem rqup_bad (t q : Int) (h : ¬ okQ q) (w : World) :
    Calls Tryd.prog 14 #[.int .i64 t, .int .i64 q] w fun e w' => e = .returned (.tuple #[.int .i64 0, .int .i64 1]) ∧ w = w' :=
  rqup_bad0 t q w (qmay_bad q h)

end Go.Proofs.YtiljnlhmeolhfaaDoor
