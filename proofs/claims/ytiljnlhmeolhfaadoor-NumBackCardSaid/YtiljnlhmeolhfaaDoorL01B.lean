/-
  The law NumBack, walked.
-/
import Derived.Test.YtiljnlhmeolhfaaDoorL01
namespace Go.Proofs.YtiljnlhmeolhfaaDoor
open Go.RowKit
set_option linter.unusedVariables false
set_option linter.unusedSimpArgs false
set_option maxRecDepth 100000

set_option maxHeartbeats 1000000 in
theorem NumBack_bad11 (a b c s x1 x2 y1 y2 : Int) (w0 w : World) (hs : St w0 w)
    (ho : a ≤ c)
    (ho1 : x1 ≤ x2)
    (ho2 : y1 ≤ y2)
    (hb1 : b < 1)
    (HA : Hid (∀ w, Calls Tryd.prog 41 #[.int .i64 a, .int .i64 b] w fun e w' => e = .returned (.tuple #[.int .i64 s, .nilIface]) ∧ w = w'))
    (HS : Hid (∀ w, Calls Tryd.prog 42 #[.int .i64 s, .int .i64 b] w fun e w' => e = .returned (.tuple #[.int .i64 a, .nilIface]) ∧ w = w'))
    (HX : Hid (∀ w, Calls Tryd.prog 49 #[.int .i64 a, .int .i64 b] w fun e w' => e = .returned (.int .i64 x1) ∧ w = w'))
    (HY : Hid (∀ w, Calls Tryd.prog 49 #[.int .i64 c, .int .i64 b] w fun e w' => e = .returned (.int .i64 x2) ∧ w = w'))
    (HZ : Hid (∀ w, Calls Tryd.prog 50 #[.int .i64 a, .int .i64 b] w fun e w' => e = .returned (.int .i64 y1) ∧ w = w'))
    (HW : Hid (∀ w, Calls Tryd.prog 50 #[.int .i64 c, .int .i64 b] w fun e w' => e = .returned (.int .i64 y2) ∧ w = w'))
    (HD : Hid (∀ w, Calls Tryd.prog 53 #[.int .i64 a, .int .i64 b] w fun e w' => e = .returned (.tuple #[.int .i64 0, .int .i64 0, .iface 75 (.int .i64 1)]) ∧ w = w'))
    (HC : Hid (∀ w, Calls Tryd.prog 54 #[.int .i64 a, .int .i64 b] w fun e w' => e = .returned (.tuple #[.int .i64 0, .iface 75 (.int .i64 1)]) ∧ w = w')) :
    Calls Tryd.prog 10 #[.int .i64 a, .int .i64 b, .int .i64 c] w fun e w' => e = .returned (.bool true) ∧ St w0 w' := by
  all_goals
    go_enter Tryd.func10, Tryd.ntmps10
    go_wp2_with (first
      | (go_at_call 41; (with_reducible refine (HA.out _).mono ?_); rintro e w' ⟨rfl, rfl⟩)
      | (go_at_call 42; (with_reducible refine (HS.out _).mono ?_); rintro e w' ⟨rfl, rfl⟩)
      | (go_at_call 49; (with_reducible refine (HX.out _).mono ?_); rintro e w' ⟨rfl, rfl⟩)
      | (go_at_call 49; (with_reducible refine (HY.out _).mono ?_); rintro e w' ⟨rfl, rfl⟩)
      | (go_at_call 50; (with_reducible refine (HZ.out _).mono ?_); rintro e w' ⟨rfl, rfl⟩)
      | (go_at_call 50; (with_reducible refine (HW.out _).mono ?_); rintro e w' ⟨rfl, rfl⟩)
      | (go_at_call 53; (with_reducible refine (HD.out _).mono ?_); rintro e w' ⟨rfl, rfl⟩)
      | (go_at_call 54; (with_reducible refine (HC.out _).mono ?_); rintro e w' ⟨rfl, rfl⟩)
      | (go_at_call 47; refine (fuseelaw01_numOf_some _ _ _ (by repeat (first | assumption | apply St.drewN | apply St.drew | apply St.alloc))).mono ?_; rintro e w' ⟨rfl, hs1⟩)
      | (go_at_call 52; refine (sure01 _ _ (by repeat (first | assumption | apply St.drewN | apply St.drew | apply St.alloc))).mono ?_; rintro e w' ⟨rfl, hs1⟩))
    go_ret
    exact ⟨by simp, by repeat (first | assumption | apply St.drewN | apply St.drew | apply St.alloc)⟩
set_option maxHeartbeats 1000000 in
theorem NumBack_good1111 (a b c s x1 x2 y1 y2 q r u p : Int) (w0 w : World) (hs : St w0 w)
    (ho : a ≤ c)
    (ho1 : x1 ≤ x2)
    (ho2 : y1 ≤ y2)
    (hb1 : 1 ≤ b)
    (hr : 0 ≤ r)
    (hrb : r < b)
    (hu : (r == 0) = true)
    (HA : Hid (∀ w, Calls Tryd.prog 41 #[.int .i64 a, .int .i64 b] w fun e w' => e = .returned (.tuple #[.int .i64 s, .nilIface]) ∧ w = w'))
    (HS : Hid (∀ w, Calls Tryd.prog 42 #[.int .i64 s, .int .i64 b] w fun e w' => e = .returned (.tuple #[.int .i64 a, .nilIface]) ∧ w = w'))
    (HX : Hid (∀ w, Calls Tryd.prog 49 #[.int .i64 a, .int .i64 b] w fun e w' => e = .returned (.int .i64 x1) ∧ w = w'))
    (HY : Hid (∀ w, Calls Tryd.prog 49 #[.int .i64 c, .int .i64 b] w fun e w' => e = .returned (.int .i64 x2) ∧ w = w'))
    (HZ : Hid (∀ w, Calls Tryd.prog 50 #[.int .i64 a, .int .i64 b] w fun e w' => e = .returned (.int .i64 y1) ∧ w = w'))
    (HW : Hid (∀ w, Calls Tryd.prog 50 #[.int .i64 c, .int .i64 b] w fun e w' => e = .returned (.int .i64 y2) ∧ w = w'))
    (HD : Hid (∀ w, Calls Tryd.prog 53 #[.int .i64 a, .int .i64 b] w fun e w' => e = .returned (.tuple #[.int .i64 q, .int .i64 r, .nilIface]) ∧ ∃ n, w' = w.drewN n))
    (HC : Hid (∀ w, Calls Tryd.prog 54 #[.int .i64 a, .int .i64 b] w fun e w' => e = .returned (.tuple #[.int .i64 q, .nilIface]) ∧ ∃ n, w' = w.drewN n))
    (HM : Hid (∀ w, Calls Tryd.prog 43 #[.int .i64 q, .int .i64 b] w fun e w' => e = .returned (.tuple #[.int .i64 p, .nilIface]) ∧ w = w'))
    (HT : Hid (∀ w, Calls Tryd.prog 41 #[.int .i64 p, .int .i64 r] w fun e w' => e = .returned (.tuple #[.int .i64 a, .nilIface]) ∧ w = w')) :
    Calls Tryd.prog 10 #[.int .i64 a, .int .i64 b, .int .i64 c] w fun e w' => e = .returned (.bool true) ∧ St w0 w' := by
  all_goals
    go_enter Tryd.func10, Tryd.ntmps10
    go_wp2_with (first
      | (go_at_call 41; (with_reducible refine (HA.out _).mono ?_); rintro e w' ⟨rfl, rfl⟩)
      | (go_at_call 42; (with_reducible refine (HS.out _).mono ?_); rintro e w' ⟨rfl, rfl⟩)
      | (go_at_call 49; (with_reducible refine (HX.out _).mono ?_); rintro e w' ⟨rfl, rfl⟩)
      | (go_at_call 49; (with_reducible refine (HY.out _).mono ?_); rintro e w' ⟨rfl, rfl⟩)
      | (go_at_call 50; (with_reducible refine (HZ.out _).mono ?_); rintro e w' ⟨rfl, rfl⟩)
      | (go_at_call 50; (with_reducible refine (HW.out _).mono ?_); rintro e w' ⟨rfl, rfl⟩)
      | (go_at_call 53; (with_reducible refine (HD.out _).mono ?_); rintro e w' ⟨rfl, nq, rfl⟩)
      | (go_at_call 54; (with_reducible refine (HC.out _).mono ?_); rintro e w' ⟨rfl, nq, rfl⟩)
      | (go_at_call 43; (with_reducible refine (HM.out _).mono ?_); rintro e w' ⟨rfl, rfl⟩)
      | (go_at_call 41; (with_reducible refine (HT.out _).mono ?_); rintro e w' ⟨rfl, rfl⟩)
      | (go_at_call 47; refine (fuseelaw01_numOf_some _ _ _ (by repeat (first | assumption | apply St.drewN | apply St.drew | apply St.alloc))).mono ?_; rintro e w' ⟨rfl, hs1⟩)
      | (go_at_call 52; refine (sure01 _ _ (by repeat (first | assumption | apply St.drewN | apply St.drew | apply St.alloc))).mono ?_; rintro e w' ⟨rfl, hs1⟩))
    go_ret
    exact ⟨by simp, by repeat (first | assumption | apply St.drewN | apply St.drew | apply St.alloc)⟩
set_option maxHeartbeats 1000000 in
theorem NumBack_good1110 (a b c s x1 x2 y1 y2 q r u p : Int) (w0 w : World) (hs : St w0 w)
    (ho : a ≤ c)
    (ho1 : x1 ≤ x2)
    (ho2 : y1 ≤ y2)
    (hb1 : 1 ≤ b)
    (hr : 0 ≤ r)
    (hrb : r < b)
    (hu : (u == q) = false)
    (hu0 : (u != q) = true)
    (hu1 : (r == 0) = false)
    (hu2 : wrap64 (u - 1) = q)
    (HA : Hid (∀ w, Calls Tryd.prog 41 #[.int .i64 a, .int .i64 b] w fun e w' => e = .returned (.tuple #[.int .i64 s, .nilIface]) ∧ w = w'))
    (HS : Hid (∀ w, Calls Tryd.prog 42 #[.int .i64 s, .int .i64 b] w fun e w' => e = .returned (.tuple #[.int .i64 a, .nilIface]) ∧ w = w'))
    (HX : Hid (∀ w, Calls Tryd.prog 49 #[.int .i64 a, .int .i64 b] w fun e w' => e = .returned (.int .i64 x1) ∧ w = w'))
    (HY : Hid (∀ w, Calls Tryd.prog 49 #[.int .i64 c, .int .i64 b] w fun e w' => e = .returned (.int .i64 x2) ∧ w = w'))
    (HZ : Hid (∀ w, Calls Tryd.prog 50 #[.int .i64 a, .int .i64 b] w fun e w' => e = .returned (.int .i64 y1) ∧ w = w'))
    (HW : Hid (∀ w, Calls Tryd.prog 50 #[.int .i64 c, .int .i64 b] w fun e w' => e = .returned (.int .i64 y2) ∧ w = w'))
    (HD : Hid (∀ w, Calls Tryd.prog 53 #[.int .i64 a, .int .i64 b] w fun e w' => e = .returned (.tuple #[.int .i64 q, .int .i64 r, .nilIface]) ∧ ∃ n, w' = w.drewN n))
    (HC : Hid (∀ w, Calls Tryd.prog 54 #[.int .i64 a, .int .i64 b] w fun e w' => e = .returned (.tuple #[.int .i64 u, .nilIface]) ∧ ∃ n, w' = w.drewN n))
    (HM : Hid (∀ w, Calls Tryd.prog 43 #[.int .i64 q, .int .i64 b] w fun e w' => e = .returned (.tuple #[.int .i64 p, .nilIface]) ∧ w = w'))
    (HT : Hid (∀ w, Calls Tryd.prog 41 #[.int .i64 p, .int .i64 r] w fun e w' => e = .returned (.tuple #[.int .i64 a, .nilIface]) ∧ w = w')) :
    Calls Tryd.prog 10 #[.int .i64 a, .int .i64 b, .int .i64 c] w fun e w' => e = .returned (.bool true) ∧ St w0 w' := by
  all_goals
    go_enter Tryd.func10, Tryd.ntmps10
    go_wp2_with (first
      | (go_at_call 41; (with_reducible refine (HA.out _).mono ?_); rintro e w' ⟨rfl, rfl⟩)
      | (go_at_call 42; (with_reducible refine (HS.out _).mono ?_); rintro e w' ⟨rfl, rfl⟩)
      | (go_at_call 49; (with_reducible refine (HX.out _).mono ?_); rintro e w' ⟨rfl, rfl⟩)
      | (go_at_call 49; (with_reducible refine (HY.out _).mono ?_); rintro e w' ⟨rfl, rfl⟩)
      | (go_at_call 50; (with_reducible refine (HZ.out _).mono ?_); rintro e w' ⟨rfl, rfl⟩)
      | (go_at_call 50; (with_reducible refine (HW.out _).mono ?_); rintro e w' ⟨rfl, rfl⟩)
      | (go_at_call 53; (with_reducible refine (HD.out _).mono ?_); rintro e w' ⟨rfl, nq, rfl⟩)
      | (go_at_call 54; (with_reducible refine (HC.out _).mono ?_); rintro e w' ⟨rfl, nq, rfl⟩)
      | (go_at_call 43; (with_reducible refine (HM.out _).mono ?_); rintro e w' ⟨rfl, rfl⟩)
      | (go_at_call 41; (with_reducible refine (HT.out _).mono ?_); rintro e w' ⟨rfl, rfl⟩)
      | (go_at_call 47; refine (fuseelaw01_numOf_some _ _ _ (by repeat (first | assumption | apply St.drewN | apply St.drew | apply St.alloc))).mono ?_; rintro e w' ⟨rfl, hs1⟩)
      | (go_at_call 52; refine (sure01 _ _ (by repeat (first | assumption | apply St.drewN | apply St.drew | apply St.alloc))).mono ?_; rintro e w' ⟨rfl, hs1⟩))
    go_ret
    exact ⟨by simp, by repeat (first | assumption | apply St.drewN | apply St.drew | apply St.alloc)⟩
set_option maxHeartbeats 1000000 in
theorem NumBack_good1101 (a b c s x1 x2 y1 y2 q r u p : Int) (w0 w : World) (hs : St w0 w)
    (ho : a ≤ c)
    (ho1 : x1 ≤ x2)
    (ho2 : y1 ≤ y2)
    (hb1 : 1 ≤ b)
    (hr : 0 ≤ r)
    (hrb : r < b)
    (hu : (r == 0) = true)
    (hP : a < 0)
    (HA : Hid (∀ w, Calls Tryd.prog 41 #[.int .i64 a, .int .i64 b] w fun e w' => e = .returned (.tuple #[.int .i64 s, .nilIface]) ∧ w = w'))
    (HS : Hid (∀ w, Calls Tryd.prog 42 #[.int .i64 s, .int .i64 b] w fun e w' => e = .returned (.tuple #[.int .i64 a, .nilIface]) ∧ w = w'))
    (HX : Hid (∀ w, Calls Tryd.prog 49 #[.int .i64 a, .int .i64 b] w fun e w' => e = .returned (.int .i64 x1) ∧ w = w'))
    (HY : Hid (∀ w, Calls Tryd.prog 49 #[.int .i64 c, .int .i64 b] w fun e w' => e = .returned (.int .i64 x2) ∧ w = w'))
    (HZ : Hid (∀ w, Calls Tryd.prog 50 #[.int .i64 a, .int .i64 b] w fun e w' => e = .returned (.int .i64 y1) ∧ w = w'))
    (HW : Hid (∀ w, Calls Tryd.prog 50 #[.int .i64 c, .int .i64 b] w fun e w' => e = .returned (.int .i64 y2) ∧ w = w'))
    (HD : Hid (∀ w, Calls Tryd.prog 53 #[.int .i64 a, .int .i64 b] w fun e w' => e = .returned (.tuple #[.int .i64 q, .int .i64 r, .nilIface]) ∧ ∃ n, w' = w.drewN n))
    (HC : Hid (∀ w, Calls Tryd.prog 54 #[.int .i64 a, .int .i64 b] w fun e w' => e = .returned (.tuple #[.int .i64 q, .nilIface]) ∧ ∃ n, w' = w.drewN n))
    (HM : Hid (∀ w, Calls Tryd.prog 43 #[.int .i64 q, .int .i64 b] w fun e w' => e = .returned (.tuple #[.int .i64 0, .iface 75 (.int .i64 2)]) ∧ w = w')) :
    Calls Tryd.prog 10 #[.int .i64 a, .int .i64 b, .int .i64 c] w fun e w' => e = .returned (.bool true) ∧ St w0 w' := by
  all_goals
    go_enter Tryd.func10, Tryd.ntmps10
    go_wp2_with (first
      | (go_at_call 41; (with_reducible refine (HA.out _).mono ?_); rintro e w' ⟨rfl, rfl⟩)
      | (go_at_call 42; (with_reducible refine (HS.out _).mono ?_); rintro e w' ⟨rfl, rfl⟩)
      | (go_at_call 49; (with_reducible refine (HX.out _).mono ?_); rintro e w' ⟨rfl, rfl⟩)
      | (go_at_call 49; (with_reducible refine (HY.out _).mono ?_); rintro e w' ⟨rfl, rfl⟩)
      | (go_at_call 50; (with_reducible refine (HZ.out _).mono ?_); rintro e w' ⟨rfl, rfl⟩)
      | (go_at_call 50; (with_reducible refine (HW.out _).mono ?_); rintro e w' ⟨rfl, rfl⟩)
      | (go_at_call 53; (with_reducible refine (HD.out _).mono ?_); rintro e w' ⟨rfl, nq, rfl⟩)
      | (go_at_call 54; (with_reducible refine (HC.out _).mono ?_); rintro e w' ⟨rfl, nq, rfl⟩)
      | (go_at_call 43; (with_reducible refine (HM.out _).mono ?_); rintro e w' ⟨rfl, rfl⟩)
      | (go_at_call 47; refine (fuseelaw01_numOf_some _ _ _ (by repeat (first | assumption | apply St.drewN | apply St.drew | apply St.alloc))).mono ?_; rintro e w' ⟨rfl, hs1⟩)
      | (go_at_call 52; refine (sure01 _ _ (by repeat (first | assumption | apply St.drewN | apply St.drew | apply St.alloc))).mono ?_; rintro e w' ⟨rfl, hs1⟩))
    go_ret
    exact ⟨by simp, by repeat (first | assumption | apply St.drewN | apply St.drew | apply St.alloc)⟩
set_option maxHeartbeats 1000000 in
theorem NumBack_good1100 (a b c s x1 x2 y1 y2 q r u p : Int) (w0 w : World) (hs : St w0 w)
    (ho : a ≤ c)
    (ho1 : x1 ≤ x2)
    (ho2 : y1 ≤ y2)
    (hb1 : 1 ≤ b)
    (hr : 0 ≤ r)
    (hrb : r < b)
    (hu : (u == q) = false)
    (hu0 : (u != q) = true)
    (hu1 : (r == 0) = false)
    (hu2 : wrap64 (u - 1) = q)
    (hP : a < 0)
    (HA : Hid (∀ w, Calls Tryd.prog 41 #[.int .i64 a, .int .i64 b] w fun e w' => e = .returned (.tuple #[.int .i64 s, .nilIface]) ∧ w = w'))
    (HS : Hid (∀ w, Calls Tryd.prog 42 #[.int .i64 s, .int .i64 b] w fun e w' => e = .returned (.tuple #[.int .i64 a, .nilIface]) ∧ w = w'))
    (HX : Hid (∀ w, Calls Tryd.prog 49 #[.int .i64 a, .int .i64 b] w fun e w' => e = .returned (.int .i64 x1) ∧ w = w'))
    (HY : Hid (∀ w, Calls Tryd.prog 49 #[.int .i64 c, .int .i64 b] w fun e w' => e = .returned (.int .i64 x2) ∧ w = w'))
    (HZ : Hid (∀ w, Calls Tryd.prog 50 #[.int .i64 a, .int .i64 b] w fun e w' => e = .returned (.int .i64 y1) ∧ w = w'))
    (HW : Hid (∀ w, Calls Tryd.prog 50 #[.int .i64 c, .int .i64 b] w fun e w' => e = .returned (.int .i64 y2) ∧ w = w'))
    (HD : Hid (∀ w, Calls Tryd.prog 53 #[.int .i64 a, .int .i64 b] w fun e w' => e = .returned (.tuple #[.int .i64 q, .int .i64 r, .nilIface]) ∧ ∃ n, w' = w.drewN n))
    (HC : Hid (∀ w, Calls Tryd.prog 54 #[.int .i64 a, .int .i64 b] w fun e w' => e = .returned (.tuple #[.int .i64 u, .nilIface]) ∧ ∃ n, w' = w.drewN n))
    (HM : Hid (∀ w, Calls Tryd.prog 43 #[.int .i64 q, .int .i64 b] w fun e w' => e = .returned (.tuple #[.int .i64 0, .iface 75 (.int .i64 2)]) ∧ w = w')) :
    Calls Tryd.prog 10 #[.int .i64 a, .int .i64 b, .int .i64 c] w fun e w' => e = .returned (.bool true) ∧ St w0 w' := by
  all_goals
    go_enter Tryd.func10, Tryd.ntmps10
    go_wp2_with (first
      | (go_at_call 41; (with_reducible refine (HA.out _).mono ?_); rintro e w' ⟨rfl, rfl⟩)
      | (go_at_call 42; (with_reducible refine (HS.out _).mono ?_); rintro e w' ⟨rfl, rfl⟩)
      | (go_at_call 49; (with_reducible refine (HX.out _).mono ?_); rintro e w' ⟨rfl, rfl⟩)
      | (go_at_call 49; (with_reducible refine (HY.out _).mono ?_); rintro e w' ⟨rfl, rfl⟩)
      | (go_at_call 50; (with_reducible refine (HZ.out _).mono ?_); rintro e w' ⟨rfl, rfl⟩)
      | (go_at_call 50; (with_reducible refine (HW.out _).mono ?_); rintro e w' ⟨rfl, rfl⟩)
      | (go_at_call 53; (with_reducible refine (HD.out _).mono ?_); rintro e w' ⟨rfl, nq, rfl⟩)
      | (go_at_call 54; (with_reducible refine (HC.out _).mono ?_); rintro e w' ⟨rfl, nq, rfl⟩)
      | (go_at_call 43; (with_reducible refine (HM.out _).mono ?_); rintro e w' ⟨rfl, rfl⟩)
      | (go_at_call 47; refine (fuseelaw01_numOf_some _ _ _ (by repeat (first | assumption | apply St.drewN | apply St.drew | apply St.alloc))).mono ?_; rintro e w' ⟨rfl, hs1⟩)
      | (go_at_call 52; refine (sure01 _ _ (by repeat (first | assumption | apply St.drewN | apply St.drew | apply St.alloc))).mono ?_; rintro e w' ⟨rfl, hs1⟩))
    go_ret
    exact ⟨by simp, by repeat (first | assumption | apply St.drewN | apply St.drew | apply St.alloc)⟩
set_option maxHeartbeats 1000000 in
theorem NumBack_bad10 (a b c s x1 x2 y1 y2 : Int) (w0 w : World) (hs : St w0 w)
    (ho : ¬ a ≤ c)
    (hb1 : b < 1)
    (HA : Hid (∀ w, Calls Tryd.prog 41 #[.int .i64 a, .int .i64 b] w fun e w' => e = .returned (.tuple #[.int .i64 s, .nilIface]) ∧ w = w'))
    (HS : Hid (∀ w, Calls Tryd.prog 42 #[.int .i64 s, .int .i64 b] w fun e w' => e = .returned (.tuple #[.int .i64 a, .nilIface]) ∧ w = w'))
    (HX : Hid (∀ w, Calls Tryd.prog 49 #[.int .i64 a, .int .i64 b] w fun e w' => e = .returned (.int .i64 x1) ∧ w = w'))
    (HY : Hid (∀ w, Calls Tryd.prog 49 #[.int .i64 c, .int .i64 b] w fun e w' => e = .returned (.int .i64 x2) ∧ w = w'))
    (HZ : Hid (∀ w, Calls Tryd.prog 50 #[.int .i64 a, .int .i64 b] w fun e w' => e = .returned (.int .i64 y1) ∧ w = w'))
    (HW : Hid (∀ w, Calls Tryd.prog 50 #[.int .i64 c, .int .i64 b] w fun e w' => e = .returned (.int .i64 y2) ∧ w = w'))
    (HD : Hid (∀ w, Calls Tryd.prog 53 #[.int .i64 a, .int .i64 b] w fun e w' => e = .returned (.tuple #[.int .i64 0, .int .i64 0, .iface 75 (.int .i64 1)]) ∧ w = w'))
    (HC : Hid (∀ w, Calls Tryd.prog 54 #[.int .i64 a, .int .i64 b] w fun e w' => e = .returned (.tuple #[.int .i64 0, .iface 75 (.int .i64 1)]) ∧ w = w')) :
    Calls Tryd.prog 10 #[.int .i64 a, .int .i64 b, .int .i64 c] w fun e w' => e = .returned (.bool true) ∧ St w0 w' := by
  all_goals
    go_enter Tryd.func10, Tryd.ntmps10
    go_wp2_with (first
      | (go_at_call 41; (with_reducible refine (HA.out _).mono ?_); rintro e w' ⟨rfl, rfl⟩)
      | (go_at_call 42; (with_reducible refine (HS.out _).mono ?_); rintro e w' ⟨rfl, rfl⟩)
      | (go_at_call 49; (with_reducible refine (HX.out _).mono ?_); rintro e w' ⟨rfl, rfl⟩)
      | (go_at_call 49; (with_reducible refine (HY.out _).mono ?_); rintro e w' ⟨rfl, rfl⟩)
      | (go_at_call 50; (with_reducible refine (HZ.out _).mono ?_); rintro e w' ⟨rfl, rfl⟩)
      | (go_at_call 50; (with_reducible refine (HW.out _).mono ?_); rintro e w' ⟨rfl, rfl⟩)
      | (go_at_call 53; (with_reducible refine (HD.out _).mono ?_); rintro e w' ⟨rfl, rfl⟩)
      | (go_at_call 54; (with_reducible refine (HC.out _).mono ?_); rintro e w' ⟨rfl, rfl⟩)
      | (go_at_call 47; refine (fuseelaw01_numOf_some _ _ _ (by repeat (first | assumption | apply St.drewN | apply St.drew | apply St.alloc))).mono ?_; rintro e w' ⟨rfl, hs1⟩)
      | (go_at_call 52; refine (sure01 _ _ (by repeat (first | assumption | apply St.drewN | apply St.drew | apply St.alloc))).mono ?_; rintro e w' ⟨rfl, hs1⟩))
    go_ret
    exact ⟨by simp, by repeat (first | assumption | apply St.drewN | apply St.drew | apply St.alloc)⟩
set_option maxHeartbeats 1000000 in
theorem NumBack_good1011 (a b c s x1 x2 y1 y2 q r u p : Int) (w0 w : World) (hs : St w0 w)
    (ho : ¬ a ≤ c)
    (hb1 : 1 ≤ b)
    (hr : 0 ≤ r)
    (hrb : r < b)
    (hu : (r == 0) = true)
    (HA : Hid (∀ w, Calls Tryd.prog 41 #[.int .i64 a, .int .i64 b] w fun e w' => e = .returned (.tuple #[.int .i64 s, .nilIface]) ∧ w = w'))
    (HS : Hid (∀ w, Calls Tryd.prog 42 #[.int .i64 s, .int .i64 b] w fun e w' => e = .returned (.tuple #[.int .i64 a, .nilIface]) ∧ w = w'))
    (HX : Hid (∀ w, Calls Tryd.prog 49 #[.int .i64 a, .int .i64 b] w fun e w' => e = .returned (.int .i64 x1) ∧ w = w'))
    (HY : Hid (∀ w, Calls Tryd.prog 49 #[.int .i64 c, .int .i64 b] w fun e w' => e = .returned (.int .i64 x2) ∧ w = w'))
    (HZ : Hid (∀ w, Calls Tryd.prog 50 #[.int .i64 a, .int .i64 b] w fun e w' => e = .returned (.int .i64 y1) ∧ w = w'))
    (HW : Hid (∀ w, Calls Tryd.prog 50 #[.int .i64 c, .int .i64 b] w fun e w' => e = .returned (.int .i64 y2) ∧ w = w'))
    (HD : Hid (∀ w, Calls Tryd.prog 53 #[.int .i64 a, .int .i64 b] w fun e w' => e = .returned (.tuple #[.int .i64 q, .int .i64 r, .nilIface]) ∧ ∃ n, w' = w.drewN n))
    (HC : Hid (∀ w, Calls Tryd.prog 54 #[.int .i64 a, .int .i64 b] w fun e w' => e = .returned (.tuple #[.int .i64 q, .nilIface]) ∧ ∃ n, w' = w.drewN n))
    (HM : Hid (∀ w, Calls Tryd.prog 43 #[.int .i64 q, .int .i64 b] w fun e w' => e = .returned (.tuple #[.int .i64 p, .nilIface]) ∧ w = w'))
    (HT : Hid (∀ w, Calls Tryd.prog 41 #[.int .i64 p, .int .i64 r] w fun e w' => e = .returned (.tuple #[.int .i64 a, .nilIface]) ∧ w = w')) :
    Calls Tryd.prog 10 #[.int .i64 a, .int .i64 b, .int .i64 c] w fun e w' => e = .returned (.bool true) ∧ St w0 w' := by
  all_goals
    go_enter Tryd.func10, Tryd.ntmps10
    go_wp2_with (first
      | (go_at_call 41; (with_reducible refine (HA.out _).mono ?_); rintro e w' ⟨rfl, rfl⟩)
      | (go_at_call 42; (with_reducible refine (HS.out _).mono ?_); rintro e w' ⟨rfl, rfl⟩)
      | (go_at_call 49; (with_reducible refine (HX.out _).mono ?_); rintro e w' ⟨rfl, rfl⟩)
      | (go_at_call 49; (with_reducible refine (HY.out _).mono ?_); rintro e w' ⟨rfl, rfl⟩)
      | (go_at_call 50; (with_reducible refine (HZ.out _).mono ?_); rintro e w' ⟨rfl, rfl⟩)
      | (go_at_call 50; (with_reducible refine (HW.out _).mono ?_); rintro e w' ⟨rfl, rfl⟩)
      | (go_at_call 53; (with_reducible refine (HD.out _).mono ?_); rintro e w' ⟨rfl, nq, rfl⟩)
      | (go_at_call 54; (with_reducible refine (HC.out _).mono ?_); rintro e w' ⟨rfl, nq, rfl⟩)
      | (go_at_call 43; (with_reducible refine (HM.out _).mono ?_); rintro e w' ⟨rfl, rfl⟩)
      | (go_at_call 41; (with_reducible refine (HT.out _).mono ?_); rintro e w' ⟨rfl, rfl⟩)
      | (go_at_call 47; refine (fuseelaw01_numOf_some _ _ _ (by repeat (first | assumption | apply St.drewN | apply St.drew | apply St.alloc))).mono ?_; rintro e w' ⟨rfl, hs1⟩)
      | (go_at_call 52; refine (sure01 _ _ (by repeat (first | assumption | apply St.drewN | apply St.drew | apply St.alloc))).mono ?_; rintro e w' ⟨rfl, hs1⟩))
    go_ret
    exact ⟨by simp, by repeat (first | assumption | apply St.drewN | apply St.drew | apply St.alloc)⟩
set_option maxHeartbeats 1000000 in
theorem NumBack_good1010 (a b c s x1 x2 y1 y2 q r u p : Int) (w0 w : World) (hs : St w0 w)
    (ho : ¬ a ≤ c)
    (hb1 : 1 ≤ b)
    (hr : 0 ≤ r)
    (hrb : r < b)
    (hu : (u == q) = false)
    (hu0 : (u != q) = true)
    (hu1 : (r == 0) = false)
    (hu2 : wrap64 (u - 1) = q)
    (HA : Hid (∀ w, Calls Tryd.prog 41 #[.int .i64 a, .int .i64 b] w fun e w' => e = .returned (.tuple #[.int .i64 s, .nilIface]) ∧ w = w'))
    (HS : Hid (∀ w, Calls Tryd.prog 42 #[.int .i64 s, .int .i64 b] w fun e w' => e = .returned (.tuple #[.int .i64 a, .nilIface]) ∧ w = w'))
    (HX : Hid (∀ w, Calls Tryd.prog 49 #[.int .i64 a, .int .i64 b] w fun e w' => e = .returned (.int .i64 x1) ∧ w = w'))
    (HY : Hid (∀ w, Calls Tryd.prog 49 #[.int .i64 c, .int .i64 b] w fun e w' => e = .returned (.int .i64 x2) ∧ w = w'))
    (HZ : Hid (∀ w, Calls Tryd.prog 50 #[.int .i64 a, .int .i64 b] w fun e w' => e = .returned (.int .i64 y1) ∧ w = w'))
    (HW : Hid (∀ w, Calls Tryd.prog 50 #[.int .i64 c, .int .i64 b] w fun e w' => e = .returned (.int .i64 y2) ∧ w = w'))
    (HD : Hid (∀ w, Calls Tryd.prog 53 #[.int .i64 a, .int .i64 b] w fun e w' => e = .returned (.tuple #[.int .i64 q, .int .i64 r, .nilIface]) ∧ ∃ n, w' = w.drewN n))
    (HC : Hid (∀ w, Calls Tryd.prog 54 #[.int .i64 a, .int .i64 b] w fun e w' => e = .returned (.tuple #[.int .i64 u, .nilIface]) ∧ ∃ n, w' = w.drewN n))
    (HM : Hid (∀ w, Calls Tryd.prog 43 #[.int .i64 q, .int .i64 b] w fun e w' => e = .returned (.tuple #[.int .i64 p, .nilIface]) ∧ w = w'))
    (HT : Hid (∀ w, Calls Tryd.prog 41 #[.int .i64 p, .int .i64 r] w fun e w' => e = .returned (.tuple #[.int .i64 a, .nilIface]) ∧ w = w')) :
    Calls Tryd.prog 10 #[.int .i64 a, .int .i64 b, .int .i64 c] w fun e w' => e = .returned (.bool true) ∧ St w0 w' := by
  all_goals
    go_enter Tryd.func10, Tryd.ntmps10
    go_wp2_with (first
      | (go_at_call 41; (with_reducible refine (HA.out _).mono ?_); rintro e w' ⟨rfl, rfl⟩)
      | (go_at_call 42; (with_reducible refine (HS.out _).mono ?_); rintro e w' ⟨rfl, rfl⟩)
      | (go_at_call 49; (with_reducible refine (HX.out _).mono ?_); rintro e w' ⟨rfl, rfl⟩)
      | (go_at_call 49; (with_reducible refine (HY.out _).mono ?_); rintro e w' ⟨rfl, rfl⟩)
      | (go_at_call 50; (with_reducible refine (HZ.out _).mono ?_); rintro e w' ⟨rfl, rfl⟩)
      | (go_at_call 50; (with_reducible refine (HW.out _).mono ?_); rintro e w' ⟨rfl, rfl⟩)
      | (go_at_call 53; (with_reducible refine (HD.out _).mono ?_); rintro e w' ⟨rfl, nq, rfl⟩)
      | (go_at_call 54; (with_reducible refine (HC.out _).mono ?_); rintro e w' ⟨rfl, nq, rfl⟩)
      | (go_at_call 43; (with_reducible refine (HM.out _).mono ?_); rintro e w' ⟨rfl, rfl⟩)
      | (go_at_call 41; (with_reducible refine (HT.out _).mono ?_); rintro e w' ⟨rfl, rfl⟩)
      | (go_at_call 47; refine (fuseelaw01_numOf_some _ _ _ (by repeat (first | assumption | apply St.drewN | apply St.drew | apply St.alloc))).mono ?_; rintro e w' ⟨rfl, hs1⟩)
      | (go_at_call 52; refine (sure01 _ _ (by repeat (first | assumption | apply St.drewN | apply St.drew | apply St.alloc))).mono ?_; rintro e w' ⟨rfl, hs1⟩))
    go_ret
    exact ⟨by simp, by repeat (first | assumption | apply St.drewN | apply St.drew | apply St.alloc)⟩
set_option maxHeartbeats 1000000 in
theorem NumBack_good1001 (a b c s x1 x2 y1 y2 q r u p : Int) (w0 w : World) (hs : St w0 w)
    (ho : ¬ a ≤ c)
    (hb1 : 1 ≤ b)
    (hr : 0 ≤ r)
    (hrb : r < b)
    (hu : (r == 0) = true)
    (hP : a < 0)
    (HA : Hid (∀ w, Calls Tryd.prog 41 #[.int .i64 a, .int .i64 b] w fun e w' => e = .returned (.tuple #[.int .i64 s, .nilIface]) ∧ w = w'))
    (HS : Hid (∀ w, Calls Tryd.prog 42 #[.int .i64 s, .int .i64 b] w fun e w' => e = .returned (.tuple #[.int .i64 a, .nilIface]) ∧ w = w'))
    (HX : Hid (∀ w, Calls Tryd.prog 49 #[.int .i64 a, .int .i64 b] w fun e w' => e = .returned (.int .i64 x1) ∧ w = w'))
    (HY : Hid (∀ w, Calls Tryd.prog 49 #[.int .i64 c, .int .i64 b] w fun e w' => e = .returned (.int .i64 x2) ∧ w = w'))
    (HZ : Hid (∀ w, Calls Tryd.prog 50 #[.int .i64 a, .int .i64 b] w fun e w' => e = .returned (.int .i64 y1) ∧ w = w'))
    (HW : Hid (∀ w, Calls Tryd.prog 50 #[.int .i64 c, .int .i64 b] w fun e w' => e = .returned (.int .i64 y2) ∧ w = w'))
    (HD : Hid (∀ w, Calls Tryd.prog 53 #[.int .i64 a, .int .i64 b] w fun e w' => e = .returned (.tuple #[.int .i64 q, .int .i64 r, .nilIface]) ∧ ∃ n, w' = w.drewN n))
    (HC : Hid (∀ w, Calls Tryd.prog 54 #[.int .i64 a, .int .i64 b] w fun e w' => e = .returned (.tuple #[.int .i64 q, .nilIface]) ∧ ∃ n, w' = w.drewN n))
    (HM : Hid (∀ w, Calls Tryd.prog 43 #[.int .i64 q, .int .i64 b] w fun e w' => e = .returned (.tuple #[.int .i64 0, .iface 75 (.int .i64 2)]) ∧ w = w')) :
    Calls Tryd.prog 10 #[.int .i64 a, .int .i64 b, .int .i64 c] w fun e w' => e = .returned (.bool true) ∧ St w0 w' := by
  all_goals
    go_enter Tryd.func10, Tryd.ntmps10
    go_wp2_with (first
      | (go_at_call 41; (with_reducible refine (HA.out _).mono ?_); rintro e w' ⟨rfl, rfl⟩)
      | (go_at_call 42; (with_reducible refine (HS.out _).mono ?_); rintro e w' ⟨rfl, rfl⟩)
      | (go_at_call 49; (with_reducible refine (HX.out _).mono ?_); rintro e w' ⟨rfl, rfl⟩)
      | (go_at_call 49; (with_reducible refine (HY.out _).mono ?_); rintro e w' ⟨rfl, rfl⟩)
      | (go_at_call 50; (with_reducible refine (HZ.out _).mono ?_); rintro e w' ⟨rfl, rfl⟩)
      | (go_at_call 50; (with_reducible refine (HW.out _).mono ?_); rintro e w' ⟨rfl, rfl⟩)
      | (go_at_call 53; (with_reducible refine (HD.out _).mono ?_); rintro e w' ⟨rfl, nq, rfl⟩)
      | (go_at_call 54; (with_reducible refine (HC.out _).mono ?_); rintro e w' ⟨rfl, nq, rfl⟩)
      | (go_at_call 43; (with_reducible refine (HM.out _).mono ?_); rintro e w' ⟨rfl, rfl⟩)
      | (go_at_call 47; refine (fuseelaw01_numOf_some _ _ _ (by repeat (first | assumption | apply St.drewN | apply St.drew | apply St.alloc))).mono ?_; rintro e w' ⟨rfl, hs1⟩)
      | (go_at_call 52; refine (sure01 _ _ (by repeat (first | assumption | apply St.drewN | apply St.drew | apply St.alloc))).mono ?_; rintro e w' ⟨rfl, hs1⟩))
    go_ret
    exact ⟨by simp, by repeat (first | assumption | apply St.drewN | apply St.drew | apply St.alloc)⟩
set_option maxHeartbeats 1000000 in
theorem NumBack_good1000 (a b c s x1 x2 y1 y2 q r u p : Int) (w0 w : World) (hs : St w0 w)
    (ho : ¬ a ≤ c)
    (hb1 : 1 ≤ b)
    (hr : 0 ≤ r)
    (hrb : r < b)
    (hu : (u == q) = false)
    (hu0 : (u != q) = true)
    (hu1 : (r == 0) = false)
    (hu2 : wrap64 (u - 1) = q)
    (hP : a < 0)
    (HA : Hid (∀ w, Calls Tryd.prog 41 #[.int .i64 a, .int .i64 b] w fun e w' => e = .returned (.tuple #[.int .i64 s, .nilIface]) ∧ w = w'))
    (HS : Hid (∀ w, Calls Tryd.prog 42 #[.int .i64 s, .int .i64 b] w fun e w' => e = .returned (.tuple #[.int .i64 a, .nilIface]) ∧ w = w'))
    (HX : Hid (∀ w, Calls Tryd.prog 49 #[.int .i64 a, .int .i64 b] w fun e w' => e = .returned (.int .i64 x1) ∧ w = w'))
    (HY : Hid (∀ w, Calls Tryd.prog 49 #[.int .i64 c, .int .i64 b] w fun e w' => e = .returned (.int .i64 x2) ∧ w = w'))
    (HZ : Hid (∀ w, Calls Tryd.prog 50 #[.int .i64 a, .int .i64 b] w fun e w' => e = .returned (.int .i64 y1) ∧ w = w'))
    (HW : Hid (∀ w, Calls Tryd.prog 50 #[.int .i64 c, .int .i64 b] w fun e w' => e = .returned (.int .i64 y2) ∧ w = w'))
    (HD : Hid (∀ w, Calls Tryd.prog 53 #[.int .i64 a, .int .i64 b] w fun e w' => e = .returned (.tuple #[.int .i64 q, .int .i64 r, .nilIface]) ∧ ∃ n, w' = w.drewN n))
    (HC : Hid (∀ w, Calls Tryd.prog 54 #[.int .i64 a, .int .i64 b] w fun e w' => e = .returned (.tuple #[.int .i64 u, .nilIface]) ∧ ∃ n, w' = w.drewN n))
    (HM : Hid (∀ w, Calls Tryd.prog 43 #[.int .i64 q, .int .i64 b] w fun e w' => e = .returned (.tuple #[.int .i64 0, .iface 75 (.int .i64 2)]) ∧ w = w')) :
    Calls Tryd.prog 10 #[.int .i64 a, .int .i64 b, .int .i64 c] w fun e w' => e = .returned (.bool true) ∧ St w0 w' := by
  all_goals
    go_enter Tryd.func10, Tryd.ntmps10
    go_wp2_with (first
      | (go_at_call 41; (with_reducible refine (HA.out _).mono ?_); rintro e w' ⟨rfl, rfl⟩)
      | (go_at_call 42; (with_reducible refine (HS.out _).mono ?_); rintro e w' ⟨rfl, rfl⟩)
      | (go_at_call 49; (with_reducible refine (HX.out _).mono ?_); rintro e w' ⟨rfl, rfl⟩)
      | (go_at_call 49; (with_reducible refine (HY.out _).mono ?_); rintro e w' ⟨rfl, rfl⟩)
      | (go_at_call 50; (with_reducible refine (HZ.out _).mono ?_); rintro e w' ⟨rfl, rfl⟩)
      | (go_at_call 50; (with_reducible refine (HW.out _).mono ?_); rintro e w' ⟨rfl, rfl⟩)
      | (go_at_call 53; (with_reducible refine (HD.out _).mono ?_); rintro e w' ⟨rfl, nq, rfl⟩)
      | (go_at_call 54; (with_reducible refine (HC.out _).mono ?_); rintro e w' ⟨rfl, nq, rfl⟩)
      | (go_at_call 43; (with_reducible refine (HM.out _).mono ?_); rintro e w' ⟨rfl, rfl⟩)
      | (go_at_call 47; refine (fuseelaw01_numOf_some _ _ _ (by repeat (first | assumption | apply St.drewN | apply St.drew | apply St.alloc))).mono ?_; rintro e w' ⟨rfl, hs1⟩)
      | (go_at_call 52; refine (sure01 _ _ (by repeat (first | assumption | apply St.drewN | apply St.drew | apply St.alloc))).mono ?_; rintro e w' ⟨rfl, hs1⟩))
    go_ret
    exact ⟨by simp, by repeat (first | assumption | apply St.drewN | apply St.drew | apply St.alloc)⟩
set_option maxHeartbeats 1000000 in
theorem NumBack_bad01 (a b c s x1 x2 y1 y2 : Int) (w0 w : World) (hs : St w0 w)
    (ho : a ≤ c)
    (ho1 : x1 ≤ x2)
    (ho2 : y1 ≤ y2)
    (hb1 : b < 1)
    (HA : Hid (∀ w, Calls Tryd.prog 41 #[.int .i64 a, .int .i64 b] w fun e w' => e = .returned (.tuple #[.int .i64 0, .iface 75 (.int .i64 2)]) ∧ w = w'))
    (HX : Hid (∀ w, Calls Tryd.prog 49 #[.int .i64 a, .int .i64 b] w fun e w' => e = .returned (.int .i64 x1) ∧ w = w'))
    (HY : Hid (∀ w, Calls Tryd.prog 49 #[.int .i64 c, .int .i64 b] w fun e w' => e = .returned (.int .i64 x2) ∧ w = w'))
    (HZ : Hid (∀ w, Calls Tryd.prog 50 #[.int .i64 a, .int .i64 b] w fun e w' => e = .returned (.int .i64 y1) ∧ w = w'))
    (HW : Hid (∀ w, Calls Tryd.prog 50 #[.int .i64 c, .int .i64 b] w fun e w' => e = .returned (.int .i64 y2) ∧ w = w'))
    (HD : Hid (∀ w, Calls Tryd.prog 53 #[.int .i64 a, .int .i64 b] w fun e w' => e = .returned (.tuple #[.int .i64 0, .int .i64 0, .iface 75 (.int .i64 1)]) ∧ w = w'))
    (HC : Hid (∀ w, Calls Tryd.prog 54 #[.int .i64 a, .int .i64 b] w fun e w' => e = .returned (.tuple #[.int .i64 0, .iface 75 (.int .i64 1)]) ∧ w = w')) :
    Calls Tryd.prog 10 #[.int .i64 a, .int .i64 b, .int .i64 c] w fun e w' => e = .returned (.bool true) ∧ St w0 w' := by
  all_goals
    go_enter Tryd.func10, Tryd.ntmps10
    go_wp2_with (first
      | (go_at_call 41; (with_reducible refine (HA.out _).mono ?_); rintro e w' ⟨rfl, rfl⟩)
      | (go_at_call 49; (with_reducible refine (HX.out _).mono ?_); rintro e w' ⟨rfl, rfl⟩)
      | (go_at_call 49; (with_reducible refine (HY.out _).mono ?_); rintro e w' ⟨rfl, rfl⟩)
      | (go_at_call 50; (with_reducible refine (HZ.out _).mono ?_); rintro e w' ⟨rfl, rfl⟩)
      | (go_at_call 50; (with_reducible refine (HW.out _).mono ?_); rintro e w' ⟨rfl, rfl⟩)
      | (go_at_call 53; (with_reducible refine (HD.out _).mono ?_); rintro e w' ⟨rfl, rfl⟩)
      | (go_at_call 54; (with_reducible refine (HC.out _).mono ?_); rintro e w' ⟨rfl, rfl⟩)
      | (go_at_call 47; refine (fuseelaw01_numOf_some _ _ _ (by repeat (first | assumption | apply St.drewN | apply St.drew | apply St.alloc))).mono ?_; rintro e w' ⟨rfl, hs1⟩)
      | (go_at_call 52; refine (sure01 _ _ (by repeat (first | assumption | apply St.drewN | apply St.drew | apply St.alloc))).mono ?_; rintro e w' ⟨rfl, hs1⟩))
    go_ret
    exact ⟨by simp, by repeat (first | assumption | apply St.drewN | apply St.drew | apply St.alloc)⟩
set_option maxHeartbeats 1000000 in
theorem NumBack_good0111 (a b c s x1 x2 y1 y2 q r u p : Int) (w0 w : World) (hs : St w0 w)
    (ho : a ≤ c)
    (ho1 : x1 ≤ x2)
    (ho2 : y1 ≤ y2)
    (hb1 : 1 ≤ b)
    (hr : 0 ≤ r)
    (hrb : r < b)
    (hu : (r == 0) = true)
    (HA : Hid (∀ w, Calls Tryd.prog 41 #[.int .i64 a, .int .i64 b] w fun e w' => e = .returned (.tuple #[.int .i64 0, .iface 75 (.int .i64 2)]) ∧ w = w'))
    (HX : Hid (∀ w, Calls Tryd.prog 49 #[.int .i64 a, .int .i64 b] w fun e w' => e = .returned (.int .i64 x1) ∧ w = w'))
    (HY : Hid (∀ w, Calls Tryd.prog 49 #[.int .i64 c, .int .i64 b] w fun e w' => e = .returned (.int .i64 x2) ∧ w = w'))
    (HZ : Hid (∀ w, Calls Tryd.prog 50 #[.int .i64 a, .int .i64 b] w fun e w' => e = .returned (.int .i64 y1) ∧ w = w'))
    (HW : Hid (∀ w, Calls Tryd.prog 50 #[.int .i64 c, .int .i64 b] w fun e w' => e = .returned (.int .i64 y2) ∧ w = w'))
    (HD : Hid (∀ w, Calls Tryd.prog 53 #[.int .i64 a, .int .i64 b] w fun e w' => e = .returned (.tuple #[.int .i64 q, .int .i64 r, .nilIface]) ∧ ∃ n, w' = w.drewN n))
    (HC : Hid (∀ w, Calls Tryd.prog 54 #[.int .i64 a, .int .i64 b] w fun e w' => e = .returned (.tuple #[.int .i64 q, .nilIface]) ∧ ∃ n, w' = w.drewN n))
    (HM : Hid (∀ w, Calls Tryd.prog 43 #[.int .i64 q, .int .i64 b] w fun e w' => e = .returned (.tuple #[.int .i64 p, .nilIface]) ∧ w = w'))
    (HT : Hid (∀ w, Calls Tryd.prog 41 #[.int .i64 p, .int .i64 r] w fun e w' => e = .returned (.tuple #[.int .i64 a, .nilIface]) ∧ w = w')) :
    Calls Tryd.prog 10 #[.int .i64 a, .int .i64 b, .int .i64 c] w fun e w' => e = .returned (.bool true) ∧ St w0 w' := by
  all_goals
    go_enter Tryd.func10, Tryd.ntmps10
    go_wp2_with (first
      | (go_at_call 41; (with_reducible refine (HA.out _).mono ?_); rintro e w' ⟨rfl, rfl⟩)
      | (go_at_call 49; (with_reducible refine (HX.out _).mono ?_); rintro e w' ⟨rfl, rfl⟩)
      | (go_at_call 49; (with_reducible refine (HY.out _).mono ?_); rintro e w' ⟨rfl, rfl⟩)
      | (go_at_call 50; (with_reducible refine (HZ.out _).mono ?_); rintro e w' ⟨rfl, rfl⟩)
      | (go_at_call 50; (with_reducible refine (HW.out _).mono ?_); rintro e w' ⟨rfl, rfl⟩)
      | (go_at_call 53; (with_reducible refine (HD.out _).mono ?_); rintro e w' ⟨rfl, nq, rfl⟩)
      | (go_at_call 54; (with_reducible refine (HC.out _).mono ?_); rintro e w' ⟨rfl, nq, rfl⟩)
      | (go_at_call 43; (with_reducible refine (HM.out _).mono ?_); rintro e w' ⟨rfl, rfl⟩)
      | (go_at_call 41; (with_reducible refine (HT.out _).mono ?_); rintro e w' ⟨rfl, rfl⟩)
      | (go_at_call 47; refine (fuseelaw01_numOf_some _ _ _ (by repeat (first | assumption | apply St.drewN | apply St.drew | apply St.alloc))).mono ?_; rintro e w' ⟨rfl, hs1⟩)
      | (go_at_call 52; refine (sure01 _ _ (by repeat (first | assumption | apply St.drewN | apply St.drew | apply St.alloc))).mono ?_; rintro e w' ⟨rfl, hs1⟩))
    go_ret
    exact ⟨by simp, by repeat (first | assumption | apply St.drewN | apply St.drew | apply St.alloc)⟩
set_option maxHeartbeats 1000000 in
theorem NumBack_good0110 (a b c s x1 x2 y1 y2 q r u p : Int) (w0 w : World) (hs : St w0 w)
    (ho : a ≤ c)
    (ho1 : x1 ≤ x2)
    (ho2 : y1 ≤ y2)
    (hb1 : 1 ≤ b)
    (hr : 0 ≤ r)
    (hrb : r < b)
    (hu : (u == q) = false)
    (hu0 : (u != q) = true)
    (hu1 : (r == 0) = false)
    (hu2 : wrap64 (u - 1) = q)
    (HA : Hid (∀ w, Calls Tryd.prog 41 #[.int .i64 a, .int .i64 b] w fun e w' => e = .returned (.tuple #[.int .i64 0, .iface 75 (.int .i64 2)]) ∧ w = w'))
    (HX : Hid (∀ w, Calls Tryd.prog 49 #[.int .i64 a, .int .i64 b] w fun e w' => e = .returned (.int .i64 x1) ∧ w = w'))
    (HY : Hid (∀ w, Calls Tryd.prog 49 #[.int .i64 c, .int .i64 b] w fun e w' => e = .returned (.int .i64 x2) ∧ w = w'))
    (HZ : Hid (∀ w, Calls Tryd.prog 50 #[.int .i64 a, .int .i64 b] w fun e w' => e = .returned (.int .i64 y1) ∧ w = w'))
    (HW : Hid (∀ w, Calls Tryd.prog 50 #[.int .i64 c, .int .i64 b] w fun e w' => e = .returned (.int .i64 y2) ∧ w = w'))
    (HD : Hid (∀ w, Calls Tryd.prog 53 #[.int .i64 a, .int .i64 b] w fun e w' => e = .returned (.tuple #[.int .i64 q, .int .i64 r, .nilIface]) ∧ ∃ n, w' = w.drewN n))
    (HC : Hid (∀ w, Calls Tryd.prog 54 #[.int .i64 a, .int .i64 b] w fun e w' => e = .returned (.tuple #[.int .i64 u, .nilIface]) ∧ ∃ n, w' = w.drewN n))
    (HM : Hid (∀ w, Calls Tryd.prog 43 #[.int .i64 q, .int .i64 b] w fun e w' => e = .returned (.tuple #[.int .i64 p, .nilIface]) ∧ w = w'))
    (HT : Hid (∀ w, Calls Tryd.prog 41 #[.int .i64 p, .int .i64 r] w fun e w' => e = .returned (.tuple #[.int .i64 a, .nilIface]) ∧ w = w')) :
    Calls Tryd.prog 10 #[.int .i64 a, .int .i64 b, .int .i64 c] w fun e w' => e = .returned (.bool true) ∧ St w0 w' := by
  all_goals
    go_enter Tryd.func10, Tryd.ntmps10
    go_wp2_with (first
      | (go_at_call 41; (with_reducible refine (HA.out _).mono ?_); rintro e w' ⟨rfl, rfl⟩)
      | (go_at_call 49; (with_reducible refine (HX.out _).mono ?_); rintro e w' ⟨rfl, rfl⟩)
      | (go_at_call 49; (with_reducible refine (HY.out _).mono ?_); rintro e w' ⟨rfl, rfl⟩)
      | (go_at_call 50; (with_reducible refine (HZ.out _).mono ?_); rintro e w' ⟨rfl, rfl⟩)
      | (go_at_call 50; (with_reducible refine (HW.out _).mono ?_); rintro e w' ⟨rfl, rfl⟩)
      | (go_at_call 53; (with_reducible refine (HD.out _).mono ?_); rintro e w' ⟨rfl, nq, rfl⟩)
      | (go_at_call 54; (with_reducible refine (HC.out _).mono ?_); rintro e w' ⟨rfl, nq, rfl⟩)
      | (go_at_call 43; (with_reducible refine (HM.out _).mono ?_); rintro e w' ⟨rfl, rfl⟩)
      | (go_at_call 41; (with_reducible refine (HT.out _).mono ?_); rintro e w' ⟨rfl, rfl⟩)
      | (go_at_call 47; refine (fuseelaw01_numOf_some _ _ _ (by repeat (first | assumption | apply St.drewN | apply St.drew | apply St.alloc))).mono ?_; rintro e w' ⟨rfl, hs1⟩)
      | (go_at_call 52; refine (sure01 _ _ (by repeat (first | assumption | apply St.drewN | apply St.drew | apply St.alloc))).mono ?_; rintro e w' ⟨rfl, hs1⟩))
    go_ret
    exact ⟨by simp, by repeat (first | assumption | apply St.drewN | apply St.drew | apply St.alloc)⟩
set_option maxHeartbeats 1000000 in
theorem NumBack_good0101 (a b c s x1 x2 y1 y2 q r u p : Int) (w0 w : World) (hs : St w0 w)
    (ho : a ≤ c)
    (ho1 : x1 ≤ x2)
    (ho2 : y1 ≤ y2)
    (hb1 : 1 ≤ b)
    (hr : 0 ≤ r)
    (hrb : r < b)
    (hu : (r == 0) = true)
    (hP : a < 0)
    (HA : Hid (∀ w, Calls Tryd.prog 41 #[.int .i64 a, .int .i64 b] w fun e w' => e = .returned (.tuple #[.int .i64 0, .iface 75 (.int .i64 2)]) ∧ w = w'))
    (HX : Hid (∀ w, Calls Tryd.prog 49 #[.int .i64 a, .int .i64 b] w fun e w' => e = .returned (.int .i64 x1) ∧ w = w'))
    (HY : Hid (∀ w, Calls Tryd.prog 49 #[.int .i64 c, .int .i64 b] w fun e w' => e = .returned (.int .i64 x2) ∧ w = w'))
    (HZ : Hid (∀ w, Calls Tryd.prog 50 #[.int .i64 a, .int .i64 b] w fun e w' => e = .returned (.int .i64 y1) ∧ w = w'))
    (HW : Hid (∀ w, Calls Tryd.prog 50 #[.int .i64 c, .int .i64 b] w fun e w' => e = .returned (.int .i64 y2) ∧ w = w'))
    (HD : Hid (∀ w, Calls Tryd.prog 53 #[.int .i64 a, .int .i64 b] w fun e w' => e = .returned (.tuple #[.int .i64 q, .int .i64 r, .nilIface]) ∧ ∃ n, w' = w.drewN n))
    (HC : Hid (∀ w, Calls Tryd.prog 54 #[.int .i64 a, .int .i64 b] w fun e w' => e = .returned (.tuple #[.int .i64 q, .nilIface]) ∧ ∃ n, w' = w.drewN n))
    (HM : Hid (∀ w, Calls Tryd.prog 43 #[.int .i64 q, .int .i64 b] w fun e w' => e = .returned (.tuple #[.int .i64 0, .iface 75 (.int .i64 2)]) ∧ w = w')) :
    Calls Tryd.prog 10 #[.int .i64 a, .int .i64 b, .int .i64 c] w fun e w' => e = .returned (.bool true) ∧ St w0 w' := by
  all_goals
    go_enter Tryd.func10, Tryd.ntmps10
    go_wp2_with (first
      | (go_at_call 41; (with_reducible refine (HA.out _).mono ?_); rintro e w' ⟨rfl, rfl⟩)
      | (go_at_call 49; (with_reducible refine (HX.out _).mono ?_); rintro e w' ⟨rfl, rfl⟩)
      | (go_at_call 49; (with_reducible refine (HY.out _).mono ?_); rintro e w' ⟨rfl, rfl⟩)
      | (go_at_call 50; (with_reducible refine (HZ.out _).mono ?_); rintro e w' ⟨rfl, rfl⟩)
      | (go_at_call 50; (with_reducible refine (HW.out _).mono ?_); rintro e w' ⟨rfl, rfl⟩)
      | (go_at_call 53; (with_reducible refine (HD.out _).mono ?_); rintro e w' ⟨rfl, nq, rfl⟩)
      | (go_at_call 54; (with_reducible refine (HC.out _).mono ?_); rintro e w' ⟨rfl, nq, rfl⟩)
      | (go_at_call 43; (with_reducible refine (HM.out _).mono ?_); rintro e w' ⟨rfl, rfl⟩)
      | (go_at_call 47; refine (fuseelaw01_numOf_some _ _ _ (by repeat (first | assumption | apply St.drewN | apply St.drew | apply St.alloc))).mono ?_; rintro e w' ⟨rfl, hs1⟩)
      | (go_at_call 52; refine (sure01 _ _ (by repeat (first | assumption | apply St.drewN | apply St.drew | apply St.alloc))).mono ?_; rintro e w' ⟨rfl, hs1⟩))
    go_ret
    exact ⟨by simp, by repeat (first | assumption | apply St.drewN | apply St.drew | apply St.alloc)⟩
set_option maxHeartbeats 1000000 in
theorem NumBack_good0100 (a b c s x1 x2 y1 y2 q r u p : Int) (w0 w : World) (hs : St w0 w)
    (ho : a ≤ c)
    (ho1 : x1 ≤ x2)
    (ho2 : y1 ≤ y2)
    (hb1 : 1 ≤ b)
    (hr : 0 ≤ r)
    (hrb : r < b)
    (hu : (u == q) = false)
    (hu0 : (u != q) = true)
    (hu1 : (r == 0) = false)
    (hu2 : wrap64 (u - 1) = q)
    (hP : a < 0)
    (HA : Hid (∀ w, Calls Tryd.prog 41 #[.int .i64 a, .int .i64 b] w fun e w' => e = .returned (.tuple #[.int .i64 0, .iface 75 (.int .i64 2)]) ∧ w = w'))
    (HX : Hid (∀ w, Calls Tryd.prog 49 #[.int .i64 a, .int .i64 b] w fun e w' => e = .returned (.int .i64 x1) ∧ w = w'))
    (HY : Hid (∀ w, Calls Tryd.prog 49 #[.int .i64 c, .int .i64 b] w fun e w' => e = .returned (.int .i64 x2) ∧ w = w'))
    (HZ : Hid (∀ w, Calls Tryd.prog 50 #[.int .i64 a, .int .i64 b] w fun e w' => e = .returned (.int .i64 y1) ∧ w = w'))
    (HW : Hid (∀ w, Calls Tryd.prog 50 #[.int .i64 c, .int .i64 b] w fun e w' => e = .returned (.int .i64 y2) ∧ w = w'))
    (HD : Hid (∀ w, Calls Tryd.prog 53 #[.int .i64 a, .int .i64 b] w fun e w' => e = .returned (.tuple #[.int .i64 q, .int .i64 r, .nilIface]) ∧ ∃ n, w' = w.drewN n))
    (HC : Hid (∀ w, Calls Tryd.prog 54 #[.int .i64 a, .int .i64 b] w fun e w' => e = .returned (.tuple #[.int .i64 u, .nilIface]) ∧ ∃ n, w' = w.drewN n))
    (HM : Hid (∀ w, Calls Tryd.prog 43 #[.int .i64 q, .int .i64 b] w fun e w' => e = .returned (.tuple #[.int .i64 0, .iface 75 (.int .i64 2)]) ∧ w = w')) :
    Calls Tryd.prog 10 #[.int .i64 a, .int .i64 b, .int .i64 c] w fun e w' => e = .returned (.bool true) ∧ St w0 w' := by
  all_goals
    go_enter Tryd.func10, Tryd.ntmps10
    go_wp2_with (first
      | (go_at_call 41; (with_reducible refine (HA.out _).mono ?_); rintro e w' ⟨rfl, rfl⟩)
      | (go_at_call 49; (with_reducible refine (HX.out _).mono ?_); rintro e w' ⟨rfl, rfl⟩)
      | (go_at_call 49; (with_reducible refine (HY.out _).mono ?_); rintro e w' ⟨rfl, rfl⟩)
      | (go_at_call 50; (with_reducible refine (HZ.out _).mono ?_); rintro e w' ⟨rfl, rfl⟩)
      | (go_at_call 50; (with_reducible refine (HW.out _).mono ?_); rintro e w' ⟨rfl, rfl⟩)
      | (go_at_call 53; (with_reducible refine (HD.out _).mono ?_); rintro e w' ⟨rfl, nq, rfl⟩)
      | (go_at_call 54; (with_reducible refine (HC.out _).mono ?_); rintro e w' ⟨rfl, nq, rfl⟩)
      | (go_at_call 43; (with_reducible refine (HM.out _).mono ?_); rintro e w' ⟨rfl, rfl⟩)
      | (go_at_call 47; refine (fuseelaw01_numOf_some _ _ _ (by repeat (first | assumption | apply St.drewN | apply St.drew | apply St.alloc))).mono ?_; rintro e w' ⟨rfl, hs1⟩)
      | (go_at_call 52; refine (sure01 _ _ (by repeat (first | assumption | apply St.drewN | apply St.drew | apply St.alloc))).mono ?_; rintro e w' ⟨rfl, hs1⟩))
    go_ret
    exact ⟨by simp, by repeat (first | assumption | apply St.drewN | apply St.drew | apply St.alloc)⟩
set_option maxHeartbeats 1000000 in
theorem NumBack_bad00 (a b c s x1 x2 y1 y2 : Int) (w0 w : World) (hs : St w0 w)
    (ho : ¬ a ≤ c)
    (hb1 : b < 1)
    (HA : Hid (∀ w, Calls Tryd.prog 41 #[.int .i64 a, .int .i64 b] w fun e w' => e = .returned (.tuple #[.int .i64 0, .iface 75 (.int .i64 2)]) ∧ w = w'))
    (HX : Hid (∀ w, Calls Tryd.prog 49 #[.int .i64 a, .int .i64 b] w fun e w' => e = .returned (.int .i64 x1) ∧ w = w'))
    (HY : Hid (∀ w, Calls Tryd.prog 49 #[.int .i64 c, .int .i64 b] w fun e w' => e = .returned (.int .i64 x2) ∧ w = w'))
    (HZ : Hid (∀ w, Calls Tryd.prog 50 #[.int .i64 a, .int .i64 b] w fun e w' => e = .returned (.int .i64 y1) ∧ w = w'))
    (HW : Hid (∀ w, Calls Tryd.prog 50 #[.int .i64 c, .int .i64 b] w fun e w' => e = .returned (.int .i64 y2) ∧ w = w'))
    (HD : Hid (∀ w, Calls Tryd.prog 53 #[.int .i64 a, .int .i64 b] w fun e w' => e = .returned (.tuple #[.int .i64 0, .int .i64 0, .iface 75 (.int .i64 1)]) ∧ w = w'))
    (HC : Hid (∀ w, Calls Tryd.prog 54 #[.int .i64 a, .int .i64 b] w fun e w' => e = .returned (.tuple #[.int .i64 0, .iface 75 (.int .i64 1)]) ∧ w = w')) :
    Calls Tryd.prog 10 #[.int .i64 a, .int .i64 b, .int .i64 c] w fun e w' => e = .returned (.bool true) ∧ St w0 w' := by
  all_goals
    go_enter Tryd.func10, Tryd.ntmps10
    go_wp2_with (first
      | (go_at_call 41; (with_reducible refine (HA.out _).mono ?_); rintro e w' ⟨rfl, rfl⟩)
      | (go_at_call 49; (with_reducible refine (HX.out _).mono ?_); rintro e w' ⟨rfl, rfl⟩)
      | (go_at_call 49; (with_reducible refine (HY.out _).mono ?_); rintro e w' ⟨rfl, rfl⟩)
      | (go_at_call 50; (with_reducible refine (HZ.out _).mono ?_); rintro e w' ⟨rfl, rfl⟩)
      | (go_at_call 50; (with_reducible refine (HW.out _).mono ?_); rintro e w' ⟨rfl, rfl⟩)
      | (go_at_call 53; (with_reducible refine (HD.out _).mono ?_); rintro e w' ⟨rfl, rfl⟩)
      | (go_at_call 54; (with_reducible refine (HC.out _).mono ?_); rintro e w' ⟨rfl, rfl⟩)
      | (go_at_call 47; refine (fuseelaw01_numOf_some _ _ _ (by repeat (first | assumption | apply St.drewN | apply St.drew | apply St.alloc))).mono ?_; rintro e w' ⟨rfl, hs1⟩)
      | (go_at_call 52; refine (sure01 _ _ (by repeat (first | assumption | apply St.drewN | apply St.drew | apply St.alloc))).mono ?_; rintro e w' ⟨rfl, hs1⟩))
    go_ret
    exact ⟨by simp, by repeat (first | assumption | apply St.drewN | apply St.drew | apply St.alloc)⟩
set_option maxHeartbeats 1000000 in
theorem NumBack_good0011 (a b c s x1 x2 y1 y2 q r u p : Int) (w0 w : World) (hs : St w0 w)
    (ho : ¬ a ≤ c)
    (hb1 : 1 ≤ b)
    (hr : 0 ≤ r)
    (hrb : r < b)
    (hu : (r == 0) = true)
    (HA : Hid (∀ w, Calls Tryd.prog 41 #[.int .i64 a, .int .i64 b] w fun e w' => e = .returned (.tuple #[.int .i64 0, .iface 75 (.int .i64 2)]) ∧ w = w'))
    (HX : Hid (∀ w, Calls Tryd.prog 49 #[.int .i64 a, .int .i64 b] w fun e w' => e = .returned (.int .i64 x1) ∧ w = w'))
    (HY : Hid (∀ w, Calls Tryd.prog 49 #[.int .i64 c, .int .i64 b] w fun e w' => e = .returned (.int .i64 x2) ∧ w = w'))
    (HZ : Hid (∀ w, Calls Tryd.prog 50 #[.int .i64 a, .int .i64 b] w fun e w' => e = .returned (.int .i64 y1) ∧ w = w'))
    (HW : Hid (∀ w, Calls Tryd.prog 50 #[.int .i64 c, .int .i64 b] w fun e w' => e = .returned (.int .i64 y2) ∧ w = w'))
    (HD : Hid (∀ w, Calls Tryd.prog 53 #[.int .i64 a, .int .i64 b] w fun e w' => e = .returned (.tuple #[.int .i64 q, .int .i64 r, .nilIface]) ∧ ∃ n, w' = w.drewN n))
    (HC : Hid (∀ w, Calls Tryd.prog 54 #[.int .i64 a, .int .i64 b] w fun e w' => e = .returned (.tuple #[.int .i64 q, .nilIface]) ∧ ∃ n, w' = w.drewN n))
    (HM : Hid (∀ w, Calls Tryd.prog 43 #[.int .i64 q, .int .i64 b] w fun e w' => e = .returned (.tuple #[.int .i64 p, .nilIface]) ∧ w = w'))
    (HT : Hid (∀ w, Calls Tryd.prog 41 #[.int .i64 p, .int .i64 r] w fun e w' => e = .returned (.tuple #[.int .i64 a, .nilIface]) ∧ w = w')) :
    Calls Tryd.prog 10 #[.int .i64 a, .int .i64 b, .int .i64 c] w fun e w' => e = .returned (.bool true) ∧ St w0 w' := by
  all_goals
    go_enter Tryd.func10, Tryd.ntmps10
    go_wp2_with (first
      | (go_at_call 41; (with_reducible refine (HA.out _).mono ?_); rintro e w' ⟨rfl, rfl⟩)
      | (go_at_call 49; (with_reducible refine (HX.out _).mono ?_); rintro e w' ⟨rfl, rfl⟩)
      | (go_at_call 49; (with_reducible refine (HY.out _).mono ?_); rintro e w' ⟨rfl, rfl⟩)
      | (go_at_call 50; (with_reducible refine (HZ.out _).mono ?_); rintro e w' ⟨rfl, rfl⟩)
      | (go_at_call 50; (with_reducible refine (HW.out _).mono ?_); rintro e w' ⟨rfl, rfl⟩)
      | (go_at_call 53; (with_reducible refine (HD.out _).mono ?_); rintro e w' ⟨rfl, nq, rfl⟩)
      | (go_at_call 54; (with_reducible refine (HC.out _).mono ?_); rintro e w' ⟨rfl, nq, rfl⟩)
      | (go_at_call 43; (with_reducible refine (HM.out _).mono ?_); rintro e w' ⟨rfl, rfl⟩)
      | (go_at_call 41; (with_reducible refine (HT.out _).mono ?_); rintro e w' ⟨rfl, rfl⟩)
      | (go_at_call 47; refine (fuseelaw01_numOf_some _ _ _ (by repeat (first | assumption | apply St.drewN | apply St.drew | apply St.alloc))).mono ?_; rintro e w' ⟨rfl, hs1⟩)
      | (go_at_call 52; refine (sure01 _ _ (by repeat (first | assumption | apply St.drewN | apply St.drew | apply St.alloc))).mono ?_; rintro e w' ⟨rfl, hs1⟩))
    go_ret
    exact ⟨by simp, by repeat (first | assumption | apply St.drewN | apply St.drew | apply St.alloc)⟩
set_option maxHeartbeats 1000000 in
theorem NumBack_good0010 (a b c s x1 x2 y1 y2 q r u p : Int) (w0 w : World) (hs : St w0 w)
    (ho : ¬ a ≤ c)
    (hb1 : 1 ≤ b)
    (hr : 0 ≤ r)
    (hrb : r < b)
    (hu : (u == q) = false)
    (hu0 : (u != q) = true)
    (hu1 : (r == 0) = false)
    (hu2 : wrap64 (u - 1) = q)
    (HA : Hid (∀ w, Calls Tryd.prog 41 #[.int .i64 a, .int .i64 b] w fun e w' => e = .returned (.tuple #[.int .i64 0, .iface 75 (.int .i64 2)]) ∧ w = w'))
    (HX : Hid (∀ w, Calls Tryd.prog 49 #[.int .i64 a, .int .i64 b] w fun e w' => e = .returned (.int .i64 x1) ∧ w = w'))
    (HY : Hid (∀ w, Calls Tryd.prog 49 #[.int .i64 c, .int .i64 b] w fun e w' => e = .returned (.int .i64 x2) ∧ w = w'))
    (HZ : Hid (∀ w, Calls Tryd.prog 50 #[.int .i64 a, .int .i64 b] w fun e w' => e = .returned (.int .i64 y1) ∧ w = w'))
    (HW : Hid (∀ w, Calls Tryd.prog 50 #[.int .i64 c, .int .i64 b] w fun e w' => e = .returned (.int .i64 y2) ∧ w = w'))
    (HD : Hid (∀ w, Calls Tryd.prog 53 #[.int .i64 a, .int .i64 b] w fun e w' => e = .returned (.tuple #[.int .i64 q, .int .i64 r, .nilIface]) ∧ ∃ n, w' = w.drewN n))
    (HC : Hid (∀ w, Calls Tryd.prog 54 #[.int .i64 a, .int .i64 b] w fun e w' => e = .returned (.tuple #[.int .i64 u, .nilIface]) ∧ ∃ n, w' = w.drewN n))
    (HM : Hid (∀ w, Calls Tryd.prog 43 #[.int .i64 q, .int .i64 b] w fun e w' => e = .returned (.tuple #[.int .i64 p, .nilIface]) ∧ w = w'))
    (HT : Hid (∀ w, Calls Tryd.prog 41 #[.int .i64 p, .int .i64 r] w fun e w' => e = .returned (.tuple #[.int .i64 a, .nilIface]) ∧ w = w')) :
    Calls Tryd.prog 10 #[.int .i64 a, .int .i64 b, .int .i64 c] w fun e w' => e = .returned (.bool true) ∧ St w0 w' := by
  all_goals
    go_enter Tryd.func10, Tryd.ntmps10
    go_wp2_with (first
      | (go_at_call 41; (with_reducible refine (HA.out _).mono ?_); rintro e w' ⟨rfl, rfl⟩)
      | (go_at_call 49; (with_reducible refine (HX.out _).mono ?_); rintro e w' ⟨rfl, rfl⟩)
      | (go_at_call 49; (with_reducible refine (HY.out _).mono ?_); rintro e w' ⟨rfl, rfl⟩)
      | (go_at_call 50; (with_reducible refine (HZ.out _).mono ?_); rintro e w' ⟨rfl, rfl⟩)
      | (go_at_call 50; (with_reducible refine (HW.out _).mono ?_); rintro e w' ⟨rfl, rfl⟩)
      | (go_at_call 53; (with_reducible refine (HD.out _).mono ?_); rintro e w' ⟨rfl, nq, rfl⟩)
      | (go_at_call 54; (with_reducible refine (HC.out _).mono ?_); rintro e w' ⟨rfl, nq, rfl⟩)
      | (go_at_call 43; (with_reducible refine (HM.out _).mono ?_); rintro e w' ⟨rfl, rfl⟩)
      | (go_at_call 41; (with_reducible refine (HT.out _).mono ?_); rintro e w' ⟨rfl, rfl⟩)
      | (go_at_call 47; refine (fuseelaw01_numOf_some _ _ _ (by repeat (first | assumption | apply St.drewN | apply St.drew | apply St.alloc))).mono ?_; rintro e w' ⟨rfl, hs1⟩)
      | (go_at_call 52; refine (sure01 _ _ (by repeat (first | assumption | apply St.drewN | apply St.drew | apply St.alloc))).mono ?_; rintro e w' ⟨rfl, hs1⟩))
    go_ret
    exact ⟨by simp, by repeat (first | assumption | apply St.drewN | apply St.drew | apply St.alloc)⟩
set_option maxHeartbeats 1000000 in
theorem NumBack_good0001 (a b c s x1 x2 y1 y2 q r u p : Int) (w0 w : World) (hs : St w0 w)
    (ho : ¬ a ≤ c)
    (hb1 : 1 ≤ b)
    (hr : 0 ≤ r)
    (hrb : r < b)
    (hu : (r == 0) = true)
    (hP : a < 0)
    (HA : Hid (∀ w, Calls Tryd.prog 41 #[.int .i64 a, .int .i64 b] w fun e w' => e = .returned (.tuple #[.int .i64 0, .iface 75 (.int .i64 2)]) ∧ w = w'))
    (HX : Hid (∀ w, Calls Tryd.prog 49 #[.int .i64 a, .int .i64 b] w fun e w' => e = .returned (.int .i64 x1) ∧ w = w'))
    (HY : Hid (∀ w, Calls Tryd.prog 49 #[.int .i64 c, .int .i64 b] w fun e w' => e = .returned (.int .i64 x2) ∧ w = w'))
    (HZ : Hid (∀ w, Calls Tryd.prog 50 #[.int .i64 a, .int .i64 b] w fun e w' => e = .returned (.int .i64 y1) ∧ w = w'))
    (HW : Hid (∀ w, Calls Tryd.prog 50 #[.int .i64 c, .int .i64 b] w fun e w' => e = .returned (.int .i64 y2) ∧ w = w'))
    (HD : Hid (∀ w, Calls Tryd.prog 53 #[.int .i64 a, .int .i64 b] w fun e w' => e = .returned (.tuple #[.int .i64 q, .int .i64 r, .nilIface]) ∧ ∃ n, w' = w.drewN n))
    (HC : Hid (∀ w, Calls Tryd.prog 54 #[.int .i64 a, .int .i64 b] w fun e w' => e = .returned (.tuple #[.int .i64 q, .nilIface]) ∧ ∃ n, w' = w.drewN n))
    (HM : Hid (∀ w, Calls Tryd.prog 43 #[.int .i64 q, .int .i64 b] w fun e w' => e = .returned (.tuple #[.int .i64 0, .iface 75 (.int .i64 2)]) ∧ w = w')) :
    Calls Tryd.prog 10 #[.int .i64 a, .int .i64 b, .int .i64 c] w fun e w' => e = .returned (.bool true) ∧ St w0 w' := by
  all_goals
    go_enter Tryd.func10, Tryd.ntmps10
    go_wp2_with (first
      | (go_at_call 41; (with_reducible refine (HA.out _).mono ?_); rintro e w' ⟨rfl, rfl⟩)
      | (go_at_call 49; (with_reducible refine (HX.out _).mono ?_); rintro e w' ⟨rfl, rfl⟩)
      | (go_at_call 49; (with_reducible refine (HY.out _).mono ?_); rintro e w' ⟨rfl, rfl⟩)
      | (go_at_call 50; (with_reducible refine (HZ.out _).mono ?_); rintro e w' ⟨rfl, rfl⟩)
      | (go_at_call 50; (with_reducible refine (HW.out _).mono ?_); rintro e w' ⟨rfl, rfl⟩)
      | (go_at_call 53; (with_reducible refine (HD.out _).mono ?_); rintro e w' ⟨rfl, nq, rfl⟩)
      | (go_at_call 54; (with_reducible refine (HC.out _).mono ?_); rintro e w' ⟨rfl, nq, rfl⟩)
      | (go_at_call 43; (with_reducible refine (HM.out _).mono ?_); rintro e w' ⟨rfl, rfl⟩)
      | (go_at_call 47; refine (fuseelaw01_numOf_some _ _ _ (by repeat (first | assumption | apply St.drewN | apply St.drew | apply St.alloc))).mono ?_; rintro e w' ⟨rfl, hs1⟩)
      | (go_at_call 52; refine (sure01 _ _ (by repeat (first | assumption | apply St.drewN | apply St.drew | apply St.alloc))).mono ?_; rintro e w' ⟨rfl, hs1⟩))
    go_ret
    exact ⟨by simp, by repeat (first | assumption | apply St.drewN | apply St.drew | apply St.alloc)⟩
set_option maxHeartbeats 1000000 in
theorem NumBack_good0000 (a b c s x1 x2 y1 y2 q r u p : Int) (w0 w : World) (hs : St w0 w)
    (ho : ¬ a ≤ c)
    (hb1 : 1 ≤ b)
    (hr : 0 ≤ r)
    (hrb : r < b)
    (hu : (u == q) = false)
    (hu0 : (u != q) = true)
    (hu1 : (r == 0) = false)
    (hu2 : wrap64 (u - 1) = q)
    (hP : a < 0)
    (HA : Hid (∀ w, Calls Tryd.prog 41 #[.int .i64 a, .int .i64 b] w fun e w' => e = .returned (.tuple #[.int .i64 0, .iface 75 (.int .i64 2)]) ∧ w = w'))
    (HX : Hid (∀ w, Calls Tryd.prog 49 #[.int .i64 a, .int .i64 b] w fun e w' => e = .returned (.int .i64 x1) ∧ w = w'))
    (HY : Hid (∀ w, Calls Tryd.prog 49 #[.int .i64 c, .int .i64 b] w fun e w' => e = .returned (.int .i64 x2) ∧ w = w'))
    (HZ : Hid (∀ w, Calls Tryd.prog 50 #[.int .i64 a, .int .i64 b] w fun e w' => e = .returned (.int .i64 y1) ∧ w = w'))
    (HW : Hid (∀ w, Calls Tryd.prog 50 #[.int .i64 c, .int .i64 b] w fun e w' => e = .returned (.int .i64 y2) ∧ w = w'))
    (HD : Hid (∀ w, Calls Tryd.prog 53 #[.int .i64 a, .int .i64 b] w fun e w' => e = .returned (.tuple #[.int .i64 q, .int .i64 r, .nilIface]) ∧ ∃ n, w' = w.drewN n))
    (HC : Hid (∀ w, Calls Tryd.prog 54 #[.int .i64 a, .int .i64 b] w fun e w' => e = .returned (.tuple #[.int .i64 u, .nilIface]) ∧ ∃ n, w' = w.drewN n))
    (HM : Hid (∀ w, Calls Tryd.prog 43 #[.int .i64 q, .int .i64 b] w fun e w' => e = .returned (.tuple #[.int .i64 0, .iface 75 (.int .i64 2)]) ∧ w = w')) :
    Calls Tryd.prog 10 #[.int .i64 a, .int .i64 b, .int .i64 c] w fun e w' => e = .returned (.bool true) ∧ St w0 w' := by
  all_goals
    go_enter Tryd.func10, Tryd.ntmps10
    go_wp2_with (first
      | (go_at_call 41; (with_reducible refine (HA.out _).mono ?_); rintro e w' ⟨rfl, rfl⟩)
      | (go_at_call 49; (with_reducible refine (HX.out _).mono ?_); rintro e w' ⟨rfl, rfl⟩)
      | (go_at_call 49; (with_reducible refine (HY.out _).mono ?_); rintro e w' ⟨rfl, rfl⟩)
      | (go_at_call 50; (with_reducible refine (HZ.out _).mono ?_); rintro e w' ⟨rfl, rfl⟩)
      | (go_at_call 50; (with_reducible refine (HW.out _).mono ?_); rintro e w' ⟨rfl, rfl⟩)
      | (go_at_call 53; (with_reducible refine (HD.out _).mono ?_); rintro e w' ⟨rfl, nq, rfl⟩)
      | (go_at_call 54; (with_reducible refine (HC.out _).mono ?_); rintro e w' ⟨rfl, nq, rfl⟩)
      | (go_at_call 43; (with_reducible refine (HM.out _).mono ?_); rintro e w' ⟨rfl, rfl⟩)
      | (go_at_call 47; refine (fuseelaw01_numOf_some _ _ _ (by repeat (first | assumption | apply St.drewN | apply St.drew | apply St.alloc))).mono ?_; rintro e w' ⟨rfl, hs1⟩)
      | (go_at_call 52; refine (sure01 _ _ (by repeat (first | assumption | apply St.drewN | apply St.drew | apply St.alloc))).mono ?_; rintro e w' ⟨rfl, hs1⟩))
    go_ret
    exact ⟨by simp, by repeat (first | assumption | apply St.drewN | apply St.drew | apply St.alloc)⟩

theorem NumBack_walk (a b c : Int) (w0 w : World) (ha : R64 a) (hb : R64 b) (hc : R64 c) (hs : St w0 w) :
    Calls Tryd.prog 10 #[.int .i64 a, .int .i64 b, .int .i64 c] w fun e w' => e = .returned (.bool true) ∧ St w0 w' := by
  have HX := fun w => addsat_any a b w ha hb
  have HY := fun w => addsat_any c b w hc hb
  have HZ := fun w => subsat_any a b w ha hb
  have HW := fun w => subsat_any c b w hc hb
  have m1 : a ≤ c → sat (a + b) ≤ sat (c + b) := fun h => sat_mono (by omega)
  have m2 : a ≤ c → sat (a - b) ≤ sat (c - b) := fun h => sat_mono (by omega)
  have HA1 := fun (h : R64 (a + b)) w => add_ok a b w ha hb h
  have HS1 : ∀ (_ : R64 (a + b)) w, Calls Tryd.prog 42 #[.int .i64 (a + b), .int .i64 b] w fun e w' => e = .returned (.tuple #[.int .i64 a, .nilIface]) ∧ w = w' := fun h w => by
    have := sub_ok (a + b) b w h hb (by rw [Int.add_sub_cancel]; exact ha)
    rw [Int.add_sub_cancel] at this; exact this
  have HA0 := fun (h : ¬ R64 (a + b)) w => add_bad a b w ha hb h
  rcases Int.lt_or_le b 1 with h1 | h1
  · have HD := fun w => div_bad a b w h1
    have HC := fun w => ceil_bad a b w h1
    by_cases h : R64 (a + b) <;> by_cases hle : a ≤ c
    · exact NumBack_bad11 a b c _ _ _ _ _ w0 w hs hle (m1 hle) (m2 hle) h1 (HA1 h) (HS1 h) HX HY HZ HW HD HC
    · exact NumBack_bad10 a b c _ _ _ _ _ w0 w hs hle h1 (HA1 h) (HS1 h) HX HY HZ HW HD HC
    · exact NumBack_bad01 a b c 0 _ _ _ _ w0 w hs hle (m1 hle) (m2 hle) h1 (HA0 h) HX HY HZ HW HD HC
    · exact NumBack_bad00 a b c 0 _ _ _ _ w0 w hs hle h1 (HA0 h) HX HY HZ HW HD HC
  · have HD := fun w => div_ok a b w ha hb h1
    have hr0 := Int.emod_nonneg a (show b ≠ 0 by omega)
    have hr1 := Int.emod_lt_of_pos a (show 0 < b by omega)
    have hq := (div_bounds ha h1).1
    have hd := Int.mul_ediv_add_emod a b
    have hcm : a / b * b = b * (a / b) := Int.mul_comm _ _
    have rq : R64 (a % b) := by unfold R64 at *; omega
    have HM1 := fun (h : R64 (a / b * b)) w => mul_ok (a / b) b w hq hb h
    have HM0 := fun (h : ¬ R64 (a / b * b)) w => mul_bad (a / b) b w hq hb h
    have hneg : ¬ R64 (a / b * b) → a < 0 := fun h => by unfold R64 at *; omega
    have HT : ∀ (_ : R64 (a / b * b)) w, Calls Tryd.prog 41 #[.int .i64 (a / b * b), .int .i64 (a % b)] w fun e w' => e = .returned (.tuple #[.int .i64 a, .nilIface]) ∧ w = w' := fun h w => by
      have e : a / b * b + a % b = a := by omega
      have := add_ok (a / b * b) (a % b) w h rq (by rw [e]; exact ha)
      rw [e] at this; exact this
    by_cases hz : a % b = 0
    · have hz' : (a % b == 0) = true := beq_iff_eq.mpr hz
      have HC : ∀ w, Calls Tryd.prog 54 #[.int .i64 a, .int .i64 b] w fun e w' => e = .returned (.tuple #[.int .i64 (a / b), .nilIface]) ∧ ∃ n, w' = w.drewN n := fun w => by
        have := ceil_ok a b w ha hb h1
        unfold ceilD at this; rw [if_neg (by omega), Int.add_zero] at this; exact this
      by_cases h : R64 (a + b) <;> by_cases hle : a ≤ c <;> by_cases hm : R64 (a / b * b)
      · exact NumBack_good1111 a b c _ _ _ _ _ _ _ 0 _ w0 w hs hle (m1 hle) (m2 hle) h1 hr0 hr1 hz' (HA1 h) (HS1 h) HX HY HZ HW HD HC (HM1 hm) (HT hm)
      · exact NumBack_good1101 a b c _ _ _ _ _ _ _ 0 0 w0 w hs hle (m1 hle) (m2 hle) h1 hr0 hr1 hz' (hneg hm) (HA1 h) (HS1 h) HX HY HZ HW HD HC (HM0 hm)
      · exact NumBack_good1011 a b c _ _ _ _ _ _ _ 0 _ w0 w hs hle h1 hr0 hr1 hz' (HA1 h) (HS1 h) HX HY HZ HW HD HC (HM1 hm) (HT hm)
      · exact NumBack_good1001 a b c _ _ _ _ _ _ _ 0 0 w0 w hs hle h1 hr0 hr1 hz' (hneg hm) (HA1 h) (HS1 h) HX HY HZ HW HD HC (HM0 hm)
      · exact NumBack_good0111 a b c 0 _ _ _ _ _ _ 0 _ w0 w hs hle (m1 hle) (m2 hle) h1 hr0 hr1 hz' (HA0 h) HX HY HZ HW HD HC (HM1 hm) (HT hm)
      · exact NumBack_good0101 a b c 0 _ _ _ _ _ _ 0 0 w0 w hs hle (m1 hle) (m2 hle) h1 hr0 hr1 hz' (hneg hm) (HA0 h) HX HY HZ HW HD HC (HM0 hm)
      · exact NumBack_good0011 a b c 0 _ _ _ _ _ _ 0 _ w0 w hs hle h1 hr0 hr1 hz' (HA0 h) HX HY HZ HW HD HC (HM1 hm) (HT hm)
      · exact NumBack_good0001 a b c 0 _ _ _ _ _ _ 0 0 w0 w hs hle h1 hr0 hr1 hz' (hneg hm) (HA0 h) HX HY HZ HW HD HC (HM0 hm)
    · have hz' : (a % b == 0) = false := beq_eq_false_iff_ne.mpr hz
      have hu := ceil_range ha h1
      have e : ceilD a b = a / b + 1 := by unfold ceilD; rw [if_pos (by omega)]
      have HC := fun w => ceil_ok a b w ha hb h1
      have u1 : (ceilD a b == a / b) = false := beq_eq_false_iff_ne.mpr (by omega)
      have u2 : (ceilD a b != a / b) = true := bne_iff_ne.mpr (by omega)
      have u3 : wrap64 (ceilD a b - 1) = a / b := by rw [e, Int.add_sub_cancel]; exact hq.wrap
      by_cases h : R64 (a + b) <;> by_cases hle : a ≤ c <;> by_cases hm : R64 (a / b * b)
      · exact NumBack_good1110 a b c _ _ _ _ _ _ _ _ _ w0 w hs hle (m1 hle) (m2 hle) h1 hr0 hr1 u1 u2 hz' u3 (HA1 h) (HS1 h) HX HY HZ HW HD HC (HM1 hm) (HT hm)
      · exact NumBack_good1100 a b c _ _ _ _ _ _ _ _ 0 w0 w hs hle (m1 hle) (m2 hle) h1 hr0 hr1 u1 u2 hz' u3 (hneg hm) (HA1 h) (HS1 h) HX HY HZ HW HD HC (HM0 hm)
      · exact NumBack_good1010 a b c _ _ _ _ _ _ _ _ _ w0 w hs hle h1 hr0 hr1 u1 u2 hz' u3 (HA1 h) (HS1 h) HX HY HZ HW HD HC (HM1 hm) (HT hm)
      · exact NumBack_good1000 a b c _ _ _ _ _ _ _ _ 0 w0 w hs hle h1 hr0 hr1 u1 u2 hz' u3 (hneg hm) (HA1 h) (HS1 h) HX HY HZ HW HD HC (HM0 hm)
      · exact NumBack_good0110 a b c 0 _ _ _ _ _ _ _ _ w0 w hs hle (m1 hle) (m2 hle) h1 hr0 hr1 u1 u2 hz' u3 (HA0 h) HX HY HZ HW HD HC (HM1 hm) (HT hm)
      · exact NumBack_good0100 a b c 0 _ _ _ _ _ _ _ 0 w0 w hs hle (m1 hle) (m2 hle) h1 hr0 hr1 u1 u2 hz' u3 (hneg hm) (HA0 h) HX HY HZ HW HD HC (HM0 hm)
      · exact NumBack_good0010 a b c 0 _ _ _ _ _ _ _ _ w0 w hs hle h1 hr0 hr1 u1 u2 hz' u3 (HA0 h) HX HY HZ HW HD HC (HM1 hm) (HT hm)
      · exact NumBack_good0000 a b c 0 _ _ _ _ _ _ _ 0 w0 w hs hle h1 hr0 hr1 u1 u2 hz' u3 (hneg hm) (HA0 h) HX HY HZ HW HD HC (HM0 hm)

end Go.Proofs.YtiljnlhmeolhfaaDoor
