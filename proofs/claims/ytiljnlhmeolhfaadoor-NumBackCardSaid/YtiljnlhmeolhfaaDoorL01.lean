/-
  The laws of chapter 1, walked: their fixed example, and the law that quotients are what the reference tells.
-/
import Derived.Test.YtiljnlhmeolhfaaDoorK
import Derived.Test.YtiljnlhmeolhfaaDoorNum
namespace Go.Proofs.YtiljnlhmeolhfaaDoor
open Go.RowKit
set_option linter.unusedVariables false
set_option linter.unusedSimpArgs false
set_option maxRecDepth 100000

set_option maxHeartbeats 1000000 in
theorem sure01 (w0 w : World) (hs : St w0 w) :
    Calls Tryd.prog 52 #[] w fun e w' => e = .returned (.bool true) ∧ St w0 w' := by
  go_enter Tryd.func52, Tryd.ntmps52
  go_wp2_with (first
    | (go_at_call 53; refine (div_ok _ _ _ (by unfold R64; omega) (by unfold R64; omega) (by omega)).mono ?_; rintro e w' ⟨rfl, nq, rfl⟩)
    | (go_at_call 54; refine (ceil_ok _ _ _ (by unfold R64; omega) (by unfold R64; omega) (by omega)).mono ?_; rintro e w' ⟨rfl, nq, rfl⟩)
    | (go_at_call 41; refine (add_bad _ _ _ (by unfold R64; omega) (by unfold R64; omega) (by unfold R64; omega)).mono ?_; rintro e w' ⟨rfl, rfl⟩)
    | (go_at_call 43; refine (mul_bad _ _ _ (by unfold R64; omega) (by unfold R64; omega) (by unfold R64; omega)).mono ?_; rintro e w' ⟨rfl, rfl⟩)
    | (go_at_call 49; refine (addsat_any _ _ _ (by unfold R64; omega) (by unfold R64; omega)).mono ?_; rintro e w' ⟨rfl, rfl⟩)
    | (go_at_call 51; refine (size_any _ _ (by unfold R64; omega)).mono ?_; rintro e w' ⟨rfl, rfl⟩)
    | (go_at_call 55; refine (clamp_any _ _ _ _).mono ?_; rintro e w' ⟨rfl, rfl⟩)
    | (go_at_call 47; refine (fuseelaw01_numOf_some _ _ _ (by repeat (first | assumption | apply St.drewN))).mono ?_; rintro e w' ⟨rfl, hs1⟩))
  go_ret
  exact ⟨by simp [sat]; decide, by repeat (first | assumption | apply St.drewN)⟩

set_option maxHeartbeats 1000000 in
theorem NumParts_walk (a b c : Int) (w0 w : World) (ha : R64 a) (hb : R64 b) (hs : St w0 w) :
    Calls Tryd.prog 9 #[.int .i64 a, .int .i64 b, .int .i64 c] w fun e w' => e = .returned (.bool true) ∧ St w0 w' := by
  by_cases h : b < 1
  · go_enter Tryd.func9, Tryd.ntmps9
    go_wp2_with (first
      | (go_at_call 53; refine (div_bad _ _ _ h).mono ?_; rintro e w' ⟨rfl, rfl⟩)
      | (go_at_call 54; refine (ceil_bad _ _ _ h).mono ?_; rintro e w' ⟨rfl, rfl⟩)
      | (go_at_call 55; refine (clamp_any _ _ _ _).mono ?_; rintro e w' ⟨rfl, rfl⟩)
      | (go_at_call 56; refine (rclamp_any _ _ _ _).mono ?_; rintro e w' ⟨rfl, rfl⟩)
      | (go_at_call 47; refine (fuseelaw01_numOf_some _ _ _ (by repeat (first | assumption | apply St.drewN))).mono ?_; rintro e w' ⟨rfl, hs1⟩)
      | (go_at_call 52; refine (sure01 _ _ (by repeat (first | assumption | apply St.drewN))).mono ?_; rintro e w' ⟨rfl, hs1⟩))
    go_ret
    exact ⟨by simp, by repeat (first | assumption | apply St.drewN)⟩
  · have h1 : 1 ≤ b := by omega
    go_enter Tryd.func9, Tryd.ntmps9
    go_wp2_with (first
      | (go_at_call 53; refine (div_ok _ _ _ ha hb h1).mono ?_; rintro e w' ⟨rfl, nq, rfl⟩)
      | (go_at_call 54; refine (ceil_ok _ _ _ ha hb h1).mono ?_; rintro e w' ⟨rfl, nq, rfl⟩)
      | (go_at_call 55; refine (clamp_any _ _ _ _).mono ?_; rintro e w' ⟨rfl, rfl⟩)
      | (go_at_call 56; refine (rclamp_any _ _ _ _).mono ?_; rintro e w' ⟨rfl, rfl⟩)
      | (go_at_call 21; refine (rdiv_ok _ _ _ ha hb h1).mono ?_; rintro e w' ⟨rfl, nq, rfl⟩)
      | (go_at_call 57; refine (rceil_ok _ _ _ ha hb h1).mono ?_; rintro e w' ⟨rfl, nq, rfl⟩)
      | (go_at_call 52; refine (sure01 _ _ (by repeat (first | assumption | apply St.drewN))).mono ?_; rintro e w' ⟨rfl, hs1⟩))
    go_ret
    exact ⟨by simp, by repeat (first | assumption | apply St.drewN)⟩
end Go.Proofs.YtiljnlhmeolhfaaDoor
