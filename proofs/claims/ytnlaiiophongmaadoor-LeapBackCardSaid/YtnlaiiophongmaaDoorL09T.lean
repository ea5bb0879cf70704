/-
  What must come whatever the input is, chapter 9 (over the print of LeapMoments alone).
-/
import Derived.Test.YtnlaiiophongmaaDoorK
import Derived.Test.YtnlaiiophongmaaDoorPLeapMomentsx
import Derived.Test.YtnlaiiophongmaaDoorWLast
namespace Go.Proofs.YtnlaiiophongmaaDoor
open Go.RowKit
set_option linter.unusedVariables false
set_option linter.unusedSimpArgs false
set_option maxRecDepth 100000
open Go.Proofs.YtnlaiiophongmaaDoorW.PrintLast
attribute [local go_sem] cell_past frozen_past lo_ne lo_ne'

open Go.Proofs.YtnlaiiophongmaaDoorW.PrintWords

theorem one_row {w : World} {blk : Nat} {x : Int} (h : w.cell? ⟨blk, 0, none⟩ = some (.int .i64 x)) : Kd.C (Kd.int .i64) w (some ⟨blk, 0, none⟩) [x].length [x] :=
  ⟨rfl, (by show 1 ≤ 9223372036854775807; decide), fun _ => ⟨_, rfl, fun j p hj => ⟨[.int .i64 p], rfl, rfl, fun i u hu => by
    have e1 : j = 0 := by have := (List.getElem?_eq_some_iff.1 hj).1; simp at this; omega
    have e2 : i = 0 := by have := (List.getElem?_eq_some_iff.1 hu).1; simp at this; omega
    subst e1 e2
    have e3 : p = x := by simpa using hj.symm
    have e4 : u = .int .i64 p := by simpa using hu.symm
    subst e3 e4
    simpa [Addr.add] using h⟩⟩⟩
set_option maxHeartbeats 2000000 in
theorem sure09 (w0 w : World) (hs0 : St w0 w) :
    Calls Tryd.prog 47 #[] w fun e w' => e = .returned (.bool true) ∧ Below w.heap.size w w' := by
  have hs : St w w := St.refl hs0.hg
  have H1 : Hid (∀ (w : World) (blk : Nat), w.cell? ⟨blk, 0, none⟩ = some (.int .i64 911) → Calls Tryd.prog 50 #[.agg #[.int .i64 10, .int .i64 20000, .slice (some ⟨blk, 0, none⟩) 1 1], .int .i64 912] w fun e w' => e = .returned (.tuple #[.int .i64 78796811000000000, .nilIface]) ∧ Below w.heap.size w w') := fun w blk hk => by have := PLeapMoments.leap_Begin.calls 100 10 20000 (some ⟨blk, 0, none⟩) 1 [911] 912 78796811000000000 none w (one_row hk) (Nat.le_refl _) (by kernel_rfl); simp only [PLeapMoments.errW] at this; exact this
  have H2 : Hid (∀ (w : World) (blk : Nat), w.cell? ⟨blk, 0, none⟩ = some (.int .i64 911) → Calls Tryd.prog 57 #[.agg #[.int .i64 10, .int .i64 20000, .slice (some ⟨blk, 0, none⟩) 1 1], .int .i64 78796810999999999] w fun e w' => e = .returned (.tuple #[.agg #[.int .i64 911, .int .i64 86400, .int .i64 999999999], .nilIface]) ∧ Below w.heap.size w w') := fun w blk hk => by have := PLeapMoments.leap_UTC.calls 100 10 20000 (some ⟨blk, 0, none⟩) 1 [911] 78796810999999999 911 86400 999999999 none w (one_row hk) (Nat.le_refl _) (by kernel_rfl); simp only [PLeapMoments.errW] at this; exact this
  have H3 : Hid (∀ (w : World) (blk : Nat), w.cell? ⟨blk, 0, none⟩ = some (.int .i64 911) → Calls Tryd.prog 48 #[.agg #[.int .i64 10, .int .i64 20000, .slice (some ⟨blk, 0, none⟩) 1 1], .int .i64 20000] w fun e w' => e = .returned (.tuple #[.int .i64 0, .iface 128 (.int .i64 10)]) ∧ Below w.heap.size w w') := fun w blk hk => by have := PLeapMoments.leap_Ahead.calls 100 10 20000 (some ⟨blk, 0, none⟩) 1 [911] 20000 0 (some 10) w (one_row hk) (Nat.le_refl _) (by kernel_rfl); simp only [PLeapMoments.errW] at this; exact this
  have H4 : Hid (∀ (w : World) (blk : Nat), w.cell? ⟨blk, 0, none⟩ = some (.int .i64 911) → Calls Tryd.prog 49 #[.agg #[.int .i64 10, .int .i64 20000, .slice (some ⟨blk, 0, none⟩) 1 1], .int .i64 911] w fun e w' => e = .returned (.tuple #[.int .i64 86401, .nilIface]) ∧ Below w.heap.size w w') := fun w blk hk => by have := PLeapMoments.leap_Length.calls 100 10 20000 (some ⟨blk, 0, none⟩) 1 [911] 911 86401 none w (one_row hk) (Nat.le_refl _) (by kernel_rfl); simp only [PLeapMoments.errW] at this; exact this
  all_goals
    go_enter Tryd.func47, Tryd.ntmps47
    go_wp2_with (first
      | (go_at_call 50; (with_reducible refine (H1.out _ _ ?hc).mono ?_); (case hc => first | (go_simp; done) | (simp [*]; done)); rintro e w' ⟨rfl, hb1⟩; have hc1 := bcell hb1; have hf1 := bfrozen hb1; have hz1 := blo hb1)
      | (go_at_call 57; (with_reducible refine (H2.out _ _ ?hc).mono ?_); (case hc => first | (go_simp; done) | (simp [*]; done)); rintro e w' ⟨rfl, hb1⟩; have hc1 := bcell hb1; have hf1 := bfrozen hb1; have hz1 := blo hb1)
      | (go_at_call 48; (with_reducible refine (H3.out _ _ ?hc).mono ?_); (case hc => first | (go_simp; done) | (simp [*]; done)); rintro e w' ⟨rfl, hb1⟩; have hc1 := bcell hb1; have hf1 := bfrozen hb1; have hz1 := blo hb1)
      | (go_at_call 49; (with_reducible refine (H4.out _ _ ?hc).mono ?_); (case hc => first | (go_simp; done) | (simp [*]; done)); rintro e w' ⟨rfl, hb1⟩; have hc1 := bcell hb1; have hf1 := bfrozen hb1; have hz1 := blo hb1)
      | (go_at_call 54; first | ((with_reducible refine (fuseelaw09_num_calls _ w _ (by repeat (first | assumption | with_reducible apply St.drewN | with_reducible apply St.drew | with_reducible apply St.alloc | with_reducible refine St.step ?_ (by assumption) | with_reducible refine St.setCell ?_ (by simp <;> omega) _))).mono ?_); rintro e w' ⟨rfl, hb1⟩; have hc1 := bcell hb1; have hf1 := bfrozen hb1; have hz1 := blo hb1) | ((with_reducible refine (fuseelaw09_num_some _ w _ (by repeat (first | assumption | with_reducible apply St.drewN | with_reducible apply St.drew | with_reducible apply St.alloc | with_reducible refine St.step ?_ (by assumption) | with_reducible refine St.setCell ?_ (by simp <;> omega) _))).mono ?_); rintro e w' ⟨rfl, hb1⟩; have hc1 := bcell hb1; have hf1 := bfrozen hb1; have hz1 := blo hb1) | ((with_reducible refine (fuseelaw09_num_none w _ (by repeat (first | assumption | with_reducible apply St.drewN | with_reducible apply St.drew | with_reducible apply St.alloc | with_reducible refine St.step ?_ (by assumption) | with_reducible refine St.setCell ?_ (by simp <;> omega) _))).mono ?_); rintro e w' ⟨rfl, hb1⟩; have hc1 := bcell hb1; have hf1 := bfrozen hb1; have hz1 := blo hb1)))
    go_ret
    exact ⟨by simp, by refine St.below (w0 := w) ?_; repeat (first | assumption | with_reducible apply St.drewN | with_reducible apply St.drew | with_reducible apply St.alloc | with_reducible refine St.step ?_ (by assumption) | with_reducible refine St.setCell ?_ (by simp <;> omega) _)⟩

end Go.Proofs.YtnlaiiophongmaaDoor
