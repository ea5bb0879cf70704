/-
  The law LeapDays, walked.
-/
import Derived.Test.YtnlaiiophongmaaDoorL09S
import Derived.Test.YtnlaiiophongmaaDoorWLast
namespace Go.Proofs.YtnlaiiophongmaaDoor
open Go.RowKit
set_option linter.unusedVariables false
set_option linter.unusedSimpArgs false
set_option maxRecDepth 100000
open Go.Proofs.YtnlaiiophongmaaDoorW.PrintLast
attribute [local go_sem] cell_past frozen_past lo_ne lo_ne'

open Go.Proofs.YtnlaiiophongmaaDoorW.PrintWords
set_option maxHeartbeats 1000000 in
theorem LeapDays_long (b l day : Int) (A : Option Addr) (n c : Nat) (w0 w : World) (hs : St w0 w)
    (hn : 60 < (n : Int)) :
    Calls Tryd.prog 9 #[.agg #[.int .i64 b, .int .i64 l, .slice A n c], .int .i64 day] w fun e w' => e = .returned (.bool true) ∧ St w0 w' := by
  all_goals
    go_enter Tryd.func9, Tryd.ntmps9
    go_wp2_with (first
      | (go_at_call 47; (with_reducible refine (sure09 w0 _ (by repeat (first | assumption | with_reducible apply St.drewN | with_reducible apply St.drew | with_reducible apply St.alloc | with_reducible refine St.step ?_ (by assumption) | with_reducible refine St.setCell ?_ (by simp <;> omega) _))).mono ?_); rintro e w' ⟨rfl, hb1⟩; have hc1 := bcell hb1; have hf1 := bfrozen hb1; have hz1 := blo hb1))
    go_ret
    exact ⟨by simp, by repeat (first | assumption | with_reducible apply St.drewN | with_reducible apply St.drew | with_reducible apply St.alloc | with_reducible refine St.step ?_ (by assumption) | with_reducible refine St.setCell ?_ (by simp <;> omega) _)⟩
set_option maxHeartbeats 4000000 in
theorem LeapDays_bad (b l day : Int) (A : Option Addr) (n c : Nat) (x0 y0 : Int) (w0 w : World) (hs : St w0 w)
    (hn : (n : Int) ≤ 60)
    (he : (y0 != 0) = true)
    (hxy : (x0 != y0) = false)
    (HA : Hid (∀ w, St w0 w → Calls Tryd.prog 48 #[.agg #[.int .i64 b, .int .i64 l, .slice A n c], .int .i64 day] w fun e w' => e = .returned (.tuple #[.int .i64 0, .iface 128 (.int .i64 x0)]) ∧ Below w.heap.size w w'))
    (HL : Hid (∀ w, St w0 w → Calls Tryd.prog 49 #[.agg #[.int .i64 b, .int .i64 l, .slice A n c], .int .i64 day] w fun e w' => e = .returned (.tuple #[.int .i64 0, .iface 128 (.int .i64 x0)]) ∧ Below w.heap.size w w'))
    (HB : Hid (∀ w, St w0 w → Calls Tryd.prog 50 #[.agg #[.int .i64 b, .int .i64 l, .slice A n c], .int .i64 day] w fun e w' => e = .returned (.tuple #[.int .i64 0, .iface 128 (.int .i64 x0)]) ∧ Below w.heap.size w w'))
    (HW : Hid (∀ w, St w0 w → Calls Tryd.prog 51 #[.agg #[.int .i64 b, .int .i64 l, .slice A n c], .int .i64 day] w fun e w' => e = .returned (.int .i64 y0) ∧ Below w.heap.size w w'))
    (HC : Hid (∀ w, St w0 w → Calls Tryd.prog 52 #[.agg #[.int .i64 b, .int .i64 l, .slice A n c]] w fun e w' => e = .returned (.iface 128 (.int .i64 1)) ∧ Below w.heap.size w w'))
    (HM : Hid (∀ w, St w0 w → Calls Tryd.prog 53 #[.agg #[.int .i64 b, .int .i64 l, .slice A n c]] w fun e w' => e = .returned (.bool false) ∧ Below w.heap.size w w'))
    (HT : Hid (∀ w, St w0 w → Calls Tryd.prog 55 #[.agg #[.int .i64 b, .int .i64 l, .slice A n c], .agg #[.int .i64 b, .int .i64 l, .slice A n c]] w fun e w' => e = .returned (.bool true) ∧ Below w.heap.size w w')) :
    Calls Tryd.prog 9 #[.agg #[.int .i64 b, .int .i64 l, .slice A n c], .int .i64 day] w fun e w' => e = .returned (.bool true) ∧ St w0 w' := by
  all_goals
    go_enter Tryd.func9, Tryd.ntmps9
    go_wp2_with (first
      | (go_at_call 48; (with_reducible refine (HA.out _ (by repeat (first | assumption | with_reducible apply St.drewN | with_reducible apply St.drew | with_reducible apply St.alloc | with_reducible refine St.step ?_ (by assumption) | with_reducible refine St.setCell ?_ (by simp <;> omega) _))).mono ?_); rintro e w' ⟨rfl, hb1⟩; have hc1 := bcell hb1; have hf1 := bfrozen hb1; have hz1 := blo hb1)
      | (go_at_call 49; (with_reducible refine (HL.out _ (by repeat (first | assumption | with_reducible apply St.drewN | with_reducible apply St.drew | with_reducible apply St.alloc | with_reducible refine St.step ?_ (by assumption) | with_reducible refine St.setCell ?_ (by simp <;> omega) _))).mono ?_); rintro e w' ⟨rfl, hb1⟩; have hc1 := bcell hb1; have hf1 := bfrozen hb1; have hz1 := blo hb1)
      | (go_at_call 50; (with_reducible refine (HB.out _ (by repeat (first | assumption | with_reducible apply St.drewN | with_reducible apply St.drew | with_reducible apply St.alloc | with_reducible refine St.step ?_ (by assumption) | with_reducible refine St.setCell ?_ (by simp <;> omega) _))).mono ?_); rintro e w' ⟨rfl, hb1⟩; have hc1 := bcell hb1; have hf1 := bfrozen hb1; have hz1 := blo hb1)
      | (go_at_call 51; (with_reducible refine (HW.out _ (by repeat (first | assumption | with_reducible apply St.drewN | with_reducible apply St.drew | with_reducible apply St.alloc | with_reducible refine St.step ?_ (by assumption) | with_reducible refine St.setCell ?_ (by simp <;> omega) _))).mono ?_); rintro e w' ⟨rfl, hb1⟩; have hc1 := bcell hb1; have hf1 := bfrozen hb1; have hz1 := blo hb1)
      | (go_at_call 52; (with_reducible refine (HC.out _ (by repeat (first | assumption | with_reducible apply St.drewN | with_reducible apply St.drew | with_reducible apply St.alloc | with_reducible refine St.step ?_ (by assumption) | with_reducible refine St.setCell ?_ (by simp <;> omega) _))).mono ?_); rintro e w' ⟨rfl, hb1⟩; have hc1 := bcell hb1; have hf1 := bfrozen hb1; have hz1 := blo hb1)
      | (go_at_call 53; (with_reducible refine (HM.out _ (by repeat (first | assumption | with_reducible apply St.drewN | with_reducible apply St.drew | with_reducible apply St.alloc | with_reducible refine St.step ?_ (by assumption) | with_reducible refine St.setCell ?_ (by simp <;> omega) _))).mono ?_); rintro e w' ⟨rfl, hb1⟩; have hc1 := bcell hb1; have hf1 := bfrozen hb1; have hz1 := blo hb1)
      | (go_at_call 55; (with_reducible refine (HT.out _ (by repeat (first | assumption | with_reducible apply St.drewN | with_reducible apply St.drew | with_reducible apply St.alloc | with_reducible refine St.step ?_ (by assumption) | with_reducible refine St.setCell ?_ (by simp <;> omega) _))).mono ?_); rintro e w' ⟨rfl, hb1⟩; have hc1 := bcell hb1; have hf1 := bfrozen hb1; have hz1 := blo hb1)
      | (go_at_call 47; (with_reducible refine (sure09 w0 _ (by repeat (first | assumption | with_reducible apply St.drewN | with_reducible apply St.drew | with_reducible apply St.alloc | with_reducible refine St.step ?_ (by assumption) | with_reducible refine St.setCell ?_ (by simp <;> omega) _))).mono ?_); rintro e w' ⟨rfl, hb1⟩; have hc1 := bcell hb1; have hf1 := bfrozen hb1; have hz1 := blo hb1)
      | (go_at_call 54; first | ((with_reducible refine (fuseelaw09_num_calls _ w0 _ (by repeat (first | assumption | with_reducible apply St.drewN | with_reducible apply St.drew | with_reducible apply St.alloc | with_reducible refine St.step ?_ (by assumption) | with_reducible refine St.setCell ?_ (by simp <;> omega) _))).mono ?_); rintro e w' ⟨rfl, hb1⟩; have hc1 := bcell hb1; have hf1 := bfrozen hb1; have hz1 := blo hb1) | ((with_reducible refine (fuseelaw09_num_some _ w0 _ (by repeat (first | assumption | with_reducible apply St.drewN | with_reducible apply St.drew | with_reducible apply St.alloc | with_reducible refine St.step ?_ (by assumption) | with_reducible refine St.setCell ?_ (by simp <;> omega) _))).mono ?_); rintro e w' ⟨rfl, hb1⟩; have hc1 := bcell hb1; have hf1 := bfrozen hb1; have hz1 := blo hb1) | ((with_reducible refine (fuseelaw09_num_none w0 _ (by repeat (first | assumption | with_reducible apply St.drewN | with_reducible apply St.drew | with_reducible apply St.alloc | with_reducible refine St.step ?_ (by assumption) | with_reducible refine St.setCell ?_ (by simp <;> omega) _))).mono ?_); rintro e w' ⟨rfl, hb1⟩; have hc1 := bcell hb1; have hf1 := bfrozen hb1; have hz1 := blo hb1)))
    refine name_w (fun W hW => ?_)
    have hzW := lo_eq hW
    have hSW : St w0 W := by rw [hW]; repeat (first | assumption | apply St.drewN | apply St.drew | apply St.alloc | refine St.step ?_ (by assumption) | refine St.setCell ?_ (by simp <;> omega) _)
    refine start_ (n := 30) (S := fun w' => St w0 w' ∧ Below W.heap.size W w' ∧ ∀ b o [_h : Lo b W], w'.cell? ⟨b, o, none⟩ = W.cell? ⟨b, o, none⟩) (ds := []) #[false, false, false, false, false, false, false, false, false, false, false, false, false, false, false, false, false, false, false, false, false, false, false, false, false, false, false, false, false, false] (by kernel_rfl) rfl rfl ⟨(by refine St.drew ?_; repeat (first | assumption | apply St.drewN | apply St.drew | apply St.alloc | refine St.step ?_ (by assumption) | refine St.setCell ?_ (by simp <;> omega) _)), (Below.refl _ _).drew, (bcell (Below.refl _ _).drew)⟩ (fun hHeld => ?_)
    refine take_ (i := 0) (N := some 41) (v := ?_) (a' := ?_) #[true, false, false, false, false, false, false, false, false, false, false, false, false, false, false, false, false, false, false, false, false, false, false, false, false, false, false, false, false, false] rfl rfl (by kernel_rfl) (fun _ _ _ h => h) (Or.inl ⟨by rfl, ?_⟩) hHeld ?_ ?_
    rotate_left
    · rintro w' ⟨s0, s1, s2⟩
      go_simp
      with_reducible rfl
    rotate_left
    · simp only [Act.put, List.setIfInBounds_toArray, List.set_cons_zero, List.set_cons_succ, i64_w, i32_w]
      rfl
    refine take_ (i := 3) (N := some 44) (v := ?_) (a' := ?_) #[true, false, false, true, false, false, false, false, false, false, false, false, false, false, false, false, false, false, false, false, false, false, false, false, false, false, false, false, false, false] rfl rfl (by kernel_rfl) (fun _ _ _ h => h) (Or.inl ⟨by rfl, ?_⟩) hHeld ?_ ?_
    rotate_left
    · rintro w' ⟨s0, s1, s2⟩
      go_simp
      with_reducible rfl
    rotate_left
    · simp only [Act.put, List.setIfInBounds_toArray, List.set_cons_zero, List.set_cons_succ, i64_w, i32_w]
      rfl
    refine one_ (i := 1) (N := some 42) #[true, true, false, true, false, false, false, false, false, false, false, false, false, false, false, false, false, false, false, false, false, false, false, false, false, false, false, false, false, false] rfl rfl (by kernel_rfl) (by decide) (fun K hK => ?_)
    refine goes_ Tryd.func52 (by kernel_rfl) rfl #[.agg #[.int .i64 b, .int .i64 l, .slice A n c]] (by rfl) rfl rfl (by simp only [List.map_toArray, List.map_cons, List.map_nil]; rfl) ?_
    with_reducible refine (HC.out _ hHeld.1).mono ?_
    rintro e w3 ⟨rfl, hb3⟩
    refine ⟨_, rfl, ?_⟩
    refine hK.out _ _ ⟨(hHeld.1.step hb3), (hHeld.2.1.trans (hb3.mono hHeld.2.1.size)), (bcell (hHeld.2.1.trans (hb3.mono hHeld.2.1.size)))⟩ (fun hHeld => ?_)
    clear hK K
    refine norm_ (a' := ?_) ?_ ?_
    rotate_left
    · show Act.put _ (some 42) _ = _
      simp only [Act.put, List.setIfInBounds_toArray, List.set_cons_zero, List.set_cons_succ, i64_w, i32_w]
      rfl
    refine pure_ (i := 2) (N := some 43) (v := ?_) (a' := ?_) #[true, true, true, true, false, false, false, false, false, false, false, false, false, false, false, false, false, false, false, false, false, false, false, false, false, false, false, false, false, false] rfl rfl (by kernel_rfl) (fun _ _ _ h => h) (Or.inl ⟨by rfl, ?_⟩) ?_ ?_
    rotate_left
    · intro w'
      go_simp
      with_reducible rfl
    rotate_left
    · simp only [Act.put, List.setIfInBounds_toArray, List.set_cons_zero, List.set_cons_succ, i64_w, i32_w]
      rfl
    refine one_ (i := 4) (N := some 45) #[true, true, true, true, true, false, false, false, false, false, false, false, false, false, false, false, false, false, false, false, false, false, false, false, false, false, false, false, false, false] rfl rfl (by kernel_rfl) (by decide) (fun K hK => ?_)
    refine goes_ Tryd.func53 (by kernel_rfl) rfl #[.agg #[.int .i64 b, .int .i64 l, .slice A n c]] (by rfl) rfl rfl (by simp only [List.map_toArray, List.map_cons, List.map_nil]; rfl) ?_
    with_reducible refine (HM.out _ hHeld.1).mono ?_
    rintro e w3 ⟨rfl, hb3⟩
    refine ⟨_, rfl, ?_⟩
    refine hK.out _ _ ⟨(hHeld.1.step hb3), (hHeld.2.1.trans (hb3.mono hHeld.2.1.size)), (bcell (hHeld.2.1.trans (hb3.mono hHeld.2.1.size)))⟩ (fun hHeld => ?_)
    clear hK K
    refine norm_ (a' := ?_) ?_ ?_
    rotate_left
    · show Act.put _ (some 45) _ = _
      simp only [Act.put, List.setIfInBounds_toArray, List.set_cons_zero, List.set_cons_succ, i64_w, i32_w]
      rfl
    refine pure_ (i := 5) (N := some 46) (v := ?_) (a' := ?_) #[true, true, true, true, true, true, false, false, false, false, false, false, false, false, false, false, false, false, false, false, false, false, false, false, false, false, false, false, false, false] rfl rfl (by kernel_rfl) (fun _ _ _ h => h) (Or.inl ⟨by rfl, ?_⟩) ?_ ?_
    rotate_left
    · intro w'
      go_simp
      with_reducible rfl
    rotate_left
    · simp only [Act.put, List.setIfInBounds_toArray, List.set_cons_zero, List.set_cons_succ, i64_w, i32_w]
      rfl
    refine pure_ (i := 6) (N := some 47) (v := ?_) (a' := ?_) #[true, true, true, true, true, true, true, false, false, false, false, false, false, false, false, false, false, false, false, false, false, false, false, false, false, false, false, false, false, false] rfl rfl (by kernel_rfl) (fun _ _ _ h => h) (Or.inl ⟨by rfl, ?_⟩) ?_ ?_
    rotate_left
    · intro w'
      go_simp
      with_reducible rfl
    rotate_left
    · simp only [Act.put, List.setIfInBounds_toArray, List.set_cons_zero, List.set_cons_succ, i64_w, i32_w]
      rfl
    refine pure_ (i := 7) (N := some 48) (v := ?_) (a' := ?_) #[true, true, true, true, true, true, true, true, false, false, false, false, false, false, false, false, false, false, false, false, false, false, false, false, false, false, false, false, false, false] rfl rfl (by kernel_rfl) (fun _ _ _ h => h) (Or.inl ⟨by rfl, ?_⟩) ?_ ?_
    rotate_left
    · intro w'
      go_simp
      with_reducible rfl
    rotate_left
    · simp only [Act.put, List.setIfInBounds_toArray, List.set_cons_zero, List.set_cons_succ, i64_w, i32_w]
      rfl
    refine pure_ (i := 9) (N := some 50) (v := ?_) (a' := ?_) #[true, true, true, true, true, true, true, true, false, true, false, false, false, false, false, false, false, false, false, false, false, false, false, false, false, false, false, false, false, false] rfl rfl (by kernel_rfl) (fun _ _ _ h => h) (Or.inl ⟨by rfl, ?_⟩) ?_ ?_
    rotate_left
    · intro w'
      go_simp
      with_reducible rfl
    rotate_left
    · simp only [Act.put, List.setIfInBounds_toArray, List.set_cons_zero, List.set_cons_succ, i64_w, i32_w]
      rfl
    refine one_ (i := 8) (N := some 49) #[true, true, true, true, true, true, true, true, true, true, false, false, false, false, false, false, false, false, false, false, false, false, false, false, false, false, false, false, false, false] rfl rfl (by kernel_rfl) (by decide) (fun K hK => ?_)
    refine goes_ Tryd.func54 (by kernel_rfl) rfl #[.iface 128 (.int .i64 x0)] (by rfl) rfl rfl (by simp only [List.map_toArray, List.map_cons, List.map_nil]; rfl) ?_
    with_reducible refine (fuseelaw09_num_some _ _ _ hHeld.1).mono ?_
    rintro e w3 ⟨rfl, hb3⟩
    refine ⟨_, rfl, ?_⟩
    refine hK.out _ _ ⟨(hHeld.1.step hb3), (hHeld.2.1.trans (hb3.mono hHeld.2.1.size)), (bcell (hHeld.2.1.trans (hb3.mono hHeld.2.1.size)))⟩ (fun hHeld => ?_)
    clear hK K
    refine norm_ (a' := ?_) ?_ ?_
    rotate_left
    · show Act.put _ (some 49) _ = _
      simp only [Act.put, List.setIfInBounds_toArray, List.set_cons_zero, List.set_cons_succ, i64_w, i32_w]
      rfl
    refine pure_ (i := 10) (N := some 51) (v := ?_) (a' := ?_) #[true, true, true, true, true, true, true, true, true, true, true, false, false, false, false, false, false, false, false, false, false, false, false, false, false, false, false, false, false, false] rfl rfl (by kernel_rfl) (fun _ _ _ h => h) (Or.inl ⟨by rfl, ?_⟩) ?_ ?_
    rotate_left
    · intro w'
      go_simp
      with_reducible rfl
    rotate_left
    · simp only [Act.put, List.setIfInBounds_toArray, List.set_cons_zero, List.set_cons_succ, i64_w, i32_w]
      rfl
    refine pure_ (i := 11) (N := some 52) (v := ?_) (a' := ?_) #[true, true, true, true, true, true, true, true, true, true, true, true, false, false, false, false, false, false, false, false, false, false, false, false, false, false, false, false, false, false] rfl rfl (by kernel_rfl) (fun _ _ _ h => h) (Or.inl ⟨by rfl, ?_⟩) ?_ ?_
    rotate_left
    · intro w'
      go_simp
      with_reducible rfl
    rotate_left
    · simp only [Act.put, List.setIfInBounds_toArray, List.set_cons_zero, List.set_cons_succ, i64_w, i32_w]
      rfl
    refine pure_ (i := 12) (N := some 53) (v := ?_) (a' := ?_) #[true, true, true, true, true, true, true, true, true, true, true, true, true, false, false, false, false, false, false, false, false, false, false, false, false, false, false, false, false, false] rfl rfl (by kernel_rfl) (fun _ _ _ h => h) (Or.inl ⟨by rfl, ?_⟩) ?_ ?_
    rotate_left
    · intro w'
      go_simp
      with_reducible rfl
    rotate_left
    · simp only [Act.put, List.setIfInBounds_toArray, List.set_cons_zero, List.set_cons_succ, i64_w, i32_w]
      rfl
    refine pure_ (i := 13) (N := some 54) (v := ?_) (a' := ?_) #[true, true, true, true, true, true, true, true, true, true, true, true, true, true, false, false, false, false, false, false, false, false, false, false, false, false, false, false, false, false] rfl rfl (by kernel_rfl) (fun _ _ _ h => h) (Or.inl ⟨by rfl, ?_⟩) ?_ ?_
    rotate_left
    · intro w'
      go_simp
      with_reducible rfl
    rotate_left
    · simp only [Act.put, List.setIfInBounds_toArray, List.set_cons_zero, List.set_cons_succ, i64_w, i32_w]
      rfl
    refine pure_ (i := 15) (N := some 56) (v := ?_) (a' := ?_) #[true, true, true, true, true, true, true, true, true, true, true, true, true, true, false, true, false, false, false, false, false, false, false, false, false, false, false, false, false, false] rfl rfl (by kernel_rfl) (fun _ _ _ h => h) (Or.inl ⟨by rfl, ?_⟩) ?_ ?_
    rotate_left
    · intro w'
      go_simp
      with_reducible rfl
    rotate_left
    · simp only [Act.put, List.setIfInBounds_toArray, List.set_cons_zero, List.set_cons_succ, i64_w, i32_w]
      rfl
    refine one_ (i := 14) (N := some 55) #[true, true, true, true, true, true, true, true, true, true, true, true, true, true, true, true, false, false, false, false, false, false, false, false, false, false, false, false, false, false] rfl rfl (by kernel_rfl) (by decide) (fun K hK => ?_)
    refine goes_ Tryd.func54 (by kernel_rfl) rfl #[.iface 128 (.int .i64 x0)] (by rfl) rfl rfl (by simp only [List.map_toArray, List.map_cons, List.map_nil]; rfl) ?_
    with_reducible refine (fuseelaw09_num_some _ _ _ hHeld.1).mono ?_
    rintro e w3 ⟨rfl, hb3⟩
    refine ⟨_, rfl, ?_⟩
    refine hK.out _ _ ⟨(hHeld.1.step hb3), (hHeld.2.1.trans (hb3.mono hHeld.2.1.size)), (bcell (hHeld.2.1.trans (hb3.mono hHeld.2.1.size)))⟩ (fun hHeld => ?_)
    clear hK K
    refine norm_ (a' := ?_) ?_ ?_
    rotate_left
    · show Act.put _ (some 55) _ = _
      simp only [Act.put, List.setIfInBounds_toArray, List.set_cons_zero, List.set_cons_succ, i64_w, i32_w]
      rfl
    refine pure_ (i := 16) (N := some 57) (v := ?_) (a' := ?_) #[true, true, true, true, true, true, true, true, true, true, true, true, true, true, true, true, true, false, false, false, false, false, false, false, false, false, false, false, false, false] rfl rfl (by kernel_rfl) (fun _ _ _ h => h) (Or.inl ⟨by rfl, ?_⟩) ?_ ?_
    rotate_left
    · intro w'
      go_simp
      with_reducible rfl
    rotate_left
    · simp only [Act.put, List.setIfInBounds_toArray, List.set_cons_zero, List.set_cons_succ, i64_w, i32_w]
      rfl
    refine pure_ (i := 17) (N := some 58) (v := ?_) (a' := ?_) #[true, true, true, true, true, true, true, true, true, true, true, true, true, true, true, true, true, true, false, false, false, false, false, false, false, false, false, false, false, false] rfl rfl (by kernel_rfl) (fun _ _ _ h => h) (Or.inl ⟨by rfl, ?_⟩) ?_ ?_
    rotate_left
    · intro w'
      go_simp
      with_reducible rfl
    rotate_left
    · simp only [Act.put, List.setIfInBounds_toArray, List.set_cons_zero, List.set_cons_succ, i64_w, i32_w]
      rfl
    refine pure_ (i := 18) (N := some 59) (v := ?_) (a' := ?_) #[true, true, true, true, true, true, true, true, true, true, true, true, true, true, true, true, true, true, true, false, false, false, false, false, false, false, false, false, false, false] rfl rfl (by kernel_rfl) (fun _ _ _ h => h) (Or.inl ⟨by rfl, ?_⟩) ?_ ?_
    rotate_left
    · intro w'
      go_simp
      with_reducible rfl
    rotate_left
    · simp only [Act.put, List.setIfInBounds_toArray, List.set_cons_zero, List.set_cons_succ, i64_w, i32_w]
      rfl
    refine pure_ (i := 19) (N := some 60) (v := ?_) (a' := ?_) #[true, true, true, true, true, true, true, true, true, true, true, true, true, true, true, true, true, true, true, true, false, false, false, false, false, false, false, false, false, false] rfl rfl (by kernel_rfl) (fun _ _ _ h => h) (Or.inl ⟨by rfl, ?_⟩) ?_ ?_
    rotate_left
    · intro w'
      go_simp
      with_reducible rfl
    rotate_left
    · simp only [Act.put, List.setIfInBounds_toArray, List.set_cons_zero, List.set_cons_succ, i64_w, i32_w]
      rfl
    refine pure_ (i := 21) (N := some 62) (v := ?_) (a' := ?_) #[true, true, true, true, true, true, true, true, true, true, true, true, true, true, true, true, true, true, true, true, false, true, false, false, false, false, false, false, false, false] rfl rfl (by kernel_rfl) (fun _ _ _ h => h) (Or.inl ⟨by rfl, ?_⟩) ?_ ?_
    rotate_left
    · intro w'
      go_simp
      with_reducible rfl
    rotate_left
    · simp only [Act.put, List.setIfInBounds_toArray, List.set_cons_zero, List.set_cons_succ, i64_w, i32_w]
      rfl
    refine one_ (i := 20) (N := some 61) #[true, true, true, true, true, true, true, true, true, true, true, true, true, true, true, true, true, true, true, true, true, true, false, false, false, false, false, false, false, false] rfl rfl (by kernel_rfl) (by decide) (fun K hK => ?_)
    refine goes_ Tryd.func54 (by kernel_rfl) rfl #[.iface 128 (.int .i64 x0)] (by rfl) rfl rfl (by simp only [List.map_toArray, List.map_cons, List.map_nil]; rfl) ?_
    with_reducible refine (fuseelaw09_num_some _ _ _ hHeld.1).mono ?_
    rintro e w3 ⟨rfl, hb3⟩
    refine ⟨_, rfl, ?_⟩
    refine hK.out _ _ ⟨(hHeld.1.step hb3), (hHeld.2.1.trans (hb3.mono hHeld.2.1.size)), (bcell (hHeld.2.1.trans (hb3.mono hHeld.2.1.size)))⟩ (fun hHeld => ?_)
    clear hK K
    refine norm_ (a' := ?_) ?_ ?_
    rotate_left
    · show Act.put _ (some 61) _ = _
      simp only [Act.put, List.setIfInBounds_toArray, List.set_cons_zero, List.set_cons_succ, i64_w, i32_w]
      rfl
    refine pure_ (i := 22) (N := some 63) (v := ?_) (a' := ?_) #[true, true, true, true, true, true, true, true, true, true, true, true, true, true, true, true, true, true, true, true, true, true, true, false, false, false, false, false, false, false] rfl rfl (by kernel_rfl) (fun _ _ _ h => h) (Or.inl ⟨by rfl, ?_⟩) ?_ ?_
    rotate_left
    · intro w'
      go_simp
      with_reducible rfl
    rotate_left
    · simp only [Act.put, List.setIfInBounds_toArray, List.set_cons_zero, List.set_cons_succ, i64_w, i32_w]
      rfl
    refine pure_ (i := 23) (N := some 64) (v := ?_) (a' := ?_) #[true, true, true, true, true, true, true, true, true, true, true, true, true, true, true, true, true, true, true, true, true, true, true, true, false, false, false, false, false, false] rfl rfl (by kernel_rfl) (fun _ _ _ h => h) (Or.inl ⟨by rfl, ?_⟩) ?_ ?_
    rotate_left
    · intro w'
      go_simp
      with_reducible rfl
    rotate_left
    · simp only [Act.put, List.setIfInBounds_toArray, List.set_cons_zero, List.set_cons_succ, i64_w, i32_w]
      rfl
    refine pure_ (i := 24) (N := some 65) (v := ?_) (a' := ?_) #[true, true, true, true, true, true, true, true, true, true, true, true, true, true, true, true, true, true, true, true, true, true, true, true, true, false, false, false, false, false] rfl rfl (by kernel_rfl) (fun _ _ _ h => h) (Or.inl ⟨by rfl, ?_⟩) ?_ ?_
    rotate_left
    · intro w'
      go_simp
      with_reducible rfl
    rotate_left
    · simp only [Act.put, List.setIfInBounds_toArray, List.set_cons_zero, List.set_cons_succ, i64_w, i32_w]
      rfl
    refine take_ (i := 25) (N := some 66) (v := ?_) (a' := ?_) #[true, true, true, true, true, true, true, true, true, true, true, true, true, true, true, true, true, true, true, true, true, true, true, true, true, true, false, false, false, false] rfl rfl (by kernel_rfl) (fun _ _ _ h => h) (Or.inl ⟨by rfl, ?_⟩) hHeld ?_ ?_
    rotate_left
    · rintro w' ⟨s0, s1, s2⟩
      go_simp
      with_reducible rfl
    rotate_left
    · simp only [Act.put, List.setIfInBounds_toArray, List.set_cons_zero, List.set_cons_succ, i64_w, i32_w]
      rfl
    refine take_ (i := 26) (N := some 67) (v := ?_) (a' := ?_) #[true, true, true, true, true, true, true, true, true, true, true, true, true, true, true, true, true, true, true, true, true, true, true, true, true, true, true, false, false, false] rfl rfl (by kernel_rfl) (fun _ _ _ h => h) (Or.inl ⟨by rfl, ?_⟩) hHeld ?_ ?_
    rotate_left
    · rintro w' ⟨s0, s1, s2⟩
      go_simp
      with_reducible rfl
    rotate_left
    · simp only [Act.put, List.setIfInBounds_toArray, List.set_cons_zero, List.set_cons_succ, i64_w, i32_w]
      rfl
    refine one_ (i := 27) (N := some 68) #[true, true, true, true, true, true, true, true, true, true, true, true, true, true, true, true, true, true, true, true, true, true, true, true, true, true, true, true, false, false] rfl rfl (by kernel_rfl) (by decide) (fun K hK => ?_)
    refine goes_ Tryd.func55 (by kernel_rfl) rfl #[.agg #[.int .i64 b, .int .i64 l, .slice A n c], .agg #[.int .i64 b, .int .i64 l, .slice A n c]] (by rfl) rfl rfl (by simp only [List.map_toArray, List.map_cons, List.map_nil]; rfl) ?_
    with_reducible refine (HT.out _ hHeld.1).mono ?_
    rintro e w3 ⟨rfl, hb3⟩
    refine ⟨_, rfl, ?_⟩
    refine hK.out _ _ ⟨(hHeld.1.step hb3), (hHeld.2.1.trans (hb3.mono hHeld.2.1.size)), (bcell (hHeld.2.1.trans (hb3.mono hHeld.2.1.size)))⟩ (fun hHeld => ?_)
    clear hK K
    refine norm_ (a' := ?_) ?_ ?_
    rotate_left
    · show Act.put _ (some 68) _ = _
      simp only [Act.put, List.setIfInBounds_toArray, List.set_cons_zero, List.set_cons_succ, i64_w, i32_w]
      rfl
    refine pure_ (i := 28) (N := some 69) (v := ?_) (a' := ?_) #[true, true, true, true, true, true, true, true, true, true, true, true, true, true, true, true, true, true, true, true, true, true, true, true, true, true, true, true, true, false] rfl rfl (by kernel_rfl) (fun _ _ _ h => h) (Or.inl ⟨by rfl, ?_⟩) ?_ ?_
    rotate_left
    · intro w'
      go_simp
      with_reducible rfl
    rotate_left
    · simp only [Act.put, List.setIfInBounds_toArray, List.set_cons_zero, List.set_cons_succ, i64_w, i32_w]
      rfl
    refine pure_ (i := 29) (N := some 70) (v := ?_) (a' := ?_) #[true, true, true, true, true, true, true, true, true, true, true, true, true, true, true, true, true, true, true, true, true, true, true, true, true, true, true, true, true, true] rfl rfl (by kernel_rfl) (fun _ _ _ h => h) (Or.inl ⟨by rfl, ?_⟩) ?_ ?_
    rotate_left
    · intro w'
      go_simp
      with_reducible rfl
    rotate_left
    · simp only [Act.put, List.setIfInBounds_toArray, List.set_cons_zero, List.set_cons_succ, i64_w, i32_w]
      rfl
    refine done_ (by kernel_rfl) ?_
    obtain ⟨hs9, hb9, hc9⟩ := hHeld
    have hz9 := blo hb9
    have hf9 := bfrozen hb9
    go_wp2_with (first
      | (go_at_call 48; (with_reducible refine (HA.out _ (by repeat (first | assumption | with_reducible apply St.drewN | with_reducible apply St.drew | with_reducible apply St.alloc | with_reducible refine St.step ?_ (by assumption) | with_reducible refine St.setCell ?_ (by simp <;> omega) _))).mono ?_); rintro e w' ⟨rfl, hb1⟩; have hc1 := bcell hb1; have hf1 := bfrozen hb1; have hz1 := blo hb1)
      | (go_at_call 49; (with_reducible refine (HL.out _ (by repeat (first | assumption | with_reducible apply St.drewN | with_reducible apply St.drew | with_reducible apply St.alloc | with_reducible refine St.step ?_ (by assumption) | with_reducible refine St.setCell ?_ (by simp <;> omega) _))).mono ?_); rintro e w' ⟨rfl, hb1⟩; have hc1 := bcell hb1; have hf1 := bfrozen hb1; have hz1 := blo hb1)
      | (go_at_call 50; (with_reducible refine (HB.out _ (by repeat (first | assumption | with_reducible apply St.drewN | with_reducible apply St.drew | with_reducible apply St.alloc | with_reducible refine St.step ?_ (by assumption) | with_reducible refine St.setCell ?_ (by simp <;> omega) _))).mono ?_); rintro e w' ⟨rfl, hb1⟩; have hc1 := bcell hb1; have hf1 := bfrozen hb1; have hz1 := blo hb1)
      | (go_at_call 51; (with_reducible refine (HW.out _ (by repeat (first | assumption | with_reducible apply St.drewN | with_reducible apply St.drew | with_reducible apply St.alloc | with_reducible refine St.step ?_ (by assumption) | with_reducible refine St.setCell ?_ (by simp <;> omega) _))).mono ?_); rintro e w' ⟨rfl, hb1⟩; have hc1 := bcell hb1; have hf1 := bfrozen hb1; have hz1 := blo hb1)
      | (go_at_call 52; (with_reducible refine (HC.out _ (by repeat (first | assumption | with_reducible apply St.drewN | with_reducible apply St.drew | with_reducible apply St.alloc | with_reducible refine St.step ?_ (by assumption) | with_reducible refine St.setCell ?_ (by simp <;> omega) _))).mono ?_); rintro e w' ⟨rfl, hb1⟩; have hc1 := bcell hb1; have hf1 := bfrozen hb1; have hz1 := blo hb1)
      | (go_at_call 53; (with_reducible refine (HM.out _ (by repeat (first | assumption | with_reducible apply St.drewN | with_reducible apply St.drew | with_reducible apply St.alloc | with_reducible refine St.step ?_ (by assumption) | with_reducible refine St.setCell ?_ (by simp <;> omega) _))).mono ?_); rintro e w' ⟨rfl, hb1⟩; have hc1 := bcell hb1; have hf1 := bfrozen hb1; have hz1 := blo hb1)
      | (go_at_call 55; (with_reducible refine (HT.out _ (by repeat (first | assumption | with_reducible apply St.drewN | with_reducible apply St.drew | with_reducible apply St.alloc | with_reducible refine St.step ?_ (by assumption) | with_reducible refine St.setCell ?_ (by simp <;> omega) _))).mono ?_); rintro e w' ⟨rfl, hb1⟩; have hc1 := bcell hb1; have hf1 := bfrozen hb1; have hz1 := blo hb1)
      | (go_at_call 47; (with_reducible refine (sure09 w0 _ (by repeat (first | assumption | with_reducible apply St.drewN | with_reducible apply St.drew | with_reducible apply St.alloc | with_reducible refine St.step ?_ (by assumption) | with_reducible refine St.setCell ?_ (by simp <;> omega) _))).mono ?_); rintro e w' ⟨rfl, hb1⟩; have hc1 := bcell hb1; have hf1 := bfrozen hb1; have hz1 := blo hb1)
      | (go_at_call 54; first | ((with_reducible refine (fuseelaw09_num_calls _ w0 _ (by repeat (first | assumption | with_reducible apply St.drewN | with_reducible apply St.drew | with_reducible apply St.alloc | with_reducible refine St.step ?_ (by assumption) | with_reducible refine St.setCell ?_ (by simp <;> omega) _))).mono ?_); rintro e w' ⟨rfl, hb1⟩; have hc1 := bcell hb1; have hf1 := bfrozen hb1; have hz1 := blo hb1) | ((with_reducible refine (fuseelaw09_num_some _ w0 _ (by repeat (first | assumption | with_reducible apply St.drewN | with_reducible apply St.drew | with_reducible apply St.alloc | with_reducible refine St.step ?_ (by assumption) | with_reducible refine St.setCell ?_ (by simp <;> omega) _))).mono ?_); rintro e w' ⟨rfl, hb1⟩; have hc1 := bcell hb1; have hf1 := bfrozen hb1; have hz1 := blo hb1) | ((with_reducible refine (fuseelaw09_num_none w0 _ (by repeat (first | assumption | with_reducible apply St.drewN | with_reducible apply St.drew | with_reducible apply St.alloc | with_reducible refine St.step ?_ (by assumption) | with_reducible refine St.setCell ?_ (by simp <;> omega) _))).mono ?_); rintro e w' ⟨rfl, hb1⟩; have hc1 := bcell hb1; have hf1 := bfrozen hb1; have hz1 := blo hb1)))
    go_ret
    exact ⟨by simp, by repeat (first | assumption | with_reducible apply St.drewN | with_reducible apply St.drew | with_reducible apply St.alloc | with_reducible refine St.step ?_ (by assumption) | with_reducible refine St.setCell ?_ (by simp <;> omega) _)⟩
set_option maxHeartbeats 4000000 in
theorem LeapDays_err (b l day : Int) (A : Option Addr) (n c : Nat) (x0 y0 : Int) (w0 w : World) (hs : St w0 w)
    (hn : (n : Int) ≤ 60)
    (he : (y0 != 0) = true)
    (hxy : (x0 != y0) = false)
    (HA : Hid (∀ w, St w0 w → Calls Tryd.prog 48 #[.agg #[.int .i64 b, .int .i64 l, .slice A n c], .int .i64 day] w fun e w' => e = .returned (.tuple #[.int .i64 0, .iface 128 (.int .i64 x0)]) ∧ Below w.heap.size w w'))
    (HL : Hid (∀ w, St w0 w → Calls Tryd.prog 49 #[.agg #[.int .i64 b, .int .i64 l, .slice A n c], .int .i64 day] w fun e w' => e = .returned (.tuple #[.int .i64 0, .iface 128 (.int .i64 x0)]) ∧ Below w.heap.size w w'))
    (HB : Hid (∀ w, St w0 w → Calls Tryd.prog 50 #[.agg #[.int .i64 b, .int .i64 l, .slice A n c], .int .i64 day] w fun e w' => e = .returned (.tuple #[.int .i64 0, .iface 128 (.int .i64 x0)]) ∧ Below w.heap.size w w'))
    (HW : Hid (∀ w, St w0 w → Calls Tryd.prog 51 #[.agg #[.int .i64 b, .int .i64 l, .slice A n c], .int .i64 day] w fun e w' => e = .returned (.int .i64 y0) ∧ Below w.heap.size w w'))
    (HC : Hid (∀ w, St w0 w → Calls Tryd.prog 52 #[.agg #[.int .i64 b, .int .i64 l, .slice A n c]] w fun e w' => e = .returned (.nilIface) ∧ Below w.heap.size w w'))
    (HM : Hid (∀ w, St w0 w → Calls Tryd.prog 53 #[.agg #[.int .i64 b, .int .i64 l, .slice A n c]] w fun e w' => e = .returned (.bool true) ∧ Below w.heap.size w w'))
    (HT : Hid (∀ w, St w0 w → Calls Tryd.prog 55 #[.agg #[.int .i64 b, .int .i64 l, .slice A n c], .agg #[.int .i64 b, .int .i64 l, .slice A n c]] w fun e w' => e = .returned (.bool true) ∧ Below w.heap.size w w')) :
    Calls Tryd.prog 9 #[.agg #[.int .i64 b, .int .i64 l, .slice A n c], .int .i64 day] w fun e w' => e = .returned (.bool true) ∧ St w0 w' := by
  all_goals
    go_enter Tryd.func9, Tryd.ntmps9
    go_wp2_with (first
      | (go_at_call 48; (with_reducible refine (HA.out _ (by repeat (first | assumption | with_reducible apply St.drewN | with_reducible apply St.drew | with_reducible apply St.alloc | with_reducible refine St.step ?_ (by assumption) | with_reducible refine St.setCell ?_ (by simp <;> omega) _))).mono ?_); rintro e w' ⟨rfl, hb1⟩; have hc1 := bcell hb1; have hf1 := bfrozen hb1; have hz1 := blo hb1)
      | (go_at_call 49; (with_reducible refine (HL.out _ (by repeat (first | assumption | with_reducible apply St.drewN | with_reducible apply St.drew | with_reducible apply St.alloc | with_reducible refine St.step ?_ (by assumption) | with_reducible refine St.setCell ?_ (by simp <;> omega) _))).mono ?_); rintro e w' ⟨rfl, hb1⟩; have hc1 := bcell hb1; have hf1 := bfrozen hb1; have hz1 := blo hb1)
      | (go_at_call 50; (with_reducible refine (HB.out _ (by repeat (first | assumption | with_reducible apply St.drewN | with_reducible apply St.drew | with_reducible apply St.alloc | with_reducible refine St.step ?_ (by assumption) | with_reducible refine St.setCell ?_ (by simp <;> omega) _))).mono ?_); rintro e w' ⟨rfl, hb1⟩; have hc1 := bcell hb1; have hf1 := bfrozen hb1; have hz1 := blo hb1)
      | (go_at_call 51; (with_reducible refine (HW.out _ (by repeat (first | assumption | with_reducible apply St.drewN | with_reducible apply St.drew | with_reducible apply St.alloc | with_reducible refine St.step ?_ (by assumption) | with_reducible refine St.setCell ?_ (by simp <;> omega) _))).mono ?_); rintro e w' ⟨rfl, hb1⟩; have hc1 := bcell hb1; have hf1 := bfrozen hb1; have hz1 := blo hb1)
      | (go_at_call 52; (with_reducible refine (HC.out _ (by repeat (first | assumption | with_reducible apply St.drewN | with_reducible apply St.drew | with_reducible apply St.alloc | with_reducible refine St.step ?_ (by assumption) | with_reducible refine St.setCell ?_ (by simp <;> omega) _))).mono ?_); rintro e w' ⟨rfl, hb1⟩; have hc1 := bcell hb1; have hf1 := bfrozen hb1; have hz1 := blo hb1)
      | (go_at_call 53; (with_reducible refine (HM.out _ (by repeat (first | assumption | with_reducible apply St.drewN | with_reducible apply St.drew | with_reducible apply St.alloc | with_reducible refine St.step ?_ (by assumption) | with_reducible refine St.setCell ?_ (by simp <;> omega) _))).mono ?_); rintro e w' ⟨rfl, hb1⟩; have hc1 := bcell hb1; have hf1 := bfrozen hb1; have hz1 := blo hb1)
      | (go_at_call 55; (with_reducible refine (HT.out _ (by repeat (first | assumption | with_reducible apply St.drewN | with_reducible apply St.drew | with_reducible apply St.alloc | with_reducible refine St.step ?_ (by assumption) | with_reducible refine St.setCell ?_ (by simp <;> omega) _))).mono ?_); rintro e w' ⟨rfl, hb1⟩; have hc1 := bcell hb1; have hf1 := bfrozen hb1; have hz1 := blo hb1)
      | (go_at_call 47; (with_reducible refine (sure09 w0 _ (by repeat (first | assumption | with_reducible apply St.drewN | with_reducible apply St.drew | with_reducible apply St.alloc | with_reducible refine St.step ?_ (by assumption) | with_reducible refine St.setCell ?_ (by simp <;> omega) _))).mono ?_); rintro e w' ⟨rfl, hb1⟩; have hc1 := bcell hb1; have hf1 := bfrozen hb1; have hz1 := blo hb1)
      | (go_at_call 54; first | ((with_reducible refine (fuseelaw09_num_calls _ w0 _ (by repeat (first | assumption | with_reducible apply St.drewN | with_reducible apply St.drew | with_reducible apply St.alloc | with_reducible refine St.step ?_ (by assumption) | with_reducible refine St.setCell ?_ (by simp <;> omega) _))).mono ?_); rintro e w' ⟨rfl, hb1⟩; have hc1 := bcell hb1; have hf1 := bfrozen hb1; have hz1 := blo hb1) | ((with_reducible refine (fuseelaw09_num_some _ w0 _ (by repeat (first | assumption | with_reducible apply St.drewN | with_reducible apply St.drew | with_reducible apply St.alloc | with_reducible refine St.step ?_ (by assumption) | with_reducible refine St.setCell ?_ (by simp <;> omega) _))).mono ?_); rintro e w' ⟨rfl, hb1⟩; have hc1 := bcell hb1; have hf1 := bfrozen hb1; have hz1 := blo hb1) | ((with_reducible refine (fuseelaw09_num_none w0 _ (by repeat (first | assumption | with_reducible apply St.drewN | with_reducible apply St.drew | with_reducible apply St.alloc | with_reducible refine St.step ?_ (by assumption) | with_reducible refine St.setCell ?_ (by simp <;> omega) _))).mono ?_); rintro e w' ⟨rfl, hb1⟩; have hc1 := bcell hb1; have hf1 := bfrozen hb1; have hz1 := blo hb1)))
    refine name_w (fun W hW => ?_)
    have hzW := lo_eq hW
    have hSW : St w0 W := by rw [hW]; repeat (first | assumption | apply St.drewN | apply St.drew | apply St.alloc | refine St.step ?_ (by assumption) | refine St.setCell ?_ (by simp <;> omega) _)
    refine start_ (n := 30) (S := fun w' => St w0 w' ∧ Below W.heap.size W w' ∧ ∀ b o [_h : Lo b W], w'.cell? ⟨b, o, none⟩ = W.cell? ⟨b, o, none⟩) (ds := []) #[false, false, false, false, false, false, false, false, false, false, false, false, false, false, false, false, false, false, false, false, false, false, false, false, false, false, false, false, false, false] (by kernel_rfl) rfl rfl ⟨(by refine St.drew ?_; repeat (first | assumption | apply St.drewN | apply St.drew | apply St.alloc | refine St.step ?_ (by assumption) | refine St.setCell ?_ (by simp <;> omega) _)), (Below.refl _ _).drew, (bcell (Below.refl _ _).drew)⟩ (fun hHeld => ?_)
    refine take_ (i := 0) (N := some 41) (v := ?_) (a' := ?_) #[true, false, false, false, false, false, false, false, false, false, false, false, false, false, false, false, false, false, false, false, false, false, false, false, false, false, false, false, false, false] rfl rfl (by kernel_rfl) (fun _ _ _ h => h) (Or.inl ⟨by rfl, ?_⟩) hHeld ?_ ?_
    rotate_left
    · rintro w' ⟨s0, s1, s2⟩
      go_simp
      with_reducible rfl
    rotate_left
    · simp only [Act.put, List.setIfInBounds_toArray, List.set_cons_zero, List.set_cons_succ, i64_w, i32_w]
      rfl
    refine take_ (i := 3) (N := some 44) (v := ?_) (a' := ?_) #[true, false, false, true, false, false, false, false, false, false, false, false, false, false, false, false, false, false, false, false, false, false, false, false, false, false, false, false, false, false] rfl rfl (by kernel_rfl) (fun _ _ _ h => h) (Or.inl ⟨by rfl, ?_⟩) hHeld ?_ ?_
    rotate_left
    · rintro w' ⟨s0, s1, s2⟩
      go_simp
      with_reducible rfl
    rotate_left
    · simp only [Act.put, List.setIfInBounds_toArray, List.set_cons_zero, List.set_cons_succ, i64_w, i32_w]
      rfl
    refine one_ (i := 1) (N := some 42) #[true, true, false, true, false, false, false, false, false, false, false, false, false, false, false, false, false, false, false, false, false, false, false, false, false, false, false, false, false, false] rfl rfl (by kernel_rfl) (by decide) (fun K hK => ?_)
    refine goes_ Tryd.func52 (by kernel_rfl) rfl #[.agg #[.int .i64 b, .int .i64 l, .slice A n c]] (by rfl) rfl rfl (by simp only [List.map_toArray, List.map_cons, List.map_nil]; rfl) ?_
    with_reducible refine (HC.out _ hHeld.1).mono ?_
    rintro e w3 ⟨rfl, hb3⟩
    refine ⟨_, rfl, ?_⟩
    refine hK.out _ _ ⟨(hHeld.1.step hb3), (hHeld.2.1.trans (hb3.mono hHeld.2.1.size)), (bcell (hHeld.2.1.trans (hb3.mono hHeld.2.1.size)))⟩ (fun hHeld => ?_)
    clear hK K
    refine norm_ (a' := ?_) ?_ ?_
    rotate_left
    · show Act.put _ (some 42) _ = _
      simp only [Act.put, List.setIfInBounds_toArray, List.set_cons_zero, List.set_cons_succ, i64_w, i32_w]
      rfl
    refine pure_ (i := 2) (N := some 43) (v := ?_) (a' := ?_) #[true, true, true, true, false, false, false, false, false, false, false, false, false, false, false, false, false, false, false, false, false, false, false, false, false, false, false, false, false, false] rfl rfl (by kernel_rfl) (fun _ _ _ h => h) (Or.inl ⟨by rfl, ?_⟩) ?_ ?_
    rotate_left
    · intro w'
      go_simp
      with_reducible rfl
    rotate_left
    · simp only [Act.put, List.setIfInBounds_toArray, List.set_cons_zero, List.set_cons_succ, i64_w, i32_w]
      rfl
    refine one_ (i := 4) (N := some 45) #[true, true, true, true, true, false, false, false, false, false, false, false, false, false, false, false, false, false, false, false, false, false, false, false, false, false, false, false, false, false] rfl rfl (by kernel_rfl) (by decide) (fun K hK => ?_)
    refine goes_ Tryd.func53 (by kernel_rfl) rfl #[.agg #[.int .i64 b, .int .i64 l, .slice A n c]] (by rfl) rfl rfl (by simp only [List.map_toArray, List.map_cons, List.map_nil]; rfl) ?_
    with_reducible refine (HM.out _ hHeld.1).mono ?_
    rintro e w3 ⟨rfl, hb3⟩
    refine ⟨_, rfl, ?_⟩
    refine hK.out _ _ ⟨(hHeld.1.step hb3), (hHeld.2.1.trans (hb3.mono hHeld.2.1.size)), (bcell (hHeld.2.1.trans (hb3.mono hHeld.2.1.size)))⟩ (fun hHeld => ?_)
    clear hK K
    refine norm_ (a' := ?_) ?_ ?_
    rotate_left
    · show Act.put _ (some 45) _ = _
      simp only [Act.put, List.setIfInBounds_toArray, List.set_cons_zero, List.set_cons_succ, i64_w, i32_w]
      rfl
    refine pure_ (i := 5) (N := some 46) (v := ?_) (a' := ?_) #[true, true, true, true, true, true, false, false, false, false, false, false, false, false, false, false, false, false, false, false, false, false, false, false, false, false, false, false, false, false] rfl rfl (by kernel_rfl) (fun _ _ _ h => h) (Or.inl ⟨by rfl, ?_⟩) ?_ ?_
    rotate_left
    · intro w'
      go_simp
      with_reducible rfl
    rotate_left
    · simp only [Act.put, List.setIfInBounds_toArray, List.set_cons_zero, List.set_cons_succ, i64_w, i32_w]
      rfl
    refine pure_ (i := 6) (N := some 47) (v := ?_) (a' := ?_) #[true, true, true, true, true, true, true, false, false, false, false, false, false, false, false, false, false, false, false, false, false, false, false, false, false, false, false, false, false, false] rfl rfl (by kernel_rfl) (fun _ _ _ h => h) (Or.inl ⟨by rfl, ?_⟩) ?_ ?_
    rotate_left
    · intro w'
      go_simp
      with_reducible rfl
    rotate_left
    · simp only [Act.put, List.setIfInBounds_toArray, List.set_cons_zero, List.set_cons_succ, i64_w, i32_w]
      rfl
    refine pure_ (i := 7) (N := some 48) (v := ?_) (a' := ?_) #[true, true, true, true, true, true, true, true, false, false, false, false, false, false, false, false, false, false, false, false, false, false, false, false, false, false, false, false, false, false] rfl rfl (by kernel_rfl) (fun _ _ _ h => h) (Or.inl ⟨by rfl, ?_⟩) ?_ ?_
    rotate_left
    · intro w'
      go_simp
      with_reducible rfl
    rotate_left
    · simp only [Act.put, List.setIfInBounds_toArray, List.set_cons_zero, List.set_cons_succ, i64_w, i32_w]
      rfl
    refine pure_ (i := 9) (N := some 50) (v := ?_) (a' := ?_) #[true, true, true, true, true, true, true, true, false, true, false, false, false, false, false, false, false, false, false, false, false, false, false, false, false, false, false, false, false, false] rfl rfl (by kernel_rfl) (fun _ _ _ h => h) (Or.inl ⟨by rfl, ?_⟩) ?_ ?_
    rotate_left
    · intro w'
      go_simp
      with_reducible rfl
    rotate_left
    · simp only [Act.put, List.setIfInBounds_toArray, List.set_cons_zero, List.set_cons_succ, i64_w, i32_w]
      rfl
    refine one_ (i := 8) (N := some 49) #[true, true, true, true, true, true, true, true, true, true, false, false, false, false, false, false, false, false, false, false, false, false, false, false, false, false, false, false, false, false] rfl rfl (by kernel_rfl) (by decide) (fun K hK => ?_)
    refine goes_ Tryd.func54 (by kernel_rfl) rfl #[.iface 128 (.int .i64 x0)] (by rfl) rfl rfl (by simp only [List.map_toArray, List.map_cons, List.map_nil]; rfl) ?_
    with_reducible refine (fuseelaw09_num_some _ _ _ hHeld.1).mono ?_
    rintro e w3 ⟨rfl, hb3⟩
    refine ⟨_, rfl, ?_⟩
    refine hK.out _ _ ⟨(hHeld.1.step hb3), (hHeld.2.1.trans (hb3.mono hHeld.2.1.size)), (bcell (hHeld.2.1.trans (hb3.mono hHeld.2.1.size)))⟩ (fun hHeld => ?_)
    clear hK K
    refine norm_ (a' := ?_) ?_ ?_
    rotate_left
    · show Act.put _ (some 49) _ = _
      simp only [Act.put, List.setIfInBounds_toArray, List.set_cons_zero, List.set_cons_succ, i64_w, i32_w]
      rfl
    refine pure_ (i := 10) (N := some 51) (v := ?_) (a' := ?_) #[true, true, true, true, true, true, true, true, true, true, true, false, false, false, false, false, false, false, false, false, false, false, false, false, false, false, false, false, false, false] rfl rfl (by kernel_rfl) (fun _ _ _ h => h) (Or.inl ⟨by rfl, ?_⟩) ?_ ?_
    rotate_left
    · intro w'
      go_simp
      with_reducible rfl
    rotate_left
    · simp only [Act.put, List.setIfInBounds_toArray, List.set_cons_zero, List.set_cons_succ, i64_w, i32_w]
      rfl
    refine pure_ (i := 11) (N := some 52) (v := ?_) (a' := ?_) #[true, true, true, true, true, true, true, true, true, true, true, true, false, false, false, false, false, false, false, false, false, false, false, false, false, false, false, false, false, false] rfl rfl (by kernel_rfl) (fun _ _ _ h => h) (Or.inl ⟨by rfl, ?_⟩) ?_ ?_
    rotate_left
    · intro w'
      go_simp
      with_reducible rfl
    rotate_left
    · simp only [Act.put, List.setIfInBounds_toArray, List.set_cons_zero, List.set_cons_succ, i64_w, i32_w]
      rfl
    refine pure_ (i := 12) (N := some 53) (v := ?_) (a' := ?_) #[true, true, true, true, true, true, true, true, true, true, true, true, true, false, false, false, false, false, false, false, false, false, false, false, false, false, false, false, false, false] rfl rfl (by kernel_rfl) (fun _ _ _ h => h) (Or.inl ⟨by rfl, ?_⟩) ?_ ?_
    rotate_left
    · intro w'
      go_simp
      with_reducible rfl
    rotate_left
    · simp only [Act.put, List.setIfInBounds_toArray, List.set_cons_zero, List.set_cons_succ, i64_w, i32_w]
      rfl
    refine pure_ (i := 13) (N := some 54) (v := ?_) (a' := ?_) #[true, true, true, true, true, true, true, true, true, true, true, true, true, true, false, false, false, false, false, false, false, false, false, false, false, false, false, false, false, false] rfl rfl (by kernel_rfl) (fun _ _ _ h => h) (Or.inl ⟨by rfl, ?_⟩) ?_ ?_
    rotate_left
    · intro w'
      go_simp
      with_reducible rfl
    rotate_left
    · simp only [Act.put, List.setIfInBounds_toArray, List.set_cons_zero, List.set_cons_succ, i64_w, i32_w]
      rfl
    refine pure_ (i := 15) (N := some 56) (v := ?_) (a' := ?_) #[true, true, true, true, true, true, true, true, true, true, true, true, true, true, false, true, false, false, false, false, false, false, false, false, false, false, false, false, false, false] rfl rfl (by kernel_rfl) (fun _ _ _ h => h) (Or.inl ⟨by rfl, ?_⟩) ?_ ?_
    rotate_left
    · intro w'
      go_simp
      with_reducible rfl
    rotate_left
    · simp only [Act.put, List.setIfInBounds_toArray, List.set_cons_zero, List.set_cons_succ, i64_w, i32_w]
      rfl
    refine one_ (i := 14) (N := some 55) #[true, true, true, true, true, true, true, true, true, true, true, true, true, true, true, true, false, false, false, false, false, false, false, false, false, false, false, false, false, false] rfl rfl (by kernel_rfl) (by decide) (fun K hK => ?_)
    refine goes_ Tryd.func54 (by kernel_rfl) rfl #[.iface 128 (.int .i64 x0)] (by rfl) rfl rfl (by simp only [List.map_toArray, List.map_cons, List.map_nil]; rfl) ?_
    with_reducible refine (fuseelaw09_num_some _ _ _ hHeld.1).mono ?_
    rintro e w3 ⟨rfl, hb3⟩
    refine ⟨_, rfl, ?_⟩
    refine hK.out _ _ ⟨(hHeld.1.step hb3), (hHeld.2.1.trans (hb3.mono hHeld.2.1.size)), (bcell (hHeld.2.1.trans (hb3.mono hHeld.2.1.size)))⟩ (fun hHeld => ?_)
    clear hK K
    refine norm_ (a' := ?_) ?_ ?_
    rotate_left
    · show Act.put _ (some 55) _ = _
      simp only [Act.put, List.setIfInBounds_toArray, List.set_cons_zero, List.set_cons_succ, i64_w, i32_w]
      rfl
    refine pure_ (i := 16) (N := some 57) (v := ?_) (a' := ?_) #[true, true, true, true, true, true, true, true, true, true, true, true, true, true, true, true, true, false, false, false, false, false, false, false, false, false, false, false, false, false] rfl rfl (by kernel_rfl) (fun _ _ _ h => h) (Or.inl ⟨by rfl, ?_⟩) ?_ ?_
    rotate_left
    · intro w'
      go_simp
      with_reducible rfl
    rotate_left
    · simp only [Act.put, List.setIfInBounds_toArray, List.set_cons_zero, List.set_cons_succ, i64_w, i32_w]
      rfl
    refine pure_ (i := 17) (N := some 58) (v := ?_) (a' := ?_) #[true, true, true, true, true, true, true, true, true, true, true, true, true, true, true, true, true, true, false, false, false, false, false, false, false, false, false, false, false, false] rfl rfl (by kernel_rfl) (fun _ _ _ h => h) (Or.inl ⟨by rfl, ?_⟩) ?_ ?_
    rotate_left
    · intro w'
      go_simp
      with_reducible rfl
    rotate_left
    · simp only [Act.put, List.setIfInBounds_toArray, List.set_cons_zero, List.set_cons_succ, i64_w, i32_w]
      rfl
    refine pure_ (i := 18) (N := some 59) (v := ?_) (a' := ?_) #[true, true, true, true, true, true, true, true, true, true, true, true, true, true, true, true, true, true, true, false, false, false, false, false, false, false, false, false, false, false] rfl rfl (by kernel_rfl) (fun _ _ _ h => h) (Or.inl ⟨by rfl, ?_⟩) ?_ ?_
    rotate_left
    · intro w'
      go_simp
      with_reducible rfl
    rotate_left
    · simp only [Act.put, List.setIfInBounds_toArray, List.set_cons_zero, List.set_cons_succ, i64_w, i32_w]
      rfl
    refine pure_ (i := 19) (N := some 60) (v := ?_) (a' := ?_) #[true, true, true, true, true, true, true, true, true, true, true, true, true, true, true, true, true, true, true, true, false, false, false, false, false, false, false, false, false, false] rfl rfl (by kernel_rfl) (fun _ _ _ h => h) (Or.inl ⟨by rfl, ?_⟩) ?_ ?_
    rotate_left
    · intro w'
      go_simp
      with_reducible rfl
    rotate_left
    · simp only [Act.put, List.setIfInBounds_toArray, List.set_cons_zero, List.set_cons_succ, i64_w, i32_w]
      rfl
    refine pure_ (i := 21) (N := some 62) (v := ?_) (a' := ?_) #[true, true, true, true, true, true, true, true, true, true, true, true, true, true, true, true, true, true, true, true, false, true, false, false, false, false, false, false, false, false] rfl rfl (by kernel_rfl) (fun _ _ _ h => h) (Or.inl ⟨by rfl, ?_⟩) ?_ ?_
    rotate_left
    · intro w'
      go_simp
      with_reducible rfl
    rotate_left
    · simp only [Act.put, List.setIfInBounds_toArray, List.set_cons_zero, List.set_cons_succ, i64_w, i32_w]
      rfl
    refine one_ (i := 20) (N := some 61) #[true, true, true, true, true, true, true, true, true, true, true, true, true, true, true, true, true, true, true, true, true, true, false, false, false, false, false, false, false, false] rfl rfl (by kernel_rfl) (by decide) (fun K hK => ?_)
    refine goes_ Tryd.func54 (by kernel_rfl) rfl #[.iface 128 (.int .i64 x0)] (by rfl) rfl rfl (by simp only [List.map_toArray, List.map_cons, List.map_nil]; rfl) ?_
    with_reducible refine (fuseelaw09_num_some _ _ _ hHeld.1).mono ?_
    rintro e w3 ⟨rfl, hb3⟩
    refine ⟨_, rfl, ?_⟩
    refine hK.out _ _ ⟨(hHeld.1.step hb3), (hHeld.2.1.trans (hb3.mono hHeld.2.1.size)), (bcell (hHeld.2.1.trans (hb3.mono hHeld.2.1.size)))⟩ (fun hHeld => ?_)
    clear hK K
    refine norm_ (a' := ?_) ?_ ?_
    rotate_left
    · show Act.put _ (some 61) _ = _
      simp only [Act.put, List.setIfInBounds_toArray, List.set_cons_zero, List.set_cons_succ, i64_w, i32_w]
      rfl
    refine pure_ (i := 22) (N := some 63) (v := ?_) (a' := ?_) #[true, true, true, true, true, true, true, true, true, true, true, true, true, true, true, true, true, true, true, true, true, true, true, false, false, false, false, false, false, false] rfl rfl (by kernel_rfl) (fun _ _ _ h => h) (Or.inl ⟨by rfl, ?_⟩) ?_ ?_
    rotate_left
    · intro w'
      go_simp
      with_reducible rfl
    rotate_left
    · simp only [Act.put, List.setIfInBounds_toArray, List.set_cons_zero, List.set_cons_succ, i64_w, i32_w]
      rfl
    refine pure_ (i := 23) (N := some 64) (v := ?_) (a' := ?_) #[true, true, true, true, true, true, true, true, true, true, true, true, true, true, true, true, true, true, true, true, true, true, true, true, false, false, false, false, false, false] rfl rfl (by kernel_rfl) (fun _ _ _ h => h) (Or.inl ⟨by rfl, ?_⟩) ?_ ?_
    rotate_left
    · intro w'
      go_simp
      with_reducible rfl
    rotate_left
    · simp only [Act.put, List.setIfInBounds_toArray, List.set_cons_zero, List.set_cons_succ, i64_w, i32_w]
      rfl
    refine pure_ (i := 24) (N := some 65) (v := ?_) (a' := ?_) #[true, true, true, true, true, true, true, true, true, true, true, true, true, true, true, true, true, true, true, true, true, true, true, true, true, false, false, false, false, false] rfl rfl (by kernel_rfl) (fun _ _ _ h => h) (Or.inl ⟨by rfl, ?_⟩) ?_ ?_
    rotate_left
    · intro w'
      go_simp
      with_reducible rfl
    rotate_left
    · simp only [Act.put, List.setIfInBounds_toArray, List.set_cons_zero, List.set_cons_succ, i64_w, i32_w]
      rfl
    refine take_ (i := 25) (N := some 66) (v := ?_) (a' := ?_) #[true, true, true, true, true, true, true, true, true, true, true, true, true, true, true, true, true, true, true, true, true, true, true, true, true, true, false, false, false, false] rfl rfl (by kernel_rfl) (fun _ _ _ h => h) (Or.inl ⟨by rfl, ?_⟩) hHeld ?_ ?_
    rotate_left
    · rintro w' ⟨s0, s1, s2⟩
      go_simp
      with_reducible rfl
    rotate_left
    · simp only [Act.put, List.setIfInBounds_toArray, List.set_cons_zero, List.set_cons_succ, i64_w, i32_w]
      rfl
    refine take_ (i := 26) (N := some 67) (v := ?_) (a' := ?_) #[true, true, true, true, true, true, true, true, true, true, true, true, true, true, true, true, true, true, true, true, true, true, true, true, true, true, true, false, false, false] rfl rfl (by kernel_rfl) (fun _ _ _ h => h) (Or.inl ⟨by rfl, ?_⟩) hHeld ?_ ?_
    rotate_left
    · rintro w' ⟨s0, s1, s2⟩
      go_simp
      with_reducible rfl
    rotate_left
    · simp only [Act.put, List.setIfInBounds_toArray, List.set_cons_zero, List.set_cons_succ, i64_w, i32_w]
      rfl
    refine one_ (i := 27) (N := some 68) #[true, true, true, true, true, true, true, true, true, true, true, true, true, true, true, true, true, true, true, true, true, true, true, true, true, true, true, true, false, false] rfl rfl (by kernel_rfl) (by decide) (fun K hK => ?_)
    refine goes_ Tryd.func55 (by kernel_rfl) rfl #[.agg #[.int .i64 b, .int .i64 l, .slice A n c], .agg #[.int .i64 b, .int .i64 l, .slice A n c]] (by rfl) rfl rfl (by simp only [List.map_toArray, List.map_cons, List.map_nil]; rfl) ?_
    with_reducible refine (HT.out _ hHeld.1).mono ?_
    rintro e w3 ⟨rfl, hb3⟩
    refine ⟨_, rfl, ?_⟩
    refine hK.out _ _ ⟨(hHeld.1.step hb3), (hHeld.2.1.trans (hb3.mono hHeld.2.1.size)), (bcell (hHeld.2.1.trans (hb3.mono hHeld.2.1.size)))⟩ (fun hHeld => ?_)
    clear hK K
    refine norm_ (a' := ?_) ?_ ?_
    rotate_left
    · show Act.put _ (some 68) _ = _
      simp only [Act.put, List.setIfInBounds_toArray, List.set_cons_zero, List.set_cons_succ, i64_w, i32_w]
      rfl
    refine pure_ (i := 28) (N := some 69) (v := ?_) (a' := ?_) #[true, true, true, true, true, true, true, true, true, true, true, true, true, true, true, true, true, true, true, true, true, true, true, true, true, true, true, true, true, false] rfl rfl (by kernel_rfl) (fun _ _ _ h => h) (Or.inl ⟨by rfl, ?_⟩) ?_ ?_
    rotate_left
    · intro w'
      go_simp
      with_reducible rfl
    rotate_left
    · simp only [Act.put, List.setIfInBounds_toArray, List.set_cons_zero, List.set_cons_succ, i64_w, i32_w]
      rfl
    refine pure_ (i := 29) (N := some 70) (v := ?_) (a' := ?_) #[true, true, true, true, true, true, true, true, true, true, true, true, true, true, true, true, true, true, true, true, true, true, true, true, true, true, true, true, true, true] rfl rfl (by kernel_rfl) (fun _ _ _ h => h) (Or.inl ⟨by rfl, ?_⟩) ?_ ?_
    rotate_left
    · intro w'
      go_simp
      with_reducible rfl
    rotate_left
    · simp only [Act.put, List.setIfInBounds_toArray, List.set_cons_zero, List.set_cons_succ, i64_w, i32_w]
      rfl
    refine done_ (by kernel_rfl) ?_
    obtain ⟨hs9, hb9, hc9⟩ := hHeld
    have hz9 := blo hb9
    have hf9 := bfrozen hb9
    go_wp2_with (first
      | (go_at_call 48; (with_reducible refine (HA.out _ (by repeat (first | assumption | with_reducible apply St.drewN | with_reducible apply St.drew | with_reducible apply St.alloc | with_reducible refine St.step ?_ (by assumption) | with_reducible refine St.setCell ?_ (by simp <;> omega) _))).mono ?_); rintro e w' ⟨rfl, hb1⟩; have hc1 := bcell hb1; have hf1 := bfrozen hb1; have hz1 := blo hb1)
      | (go_at_call 49; (with_reducible refine (HL.out _ (by repeat (first | assumption | with_reducible apply St.drewN | with_reducible apply St.drew | with_reducible apply St.alloc | with_reducible refine St.step ?_ (by assumption) | with_reducible refine St.setCell ?_ (by simp <;> omega) _))).mono ?_); rintro e w' ⟨rfl, hb1⟩; have hc1 := bcell hb1; have hf1 := bfrozen hb1; have hz1 := blo hb1)
      | (go_at_call 50; (with_reducible refine (HB.out _ (by repeat (first | assumption | with_reducible apply St.drewN | with_reducible apply St.drew | with_reducible apply St.alloc | with_reducible refine St.step ?_ (by assumption) | with_reducible refine St.setCell ?_ (by simp <;> omega) _))).mono ?_); rintro e w' ⟨rfl, hb1⟩; have hc1 := bcell hb1; have hf1 := bfrozen hb1; have hz1 := blo hb1)
      | (go_at_call 51; (with_reducible refine (HW.out _ (by repeat (first | assumption | with_reducible apply St.drewN | with_reducible apply St.drew | with_reducible apply St.alloc | with_reducible refine St.step ?_ (by assumption) | with_reducible refine St.setCell ?_ (by simp <;> omega) _))).mono ?_); rintro e w' ⟨rfl, hb1⟩; have hc1 := bcell hb1; have hf1 := bfrozen hb1; have hz1 := blo hb1)
      | (go_at_call 52; (with_reducible refine (HC.out _ (by repeat (first | assumption | with_reducible apply St.drewN | with_reducible apply St.drew | with_reducible apply St.alloc | with_reducible refine St.step ?_ (by assumption) | with_reducible refine St.setCell ?_ (by simp <;> omega) _))).mono ?_); rintro e w' ⟨rfl, hb1⟩; have hc1 := bcell hb1; have hf1 := bfrozen hb1; have hz1 := blo hb1)
      | (go_at_call 53; (with_reducible refine (HM.out _ (by repeat (first | assumption | with_reducible apply St.drewN | with_reducible apply St.drew | with_reducible apply St.alloc | with_reducible refine St.step ?_ (by assumption) | with_reducible refine St.setCell ?_ (by simp <;> omega) _))).mono ?_); rintro e w' ⟨rfl, hb1⟩; have hc1 := bcell hb1; have hf1 := bfrozen hb1; have hz1 := blo hb1)
      | (go_at_call 55; (with_reducible refine (HT.out _ (by repeat (first | assumption | with_reducible apply St.drewN | with_reducible apply St.drew | with_reducible apply St.alloc | with_reducible refine St.step ?_ (by assumption) | with_reducible refine St.setCell ?_ (by simp <;> omega) _))).mono ?_); rintro e w' ⟨rfl, hb1⟩; have hc1 := bcell hb1; have hf1 := bfrozen hb1; have hz1 := blo hb1)
      | (go_at_call 47; (with_reducible refine (sure09 w0 _ (by repeat (first | assumption | with_reducible apply St.drewN | with_reducible apply St.drew | with_reducible apply St.alloc | with_reducible refine St.step ?_ (by assumption) | with_reducible refine St.setCell ?_ (by simp <;> omega) _))).mono ?_); rintro e w' ⟨rfl, hb1⟩; have hc1 := bcell hb1; have hf1 := bfrozen hb1; have hz1 := blo hb1)
      | (go_at_call 54; first | ((with_reducible refine (fuseelaw09_num_calls _ w0 _ (by repeat (first | assumption | with_reducible apply St.drewN | with_reducible apply St.drew | with_reducible apply St.alloc | with_reducible refine St.step ?_ (by assumption) | with_reducible refine St.setCell ?_ (by simp <;> omega) _))).mono ?_); rintro e w' ⟨rfl, hb1⟩; have hc1 := bcell hb1; have hf1 := bfrozen hb1; have hz1 := blo hb1) | ((with_reducible refine (fuseelaw09_num_some _ w0 _ (by repeat (first | assumption | with_reducible apply St.drewN | with_reducible apply St.drew | with_reducible apply St.alloc | with_reducible refine St.step ?_ (by assumption) | with_reducible refine St.setCell ?_ (by simp <;> omega) _))).mono ?_); rintro e w' ⟨rfl, hb1⟩; have hc1 := bcell hb1; have hf1 := bfrozen hb1; have hz1 := blo hb1) | ((with_reducible refine (fuseelaw09_num_none w0 _ (by repeat (first | assumption | with_reducible apply St.drewN | with_reducible apply St.drew | with_reducible apply St.alloc | with_reducible refine St.step ?_ (by assumption) | with_reducible refine St.setCell ?_ (by simp <;> omega) _))).mono ?_); rintro e w' ⟨rfl, hb1⟩; have hc1 := bcell hb1; have hf1 := bfrozen hb1; have hz1 := blo hb1)))
    go_ret
    exact ⟨by simp, by repeat (first | assumption | with_reducible apply St.drewN | with_reducible apply St.drew | with_reducible apply St.alloc | with_reducible refine St.step ?_ (by assumption) | with_reducible refine St.setCell ?_ (by simp <;> omega) _)⟩
set_option maxHeartbeats 4000000 in
theorem LeapDays_ok (b l day va vl vb s s2 d1 : Int) (A : Option Addr) (n c : Nat) (w0 w : World) (hs : St w0 w)
    (hn : (n : Int) ≤ 60)
    (f1 : wrap64 (s - wrap64 (86400 * day)) = va)
    (f2 : wrap64 (s2 - s) = vl)
    (f3 : wrap64 (s * 1000000000) = vb)
    (f4 : wrap64 (day + 1) = d1)
    (HA : Hid (∀ w, St w0 w → Calls Tryd.prog 48 #[.agg #[.int .i64 b, .int .i64 l, .slice A n c], .int .i64 day] w fun e w' => e = .returned (.tuple #[.int .i64 va, .nilIface]) ∧ Below w.heap.size w w'))
    (HL : Hid (∀ w, St w0 w → Calls Tryd.prog 49 #[.agg #[.int .i64 b, .int .i64 l, .slice A n c], .int .i64 day] w fun e w' => e = .returned (.tuple #[.int .i64 vl, .nilIface]) ∧ Below w.heap.size w w'))
    (HB : Hid (∀ w, St w0 w → Calls Tryd.prog 50 #[.agg #[.int .i64 b, .int .i64 l, .slice A n c], .int .i64 day] w fun e w' => e = .returned (.tuple #[.int .i64 vb, .nilIface]) ∧ Below w.heap.size w w'))
    (HW : Hid (∀ w, St w0 w → Calls Tryd.prog 51 #[.agg #[.int .i64 b, .int .i64 l, .slice A n c], .int .i64 day] w fun e w' => e = .returned (.int .i64 0) ∧ Below w.heap.size w w'))
    (HC : Hid (∀ w, St w0 w → Calls Tryd.prog 52 #[.agg #[.int .i64 b, .int .i64 l, .slice A n c]] w fun e w' => e = .returned (.nilIface) ∧ Below w.heap.size w w'))
    (HM : Hid (∀ w, St w0 w → Calls Tryd.prog 53 #[.agg #[.int .i64 b, .int .i64 l, .slice A n c]] w fun e w' => e = .returned (.bool true) ∧ Below w.heap.size w w'))
    (HT : Hid (∀ w, St w0 w → Calls Tryd.prog 55 #[.agg #[.int .i64 b, .int .i64 l, .slice A n c], .agg #[.int .i64 b, .int .i64 l, .slice A n c]] w fun e w' => e = .returned (.bool true) ∧ Below w.heap.size w w'))
    (HS : Hid (∀ w, St w0 w → Calls Tryd.prog 56 #[.agg #[.int .i64 b, .int .i64 l, .slice A n c], .int .i64 day] w fun e w' => e = .returned (.int .i64 s) ∧ Below w.heap.size w w'))
    (HS2 : Hid (∀ w, St w0 w → Calls Tryd.prog 56 #[.agg #[.int .i64 b, .int .i64 l, .slice A n c], .int .i64 d1] w fun e w' => e = .returned (.int .i64 s2) ∧ Below w.heap.size w w')) :
    Calls Tryd.prog 9 #[.agg #[.int .i64 b, .int .i64 l, .slice A n c], .int .i64 day] w fun e w' => e = .returned (.bool true) ∧ St w0 w' := by
  all_goals
    go_enter Tryd.func9, Tryd.ntmps9
    go_wp2_with (first
      | (go_at_call 48; (with_reducible refine (HA.out _ (by repeat (first | assumption | with_reducible apply St.drewN | with_reducible apply St.drew | with_reducible apply St.alloc | with_reducible refine St.step ?_ (by assumption) | with_reducible refine St.setCell ?_ (by simp <;> omega) _))).mono ?_); rintro e w' ⟨rfl, hb1⟩; have hc1 := bcell hb1; have hf1 := bfrozen hb1; have hz1 := blo hb1)
      | (go_at_call 49; (with_reducible refine (HL.out _ (by repeat (first | assumption | with_reducible apply St.drewN | with_reducible apply St.drew | with_reducible apply St.alloc | with_reducible refine St.step ?_ (by assumption) | with_reducible refine St.setCell ?_ (by simp <;> omega) _))).mono ?_); rintro e w' ⟨rfl, hb1⟩; have hc1 := bcell hb1; have hf1 := bfrozen hb1; have hz1 := blo hb1)
      | (go_at_call 50; (with_reducible refine (HB.out _ (by repeat (first | assumption | with_reducible apply St.drewN | with_reducible apply St.drew | with_reducible apply St.alloc | with_reducible refine St.step ?_ (by assumption) | with_reducible refine St.setCell ?_ (by simp <;> omega) _))).mono ?_); rintro e w' ⟨rfl, hb1⟩; have hc1 := bcell hb1; have hf1 := bfrozen hb1; have hz1 := blo hb1)
      | (go_at_call 51; (with_reducible refine (HW.out _ (by repeat (first | assumption | with_reducible apply St.drewN | with_reducible apply St.drew | with_reducible apply St.alloc | with_reducible refine St.step ?_ (by assumption) | with_reducible refine St.setCell ?_ (by simp <;> omega) _))).mono ?_); rintro e w' ⟨rfl, hb1⟩; have hc1 := bcell hb1; have hf1 := bfrozen hb1; have hz1 := blo hb1)
      | (go_at_call 52; (with_reducible refine (HC.out _ (by repeat (first | assumption | with_reducible apply St.drewN | with_reducible apply St.drew | with_reducible apply St.alloc | with_reducible refine St.step ?_ (by assumption) | with_reducible refine St.setCell ?_ (by simp <;> omega) _))).mono ?_); rintro e w' ⟨rfl, hb1⟩; have hc1 := bcell hb1; have hf1 := bfrozen hb1; have hz1 := blo hb1)
      | (go_at_call 53; (with_reducible refine (HM.out _ (by repeat (first | assumption | with_reducible apply St.drewN | with_reducible apply St.drew | with_reducible apply St.alloc | with_reducible refine St.step ?_ (by assumption) | with_reducible refine St.setCell ?_ (by simp <;> omega) _))).mono ?_); rintro e w' ⟨rfl, hb1⟩; have hc1 := bcell hb1; have hf1 := bfrozen hb1; have hz1 := blo hb1)
      | (go_at_call 55; (with_reducible refine (HT.out _ (by repeat (first | assumption | with_reducible apply St.drewN | with_reducible apply St.drew | with_reducible apply St.alloc | with_reducible refine St.step ?_ (by assumption) | with_reducible refine St.setCell ?_ (by simp <;> omega) _))).mono ?_); rintro e w' ⟨rfl, hb1⟩; have hc1 := bcell hb1; have hf1 := bfrozen hb1; have hz1 := blo hb1)
      | (go_at_call 56; (with_reducible refine (HS.out _ (by repeat (first | assumption | with_reducible apply St.drewN | with_reducible apply St.drew | with_reducible apply St.alloc | with_reducible refine St.step ?_ (by assumption) | with_reducible refine St.setCell ?_ (by simp <;> omega) _))).mono ?_); rintro e w' ⟨rfl, hb1⟩; have hc1 := bcell hb1; have hf1 := bfrozen hb1; have hz1 := blo hb1)
      | (go_at_call 56; (with_reducible refine (HS2.out _ (by repeat (first | assumption | with_reducible apply St.drewN | with_reducible apply St.drew | with_reducible apply St.alloc | with_reducible refine St.step ?_ (by assumption) | with_reducible refine St.setCell ?_ (by simp <;> omega) _))).mono ?_); rintro e w' ⟨rfl, hb1⟩; have hc1 := bcell hb1; have hf1 := bfrozen hb1; have hz1 := blo hb1)
      | (go_at_call 47; (with_reducible refine (sure09 w0 _ (by repeat (first | assumption | with_reducible apply St.drewN | with_reducible apply St.drew | with_reducible apply St.alloc | with_reducible refine St.step ?_ (by assumption) | with_reducible refine St.setCell ?_ (by simp <;> omega) _))).mono ?_); rintro e w' ⟨rfl, hb1⟩; have hc1 := bcell hb1; have hf1 := bfrozen hb1; have hz1 := blo hb1)
      | (go_at_call 54; first | ((with_reducible refine (fuseelaw09_num_calls _ w0 _ (by repeat (first | assumption | with_reducible apply St.drewN | with_reducible apply St.drew | with_reducible apply St.alloc | with_reducible refine St.step ?_ (by assumption) | with_reducible refine St.setCell ?_ (by simp <;> omega) _))).mono ?_); rintro e w' ⟨rfl, hb1⟩; have hc1 := bcell hb1; have hf1 := bfrozen hb1; have hz1 := blo hb1) | ((with_reducible refine (fuseelaw09_num_some _ w0 _ (by repeat (first | assumption | with_reducible apply St.drewN | with_reducible apply St.drew | with_reducible apply St.alloc | with_reducible refine St.step ?_ (by assumption) | with_reducible refine St.setCell ?_ (by simp <;> omega) _))).mono ?_); rintro e w' ⟨rfl, hb1⟩; have hc1 := bcell hb1; have hf1 := bfrozen hb1; have hz1 := blo hb1) | ((with_reducible refine (fuseelaw09_num_none w0 _ (by repeat (first | assumption | with_reducible apply St.drewN | with_reducible apply St.drew | with_reducible apply St.alloc | with_reducible refine St.step ?_ (by assumption) | with_reducible refine St.setCell ?_ (by simp <;> omega) _))).mono ?_); rintro e w' ⟨rfl, hb1⟩; have hc1 := bcell hb1; have hf1 := bfrozen hb1; have hz1 := blo hb1)))
    refine name_w (fun W hW => ?_)
    have hzW := lo_eq hW
    have hSW : St w0 W := by rw [hW]; repeat (first | assumption | apply St.drewN | apply St.drew | apply St.alloc | refine St.step ?_ (by assumption) | refine St.setCell ?_ (by simp <;> omega) _)
    refine start_ (n := 30) (S := fun w' => St w0 w' ∧ Below W.heap.size W w' ∧ ∀ b o [_h : Lo b W], w'.cell? ⟨b, o, none⟩ = W.cell? ⟨b, o, none⟩) (ds := []) #[false, false, false, false, false, false, false, false, false, false, false, false, false, false, false, false, false, false, false, false, false, false, false, false, false, false, false, false, false, false] (by kernel_rfl) rfl rfl ⟨(by refine St.drew ?_; repeat (first | assumption | apply St.drewN | apply St.drew | apply St.alloc | refine St.step ?_ (by assumption) | refine St.setCell ?_ (by simp <;> omega) _)), (Below.refl _ _).drew, (bcell (Below.refl _ _).drew)⟩ (fun hHeld => ?_)
    refine take_ (i := 0) (N := some 41) (v := ?_) (a' := ?_) #[true, false, false, false, false, false, false, false, false, false, false, false, false, false, false, false, false, false, false, false, false, false, false, false, false, false, false, false, false, false] rfl rfl (by kernel_rfl) (fun _ _ _ h => h) (Or.inl ⟨by rfl, ?_⟩) hHeld ?_ ?_
    rotate_left
    · rintro w' ⟨s0, s1, s2⟩
      go_simp
      with_reducible rfl
    rotate_left
    · simp only [Act.put, List.setIfInBounds_toArray, List.set_cons_zero, List.set_cons_succ, i64_w, i32_w]
      rfl
    refine take_ (i := 3) (N := some 44) (v := ?_) (a' := ?_) #[true, false, false, true, false, false, false, false, false, false, false, false, false, false, false, false, false, false, false, false, false, false, false, false, false, false, false, false, false, false] rfl rfl (by kernel_rfl) (fun _ _ _ h => h) (Or.inl ⟨by rfl, ?_⟩) hHeld ?_ ?_
    rotate_left
    · rintro w' ⟨s0, s1, s2⟩
      go_simp
      with_reducible rfl
    rotate_left
    · simp only [Act.put, List.setIfInBounds_toArray, List.set_cons_zero, List.set_cons_succ, i64_w, i32_w]
      rfl
    refine one_ (i := 1) (N := some 42) #[true, true, false, true, false, false, false, false, false, false, false, false, false, false, false, false, false, false, false, false, false, false, false, false, false, false, false, false, false, false] rfl rfl (by kernel_rfl) (by decide) (fun K hK => ?_)
    refine goes_ Tryd.func52 (by kernel_rfl) rfl #[.agg #[.int .i64 b, .int .i64 l, .slice A n c]] (by rfl) rfl rfl (by simp only [List.map_toArray, List.map_cons, List.map_nil]; rfl) ?_
    with_reducible refine (HC.out _ hHeld.1).mono ?_
    rintro e w3 ⟨rfl, hb3⟩
    refine ⟨_, rfl, ?_⟩
    refine hK.out _ _ ⟨(hHeld.1.step hb3), (hHeld.2.1.trans (hb3.mono hHeld.2.1.size)), (bcell (hHeld.2.1.trans (hb3.mono hHeld.2.1.size)))⟩ (fun hHeld => ?_)
    clear hK K
    refine norm_ (a' := ?_) ?_ ?_
    rotate_left
    · show Act.put _ (some 42) _ = _
      simp only [Act.put, List.setIfInBounds_toArray, List.set_cons_zero, List.set_cons_succ, i64_w, i32_w]
      rfl
    refine pure_ (i := 2) (N := some 43) (v := ?_) (a' := ?_) #[true, true, true, true, false, false, false, false, false, false, false, false, false, false, false, false, false, false, false, false, false, false, false, false, false, false, false, false, false, false] rfl rfl (by kernel_rfl) (fun _ _ _ h => h) (Or.inl ⟨by rfl, ?_⟩) ?_ ?_
    rotate_left
    · intro w'
      go_simp
      with_reducible rfl
    rotate_left
    · simp only [Act.put, List.setIfInBounds_toArray, List.set_cons_zero, List.set_cons_succ, i64_w, i32_w]
      rfl
    refine one_ (i := 4) (N := some 45) #[true, true, true, true, true, false, false, false, false, false, false, false, false, false, false, false, false, false, false, false, false, false, false, false, false, false, false, false, false, false] rfl rfl (by kernel_rfl) (by decide) (fun K hK => ?_)
    refine goes_ Tryd.func53 (by kernel_rfl) rfl #[.agg #[.int .i64 b, .int .i64 l, .slice A n c]] (by rfl) rfl rfl (by simp only [List.map_toArray, List.map_cons, List.map_nil]; rfl) ?_
    with_reducible refine (HM.out _ hHeld.1).mono ?_
    rintro e w3 ⟨rfl, hb3⟩
    refine ⟨_, rfl, ?_⟩
    refine hK.out _ _ ⟨(hHeld.1.step hb3), (hHeld.2.1.trans (hb3.mono hHeld.2.1.size)), (bcell (hHeld.2.1.trans (hb3.mono hHeld.2.1.size)))⟩ (fun hHeld => ?_)
    clear hK K
    refine norm_ (a' := ?_) ?_ ?_
    rotate_left
    · show Act.put _ (some 45) _ = _
      simp only [Act.put, List.setIfInBounds_toArray, List.set_cons_zero, List.set_cons_succ, i64_w, i32_w]
      rfl
    refine pure_ (i := 5) (N := some 46) (v := ?_) (a' := ?_) #[true, true, true, true, true, true, false, false, false, false, false, false, false, false, false, false, false, false, false, false, false, false, false, false, false, false, false, false, false, false] rfl rfl (by kernel_rfl) (fun _ _ _ h => h) (Or.inl ⟨by rfl, ?_⟩) ?_ ?_
    rotate_left
    · intro w'
      go_simp
      with_reducible rfl
    rotate_left
    · simp only [Act.put, List.setIfInBounds_toArray, List.set_cons_zero, List.set_cons_succ, i64_w, i32_w]
      rfl
    refine pure_ (i := 6) (N := some 47) (v := ?_) (a' := ?_) #[true, true, true, true, true, true, true, false, false, false, false, false, false, false, false, false, false, false, false, false, false, false, false, false, false, false, false, false, false, false] rfl rfl (by kernel_rfl) (fun _ _ _ h => h) (Or.inl ⟨by rfl, ?_⟩) ?_ ?_
    rotate_left
    · intro w'
      go_simp
      with_reducible rfl
    rotate_left
    · simp only [Act.put, List.setIfInBounds_toArray, List.set_cons_zero, List.set_cons_succ, i64_w, i32_w]
      rfl
    refine pure_ (i := 7) (N := some 48) (v := ?_) (a' := ?_) #[true, true, true, true, true, true, true, true, false, false, false, false, false, false, false, false, false, false, false, false, false, false, false, false, false, false, false, false, false, false] rfl rfl (by kernel_rfl) (fun _ _ _ h => h) (Or.inl ⟨by rfl, ?_⟩) ?_ ?_
    rotate_left
    · intro w'
      go_simp
      with_reducible rfl
    rotate_left
    · simp only [Act.put, List.setIfInBounds_toArray, List.set_cons_zero, List.set_cons_succ, i64_w, i32_w]
      rfl
    refine pure_ (i := 9) (N := some 50) (v := ?_) (a' := ?_) #[true, true, true, true, true, true, true, true, false, true, false, false, false, false, false, false, false, false, false, false, false, false, false, false, false, false, false, false, false, false] rfl rfl (by kernel_rfl) (fun _ _ _ h => h) (Or.inl ⟨by rfl, ?_⟩) ?_ ?_
    rotate_left
    · intro w'
      go_simp
      with_reducible rfl
    rotate_left
    · simp only [Act.put, List.setIfInBounds_toArray, List.set_cons_zero, List.set_cons_succ, i64_w, i32_w]
      rfl
    refine one_ (i := 8) (N := some 49) #[true, true, true, true, true, true, true, true, true, true, false, false, false, false, false, false, false, false, false, false, false, false, false, false, false, false, false, false, false, false] rfl rfl (by kernel_rfl) (by decide) (fun K hK => ?_)
    refine goes_ Tryd.func54 (by kernel_rfl) rfl #[.nilIface] (by rfl) rfl rfl (by simp only [List.map_toArray, List.map_cons, List.map_nil]; rfl) ?_
    with_reducible refine (fuseelaw09_num_none _ _ hHeld.1).mono ?_
    rintro e w3 ⟨rfl, hb3⟩
    refine ⟨_, rfl, ?_⟩
    refine hK.out _ _ ⟨(hHeld.1.step hb3), (hHeld.2.1.trans (hb3.mono hHeld.2.1.size)), (bcell (hHeld.2.1.trans (hb3.mono hHeld.2.1.size)))⟩ (fun hHeld => ?_)
    clear hK K
    refine norm_ (a' := ?_) ?_ ?_
    rotate_left
    · show Act.put _ (some 49) _ = _
      simp only [Act.put, List.setIfInBounds_toArray, List.set_cons_zero, List.set_cons_succ, i64_w, i32_w]
      rfl
    refine pure_ (i := 10) (N := some 51) (v := ?_) (a' := ?_) #[true, true, true, true, true, true, true, true, true, true, true, false, false, false, false, false, false, false, false, false, false, false, false, false, false, false, false, false, false, false] rfl rfl (by kernel_rfl) (fun _ _ _ h => h) (Or.inl ⟨by rfl, ?_⟩) ?_ ?_
    rotate_left
    · intro w'
      go_simp
      with_reducible rfl
    rotate_left
    · simp only [Act.put, List.setIfInBounds_toArray, List.set_cons_zero, List.set_cons_succ, i64_w, i32_w]
      rfl
    refine pure_ (i := 11) (N := some 52) (v := ?_) (a' := ?_) #[true, true, true, true, true, true, true, true, true, true, true, true, false, false, false, false, false, false, false, false, false, false, false, false, false, false, false, false, false, false] rfl rfl (by kernel_rfl) (fun _ _ _ h => h) (Or.inl ⟨by rfl, ?_⟩) ?_ ?_
    rotate_left
    · intro w'
      go_simp
      with_reducible rfl
    rotate_left
    · simp only [Act.put, List.setIfInBounds_toArray, List.set_cons_zero, List.set_cons_succ, i64_w, i32_w]
      rfl
    refine pure_ (i := 12) (N := some 53) (v := ?_) (a' := ?_) #[true, true, true, true, true, true, true, true, true, true, true, true, true, false, false, false, false, false, false, false, false, false, false, false, false, false, false, false, false, false] rfl rfl (by kernel_rfl) (fun _ _ _ h => h) (Or.inl ⟨by rfl, ?_⟩) ?_ ?_
    rotate_left
    · intro w'
      go_simp
      with_reducible rfl
    rotate_left
    · simp only [Act.put, List.setIfInBounds_toArray, List.set_cons_zero, List.set_cons_succ, i64_w, i32_w]
      rfl
    refine pure_ (i := 13) (N := some 54) (v := ?_) (a' := ?_) #[true, true, true, true, true, true, true, true, true, true, true, true, true, true, false, false, false, false, false, false, false, false, false, false, false, false, false, false, false, false] rfl rfl (by kernel_rfl) (fun _ _ _ h => h) (Or.inl ⟨by rfl, ?_⟩) ?_ ?_
    rotate_left
    · intro w'
      go_simp
      with_reducible rfl
    rotate_left
    · simp only [Act.put, List.setIfInBounds_toArray, List.set_cons_zero, List.set_cons_succ, i64_w, i32_w]
      rfl
    refine pure_ (i := 15) (N := some 56) (v := ?_) (a' := ?_) #[true, true, true, true, true, true, true, true, true, true, true, true, true, true, false, true, false, false, false, false, false, false, false, false, false, false, false, false, false, false] rfl rfl (by kernel_rfl) (fun _ _ _ h => h) (Or.inl ⟨by rfl, ?_⟩) ?_ ?_
    rotate_left
    · intro w'
      go_simp
      with_reducible rfl
    rotate_left
    · simp only [Act.put, List.setIfInBounds_toArray, List.set_cons_zero, List.set_cons_succ, i64_w, i32_w]
      rfl
    refine one_ (i := 14) (N := some 55) #[true, true, true, true, true, true, true, true, true, true, true, true, true, true, true, true, false, false, false, false, false, false, false, false, false, false, false, false, false, false] rfl rfl (by kernel_rfl) (by decide) (fun K hK => ?_)
    refine goes_ Tryd.func54 (by kernel_rfl) rfl #[.nilIface] (by rfl) rfl rfl (by simp only [List.map_toArray, List.map_cons, List.map_nil]; rfl) ?_
    with_reducible refine (fuseelaw09_num_none _ _ hHeld.1).mono ?_
    rintro e w3 ⟨rfl, hb3⟩
    refine ⟨_, rfl, ?_⟩
    refine hK.out _ _ ⟨(hHeld.1.step hb3), (hHeld.2.1.trans (hb3.mono hHeld.2.1.size)), (bcell (hHeld.2.1.trans (hb3.mono hHeld.2.1.size)))⟩ (fun hHeld => ?_)
    clear hK K
    refine norm_ (a' := ?_) ?_ ?_
    rotate_left
    · show Act.put _ (some 55) _ = _
      simp only [Act.put, List.setIfInBounds_toArray, List.set_cons_zero, List.set_cons_succ, i64_w, i32_w]
      rfl
    refine pure_ (i := 16) (N := some 57) (v := ?_) (a' := ?_) #[true, true, true, true, true, true, true, true, true, true, true, true, true, true, true, true, true, false, false, false, false, false, false, false, false, false, false, false, false, false] rfl rfl (by kernel_rfl) (fun _ _ _ h => h) (Or.inl ⟨by rfl, ?_⟩) ?_ ?_
    rotate_left
    · intro w'
      go_simp
      with_reducible rfl
    rotate_left
    · simp only [Act.put, List.setIfInBounds_toArray, List.set_cons_zero, List.set_cons_succ, i64_w, i32_w]
      rfl
    refine pure_ (i := 17) (N := some 58) (v := ?_) (a' := ?_) #[true, true, true, true, true, true, true, true, true, true, true, true, true, true, true, true, true, true, false, false, false, false, false, false, false, false, false, false, false, false] rfl rfl (by kernel_rfl) (fun _ _ _ h => h) (Or.inl ⟨by rfl, ?_⟩) ?_ ?_
    rotate_left
    · intro w'
      go_simp
      with_reducible rfl
    rotate_left
    · simp only [Act.put, List.setIfInBounds_toArray, List.set_cons_zero, List.set_cons_succ, i64_w, i32_w]
      rfl
    refine pure_ (i := 18) (N := some 59) (v := ?_) (a' := ?_) #[true, true, true, true, true, true, true, true, true, true, true, true, true, true, true, true, true, true, true, false, false, false, false, false, false, false, false, false, false, false] rfl rfl (by kernel_rfl) (fun _ _ _ h => h) (Or.inl ⟨by rfl, ?_⟩) ?_ ?_
    rotate_left
    · intro w'
      go_simp
      with_reducible rfl
    rotate_left
    · simp only [Act.put, List.setIfInBounds_toArray, List.set_cons_zero, List.set_cons_succ, i64_w, i32_w]
      rfl
    refine pure_ (i := 19) (N := some 60) (v := ?_) (a' := ?_) #[true, true, true, true, true, true, true, true, true, true, true, true, true, true, true, true, true, true, true, true, false, false, false, false, false, false, false, false, false, false] rfl rfl (by kernel_rfl) (fun _ _ _ h => h) (Or.inl ⟨by rfl, ?_⟩) ?_ ?_
    rotate_left
    · intro w'
      go_simp
      with_reducible rfl
    rotate_left
    · simp only [Act.put, List.setIfInBounds_toArray, List.set_cons_zero, List.set_cons_succ, i64_w, i32_w]
      rfl
    refine pure_ (i := 21) (N := some 62) (v := ?_) (a' := ?_) #[true, true, true, true, true, true, true, true, true, true, true, true, true, true, true, true, true, true, true, true, false, true, false, false, false, false, false, false, false, false] rfl rfl (by kernel_rfl) (fun _ _ _ h => h) (Or.inl ⟨by rfl, ?_⟩) ?_ ?_
    rotate_left
    · intro w'
      go_simp
      with_reducible rfl
    rotate_left
    · simp only [Act.put, List.setIfInBounds_toArray, List.set_cons_zero, List.set_cons_succ, i64_w, i32_w]
      rfl
    refine one_ (i := 20) (N := some 61) #[true, true, true, true, true, true, true, true, true, true, true, true, true, true, true, true, true, true, true, true, true, true, false, false, false, false, false, false, false, false] rfl rfl (by kernel_rfl) (by decide) (fun K hK => ?_)
    refine goes_ Tryd.func54 (by kernel_rfl) rfl #[.nilIface] (by rfl) rfl rfl (by simp only [List.map_toArray, List.map_cons, List.map_nil]; rfl) ?_
    with_reducible refine (fuseelaw09_num_none _ _ hHeld.1).mono ?_
    rintro e w3 ⟨rfl, hb3⟩
    refine ⟨_, rfl, ?_⟩
    refine hK.out _ _ ⟨(hHeld.1.step hb3), (hHeld.2.1.trans (hb3.mono hHeld.2.1.size)), (bcell (hHeld.2.1.trans (hb3.mono hHeld.2.1.size)))⟩ (fun hHeld => ?_)
    clear hK K
    refine norm_ (a' := ?_) ?_ ?_
    rotate_left
    · show Act.put _ (some 61) _ = _
      simp only [Act.put, List.setIfInBounds_toArray, List.set_cons_zero, List.set_cons_succ, i64_w, i32_w]
      rfl
    refine pure_ (i := 22) (N := some 63) (v := ?_) (a' := ?_) #[true, true, true, true, true, true, true, true, true, true, true, true, true, true, true, true, true, true, true, true, true, true, true, false, false, false, false, false, false, false] rfl rfl (by kernel_rfl) (fun _ _ _ h => h) (Or.inl ⟨by rfl, ?_⟩) ?_ ?_
    rotate_left
    · intro w'
      go_simp
      with_reducible rfl
    rotate_left
    · simp only [Act.put, List.setIfInBounds_toArray, List.set_cons_zero, List.set_cons_succ, i64_w, i32_w]
      rfl
    refine pure_ (i := 23) (N := some 64) (v := ?_) (a' := ?_) #[true, true, true, true, true, true, true, true, true, true, true, true, true, true, true, true, true, true, true, true, true, true, true, true, false, false, false, false, false, false] rfl rfl (by kernel_rfl) (fun _ _ _ h => h) (Or.inl ⟨by rfl, ?_⟩) ?_ ?_
    rotate_left
    · intro w'
      go_simp
      with_reducible rfl
    rotate_left
    · simp only [Act.put, List.setIfInBounds_toArray, List.set_cons_zero, List.set_cons_succ, i64_w, i32_w]
      rfl
    refine pure_ (i := 24) (N := some 65) (v := ?_) (a' := ?_) #[true, true, true, true, true, true, true, true, true, true, true, true, true, true, true, true, true, true, true, true, true, true, true, true, true, false, false, false, false, false] rfl rfl (by kernel_rfl) (fun _ _ _ h => h) (Or.inl ⟨by rfl, ?_⟩) ?_ ?_
    rotate_left
    · intro w'
      go_simp
      with_reducible rfl
    rotate_left
    · simp only [Act.put, List.setIfInBounds_toArray, List.set_cons_zero, List.set_cons_succ, i64_w, i32_w]
      rfl
    refine take_ (i := 25) (N := some 66) (v := ?_) (a' := ?_) #[true, true, true, true, true, true, true, true, true, true, true, true, true, true, true, true, true, true, true, true, true, true, true, true, true, true, false, false, false, false] rfl rfl (by kernel_rfl) (fun _ _ _ h => h) (Or.inl ⟨by rfl, ?_⟩) hHeld ?_ ?_
    rotate_left
    · rintro w' ⟨s0, s1, s2⟩
      go_simp
      with_reducible rfl
    rotate_left
    · simp only [Act.put, List.setIfInBounds_toArray, List.set_cons_zero, List.set_cons_succ, i64_w, i32_w]
      rfl
    refine take_ (i := 26) (N := some 67) (v := ?_) (a' := ?_) #[true, true, true, true, true, true, true, true, true, true, true, true, true, true, true, true, true, true, true, true, true, true, true, true, true, true, true, false, false, false] rfl rfl (by kernel_rfl) (fun _ _ _ h => h) (Or.inl ⟨by rfl, ?_⟩) hHeld ?_ ?_
    rotate_left
    · rintro w' ⟨s0, s1, s2⟩
      go_simp
      with_reducible rfl
    rotate_left
    · simp only [Act.put, List.setIfInBounds_toArray, List.set_cons_zero, List.set_cons_succ, i64_w, i32_w]
      rfl
    refine one_ (i := 27) (N := some 68) #[true, true, true, true, true, true, true, true, true, true, true, true, true, true, true, true, true, true, true, true, true, true, true, true, true, true, true, true, false, false] rfl rfl (by kernel_rfl) (by decide) (fun K hK => ?_)
    refine goes_ Tryd.func55 (by kernel_rfl) rfl #[.agg #[.int .i64 b, .int .i64 l, .slice A n c], .agg #[.int .i64 b, .int .i64 l, .slice A n c]] (by rfl) rfl rfl (by simp only [List.map_toArray, List.map_cons, List.map_nil]; rfl) ?_
    with_reducible refine (HT.out _ hHeld.1).mono ?_
    rintro e w3 ⟨rfl, hb3⟩
    refine ⟨_, rfl, ?_⟩
    refine hK.out _ _ ⟨(hHeld.1.step hb3), (hHeld.2.1.trans (hb3.mono hHeld.2.1.size)), (bcell (hHeld.2.1.trans (hb3.mono hHeld.2.1.size)))⟩ (fun hHeld => ?_)
    clear hK K
    refine norm_ (a' := ?_) ?_ ?_
    rotate_left
    · show Act.put _ (some 68) _ = _
      simp only [Act.put, List.setIfInBounds_toArray, List.set_cons_zero, List.set_cons_succ, i64_w, i32_w]
      rfl
    refine pure_ (i := 28) (N := some 69) (v := ?_) (a' := ?_) #[true, true, true, true, true, true, true, true, true, true, true, true, true, true, true, true, true, true, true, true, true, true, true, true, true, true, true, true, true, false] rfl rfl (by kernel_rfl) (fun _ _ _ h => h) (Or.inl ⟨by rfl, ?_⟩) ?_ ?_
    rotate_left
    · intro w'
      go_simp
      with_reducible rfl
    rotate_left
    · simp only [Act.put, List.setIfInBounds_toArray, List.set_cons_zero, List.set_cons_succ, i64_w, i32_w]
      rfl
    refine pure_ (i := 29) (N := some 70) (v := ?_) (a' := ?_) #[true, true, true, true, true, true, true, true, true, true, true, true, true, true, true, true, true, true, true, true, true, true, true, true, true, true, true, true, true, true] rfl rfl (by kernel_rfl) (fun _ _ _ h => h) (Or.inl ⟨by rfl, ?_⟩) ?_ ?_
    rotate_left
    · intro w'
      go_simp
      with_reducible rfl
    rotate_left
    · simp only [Act.put, List.setIfInBounds_toArray, List.set_cons_zero, List.set_cons_succ, i64_w, i32_w]
      rfl
    refine done_ (by kernel_rfl) ?_
    obtain ⟨hs9, hb9, hc9⟩ := hHeld
    have hz9 := blo hb9
    have hf9 := bfrozen hb9
    go_wp2_with (first
      | (go_at_call 48; (with_reducible refine (HA.out _ (by repeat (first | assumption | with_reducible apply St.drewN | with_reducible apply St.drew | with_reducible apply St.alloc | with_reducible refine St.step ?_ (by assumption) | with_reducible refine St.setCell ?_ (by simp <;> omega) _))).mono ?_); rintro e w' ⟨rfl, hb1⟩; have hc1 := bcell hb1; have hf1 := bfrozen hb1; have hz1 := blo hb1)
      | (go_at_call 49; (with_reducible refine (HL.out _ (by repeat (first | assumption | with_reducible apply St.drewN | with_reducible apply St.drew | with_reducible apply St.alloc | with_reducible refine St.step ?_ (by assumption) | with_reducible refine St.setCell ?_ (by simp <;> omega) _))).mono ?_); rintro e w' ⟨rfl, hb1⟩; have hc1 := bcell hb1; have hf1 := bfrozen hb1; have hz1 := blo hb1)
      | (go_at_call 50; (with_reducible refine (HB.out _ (by repeat (first | assumption | with_reducible apply St.drewN | with_reducible apply St.drew | with_reducible apply St.alloc | with_reducible refine St.step ?_ (by assumption) | with_reducible refine St.setCell ?_ (by simp <;> omega) _))).mono ?_); rintro e w' ⟨rfl, hb1⟩; have hc1 := bcell hb1; have hf1 := bfrozen hb1; have hz1 := blo hb1)
      | (go_at_call 51; (with_reducible refine (HW.out _ (by repeat (first | assumption | with_reducible apply St.drewN | with_reducible apply St.drew | with_reducible apply St.alloc | with_reducible refine St.step ?_ (by assumption) | with_reducible refine St.setCell ?_ (by simp <;> omega) _))).mono ?_); rintro e w' ⟨rfl, hb1⟩; have hc1 := bcell hb1; have hf1 := bfrozen hb1; have hz1 := blo hb1)
      | (go_at_call 52; (with_reducible refine (HC.out _ (by repeat (first | assumption | with_reducible apply St.drewN | with_reducible apply St.drew | with_reducible apply St.alloc | with_reducible refine St.step ?_ (by assumption) | with_reducible refine St.setCell ?_ (by simp <;> omega) _))).mono ?_); rintro e w' ⟨rfl, hb1⟩; have hc1 := bcell hb1; have hf1 := bfrozen hb1; have hz1 := blo hb1)
      | (go_at_call 53; (with_reducible refine (HM.out _ (by repeat (first | assumption | with_reducible apply St.drewN | with_reducible apply St.drew | with_reducible apply St.alloc | with_reducible refine St.step ?_ (by assumption) | with_reducible refine St.setCell ?_ (by simp <;> omega) _))).mono ?_); rintro e w' ⟨rfl, hb1⟩; have hc1 := bcell hb1; have hf1 := bfrozen hb1; have hz1 := blo hb1)
      | (go_at_call 55; (with_reducible refine (HT.out _ (by repeat (first | assumption | with_reducible apply St.drewN | with_reducible apply St.drew | with_reducible apply St.alloc | with_reducible refine St.step ?_ (by assumption) | with_reducible refine St.setCell ?_ (by simp <;> omega) _))).mono ?_); rintro e w' ⟨rfl, hb1⟩; have hc1 := bcell hb1; have hf1 := bfrozen hb1; have hz1 := blo hb1)
      | (go_at_call 56; (with_reducible refine (HS.out _ (by repeat (first | assumption | with_reducible apply St.drewN | with_reducible apply St.drew | with_reducible apply St.alloc | with_reducible refine St.step ?_ (by assumption) | with_reducible refine St.setCell ?_ (by simp <;> omega) _))).mono ?_); rintro e w' ⟨rfl, hb1⟩; have hc1 := bcell hb1; have hf1 := bfrozen hb1; have hz1 := blo hb1)
      | (go_at_call 56; (with_reducible refine (HS2.out _ (by repeat (first | assumption | with_reducible apply St.drewN | with_reducible apply St.drew | with_reducible apply St.alloc | with_reducible refine St.step ?_ (by assumption) | with_reducible refine St.setCell ?_ (by simp <;> omega) _))).mono ?_); rintro e w' ⟨rfl, hb1⟩; have hc1 := bcell hb1; have hf1 := bfrozen hb1; have hz1 := blo hb1)
      | (go_at_call 47; (with_reducible refine (sure09 w0 _ (by repeat (first | assumption | with_reducible apply St.drewN | with_reducible apply St.drew | with_reducible apply St.alloc | with_reducible refine St.step ?_ (by assumption) | with_reducible refine St.setCell ?_ (by simp <;> omega) _))).mono ?_); rintro e w' ⟨rfl, hb1⟩; have hc1 := bcell hb1; have hf1 := bfrozen hb1; have hz1 := blo hb1)
      | (go_at_call 54; first | ((with_reducible refine (fuseelaw09_num_calls _ w0 _ (by repeat (first | assumption | with_reducible apply St.drewN | with_reducible apply St.drew | with_reducible apply St.alloc | with_reducible refine St.step ?_ (by assumption) | with_reducible refine St.setCell ?_ (by simp <;> omega) _))).mono ?_); rintro e w' ⟨rfl, hb1⟩; have hc1 := bcell hb1; have hf1 := bfrozen hb1; have hz1 := blo hb1) | ((with_reducible refine (fuseelaw09_num_some _ w0 _ (by repeat (first | assumption | with_reducible apply St.drewN | with_reducible apply St.drew | with_reducible apply St.alloc | with_reducible refine St.step ?_ (by assumption) | with_reducible refine St.setCell ?_ (by simp <;> omega) _))).mono ?_); rintro e w' ⟨rfl, hb1⟩; have hc1 := bcell hb1; have hf1 := bfrozen hb1; have hz1 := blo hb1) | ((with_reducible refine (fuseelaw09_num_none w0 _ (by repeat (first | assumption | with_reducible apply St.drewN | with_reducible apply St.drew | with_reducible apply St.alloc | with_reducible refine St.step ?_ (by assumption) | with_reducible refine St.setCell ?_ (by simp <;> omega) _))).mono ?_); rintro e w' ⟨rfl, hb1⟩; have hc1 := bcell hb1; have hf1 := bfrozen hb1; have hz1 := blo hb1)))
    go_ret
    exact ⟨by simp, by repeat (first | assumption | with_reducible apply St.drewN | with_reducible apply St.drew | with_reducible apply St.alloc | with_reducible refine St.step ?_ (by assumption) | with_reducible refine St.setCell ?_ (by simp <;> omega) _)⟩

theorem LeapDays_walk (b l day : Int) (A : Option Addr) (L : List Int) (c : Nat) (hc : L.length ≤ c) (w0 w : World) (hk : Kd.C (Kd.int .i64) w0 A L.length L) (hs : St w0 w) :
    Calls Tryd.prog 9 #[.agg #[.int .i64 b, .int .i64 l, .slice A L.length c], .int .i64 day] w fun e w' => e = .returned (.bool true) ∧ St w0 w' := by
  by_cases hn : 60 < (L.length : Int)
  · exact LeapDays_long b l day A _ c w0 w hs hn
  have hn' : (L.length : Int) ≤ 60 := by omega
  have hL : L.length ≤ 60 := by omega
  have kk : ∀ w, St w0 w → Kd.C (Kd.int .i64) w A L.length L := fun w h => Kd.C_below hk h.below
  have HA := fun w h => PLeapDays.leap_Ahead.calls 100 b l A c L day _ _ w (kk w h) hc (PLeapDays.Ahead_eq 100 b l L day hL (by omega))
  have HL := fun w h => PLeapDays.leap_Length.calls 100 b l A c L day _ _ w (kk w h) hc (PLeapDays.Length_eq 100 b l L day hL (by omega))
  have HB := fun w h => PLeapDays.leap_Begin.calls 100 b l A c L day _ _ w (kk w h) hc (PLeapDays.Begin_eq 100 b l L day hL (by omega))
  have HW := fun w h => PLeapDays.fuseeref09_Wrong.calls 100 b l A c L day _ w (kk w h) hc (PLeapDays.wrong_eq 100 b l L day hL (by omega))
  have HC := fun w h => PLeapDays.leap_Check.calls 100 b l A c L _ w (kk w h) hc (PLeapDays.check_eq 100 b l L hL (by omega))
  have HM := fun w h => PLeapDays.fuseeref09_May.calls 100 b l A c L _ w (kk w h) hc (PLeapDays.may_eq 100 b l L hL (by omega))
  have HT := fun w h => PLeapDays.fuseelaw09_isTable.calls 100 b l A c L b l A c L _ w (kk w h) hc (kk w h) hc (PLeapDays.isTable_eq 100 b l L hL (by omega))
  cases hw : PLeapDays.wr b l L day with
  | some x0 =>
    rw [hw] at HA HL HB HW
    by_cases ht : PLeapDays.tabOk b l L = true
    · have hx : (x0 != 0) = true := by unfold PLeapDays.wr at hw; rw [if_pos ht] at hw; (repeat' split at hw) <;> simp at hw <;> subst hw <;> rfl
      rw [ht] at HC HM
      exact LeapDays_err b l day A _ c x0 x0 w0 w hs hn' hx (by simp) HA HL HB HW HC HM HT
    · have hx : (x0 != 0) = true := by unfold PLeapDays.wr at hw; rw [if_neg ht] at hw; simp at hw; subst hw; rfl
      rw [Bool.not_eq_true] at ht
      rw [ht] at HC HM
      exact LeapDays_bad b l day A _ c x0 x0 w0 w hs hn' hx (by simp) HA HL HB HW HC HM HT
  | none =>
    rw [hw] at HA HL HB HW
    have h := PLeapDays.wr_none hw
    rw [h.1] at HC HM
    have c1 := PLeapDays.cnt_le L day L.length
    have c2 := PLeapDays.cnt_le L (day + 1) L.length
    have HS := fun w hh => PLeapDays.fuseeref09_Second.calls 100 b l A c L day _ w (kk w hh) hc (PLeapDays.second_eq 100 b l L day hL (by omega) h.1 (by omega))
    have HS2 := fun w hh => PLeapDays.fuseeref09_Second.calls 100 b l A c L (day + 1) _ w (kk w hh) hc (PLeapDays.second_eq 100 b l L (day + 1) hL (by omega) h.1 (by omega))
    exact LeapDays_ok b l day _ _ _ _ _ _ A _ c w0 w hs hn'
      (by rw [show wrap64 (86400 * day) = 86400 * day from R64.wrap (by unfold R64; omega), R64.wrap (by unfold R64 PLeapDays.beg; omega)]; unfold PLeapDays.beg PLeapDays.val; dsimp only; omega)
      (by rw [R64.wrap (by unfold R64 PLeapDays.beg; omega)]; rfl)
      (by rw [R64.wrap (by unfold R64 PLeapDays.beg; omega)]; rfl)
      (R64.wrap (by unfold R64; omega)) HA HL HB HW HC HM HT HS HS2

end Go.Proofs.YtnlaiiophongmaaDoor
