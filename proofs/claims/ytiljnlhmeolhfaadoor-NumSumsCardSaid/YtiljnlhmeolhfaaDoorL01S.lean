/-
  The law NumSums, walked: sums, differences and products are what the reference tells.
-/
import Derived.Test.YtiljnlhmeolhfaaDoorL01
namespace Go.Proofs.YtiljnlhmeolhfaaDoor
open Go.RowKit
set_option linter.unusedVariables false
set_option linter.unusedSimpArgs false
set_option maxRecDepth 100000

/-- what a sum comes to in both texts: in range, above, below -/
structure Sum3 (P : Program) (fa fs fr : Nat) (x y : Int) (z : Int) (v : Int) (E : Value) (o : Int) (s : Int) : Prop where
  add : ∀ w, Calls P fa #[.int .i64 x, .int .i64 y] w fun e w' => e = .returned (.tuple #[.int .i64 v, E]) ∧ w = w'
  sat : ∀ w, Calls P fs #[.int .i64 x, .int .i64 y] w fun e w' => e = .returned (.int .i64 s) ∧ w = w'
  ref : ∀ w, Calls P fr #[.int .i64 x, .int .i64 y] w fun e w' => e = .returned (.tuple #[.int .i64 v, .int .i64 o]) ∧ w = w'
theorem sum3 (a b : Int) (ha : R64 a) (hb : R64 b) :
    Sum3 Tryd.prog 41 49 44 a b (a + b) (a + b) .nilIface 0 (a + b) ∧ R64 (a + b)
    ∨ Sum3 Tryd.prog 41 49 44 a b (a + b) 0 (.iface 75 (.int .i64 2)) 1 9223372036854775807 ∧ 9223372036854775807 < a + b
    ∨ Sum3 Tryd.prog 41 49 44 a b (a + b) 0 (.iface 75 (.int .i64 2)) (-1) (-9223372036854775808) ∧ a + b < -9223372036854775808 := by
  rcases sat_cases (a + b) with ⟨h, hs⟩ | ⟨h, hs⟩ | ⟨h, hs⟩
  · exact .inr (.inr ⟨⟨fun w => add_bad a b w ha hb (by unfold R64; omega), fun w => by have := addsat_any a b w ha hb; rw [hs] at this; exact this, fun w => rsum_lo a b w ha hb h⟩, h⟩)
  · exact .inl ⟨⟨fun w => add_ok a b w ha hb h, fun w => by have := addsat_any a b w ha hb; rw [hs] at this; exact this, fun w => rsum_ok a b w ha hb h⟩, h⟩
  · exact .inr (.inl ⟨⟨fun w => add_bad a b w ha hb (by unfold R64; omega), fun w => by have := addsat_any a b w ha hb; rw [hs] at this; exact this, fun w => rsum_hi a b w ha hb h⟩, h⟩)
theorem less3 (a b : Int) (ha : R64 a) (hb : R64 b) :
    Sum3 Tryd.prog 42 50 45 a b (a - b) (a - b) .nilIface 0 (a - b) ∧ R64 (a - b)
    ∨ Sum3 Tryd.prog 42 50 45 a b (a - b) 0 (.iface 75 (.int .i64 2)) 1 9223372036854775807 ∧ 9223372036854775807 < a - b
    ∨ Sum3 Tryd.prog 42 50 45 a b (a - b) 0 (.iface 75 (.int .i64 2)) (-1) (-9223372036854775808) ∧ a - b < -9223372036854775808 := by
  rcases sat_cases (a - b) with ⟨h, hs⟩ | ⟨h, hs⟩ | ⟨h, hs⟩
  · exact .inr (.inr ⟨⟨fun w => sub_bad a b w ha hb (by unfold R64; omega), fun w => by have := subsat_any a b w ha hb; rw [hs] at this; exact this, fun w => rless_lo a b w ha hb h⟩, h⟩)
  · exact .inl ⟨⟨fun w => sub_ok a b w ha hb h, fun w => by have := subsat_any a b w ha hb; rw [hs] at this; exact this, fun w => rless_ok a b w ha hb h⟩, h⟩
  · exact .inr (.inl ⟨⟨fun w => sub_bad a b w ha hb (by unfold R64; omega), fun w => by have := subsat_any a b w ha hb; rw [hs] at this; exact this, fun w => rless_hi a b w ha hb h⟩, h⟩)
/-- a product in both texts -/
structure Mul2 (P : Program) (fm fr : Nat) (x y v : Int) (E : Value) (z : Int) (ok : Bool) : Prop where
  mul : ∀ w, Calls P fm #[.int .i64 x, .int .i64 y] w fun e w' => e = .returned (.tuple #[.int .i64 v, E]) ∧ w = w'
  ref : ∀ w, Calls P fr #[.int .i64 x, .int .i64 y] w fun e w' => e = .returned (.tuple #[.int .i64 z, .bool ok]) ∧ ∃ n, w' = w.drewN n
theorem mul2 (a b : Int) (ha : R64 a) (hb : R64 b) :
    Mul2 Tryd.prog 43 46 a b (a * b) .nilIface (a * b) true
    ∨ Mul2 Tryd.prog 43 46 a b 0 (.iface 75 (.int .i64 2)) (wrap64 (a * b)) false := by
  by_cases h : R64 (a * b)
  · exact .inl ⟨fun w => mul_ok a b w ha hb h, fun w => by have := rtimes_any a b w ha hb; rw [h.wrap, decide_eq_true h] at this; exact this⟩
  · exact .inr ⟨fun w => mul_bad a b w ha hb h, fun w => by have := rtimes_any a b w ha hb; rw [decide_eq_false h] at this; exact this⟩
/-- how far a number is from 0 -/
theorem sizeRef (a : Int) (ha : R64 a) (h : a < 0) :
    ∃ v o s, (∀ w, Calls Tryd.prog 45 #[.int .i64 0, .int .i64 a] w fun e w' => e = .returned (.tuple #[.int .i64 v, .int .i64 o]) ∧ w = w')
      ∧ (∀ w, Calls Tryd.prog 48 #[.int .i64 v, .int .i64 o] w fun e w' => e = .returned (.int .i64 s) ∧ w = w')
      ∧ (∀ w, Calls Tryd.prog 51 #[.int .i64 a] w fun e w' => e = .returned (.int .i64 s) ∧ w = w') := by
  have h0 : R64 0 := by unfold R64; omega
  have hz := fun w => size_neg a w ha h
  rcases sat_cases (-a) with ⟨h1, hs⟩ | ⟨h1, hs⟩ | ⟨h1, hs⟩
  · unfold R64 at ha; omega
  · rw [hs] at hz
    refine ⟨-a, 0, -a, fun w => ?_, fun w => rbnd_0 _ w, hz⟩
    have := rless_ok 0 a w h0 ha (by rw [Int.zero_sub]; exact h1)
    rw [Int.zero_sub] at this; exact this
  · rw [hs] at hz
    exact ⟨0, 1, _, fun w => rless_hi 0 a w h0 ha (by omega), fun w => rbnd_hi _ w, hz⟩

set_option maxHeartbeats 2000000 in
theorem NumSums_neg (a b : Int) (w0 w : World) (hs : St w0 w)
    (sv so ss dv d_o ds pv pz : Int) (SE DE PE : Value) (pok : Bool)
    (hS : (SE = .nilIface ∧ (so == 0) = true ∨ SE = .iface 75 (.int .i64 2) ∧ (so == 0) = false))
    (hD : (DE = .nilIface ∧ (d_o == 0) = true ∨ DE = .iface 75 (.int .i64 2) ∧ (d_o == 0) = false))
    (hP : (PE = .nilIface ∧ pok = true ∧ pv = pz ∨ PE = .iface 75 (.int .i64 2) ∧ pok = false ∧ pv = 0))
    (HA : Hid (∀ w, Calls Tryd.prog 41 #[.int .i64 a, .int .i64 b] w fun e w' => e = .returned (.tuple #[.int .i64 sv, SE]) ∧ w = w'))
    (HAR : Hid (∀ w, Calls Tryd.prog 44 #[.int .i64 a, .int .i64 b] w fun e w' => e = .returned (.tuple #[.int .i64 sv, .int .i64 so]) ∧ w = w'))
    (HAS : Hid (∀ w, Calls Tryd.prog 49 #[.int .i64 a, .int .i64 b] w fun e w' => e = .returned (.int .i64 ss) ∧ w = w'))
    (HAB : Hid (∀ w, Calls Tryd.prog 48 #[.int .i64 sv, .int .i64 so] w fun e w' => e = .returned (.int .i64 ss) ∧ w = w'))
    (HD : Hid (∀ w, Calls Tryd.prog 42 #[.int .i64 a, .int .i64 b] w fun e w' => e = .returned (.tuple #[.int .i64 dv, DE]) ∧ w = w'))
    (HDR : Hid (∀ w, Calls Tryd.prog 45 #[.int .i64 a, .int .i64 b] w fun e w' => e = .returned (.tuple #[.int .i64 dv, .int .i64 d_o]) ∧ w = w'))
    (HDS : Hid (∀ w, Calls Tryd.prog 50 #[.int .i64 a, .int .i64 b] w fun e w' => e = .returned (.int .i64 ds) ∧ w = w'))
    (HDB : Hid (∀ w, Calls Tryd.prog 48 #[.int .i64 dv, .int .i64 d_o] w fun e w' => e = .returned (.int .i64 ds) ∧ w = w'))
    (HM : Hid (∀ w, Calls Tryd.prog 43 #[.int .i64 a, .int .i64 b] w fun e w' => e = .returned (.tuple #[.int .i64 pv, PE]) ∧ w = w'))
    (HMR : Hid (∀ w, Calls Tryd.prog 46 #[.int .i64 a, .int .i64 b] w fun e w' => e = .returned (.tuple #[.int .i64 pz, .bool pok]) ∧ ∃ n, w' = w.drewN n))
    (nv no ns : Int) (hneg : a < 0)
    (HNR : Hid (∀ w, Calls Tryd.prog 45 #[.int .i64 0, .int .i64 a] w fun e w' => e = .returned (.tuple #[.int .i64 nv, .int .i64 no]) ∧ w = w'))
    (HNB : Hid (∀ w, Calls Tryd.prog 48 #[.int .i64 nv, .int .i64 no] w fun e w' => e = .returned (.int .i64 ns) ∧ w = w'))
    (HN : Hid (∀ w, Calls Tryd.prog 51 #[.int .i64 a] w fun e w' => e = .returned (.int .i64 ns) ∧ w = w')) :
    Calls Tryd.prog 8 #[.int .i64 a, .int .i64 b] w fun e w' => e = .returned (.bool true) ∧ St w0 w' := by
  rcases hS with ⟨rfl, hS⟩ | ⟨rfl, hS⟩ <;> rcases hD with ⟨rfl, hD⟩ | ⟨rfl, hD⟩ <;> rcases hP with ⟨rfl, rfl, rfl⟩ | ⟨rfl, rfl, rfl⟩
  all_goals
    go_enter Tryd.func8, Tryd.ntmps8
    go_wp2_with (first
      | (go_at_call 41; (with_reducible refine (HA.out _).mono ?_); rintro e w' ⟨rfl, rfl⟩)
      | (go_at_call 44; (with_reducible refine (HAR.out _).mono ?_); rintro e w' ⟨rfl, rfl⟩)
      | (go_at_call 49; (with_reducible refine (HAS.out _).mono ?_); rintro e w' ⟨rfl, rfl⟩)
      | (go_at_call 48; (with_reducible refine (HAB.out _).mono ?_); rintro e w' ⟨rfl, rfl⟩)
      | (go_at_call 42; (with_reducible refine (HD.out _).mono ?_); rintro e w' ⟨rfl, rfl⟩)
      | (go_at_call 45; (with_reducible refine (HDR.out _).mono ?_); rintro e w' ⟨rfl, rfl⟩)
      | (go_at_call 50; (with_reducible refine (HDS.out _).mono ?_); rintro e w' ⟨rfl, rfl⟩)
      | (go_at_call 48; (with_reducible refine (HDB.out _).mono ?_); rintro e w' ⟨rfl, rfl⟩)
      | (go_at_call 43; (with_reducible refine (HM.out _).mono ?_); rintro e w' ⟨rfl, rfl⟩)
      | (go_at_call 46; (with_reducible refine (HMR.out _).mono ?_); rintro e w' ⟨rfl, nq, rfl⟩)
      | (go_at_call 51; (with_reducible refine (HN.out _).mono ?_); rintro e w' ⟨rfl, rfl⟩)
      | (go_at_call 45; (with_reducible refine (HNR.out _).mono ?_); rintro e w' ⟨rfl, rfl⟩)
      | (go_at_call 48; (with_reducible refine (HNB.out _).mono ?_); rintro e w' ⟨rfl, rfl⟩)
      | (go_at_call 47; refine (fuseelaw01_numOf_some _ _ _ (by repeat (first | assumption | apply St.drewN))).mono ?_; rintro e w' ⟨rfl, hs1⟩)
      | (go_at_call 52; refine (sure01 _ _ (by repeat (first | assumption | apply St.drewN))).mono ?_; rintro e w' ⟨rfl, hs1⟩))
    go_ret
    exact ⟨by simp, by repeat (first | assumption | apply St.drewN)⟩
set_option maxHeartbeats 2000000 in
theorem NumSums_pos (a b : Int) (w0 w : World) (hs : St w0 w)
    (sv so ss dv d_o ds pv pz : Int) (SE DE PE : Value) (pok : Bool)
    (hS : (SE = .nilIface ∧ (so == 0) = true ∨ SE = .iface 75 (.int .i64 2) ∧ (so == 0) = false))
    (hD : (DE = .nilIface ∧ (d_o == 0) = true ∨ DE = .iface 75 (.int .i64 2) ∧ (d_o == 0) = false))
    (hP : (PE = .nilIface ∧ pok = true ∧ pv = pz ∨ PE = .iface 75 (.int .i64 2) ∧ pok = false ∧ pv = 0))
    (HA : Hid (∀ w, Calls Tryd.prog 41 #[.int .i64 a, .int .i64 b] w fun e w' => e = .returned (.tuple #[.int .i64 sv, SE]) ∧ w = w'))
    (HAR : Hid (∀ w, Calls Tryd.prog 44 #[.int .i64 a, .int .i64 b] w fun e w' => e = .returned (.tuple #[.int .i64 sv, .int .i64 so]) ∧ w = w'))
    (HAS : Hid (∀ w, Calls Tryd.prog 49 #[.int .i64 a, .int .i64 b] w fun e w' => e = .returned (.int .i64 ss) ∧ w = w'))
    (HAB : Hid (∀ w, Calls Tryd.prog 48 #[.int .i64 sv, .int .i64 so] w fun e w' => e = .returned (.int .i64 ss) ∧ w = w'))
    (HD : Hid (∀ w, Calls Tryd.prog 42 #[.int .i64 a, .int .i64 b] w fun e w' => e = .returned (.tuple #[.int .i64 dv, DE]) ∧ w = w'))
    (HDR : Hid (∀ w, Calls Tryd.prog 45 #[.int .i64 a, .int .i64 b] w fun e w' => e = .returned (.tuple #[.int .i64 dv, .int .i64 d_o]) ∧ w = w'))
    (HDS : Hid (∀ w, Calls Tryd.prog 50 #[.int .i64 a, .int .i64 b] w fun e w' => e = .returned (.int .i64 ds) ∧ w = w'))
    (HDB : Hid (∀ w, Calls Tryd.prog 48 #[.int .i64 dv, .int .i64 d_o] w fun e w' => e = .returned (.int .i64 ds) ∧ w = w'))
    (HM : Hid (∀ w, Calls Tryd.prog 43 #[.int .i64 a, .int .i64 b] w fun e w' => e = .returned (.tuple #[.int .i64 pv, PE]) ∧ w = w'))
    (HMR : Hid (∀ w, Calls Tryd.prog 46 #[.int .i64 a, .int .i64 b] w fun e w' => e = .returned (.tuple #[.int .i64 pz, .bool pok]) ∧ ∃ n, w' = w.drewN n))
    (hneg : ¬ a < 0)
    (HN : Hid (∀ w, Calls Tryd.prog 51 #[.int .i64 a] w fun e w' => e = .returned (.int .i64 a) ∧ w = w')) :
    Calls Tryd.prog 8 #[.int .i64 a, .int .i64 b] w fun e w' => e = .returned (.bool true) ∧ St w0 w' := by
  rcases hS with ⟨rfl, hS⟩ | ⟨rfl, hS⟩ <;> rcases hD with ⟨rfl, hD⟩ | ⟨rfl, hD⟩ <;> rcases hP with ⟨rfl, rfl, rfl⟩ | ⟨rfl, rfl, rfl⟩
  all_goals
    go_enter Tryd.func8, Tryd.ntmps8
    go_wp2_with (first
      | (go_at_call 41; (with_reducible refine (HA.out _).mono ?_); rintro e w' ⟨rfl, rfl⟩)
      | (go_at_call 44; (with_reducible refine (HAR.out _).mono ?_); rintro e w' ⟨rfl, rfl⟩)
      | (go_at_call 49; (with_reducible refine (HAS.out _).mono ?_); rintro e w' ⟨rfl, rfl⟩)
      | (go_at_call 48; (with_reducible refine (HAB.out _).mono ?_); rintro e w' ⟨rfl, rfl⟩)
      | (go_at_call 42; (with_reducible refine (HD.out _).mono ?_); rintro e w' ⟨rfl, rfl⟩)
      | (go_at_call 45; (with_reducible refine (HDR.out _).mono ?_); rintro e w' ⟨rfl, rfl⟩)
      | (go_at_call 50; (with_reducible refine (HDS.out _).mono ?_); rintro e w' ⟨rfl, rfl⟩)
      | (go_at_call 48; (with_reducible refine (HDB.out _).mono ?_); rintro e w' ⟨rfl, rfl⟩)
      | (go_at_call 43; (with_reducible refine (HM.out _).mono ?_); rintro e w' ⟨rfl, rfl⟩)
      | (go_at_call 46; (with_reducible refine (HMR.out _).mono ?_); rintro e w' ⟨rfl, nq, rfl⟩)
      | (go_at_call 51; (with_reducible refine (HN.out _).mono ?_); rintro e w' ⟨rfl, rfl⟩)
      | (go_at_call 47; refine (fuseelaw01_numOf_some _ _ _ (by repeat (first | assumption | apply St.drewN))).mono ?_; rintro e w' ⟨rfl, hs1⟩)
      | (go_at_call 52; refine (sure01 _ _ (by repeat (first | assumption | apply St.drewN))).mono ?_; rintro e w' ⟨rfl, hs1⟩))
    go_ret
    exact ⟨by simp, by repeat (first | assumption | apply St.drewN)⟩

theorem NumSums_walk (a b : Int) (w0 w : World) (ha : R64 a) (hb : R64 b) (hs : St w0 w) :
    Calls Tryd.prog 8 #[.int .i64 a, .int .i64 b] w fun e w' => e = .returned (.bool true) ∧ St w0 w' := by
  obtain ⟨sv, so, ss, SE, hS, HA, HAR, HAS, HAB⟩ : ∃ sv so ss SE, (SE = Value.nilIface ∧ (so == 0) = true ∨ SE = .iface 75 (.int .i64 2) ∧ (so == 0) = false) ∧ (∀ w, Calls Tryd.prog 41 #[.int .i64 a, .int .i64 b] w fun e w' => e = .returned (.tuple #[.int .i64 sv, SE]) ∧ w = w') ∧ (∀ w, Calls Tryd.prog 44 #[.int .i64 a, .int .i64 b] w fun e w' => e = .returned (.tuple #[.int .i64 sv, .int .i64 so]) ∧ w = w') ∧ (∀ w, Calls Tryd.prog 49 #[.int .i64 a, .int .i64 b] w fun e w' => e = .returned (.int .i64 ss) ∧ w = w') ∧ (∀ w, Calls Tryd.prog 48 #[.int .i64 sv, .int .i64 so] w fun e w' => e = .returned (.int .i64 ss) ∧ w = w') := by
    rcases sum3 a b ha hb with ⟨h, _⟩ | ⟨h, _⟩ | ⟨h, _⟩
    · exact ⟨_, _, _, _, .inl ⟨rfl, rfl⟩, h.add, h.ref, h.sat, fun w => rbnd_0 _ w⟩
    · exact ⟨_, _, _, _, .inr ⟨rfl, rfl⟩, h.add, h.ref, h.sat, fun w => rbnd_hi _ w⟩
    · exact ⟨_, _, _, _, .inr ⟨rfl, rfl⟩, h.add, h.ref, h.sat, fun w => rbnd_lo _ w⟩
  obtain ⟨dv, d_o, ds, DE, hD, HD, HDR, HDS, HDB⟩ : ∃ sv so ss SE, (SE = Value.nilIface ∧ (so == 0) = true ∨ SE = .iface 75 (.int .i64 2) ∧ (so == 0) = false) ∧ (∀ w, Calls Tryd.prog 42 #[.int .i64 a, .int .i64 b] w fun e w' => e = .returned (.tuple #[.int .i64 sv, SE]) ∧ w = w') ∧ (∀ w, Calls Tryd.prog 45 #[.int .i64 a, .int .i64 b] w fun e w' => e = .returned (.tuple #[.int .i64 sv, .int .i64 so]) ∧ w = w') ∧ (∀ w, Calls Tryd.prog 50 #[.int .i64 a, .int .i64 b] w fun e w' => e = .returned (.int .i64 ss) ∧ w = w') ∧ (∀ w, Calls Tryd.prog 48 #[.int .i64 sv, .int .i64 so] w fun e w' => e = .returned (.int .i64 ss) ∧ w = w') := by
    rcases less3 a b ha hb with ⟨h, _⟩ | ⟨h, _⟩ | ⟨h, _⟩
    · exact ⟨_, _, _, _, .inl ⟨rfl, rfl⟩, h.add, h.ref, h.sat, fun w => rbnd_0 _ w⟩
    · exact ⟨_, _, _, _, .inr ⟨rfl, rfl⟩, h.add, h.ref, h.sat, fun w => rbnd_hi _ w⟩
    · exact ⟨_, _, _, _, .inr ⟨rfl, rfl⟩, h.add, h.ref, h.sat, fun w => rbnd_lo _ w⟩
  obtain ⟨pv, pz, PE, pok, hP, HM, HMR⟩ : ∃ pv pz PE pok, (PE = Value.nilIface ∧ pok = true ∧ pv = pz ∨ PE = .iface 75 (.int .i64 2) ∧ pok = false ∧ pv = 0) ∧ (∀ w, Calls Tryd.prog 43 #[.int .i64 a, .int .i64 b] w fun e w' => e = .returned (.tuple #[.int .i64 pv, PE]) ∧ w = w') ∧ (∀ w, Calls Tryd.prog 46 #[.int .i64 a, .int .i64 b] w fun e w' => e = .returned (.tuple #[.int .i64 pz, .bool pok]) ∧ ∃ n, w' = w.drewN n) := by
    rcases mul2 a b ha hb with h | h
    · exact ⟨_, _, _, _, .inl ⟨rfl, rfl, rfl⟩, h.mul, h.ref⟩
    · exact ⟨_, _, _, _, .inr ⟨rfl, rfl, rfl⟩, h.mul, h.ref⟩
  by_cases hn : a < 0
  · obtain ⟨nv, no, ns, HNR, HNB, HN⟩ := sizeRef a ha hn
    exact NumSums_neg a b w0 w hs sv so ss dv d_o ds pv pz SE DE PE pok hS hD hP HA HAR HAS HAB HD HDR HDS HDB HM HMR nv no ns hn HNR HNB HN
  · exact NumSums_pos a b w0 w hs sv so ss dv d_o ds pv pz SE DE PE pok hS hD hP HA HAR HAS HAB HD HDR HDS HDB HM HMR hn (fun w => size_pos a w ha hn)
end Go.Proofs.YtiljnlhmeolhfaaDoor
