/- Printed by wip/gen/mp.py: Go functions as plain Lean functions, and that the calls do what these say. -/
import Derived.Test.YtfipgpfmlkfkfaaDoorMServoStepsx0
import Derived.Test.YtfipgpfmlkfkfaaDoorMServoStepsx1
import Derived.Test.YtfipgpfmlkfkfaaDoorMServoStepsx2
namespace Go.Proofs.YtfipgpfmlkfkfaaDoor.MServoSteps
open Go.RowKit Go.Proofs.YtfipgpfmlkfkfaaDoorW.PrintWords Go.Proofs.YtfipgpfmlkfkfaaDoorW.PrintLast Go.Proofs.YtfipgpfmlkfkfaaDoorW.PrintMore
attribute [local go_sem] conv_fl eq_fl eq_fl2 max2_int min2_int max_two min_two max_three min_three max_four min_four   -- for this text's walks alone
set_option linter.unusedVariables false
set_option linter.unusedSimpArgs false

attribute [local go_sem high] eqA27
/-! ### fuseeref01_Less: function 62 -/
def fuseeref01_Less.j0 : Nat → Int → Int → Bool → Option (Int × Int)
 | 0, _, _, _ => none
 | k + 1, x0, x1, x13 => if x13 = true then (some (0, 1)) else (if x1 > 0 then (if x0 < (wrap64 ((-9223372036854775808) + x1)) then (some (0, (-1))) else (some (wrap64 (x0 - x1), 0))) else (some (wrap64 (x0 - x1), 0)))
def fuseeref01_Less.f (k : Nat) (a0 : Int) (a1 : Int) : Option (Int × Int) := if a1 < 0 then (fuseeref01_Less.j0 k a0 a1 (decide (a0 > (wrap64 (9223372036854775807 + a1))))) else (fuseeref01_Less.j0 k a0 a1 false)
theorem fuseeref01_Less.mono_l : ∀ k, (∀ y0 y1 y2, LeO (fuseeref01_Less.j0 k y0 y1 y2) (fuseeref01_Less.j0 (k + 1) y0 y1 y2))
 | 0 => fun _ _ _ r h => by simp [fuseeref01_Less.j0] at h
 | k + 1 => by
  have ih0 := fuseeref01_Less.mono_l k
  ·intro y0 y1 y2
   unfold fuseeref01_Less.j0
   repeat' first
   | (with_reducible exact ih0 _ _ _)
   | (with_reducible exact LeO.refl _)
   | (with_reducible exact LeO.none _)
   | (with_reducible refine LeO.ite ?_ ?_)
   | (with_reducible refine LeO.bind ?_ (fun _ => ?_))
   | exact ih0 _ _ _
   | exact LeO.none _
   | refine LeO.ite ?_ ?_
   | refine LeO.bind ?_ (fun _ => ?_)
theorem fuseeref01_Less.mono : ∀ a0 a1 k, LeO (fuseeref01_Less.f k a0 a1) (fuseeref01_Less.f (k + 1) a0 a1) := by
 intro a0 a1 k
 have ih0 := fuseeref01_Less.mono_l k
 unfold fuseeref01_Less.f
 repeat' first
   | (with_reducible exact ih0 _ _ _)
   | (with_reducible exact LeO.refl _)
   | (with_reducible exact LeO.none _)
   | (with_reducible refine LeO.ite ?_ ?_)
   | (with_reducible refine LeO.bind ?_ (fun _ => ?_))
   | exact ih0 _ _ _
   | exact LeO.none _
   | refine LeO.ite ?_ ?_
   | refine LeO.bind ?_ (fun _ => ?_)
set_option maxHeartbeats 8000000 in
set_option maxRecDepth 100000 in
theorem fuseeref01_Less.calls (k : Nat) (a0 : Int) (a1 : Int) (r1 : Int) (r2 : Int) (w : World) (h : fuseeref01_Less.f k a0 a1 = some (r1, r2)) :
  Calls Tryd.prog 62 #[.int .i64 a0, .int .i64 a1] w fun e w' => e = .returned (.tuple #[.int .i64 r1, .int .i64 r2]) ∧ Drawn0 w w' := by
 have H : (if a1 < 0 then (fuseeref01_Less.j0 k a0 a1 (decide (a0 > (wrap64 (9223372036854775807 + a1))))) else (fuseeref01_Less.j0 k a0 a1 false)) = some (r1, r2) := h
 clear h
 have HC3 := qS H
 clear H
 go_enter Tryd.func62, Tryd.ntmps62
 go_upto_region 1 with (fail)
 go_cut [13] (fun v13 wc => ∃ (kq : Nat) (x13_2 : Bool), v13 = .bool x13_2 ∧ Aside0 (fuseeref01_Less.j0 kq a0 a1 x13_2 = some (r1, r2)) ∧ Aside0 (kq ≤ k) ∧ Drawn0 w wc)
 case first =>
  have H := HC3.out
  clear HC3
  by_cases c4 : a1 < 0
  ·rw [if_pos c4] at H
   have c4b0 : decide (a1 < 0) = true := decide_eq_true c4
   clear c4
   (first | rw [c4b0] | (simp only [i64_w, i32_w]; rw [c4b0]) | skip)
   as_aux_lemma =>
    have H' := qS H
    clear H
    go_wp2
    go_meet
    case rel => exact ⟨_, (decide (a0 > (wrap64 (9223372036854775807 + a1)))), (by first | rfl | (simp; done) | (simp [*]; done)), H', ⟨by first | omega | exact Nat.le_refl _⟩, by repeat (first | exact Drawn0.refl _ | apply Drawn0.step)⟩
  ·rw [if_neg c4] at H
   have c4b0 : decide (a1 < 0) = false := decide_eq_false c4
   clear c4
   (first | rw [c4b0] | (simp only [i64_w, i32_w]; rw [c4b0]) | skip)
   as_aux_lemma =>
    have H' := qS H
    clear H
    go_wp2
    go_meet
    case rel => exact ⟨_, (false), (by first | rfl | (simp; done) | (simp [*]; done)), H', ⟨by first | omega | exact Nat.le_refl _⟩, by repeat (first | exact Drawn0.refl _ | apply Drawn0.step)⟩
 case rest =>
  clear HC3
  try clear p2
  try clear c4
  try clear c4b0
  obtain ⟨kq, x13_2, rfl, HA, HJ2, ⟨mc2, rfl⟩⟩ := hcut
  cases kq with
  | zero => exact absurd HA.out (by simp [fuseeref01_Less.j0])
  | succ kj2 =>
   have H := HA.out
   clear HA
   simp only [fuseeref01_Less.j0] at H
   by_cases c5 : x13_2 = true
   ·subst c5
    have H1 : (some (0, 1)) = some (r1, r2) := by rw [if_pos rfl] at H; exact H
    clear H
    have H := H1
    clear H1
    as_aux_lemma =>
     simp only [Option.some.injEq, Prod.mk.injEq] at H
     obtain ⟨rfl, rfl⟩ := H
     go_wp2
     go_ret2
     exact ⟨by first | rfl | (simp; done) | (simp [*]; done), by repeat (first | exact Drawn0.refl _ | apply Drawn0.step)⟩
   ·replace c5 := Bool.eq_false_iff.mpr c5
    subst c5
    have H1 : (if a1 > 0 then (if a0 < (wrap64 ((-9223372036854775808) + a1)) then (some (0, (-1))) else (some (wrap64 (a0 - a1), 0))) else (some (wrap64 (a0 - a1), 0))) = some (r1, r2) := by rw [if_neg (show ¬ (false = true) by decide)] at H; exact H
    clear H
    have H := H1
    clear H1
    by_cases c6 : a1 > 0
    ·rw [if_pos c6] at H
     have c6b0 : decide (0 < a1) = true := decide_eq_true c6
     clear c6
     by_cases c7 : a0 < (wrap64 ((-9223372036854775808) + a1))
     ·rw [if_pos c7] at H
      have c7b0 : decide (a0 < (wrap64 ((-9223372036854775808) + a1))) = true := decide_eq_true c7
      clear c7
      as_aux_lemma =>
       simp only [Option.some.injEq, Prod.mk.injEq] at H
       obtain ⟨rfl, rfl⟩ := H
       go_wp2
       go_ret2
       exact ⟨by first | rfl | (simp; done) | (simp [*]; done), by repeat (first | exact Drawn0.refl _ | apply Drawn0.step)⟩
     ·rw [if_neg c7] at H
      have c7b0 : decide (a0 < (wrap64 ((-9223372036854775808) + a1))) = false := decide_eq_false c7
      clear c7
      as_aux_lemma =>
       simp only [Option.some.injEq, Prod.mk.injEq] at H
       obtain ⟨rfl, rfl⟩ := H
       go_wp2
       go_ret2
       exact ⟨by first | rfl | (simp; done) | (simp [*]; done), by repeat (first | exact Drawn0.refl _ | apply Drawn0.step)⟩
    ·rw [if_neg c6] at H
     have c6b0 : decide (0 < a1) = false := decide_eq_false c6
     clear c6
     as_aux_lemma =>
      simp only [Option.some.injEq, Prod.mk.injEq] at H
      obtain ⟨rfl, rfl⟩ := H
      go_wp2
      go_ret2
      exact ⟨by first | rfl | (simp; done) | (simp [*]; done), by repeat (first | exact Drawn0.refl _ | apply Drawn0.step)⟩

/-! ### fuseeref01_Bounded: function 63 -/
def fuseeref01_Bounded.f (a0 : Int) (a1 : Int) : Option (Int) := if a1 > 0 then (some 9223372036854775807) else (if a1 < 0 then (some (-9223372036854775808)) else (some a0))
set_option maxHeartbeats 8000000 in
set_option maxRecDepth 100000 in
theorem fuseeref01_Bounded.calls (a0 : Int) (a1 : Int) (r : Int) (w : World) (h : fuseeref01_Bounded.f a0 a1 = some r) :
  Calls Tryd.prog 63 #[.int .i64 a0, .int .i64 a1] w fun e w' => e = .returned (.int .i64 r) ∧ Drawn0 w w' := by
 have H : (if a1 > 0 then (some 9223372036854775807) else (if a1 < 0 then (some (-9223372036854775808)) else (some a0))) = some r := h
 clear h
 by_cases c3 : a1 > 0
 ·rw [if_pos c3] at H
  have c3b0 : decide (0 < a1) = true := decide_eq_true c3
  clear c3
  as_aux_lemma =>
   obtain rfl := Option.some.inj H
   go_enter Tryd.func63, Tryd.ntmps63
   go_wp2
   go_ret
   exact ⟨by first | rfl | (simp; done) | (simp [*]; done), by repeat (first | exact Drawn0.refl _ | apply Drawn0.step)⟩
 ·rw [if_neg c3] at H
  have c3b0 : decide (0 < a1) = false := decide_eq_false c3
  clear c3
  by_cases c4 : a1 < 0
  ·rw [if_pos c4] at H
   have c4b0 : decide (a1 < 0) = true := decide_eq_true c4
   clear c4
   as_aux_lemma =>
    obtain rfl := Option.some.inj H
    go_enter Tryd.func63, Tryd.ntmps63
    go_wp2
    go_ret
    exact ⟨by first | rfl | (simp; done) | (simp [*]; done), by repeat (first | exact Drawn0.refl _ | apply Drawn0.step)⟩
  ·rw [if_neg c4] at H
   have c4b0 : decide (a1 < 0) = false := decide_eq_false c4
   clear c4
   as_aux_lemma =>
    obtain rfl := Option.some.inj H
    go_enter Tryd.func63, Tryd.ntmps63
    go_wp2
    go_ret
    exact ⟨by first | rfl | (simp; done) | (simp [*]; done), by repeat (first | exact Drawn0.refl _ | apply Drawn0.step)⟩

/-! ### fuseeref16_Slew: function 20 -/
def fuseeref16_Slew.f (k : Nat) (a0 : Int) (a1 : Int) : Option (Int × Int × Int) := if a1 < 0 then (some (0, 0, 1)) else ((fuseeref01_Clamp.f k a0 (wrap64 (-a1)) a1).bind fun t144 => ((fuseeref01_Less.f k a0 t144).bind fun bt145 => ((fuseeref01_Bounded.f bt145.1 bt145.2).bind fun t147 => (some (t144, t147, 0)))))
theorem fuseeref16_Slew.mono : ∀ a0 a1 k, LeO (fuseeref16_Slew.f k a0 a1) (fuseeref16_Slew.f (k + 1) a0 a1) := by
 intro a0 a1 k
 unfold fuseeref16_Slew.f
 repeat' first
   | (with_reducible exact fuseeref01_Clamp.mono _ _ _ _)
   | (with_reducible exact fuseeref01_Less.mono _ _ _)
   | (with_reducible exact LeO.refl _)
   | (with_reducible exact LeO.none _)
   | (with_reducible refine LeO.ite ?_ ?_)
   | (with_reducible refine LeO.bind ?_ (fun _ => ?_))
   | exact fuseeref01_Clamp.mono _ _ _ _
   | exact fuseeref01_Less.mono _ _ _
   | exact LeO.none _
   | refine LeO.ite ?_ ?_
   | refine LeO.bind ?_ (fun _ => ?_)
set_option maxHeartbeats 8000000 in
set_option maxRecDepth 100000 in
theorem fuseeref16_Slew.calls (k : Nat) (a0 : Int) (a1 : Int) (r1 : Int) (r2 : Int) (r3 : Int) (w : World) (h : fuseeref16_Slew.f k a0 a1 = some (r1, r2, r3)) :
  Calls Tryd.prog 20 #[.int .i64 a0, .int .i64 a1] w fun e w' => e = .returned (.tuple #[.int .i64 r1, .int .i64 r2, .int .i64 r3]) ∧ Drawn0 w w' := by
 have H : (if a1 < 0 then (some (0, 0, 1)) else ((fuseeref01_Clamp.f k a0 (wrap64 (-a1)) a1).bind fun t144 => ((fuseeref01_Less.f k a0 t144).bind fun bt145 => ((fuseeref01_Bounded.f bt145.1 bt145.2).bind fun t147 => (some (t144, t147, 0)))))) = some (r1, r2, r3) := h
 clear h
 by_cases c3 : a1 < 0
 ·rw [if_pos c3] at H
  have c3b0 : decide (a1 < 0) = true := decide_eq_true c3
  clear c3
  as_aux_lemma =>
   simp only [Option.some.injEq, Prod.mk.injEq] at H
   obtain ⟨rfl, rfl, rfl⟩ := H
   go_enter Tryd.func20, Tryd.ntmps20
   go_wp2
   go_ret3
   exact ⟨by first | rfl | (simp; done) | (simp [*]; done), by repeat (first | exact Drawn0.refl _ | apply Drawn0.step)⟩
 ·rw [if_neg c3] at H
  have c3b0 : decide (a1 < 0) = false := decide_eq_false c3
  clear c3
  replace H := Option.bind_eq_some_iff.mp H
  obtain ⟨t144, A40, H⟩ := H
  replace H : ((fuseeref01_Less.f k a0 t144).bind fun bt145 => ((fuseeref01_Bounded.f bt145.1 bt145.2).bind fun t147 => (some (t144, t147, 0)))) = some (r1, r2, r3) := H
  have A4 := qS A40
  clear A40
  replace H := Option.bind_eq_some_iff.mp H
  obtain ⟨⟨t145, t146⟩, A50, H⟩ := H
  replace H : ((fuseeref01_Bounded.f t145 t146).bind fun t147 => (some (t144, t147, 0))) = some (r1, r2, r3) := H
  have A5 := qS A50
  clear A50
  replace H := Option.bind_eq_some_iff.mp H
  obtain ⟨t147, A60, H⟩ := H
  replace H : (some (t144, t147, 0)) = some (r1, r2, r3) := H
  have A6 := qS A60
  clear A60
  as_aux_lemma =>
   simp only [Option.some.injEq, Prod.mk.injEq] at H
   obtain ⟨rfl, rfl, rfl⟩ := H
   go_enter Tryd.func20, Tryd.ntmps20
   go_wp2_with (first | ((with_reducible refine gate_callee (f := 60) rfl ?_); refine goesL_ (some 16) rfl rfl Tryd.func60 (by kernel_rfl) rfl #[.int .i64 a0, .int .i64 (wrap64 (-a1)), .int .i64 a1] rfl (by (try simp only [List.map_toArray, List.map_cons, List.map_nil]); first | done | rfl | (simp only [*]; done) | (simp only [List.length_drop, List.length_take]; rfl) | (simp only [Act.eval, Array.getD_eq_getD_getElem?, Option.getD_some, *])) ?_; (with_reducible refine (fuseeref01_Clamp.calls k a0 (wrap64 (-a1)) a1 t144 _ A4.out).mono ?_); rintro e w' ⟨rfl, ⟨nd, rfl⟩⟩; refine ⟨_, rfl, ?_⟩) | ((with_reducible refine gate_callee (f := 62) rfl ?_); refine goesL_ (some 20) rfl rfl Tryd.func62 (by kernel_rfl) rfl #[.int .i64 a0, .int .i64 t144] rfl (by (try simp only [List.map_toArray, List.map_cons, List.map_nil]); first | done | rfl | (simp only [*]; done) | (simp only [List.length_drop, List.length_take]; rfl) | (simp only [Act.eval, Array.getD_eq_getD_getElem?, Option.getD_some, *])) ?_; (with_reducible refine (fuseeref01_Less.calls k a0 t144 t145 t146 _ A5.out).mono ?_); rintro e w' ⟨rfl, ⟨nd, rfl⟩⟩; refine ⟨_, rfl, ?_⟩) | ((with_reducible refine gate_callee (f := 63) rfl ?_); refine goesL_ (some 26) rfl rfl Tryd.func63 (by kernel_rfl) rfl #[.int .i64 t145, .int .i64 t146] rfl (by (try simp only [List.map_toArray, List.map_cons, List.map_nil]); first | done | rfl | (simp only [*]; done) | (simp only [List.length_drop, List.length_take]; rfl) | (simp only [Act.eval, Array.getD_eq_getD_getElem?, Option.getD_some, *])) ?_; (with_reducible refine (fuseeref01_Bounded.calls t145 t146 t147 _ A6.out).mono ?_); rintro e w' ⟨rfl, ⟨nd, rfl⟩⟩; refine ⟨_, rfl, ?_⟩))
   go_ret3
   exact ⟨by first | rfl | (simp; done) | (simp [*]; done), by repeat (first | exact Drawn0.refl _ | apply Drawn0.step)⟩

/-! ### fuseelaw16_num: function 21 -/
def fuseelaw16_num.f (a0 : Option Int) : Option Int := some (numE a0)
theorem fuseelaw16_num.calls (a0 : Option Int) (r : Int) (w : World) (hgL : HG w) (h : fuseelaw16_num.f a0 = some r) :
    Calls Tryd.prog 21 #[errW a0] w fun e w' => e = .returned (.int .i64 r) ∧ Below w.heap.size w w' := by
  have h2 : numE a0 = r := by simpa [fuseelaw16_num.f] using h
  subst h2
  cases a0 with
  | none => exact _root_.Go.Proofs.YtfipgpfmlkfkfaaDoor.fuseelaw16_num_none w w (St.refl hgL)
  | some c => exact _root_.Go.Proofs.YtfipgpfmlkfkfaaDoor.fuseelaw16_num_some c w w (St.refl hgL)

/-! ### fuseelaw16_sure: function 24 -/
def fuseelaw16_sure.f  : Option (Bool) := (servo_Step.f 0 0 2 1 100 1024000).bind fun bt148 => ((servo_Pull.f 2 1 3 5).bind fun bt152 => ((servo_Slew.f (-9) 4).bind fun bt154 => ((servo_Step.f 0 0 (-1) 0 100 0).bind fun bt157 => (if bt148.2.2.isNone = true then (if bt152.2.isNone = true then (if bt154.2.2.isNone = true then (if (bt148.1 == 2 && (bt148.2.1 == 1000)) = true then (if (flEq bt152.1.1 4622382067542392832) = true then (if (flEq bt152.1.2 13842939354630062080) = true then (if bt154.1 = (-4) then (if bt154.2.1 = (-5) then ((fuseelaw16_num.f bt157.2.2).bind fun t164 => (some (t164 == 1))) else (none)) else (none)) else (none)) else (none)) else (none)) else (none)) else (none)) else (none)))))
set_option maxHeartbeats 8000000 in
set_option maxRecDepth 100000 in
theorem fuseelaw16_sure.calls  (r : Bool) (w : World) (hgL : HG w) (h : fuseelaw16_sure.f  = some r) :
  Calls Tryd.prog 24 #[] w fun e w' => e = .returned (.bool r) ∧ Below w.heap.size w w' := by
 have hu27 := Tryd.underlying27
 have hu32 := Tryd.underlying32
 have hu29 := Tryd.underlying29
 have hu115 := Tryd.underlying115
 have HB := qS (Below.refl w.heap.size w)
 have H : ((servo_Step.f 0 0 2 1 100 1024000).bind fun bt148 => ((servo_Pull.f 2 1 3 5).bind fun bt152 => ((servo_Slew.f (-9) 4).bind fun bt154 => ((servo_Step.f 0 0 (-1) 0 100 0).bind fun bt157 => (if bt148.2.2.isNone = true then (if bt152.2.isNone = true then (if bt154.2.2.isNone = true then (if (bt148.1 == 2 && (bt148.2.1 == 1000)) = true then (if (flEq bt152.1.1 4622382067542392832) = true then (if (flEq bt152.1.2 13842939354630062080) = true then (if bt154.1 = (-4) then (if bt154.2.1 = (-5) then ((fuseelaw16_num.f bt157.2.2).bind fun t164 => (some (t164 == 1))) else (none)) else (none)) else (none)) else (none)) else (none)) else (none)) else (none)) else (none)))))) = some r := h
 clear h
 replace H := Option.bind_eq_some_iff.mp H
 obtain ⟨⟨t148, t149, t150⟩, A10, H⟩ := H
 replace H : ((servo_Pull.f 2 1 3 5).bind fun bt152 => ((servo_Slew.f (-9) 4).bind fun bt154 => ((servo_Step.f 0 0 (-1) 0 100 0).bind fun bt157 => (if t150.isNone = true then (if bt152.2.isNone = true then (if bt154.2.2.isNone = true then (if (t148 == 2 && (t149 == 1000)) = true then (if (flEq bt152.1.1 4622382067542392832) = true then (if (flEq bt152.1.2 13842939354630062080) = true then (if bt154.1 = (-4) then (if bt154.2.1 = (-5) then ((fuseelaw16_num.f bt157.2.2).bind fun t164 => (some (t164 == 1))) else (none)) else (none)) else (none)) else (none)) else (none)) else (none)) else (none)) else (none))))) = some r := H
 have A1 := qS A10
 clear A10
 replace H := Option.bind_eq_some_iff.mp H
 obtain ⟨⟨t152, t153⟩, A20, H⟩ := H
 replace H : ((servo_Slew.f (-9) 4).bind fun bt154 => ((servo_Step.f 0 0 (-1) 0 100 0).bind fun bt157 => (if t150.isNone = true then (if t153.isNone = true then (if bt154.2.2.isNone = true then (if (t148 == 2 && (t149 == 1000)) = true then (if (flEq t152.1 4622382067542392832) = true then (if (flEq t152.2 13842939354630062080) = true then (if bt154.1 = (-4) then (if bt154.2.1 = (-5) then ((fuseelaw16_num.f bt157.2.2).bind fun t164 => (some (t164 == 1))) else (none)) else (none)) else (none)) else (none)) else (none)) else (none)) else (none)) else (none)))) = some r := H
 have A2 := qS A20
 clear A20
 replace H := Option.bind_eq_some_iff.mp H
 obtain ⟨⟨t154, t155, t156⟩, A30, H⟩ := H
 replace H : ((servo_Step.f 0 0 (-1) 0 100 0).bind fun bt157 => (if t150.isNone = true then (if t153.isNone = true then (if t156.isNone = true then (if (t148 == 2 && (t149 == 1000)) = true then (if (flEq t152.1 4622382067542392832) = true then (if (flEq t152.2 13842939354630062080) = true then (if t154 = (-4) then (if t155 = (-5) then ((fuseelaw16_num.f bt157.2.2).bind fun t164 => (some (t164 == 1))) else (none)) else (none)) else (none)) else (none)) else (none)) else (none)) else (none)) else (none))) = some r := H
 have A3 := qS A30
 clear A30
 replace H := Option.bind_eq_some_iff.mp H
 obtain ⟨⟨t157, t158, t159⟩, A40, H⟩ := H
 replace H : (if t150.isNone = true then (if t153.isNone = true then (if t156.isNone = true then (if (t148 == 2 && (t149 == 1000)) = true then (if (flEq t152.1 4622382067542392832) = true then (if (flEq t152.2 13842939354630062080) = true then (if t154 = (-4) then (if t155 = (-5) then ((fuseelaw16_num.f t159).bind fun t164 => (some (t164 == 1))) else (none)) else (none)) else (none)) else (none)) else (none)) else (none)) else (none)) else (none)) = some r := H
 have A4 := qS A40
 clear A40
 rcases t150 with _ | q161
 ·have H1 : (if t153.isNone = true then (if t156.isNone = true then (if (t148 == 2 && (t149 == 1000)) = true then (if (flEq t152.1 4622382067542392832) = true then (if (flEq t152.2 13842939354630062080) = true then (if t154 = (-4) then (if t155 = (-5) then ((fuseelaw16_num.f t159).bind fun t164 => (some (t164 == 1))) else (none)) else (none)) else (none)) else (none)) else (none)) else (none)) else (none)) = some r := by rw [if_pos (show (none : Option Int).isNone = true by rfl)] at H; exact H
  clear H
  have H := H1
  clear H1
  try simp only [errW_none, errW_some]
  rcases t153 with _ | q162
  ·have H1 : (if t156.isNone = true then (if (t148 == 2 && (t149 == 1000)) = true then (if (flEq t152.1 4622382067542392832) = true then (if (flEq t152.2 13842939354630062080) = true then (if t154 = (-4) then (if t155 = (-5) then ((fuseelaw16_num.f t159).bind fun t164 => (some (t164 == 1))) else (none)) else (none)) else (none)) else (none)) else (none)) else (none)) = some r := by rw [if_pos (show (none : Option Int).isNone = true by rfl)] at H; exact H
   clear H
   have H := H1
   clear H1
   try simp only [errW_none, errW_some]
   rcases t156 with _ | q163
   ·have H1 : (if (t148 == 2 && (t149 == 1000)) = true then (if (flEq t152.1 4622382067542392832) = true then (if (flEq t152.2 13842939354630062080) = true then (if t154 = (-4) then (if t155 = (-5) then ((fuseelaw16_num.f t159).bind fun t164 => (some (t164 == 1))) else (none)) else (none)) else (none)) else (none)) else (none)) = some r := by rw [if_pos (show (none : Option Int).isNone = true by rfl)] at H; exact H
    clear H
    have H := H1
    clear H1
    try simp only [errW_none, errW_some]
    by_cases c5 : (t148 == 2 && (t149 == 1000)) = true
    ·rw [if_pos c5] at H
     have c5b0 : (t148 == 2 && (t149 == 1000)) = true := c5
     (try (have c5b1 : decide (t148 = 2 && (t149 == 1000)) = true := by simpa using c5))
     (try (have c5b2 : (t148 == 2 && (t149 == 1000)) = true := by simpa using c5))
     clear c5
     by_cases c6 : (flEq t152.1 4622382067542392832) = true
     ·rw [if_pos c6] at H
      have c6b0 : (flEq t152.1 4622382067542392832) = true := c6
      have c6b1 : FloatKind.f64.format.order t152.1 4622382067542392832 = some Ordering.eq := beq_iff_eq.mp (show (FloatKind.f64.format.order t152.1 4622382067542392832 == some Ordering.eq) = true from c6)
      clear c6
      by_cases c7 : (flEq t152.2 13842939354630062080) = true
      ·rw [if_pos c7] at H
       have c7b0 : (flEq t152.2 13842939354630062080) = true := c7
       have c7b1 : FloatKind.f64.format.order t152.2 13842939354630062080 = some Ordering.eq := beq_iff_eq.mp (show (FloatKind.f64.format.order t152.2 13842939354630062080 == some Ordering.eq) = true from c7)
       clear c7
       by_cases c8 : t154 = (-4)
       ·rw [if_pos c8] at H
        have c8b0 : (t154 == (-4)) = true := beq_iff_eq.mpr c8
        have c8b1 : (t154 != (-4)) = false := bne_eq_false_iff_eq.mpr c8
        clear c8
        by_cases c9 : t155 = (-5)
        ·rw [if_pos c9] at H
         have c9b0 : (t155 == (-5)) = true := beq_iff_eq.mpr c9
         have c9b1 : (t155 != (-5)) = false := bne_eq_false_iff_eq.mpr c9
         clear c9
         replace H := Option.bind_eq_some_iff.mp H
         obtain ⟨t164, A100, H⟩ := H
         replace H : (some (t164 == 1)) = some r := H
         have A10 := qS A100
         clear A100
         obtain rfl := Option.some.inj H
         go_enter Tryd.func24, Tryd.ntmps24
         go_wp2_with (first | ((with_reducible refine gate_callee (f := 15) rfl ?_); refine goesL_ (some 13) rfl rfl Tryd.func15 (by kernel_rfl) rfl #[.agg #[.int .i64 0, .int .i64 0], .agg #[.int .i64 2, .int .i64 1], .int .i64 100, .int .i64 1024000] rfl (by (try simp only [List.map_toArray, List.map_cons, List.map_nil]); first | done | rfl | (simp only [*]; done) | (simp only [List.length_drop, List.length_take]; rfl) | (simp only [Act.eval, Array.getD_eq_getD_getElem?, Option.getD_some, *])) ?_; (with_reducible refine (servo_Step.calls 0 0 2 1 100 1024000 t148 t149 none _ A1.out).mono ?_); rintro e w11 ⟨rfl, hb⟩; refine ⟨_, rfl, ?_⟩; have n0_ := qS (below_step (by repeat (first | (with_reducible first | exact HB.out | apply qpA | apply qpN | apply qp1) | exact HB.out)) hb); clear HB; have HB := n0_; clear n0_; (try clear hb); (try clear hb2); (try clear hk); (try clear hi); (try simp only [errW_none, errW_some])) | ((with_reducible refine gate_dst (N := 1) rfl ?_); (try (refine gate_guard (by rfl) ?_; dsimp only)); refine box_event ?hg (N := 1) ?hd (cs := #[.int .i64 0, .int .i64 0]) (t := 27) ?hr ?_; (case hd => rfl); (case hg => rfl); (case hr => first | (go_simp; done) | (go_simp; rfl)); intro gb151 hg w12 hbox hb; have n0_ := qS (below_step (by repeat (first | (with_reducible first | exact HB.out | apply qpA | apply qpN | apply qp1) | exact HB.out)) hb); have n1_ := qS (hbox); have n2_ := qS ((by rw [hg]; exact (below_size (by repeat (first | (with_reducible first | exact HB.out | apply qpA | apply qpN | apply qp1) | exact HB.out))) : w.heap.size ≤ gb151)); have n3_ := qS ((by rw [hg]; exact (below_size (by repeat (first | (with_reducible first | exact HB.out | apply qpA | apply qpN | apply qp1) | exact HB.out))) : w.heap.size ≤ gb151)); clear HB; have HB := n0_; have BK151 := n1_; have GW151 := n2_; have GE151 := n3_; clear n0_ n1_ n2_ n3_; clear hb hbox hg; have hcz13_0 : w12.cell? ⟨gb151, 0, none⟩ = some (.int .i64 0) := (qC BK151.out 0).trans rfl; have hcz13_1 : w12.cell? ⟨gb151, 1, none⟩ = some (.int .i64 0) := (qC BK151.out 1).trans rfl; have hfz13_0 := qF BK151.out 0; have hfz13_1 := qF BK151.out 1) | ((with_reducible refine gate_callee (f := 17) rfl ?_); refine goesL_ (some 18) rfl rfl Tryd.func17 (by kernel_rfl) rfl #[.agg #[.int .i64 2, .int .i64 1], .int .i64 3, .int .i64 5] rfl (by (try simp only [List.map_toArray, List.map_cons, List.map_nil]); first | done | rfl | (simp only [*]; done) | (simp only [List.length_drop, List.length_take]; rfl) | (simp only [Act.eval, Array.getD_eq_getD_getElem?, Option.getD_some, *])) ?_; (with_reducible refine (servo_Pull.calls 2 1 3 5 t152 none _ A2.out).mono ?_); rintro e w14 ⟨rfl, hb⟩; refine ⟨_, rfl, ?_⟩; have n0_ := qS (qB (g := gb151) (o := .cells #[.int .i64 t148, .int .i64 t149] 27 (0, 0)) (by (with_reducible repeat (first | refine qN ?_ _ | refine qD ?_ | refine qA ?_ _)); refine blk_put (cs := #[.int .i64 t148, .int .i64 0]) ?_ 1 _ rfl; (with_reducible repeat (first | refine qN ?_ _ | refine qD ?_ | refine qA ?_ _)); refine blk_put (cs := #[.int .i64 0, .int .i64 0]) ?_ 0 _ rfl; (with_reducible repeat (first | refine qN ?_ _ | refine qD ?_ | refine qA ?_ _)); exact BK151.out) hb); have n1_ := qS (below_step (by repeat (first | (with_reducible first | exact HB.out | apply qpA | apply qpN | apply qp1 | refine qpS ?_ GE151.out) | exact HB.out)) hb); clear BK151; clear HB; have BK151 := n0_; have HB := n1_; clear n0_ n1_; (try clear hb); (try clear hb2); (try clear hk); (try clear hi); (try simp only [errW_none, errW_some])) | ((with_reducible refine gate_callee (f := 19) rfl ?_); refine goesL_ (some 22) rfl rfl Tryd.func19 (by kernel_rfl) rfl #[.int .i64 (-9), .int .i64 4] rfl (by (try simp only [List.map_toArray, List.map_cons, List.map_nil]); first | done | rfl | (simp only [*]; done) | (simp only [List.length_drop, List.length_take]; rfl) | (simp only [Act.eval, Array.getD_eq_getD_getElem?, Option.getD_some, *])) ?_; (with_reducible refine (servo_Slew.calls (-9) 4 t154 t155 none _ A3.out).mono ?_); rintro e w15 ⟨rfl, hb⟩; refine ⟨_, rfl, ?_⟩; have n0_ := qS (qB (g := gb151) (o := .cells #[.int .i64 t148, .int .i64 t149] 27 (0, 0)) (by (with_reducible repeat (first | refine qN ?_ _ | refine qD ?_ | refine qA ?_ _)); exact BK151.out) hb); have n1_ := qS (below_step (by repeat (first | (with_reducible first | exact HB.out | apply qpA | apply qpN | apply qp1 | refine qpS ?_ GE151.out) | exact HB.out)) hb); clear BK151; clear HB; have BK151 := n0_; have HB := n1_; clear n0_ n1_; (try clear hb); (try clear hb2); (try clear hk); (try clear hi); (try simp only [errW_none, errW_some])) | ((with_reducible refine gate_callee (f := 15) rfl ?_); refine goesL_ (some 29) rfl rfl Tryd.func15 (by kernel_rfl) rfl #[.agg #[.int .i64 0, .int .i64 0], .agg #[.int .i64 (-1), .int .i64 0], .int .i64 100, .int .i64 0] rfl (by (try simp only [List.map_toArray, List.map_cons, List.map_nil]); first | done | rfl | (simp only [*]; done) | (simp only [List.length_drop, List.length_take]; rfl) | (simp only [Act.eval, Array.getD_eq_getD_getElem?, Option.getD_some, *])) ?_; (with_reducible refine (servo_Step.calls 0 0 (-1) 0 100 0 t157 t158 t159 _ A4.out).mono ?_); rintro e w16 ⟨rfl, hb⟩; refine ⟨_, rfl, ?_⟩; have n0_ := qS (qB (g := gb151) (o := .cells #[.int .i64 t148, .int .i64 t149] 27 (0, 0)) (by (with_reducible repeat (first | refine qN ?_ _ | refine qD ?_ | refine qA ?_ _)); exact BK151.out) hb); have n1_ := qS (below_step (by repeat (first | (with_reducible first | exact HB.out | apply qpA | apply qpN | apply qp1 | refine qpS ?_ GE151.out) | exact HB.out)) hb); clear BK151; clear HB; have BK151 := n0_; have HB := n1_; clear n0_ n1_; (try clear hb); (try clear hb2); (try clear hk); (try clear hi); (try simp only [errW_none, errW_some])) | ((with_reducible refine gate_dst (N := 8) rfl ?_); (try (refine gate_guard (by rfl) ?_; dsimp only)); refine box_event ?hg (N := 8) ?hd (cs := #[.int .i64 0, .int .i64 0]) (t := 27) ?hr ?_; (case hd => rfl); (case hg => rfl); (case hr => first | (go_simp; done) | (go_simp; rfl)); intro gb160 hg w17 hbox hb; have n0_ := qS (qB (g := gb151) (o := .cells #[.int .i64 t148, .int .i64 t149] 27 (0, 0)) (by (with_reducible repeat (first | refine qN ?_ _ | refine qD ?_ | refine qA ?_ _)); exact BK151.out) hb); have n1_ := qS (below_step (by repeat (first | (with_reducible first | exact HB.out | apply qpA | apply qpN | apply qp1 | refine qpS ?_ GE151.out) | exact HB.out)) hb); have n2_ := qS (hbox); have n3_ := qS ((by rw [hg]; exact (below_size (by repeat (first | (with_reducible first | exact HB.out | apply qpA | apply qpN | apply qp1 | refine qpS ?_ GE151.out) | exact HB.out))) : w.heap.size ≤ gb160)); have n4_ := qS ((by rw [hg]; exact (below_size (by repeat (first | (with_reducible first | exact HB.out | apply qpA | apply qpN | apply qp1 | refine qpS ?_ GE151.out) | exact HB.out))) : w.heap.size ≤ gb160)); have n5_ := qS ((by rw [hg]; exact Nat.ne_of_lt (blk_lt (g := gb151) (o := .cells #[.int .i64 t148, .int .i64 t149] 27 (0, 0)) (by (with_reducible repeat (first | refine qN ?_ _ | refine qD ?_ | refine qA ?_ _)); exact BK151.out)) : gb151 ≠ gb160)); have n6_ := qS ((by rw [hg]; exact Nat.ne_of_gt (blk_lt (g := gb151) (o := .cells #[.int .i64 t148, .int .i64 t149] 27 (0, 0)) (by (with_reducible repeat (first | refine qN ?_ _ | refine qD ?_ | refine qA ?_ _)); exact BK151.out)) : gb160 ≠ gb151)); clear BK151; clear HB; have BK151 := n0_; have HB := n1_; have BK160 := n2_; have GW160 := n3_; have GE160 := n4_; have NB151_160 := n5_; have NB160_151 := n6_; clear n0_ n1_ n2_ n3_ n4_ n5_ n6_; clear hb hbox hg; have hnb18 := NB160_151.out; have hnc18 := NB151_160.out; have hcz19_0 : w17.cell? ⟨gb160, 0, none⟩ = some (.int .i64 0) := (qC BK160.out 0).trans rfl; have hcz19_1 : w17.cell? ⟨gb160, 1, none⟩ = some (.int .i64 0) := (qC BK160.out 1).trans rfl; have hfz19_0 := qF BK160.out 0; have hfz19_1 := qF BK160.out 1; have hcz20_0 : w17.cell? ⟨gb151, 0, none⟩ = some (.int .i64 t148) := (qC BK151.out 0).trans rfl; have hcz20_1 : w17.cell? ⟨gb151, 1, none⟩ = some (.int .i64 t149) := (qC BK151.out 1).trans rfl; have hfz20_0 := qF BK151.out 0; have hfz20_1 := qF BK151.out 1; have CA10 := fun W (hgW : HG W) => fuseelaw16_num.calls t159 t164 W hgW A10.out; try simp only [errW_none, errW_some] at CA10) | (go_at_call 21; (with_reducible refine (CA10 _ (HG.below hgL (Nat.le_refl _) (by repeat (first | (with_reducible first | exact HB.out | apply qpA | apply qpN | apply qp1 | refine qpS ?_ GE151.out | refine qpS ?_ GE160.out) | exact HB.out)))).mono ?_); rintro e w21 ⟨rfl, hb⟩; have n0_ := qS (qB (g := gb151) (o := .cells #[.int .i64 t148, .int .i64 t149] 27 (0, 0)) (by (with_reducible repeat (first | refine qN ?_ _ | refine qD ?_ | refine qA ?_ _)); refine blk_far ?_ NB151_160.out _; (with_reducible repeat (first | refine qN ?_ _ | refine qD ?_ | refine qA ?_ _)); refine blk_far ?_ NB151_160.out _; (with_reducible repeat (first | refine qN ?_ _ | refine qD ?_ | refine qA ?_ _)); exact BK151.out) hb); have n1_ := qS (qB (g := gb160) (o := .cells #[.int .i64 t157, .int .i64 t158] 27 (0, 0)) (by (with_reducible repeat (first | refine qN ?_ _ | refine qD ?_ | refine qA ?_ _)); refine blk_put (cs := #[.int .i64 t157, .int .i64 0]) ?_ 1 _ rfl; (with_reducible repeat (first | refine qN ?_ _ | refine qD ?_ | refine qA ?_ _)); refine blk_put (cs := #[.int .i64 0, .int .i64 0]) ?_ 0 _ rfl; (with_reducible repeat (first | refine qN ?_ _ | refine qD ?_ | refine qA ?_ _)); exact BK160.out) hb); have n2_ := qS (below_step (by repeat (first | (with_reducible first | exact HB.out | apply qpA | apply qpN | apply qp1 | refine qpS ?_ GE151.out | refine qpS ?_ GE160.out) | exact HB.out)) hb); clear BK151; clear BK160; clear HB; have BK151 := n0_; have BK160 := n1_; have HB := n2_; clear n0_ n1_ n2_; (try clear hb); (try clear hb2); (try clear hk); (try clear hi)))
         go_ret
         exact ⟨by first | rfl | (simp [errW_none, errW_some] <;> rfl) | (simp [*, errW_none, errW_some] <;> rfl), by repeat (first | (with_reducible first | exact HB.out | apply qpA | apply qpN | apply qp1 | refine qpS ?_ GE151.out | refine qpS ?_ GE160.out) | exact HB.out)⟩
        ·rw [if_neg c9] at H
         exact absurd H (by simp)
       ·rw [if_neg c8] at H
        exact absurd H (by simp)
      ·rw [if_neg c7] at H
       exact absurd H (by simp)
     ·rw [if_neg c6] at H
      exact absurd H (by simp)
    ·rw [if_neg c5] at H
     exact absurd H (by simp)
   ·have H1 : (none) = some r := by rw [if_neg (show ¬ (some q163).isNone = true by simp)] at H; exact H
    clear H
    have H := H1
    clear H1
    try simp only [errW_none, errW_some]
    exact absurd H (by simp)
  ·have H1 : (none) = some r := by rw [if_neg (show ¬ (some q162).isNone = true by simp)] at H; exact H
   clear H
   have H := H1
   clear H1
   try simp only [errW_none, errW_some]
   exact absurd H (by simp)
 ·have H1 : (none) = some r := by rw [if_neg (show ¬ (some q161).isNone = true by simp)] at H; exact H
  clear H
  have H := H1
  clear H1
  try simp only [errW_none, errW_some]
  exact absurd H (by simp)

end Go.Proofs.YtfipgpfmlkfkfaaDoor.MServoSteps
