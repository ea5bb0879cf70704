/- Printed by wip/gen/mp.py: Go functions as plain Lean functions, and that the calls do what these say. -/
import Derived.Test.YtnlaiiophongmaaDoorMCbx0
namespace Go.Proofs.YtnlaiiophongmaaDoor.MCb
open Go.RowKit Go.Proofs.YtnlaiiophongmaaDoorW.PrintWords Go.Proofs.YtnlaiiophongmaaDoorW.PrintLast Go.Proofs.YtnlaiiophongmaaDoorW.PrintMore
attribute [local go_sem] max2_int min2_int max_two min_two max_three min_three max_four min_four   -- for this text's walks alone
set_option linter.unusedVariables false
set_option linter.unusedSimpArgs false

/-! ### fuseeref06_Kind: function 126 -/
def fuseeref06_Kind.f (l0 : List Int) : Option (Int × Int × Int) := if (l0.length : Int) < 5 then (some (0, 0, 3)) else (if 0 < (l0.length : Int) then (if (rd l0 0) = 116 then (if 1 < (l0.length : Int) then (if (rd l0 1) = 109 then (if 2 < (l0.length : Int) then (if (rd l0 2) < 1 then (some (0, 0, 3)) else (if (rd l0 2) > 6 then (some (0, 0, 3)) else (if 3 < (l0.length : Int) then (if 4 < (l0.length : Int) then (if (wrap64 ((wrap64 (rd l0 3)) + (wrap64 (256 * (wrap64 (rd l0 4)))))) > 1024 then (some (0, 0, 3)) else (some (rd l0 2, wrap64 ((wrap64 (9 + (wrap64 (rd l0 3)))) + (wrap64 (256 * (wrap64 (rd l0 4))))), 0))) else (none)) else (none)))) else (none)) else (some (0, 0, 3))) else (none)) else (some (0, 0, 3))) else (none))
set_option maxHeartbeats 8000000 in
set_option maxRecDepth 100000 in
theorem fuseeref06_Kind.calls (A0 : Option Addr) (c0 : Nat) (l0 : List Int) (r1 : Int) (r2 : Int) (r3 : Int) (w : World) (hr0 : Kd.C (Kd.int .u8) w A0 l0.length l0) (hc0 : l0.length ≤ c0) (h : fuseeref06_Kind.f l0 = some (r1, r2, r3)) :
  Calls Tryd.prog 126 #[.slice A0 l0.length c0] w fun e w' => e = .returned (.tuple #[.int .u8 r1, .int .i64 r2, .int .i64 r3]) ∧ Drawn0 w w' := by
 have HR0 := qS hr0
 have HC0 := qS hc0
 clear hr0 hc0
 have H : (if (l0.length : Int) < 5 then (some (0, 0, 3)) else (if 0 < (l0.length : Int) then (if (rd l0 0) = 116 then (if 1 < (l0.length : Int) then (if (rd l0 1) = 109 then (if 2 < (l0.length : Int) then (if (rd l0 2) < 1 then (some (0, 0, 3)) else (if (rd l0 2) > 6 then (some (0, 0, 3)) else (if 3 < (l0.length : Int) then (if 4 < (l0.length : Int) then (if (wrap64 ((wrap64 (rd l0 3)) + (wrap64 (256 * (wrap64 (rd l0 4)))))) > 1024 then (some (0, 0, 3)) else (some (rd l0 2, wrap64 ((wrap64 (9 + (wrap64 (rd l0 3)))) + (wrap64 (256 * (wrap64 (rd l0 4))))), 0))) else (none)) else (none)))) else (none)) else (some (0, 0, 3))) else (none)) else (some (0, 0, 3))) else (none))) = some (r1, r2, r3) := h
 clear h
 by_cases c2 : (l0.length : Int) < 5
 ·rw [if_pos c2] at H
  have c2b0 : decide ((l0.length : Int) < 5) = true := decide_eq_true c2
  have c2b1 : decide (l0.length < 5) = true := decide_eq_true (by omega)
  clear c2
  as_aux_lemma =>
   simp only [Option.some.injEq, Prod.mk.injEq] at H
   obtain ⟨rfl, rfl, rfl⟩ := H
   go_enter Tryd.func126, Tryd.ntmps126
   go_wp2
   repeat (go_quiet (fail); try go_wp2)
   go_ret3
   exact ⟨by first | rfl | (simp; done) | (simp [*]; done), by repeat (first | exact Drawn0.refl _ | apply Drawn0.step)⟩
 ·rw [if_neg c2] at H
  have c2b0 : decide ((l0.length : Int) < 5) = false := decide_eq_false c2
  have c2b1 : decide (l0.length < 5) = false := decide_eq_false (by omega)
  clear c2
  by_cases c3 : 0 < (l0.length : Int)
  ·rw [if_pos c3] at H
   have c3b0 : decide (0 < (l0.length : Int)) = true := decide_eq_true c3
   have c3b1 : decide (0 < l0.length) = true := decide_eq_true (by omega)
   clear c3
   by_cases c4 : (rd l0 0) = 116
   ·rw [if_pos c4] at H
    have c4b0 : ((rd l0 0) == 116) = true := beq_iff_eq.mpr c4
    have c4b1 : ((rd l0 0) != 116) = false := bne_eq_false_iff_eq.mpr c4
    clear c4
    by_cases c5 : 1 < (l0.length : Int)
    ·rw [if_pos c5] at H
     have c5b0 : decide (1 < (l0.length : Int)) = true := decide_eq_true c5
     have c5b1 : decide (1 < l0.length) = true := decide_eq_true (by omega)
     clear c5
     by_cases c6 : (rd l0 1) = 109
     ·rw [if_pos c6] at H
      have c6b0 : ((rd l0 1) == 109) = true := beq_iff_eq.mpr c6
      have c6b1 : ((rd l0 1) != 109) = false := bne_eq_false_iff_eq.mpr c6
      clear c6
      by_cases c7 : 2 < (l0.length : Int)
      ·rw [if_pos c7] at H
       have c7b0 : decide (2 < (l0.length : Int)) = true := decide_eq_true c7
       have c7b1 : decide (2 < l0.length) = true := decide_eq_true (by omega)
       clear c7
       by_cases c8 : (rd l0 2) < 1
       ·rw [if_pos c8] at H
        have c8b0 : decide ((rd l0 2) < 1) = true := decide_eq_true c8
        clear c8
        as_aux_lemma =>
         simp only [Option.some.injEq, Prod.mk.injEq] at H
         obtain ⟨rfl, rfl, rfl⟩ := H
         have p165 : 0 ≤ (0 : Int) := (by omega)
         have q165 : 0 < (l0.length : Int) := of_decide_eq_true (by first | (with_reducible assumption) | assumption)
         obtain ⟨ad165, e165, hx165_0⟩ := Kd.at_int HR0.out 0 p165 q165
         cases e165
         have qi165 : (0 < l0.length) = True := eq_true (by omega)
         (try rw [show ((0 : Int)).toNat = 0 from rfl] at hx165_0)
         (try rw [Addr.add_zero'] at hx165_0)
         replace p165 := eq_true p165
         replace q165 := eq_true q165
         have p166 : 0 ≤ (1 : Int) := (by omega)
         have q166 : 1 < (l0.length : Int) := of_decide_eq_true (by first | (with_reducible assumption) | assumption)
         obtain ⟨ad166, e166, hx166_0⟩ := Kd.at_int HR0.out 1 p166 q166
         obtain rfl : ad165 = ad166 := (by injection e166)
         (try simp only [show (1 : Int).toNat = 1 from rfl, Nat.reduceMul, Nat.reduceEqDiff, Go.Addr.add, ↓reduceIte] at hx166_0)
         have qi166 : (1 < l0.length) = True := eq_true (by omega)
         (try rw [show ((1 : Int)).toNat = 1 from rfl] at hx166_0)
         replace p166 := eq_true p166
         replace q166 := eq_true q166
         have p167 : 0 ≤ (2 : Int) := (by omega)
         have q167 : 2 < (l0.length : Int) := of_decide_eq_true (by first | (with_reducible assumption) | assumption)
         obtain ⟨ad167, e167, hx167_0⟩ := Kd.at_int HR0.out 2 p167 q167
         obtain rfl : ad165 = ad167 := (by injection e167)
         (try simp only [show (2 : Int).toNat = 2 from rfl, Nat.reduceMul, Nat.reduceEqDiff, Go.Addr.add, ↓reduceIte] at hx167_0)
         have qi167 : (2 < l0.length) = True := eq_true (by omega)
         (try rw [show ((2 : Int)).toNat = 2 from rfl] at hx167_0)
         replace p167 := eq_true p167
         replace q167 := eq_true q167
         go_enter Tryd.func126, Tryd.ntmps126
         go_wp2
         repeat (go_quiet (fail); try go_wp2)
         go_ret3
         exact ⟨by first | rfl | (simp; done) | (simp [*]; done), by repeat (first | exact Drawn0.refl _ | apply Drawn0.step)⟩
       ·rw [if_neg c8] at H
        have c8b0 : decide ((rd l0 2) < 1) = false := decide_eq_false c8
        clear c8
        by_cases c9 : (rd l0 2) > 6
        ·rw [if_pos c9] at H
         have c9b0 : decide (6 < (rd l0 2)) = true := decide_eq_true c9
         clear c9
         as_aux_lemma =>
          simp only [Option.some.injEq, Prod.mk.injEq] at H
          obtain ⟨rfl, rfl, rfl⟩ := H
          have p165 : 0 ≤ (0 : Int) := (by omega)
          have q165 : 0 < (l0.length : Int) := of_decide_eq_true (by first | (with_reducible assumption) | assumption)
          obtain ⟨ad165, e165, hx165_0⟩ := Kd.at_int HR0.out 0 p165 q165
          cases e165
          have qi165 : (0 < l0.length) = True := eq_true (by omega)
          (try rw [show ((0 : Int)).toNat = 0 from rfl] at hx165_0)
          (try rw [Addr.add_zero'] at hx165_0)
          replace p165 := eq_true p165
          replace q165 := eq_true q165
          have p166 : 0 ≤ (1 : Int) := (by omega)
          have q166 : 1 < (l0.length : Int) := of_decide_eq_true (by first | (with_reducible assumption) | assumption)
          obtain ⟨ad166, e166, hx166_0⟩ := Kd.at_int HR0.out 1 p166 q166
          obtain rfl : ad165 = ad166 := (by injection e166)
          (try simp only [show (1 : Int).toNat = 1 from rfl, Nat.reduceMul, Nat.reduceEqDiff, Go.Addr.add, ↓reduceIte] at hx166_0)
          have qi166 : (1 < l0.length) = True := eq_true (by omega)
          (try rw [show ((1 : Int)).toNat = 1 from rfl] at hx166_0)
          replace p166 := eq_true p166
          replace q166 := eq_true q166
          have p167 : 0 ≤ (2 : Int) := (by omega)
          have q167 : 2 < (l0.length : Int) := of_decide_eq_true (by first | (with_reducible assumption) | assumption)
          obtain ⟨ad167, e167, hx167_0⟩ := Kd.at_int HR0.out 2 p167 q167
          obtain rfl : ad165 = ad167 := (by injection e167)
          (try simp only [show (2 : Int).toNat = 2 from rfl, Nat.reduceMul, Nat.reduceEqDiff, Go.Addr.add, ↓reduceIte] at hx167_0)
          have qi167 : (2 < l0.length) = True := eq_true (by omega)
          (try rw [show ((2 : Int)).toNat = 2 from rfl] at hx167_0)
          replace p167 := eq_true p167
          replace q167 := eq_true q167
          have p168 : 0 ≤ (2 : Int) := (by omega)
          have q168 : 2 < (l0.length : Int) := of_decide_eq_true (by first | (with_reducible assumption) | assumption)
          obtain ⟨ad168, e168, hx168_0⟩ := Kd.at_int HR0.out 2 p168 q168
          obtain rfl : ad165 = ad168 := (by injection e168)
          (try simp only [show (2 : Int).toNat = 2 from rfl, Nat.reduceMul, Nat.reduceEqDiff, Go.Addr.add, ↓reduceIte] at hx168_0)
          have qi168 : (2 < l0.length) = True := eq_true (by omega)
          (try rw [show ((2 : Int)).toNat = 2 from rfl] at hx168_0)
          replace p168 := eq_true p168
          replace q168 := eq_true q168
          go_enter Tryd.func126, Tryd.ntmps126
          go_wp2
          repeat (go_quiet (fail); try go_wp2)
          go_ret3
          exact ⟨by first | rfl | (simp; done) | (simp [*]; done), by repeat (first | exact Drawn0.refl _ | apply Drawn0.step)⟩
        ·rw [if_neg c9] at H
         have c9b0 : decide (6 < (rd l0 2)) = false := decide_eq_false c9
         clear c9
         by_cases c10 : 3 < (l0.length : Int)
         ·rw [if_pos c10] at H
          have c10b0 : decide (3 < (l0.length : Int)) = true := decide_eq_true c10
          have c10b1 : decide (3 < l0.length) = true := decide_eq_true (by omega)
          clear c10
          by_cases c11 : 4 < (l0.length : Int)
          ·rw [if_pos c11] at H
           have c11b0 : decide (4 < (l0.length : Int)) = true := decide_eq_true c11
           have c11b1 : decide (4 < l0.length) = true := decide_eq_true (by omega)
           clear c11
           by_cases c12 : (wrap64 ((wrap64 (rd l0 3)) + (wrap64 (256 * (wrap64 (rd l0 4)))))) > 1024
           ·rw [if_pos c12] at H
            have c12b0 : decide (1024 < (wrap64 ((wrap64 (rd l0 3)) + (wrap64 (256 * (wrap64 (rd l0 4))))))) = true := decide_eq_true c12
            clear c12
            as_aux_lemma =>
             simp only [Option.some.injEq, Prod.mk.injEq] at H
             obtain ⟨rfl, rfl, rfl⟩ := H
             have p165 : 0 ≤ (0 : Int) := (by omega)
             have q165 : 0 < (l0.length : Int) := of_decide_eq_true (by first | (with_reducible assumption) | assumption)
             obtain ⟨ad165, e165, hx165_0⟩ := Kd.at_int HR0.out 0 p165 q165
             cases e165
             have qi165 : (0 < l0.length) = True := eq_true (by omega)
             (try rw [show ((0 : Int)).toNat = 0 from rfl] at hx165_0)
             (try rw [Addr.add_zero'] at hx165_0)
             replace p165 := eq_true p165
             replace q165 := eq_true q165
             have p166 : 0 ≤ (1 : Int) := (by omega)
             have q166 : 1 < (l0.length : Int) := of_decide_eq_true (by first | (with_reducible assumption) | assumption)
             obtain ⟨ad166, e166, hx166_0⟩ := Kd.at_int HR0.out 1 p166 q166
             obtain rfl : ad165 = ad166 := (by injection e166)
             (try simp only [show (1 : Int).toNat = 1 from rfl, Nat.reduceMul, Nat.reduceEqDiff, Go.Addr.add, ↓reduceIte] at hx166_0)
             have qi166 : (1 < l0.length) = True := eq_true (by omega)
             (try rw [show ((1 : Int)).toNat = 1 from rfl] at hx166_0)
             replace p166 := eq_true p166
             replace q166 := eq_true q166
             have p167 : 0 ≤ (2 : Int) := (by omega)
             have q167 : 2 < (l0.length : Int) := of_decide_eq_true (by first | (with_reducible assumption) | assumption)
             obtain ⟨ad167, e167, hx167_0⟩ := Kd.at_int HR0.out 2 p167 q167
             obtain rfl : ad165 = ad167 := (by injection e167)
             (try simp only [show (2 : Int).toNat = 2 from rfl, Nat.reduceMul, Nat.reduceEqDiff, Go.Addr.add, ↓reduceIte] at hx167_0)
             have qi167 : (2 < l0.length) = True := eq_true (by omega)
             (try rw [show ((2 : Int)).toNat = 2 from rfl] at hx167_0)
             replace p167 := eq_true p167
             replace q167 := eq_true q167
             have p168 : 0 ≤ (2 : Int) := (by omega)
             have q168 : 2 < (l0.length : Int) := of_decide_eq_true (by first | (with_reducible assumption) | assumption)
             obtain ⟨ad168, e168, hx168_0⟩ := Kd.at_int HR0.out 2 p168 q168
             obtain rfl : ad165 = ad168 := (by injection e168)
             (try simp only [show (2 : Int).toNat = 2 from rfl, Nat.reduceMul, Nat.reduceEqDiff, Go.Addr.add, ↓reduceIte] at hx168_0)
             have qi168 : (2 < l0.length) = True := eq_true (by omega)
             (try rw [show ((2 : Int)).toNat = 2 from rfl] at hx168_0)
             replace p168 := eq_true p168
             replace q168 := eq_true q168
             have p169 : 0 ≤ (3 : Int) := (by omega)
             have q169 : 3 < (l0.length : Int) := of_decide_eq_true (by first | (with_reducible assumption) | assumption)
             obtain ⟨ad169, e169, hx169_0⟩ := Kd.at_int HR0.out 3 p169 q169
             obtain rfl : ad165 = ad169 := (by injection e169)
             (try simp only [show (3 : Int).toNat = 3 from rfl, Nat.reduceMul, Nat.reduceEqDiff, Go.Addr.add, ↓reduceIte] at hx169_0)
             have qi169 : (3 < l0.length) = True := eq_true (by omega)
             (try rw [show ((3 : Int)).toNat = 3 from rfl] at hx169_0)
             replace p169 := eq_true p169
             replace q169 := eq_true q169
             have p170 : 0 ≤ (4 : Int) := (by omega)
             have q170 : 4 < (l0.length : Int) := of_decide_eq_true (by first | (with_reducible assumption) | assumption)
             obtain ⟨ad170, e170, hx170_0⟩ := Kd.at_int HR0.out 4 p170 q170
             obtain rfl : ad165 = ad170 := (by injection e170)
             (try simp only [show (4 : Int).toNat = 4 from rfl, Nat.reduceMul, Nat.reduceEqDiff, Go.Addr.add, ↓reduceIte] at hx170_0)
             have qi170 : (4 < l0.length) = True := eq_true (by omega)
             (try rw [show ((4 : Int)).toNat = 4 from rfl] at hx170_0)
             replace p170 := eq_true p170
             replace q170 := eq_true q170
             go_enter Tryd.func126, Tryd.ntmps126
             go_wp2
             repeat (go_quiet (fail); try go_wp2)
             go_ret3
             exact ⟨by first | rfl | (simp; done) | (simp [*]; done), by repeat (first | exact Drawn0.refl _ | apply Drawn0.step)⟩
           ·rw [if_neg c12] at H
            have c12b0 : decide (1024 < (wrap64 ((wrap64 (rd l0 3)) + (wrap64 (256 * (wrap64 (rd l0 4))))))) = false := decide_eq_false c12
            clear c12
            as_aux_lemma =>
             simp only [Option.some.injEq, Prod.mk.injEq] at H
             obtain ⟨rfl, rfl, rfl⟩ := H
             have p165 : 0 ≤ (0 : Int) := (by omega)
             have q165 : 0 < (l0.length : Int) := of_decide_eq_true (by first | (with_reducible assumption) | assumption)
             obtain ⟨ad165, e165, hx165_0⟩ := Kd.at_int HR0.out 0 p165 q165
             cases e165
             have qi165 : (0 < l0.length) = True := eq_true (by omega)
             (try rw [show ((0 : Int)).toNat = 0 from rfl] at hx165_0)
             (try rw [Addr.add_zero'] at hx165_0)
             replace p165 := eq_true p165
             replace q165 := eq_true q165
             have p166 : 0 ≤ (1 : Int) := (by omega)
             have q166 : 1 < (l0.length : Int) := of_decide_eq_true (by first | (with_reducible assumption) | assumption)
             obtain ⟨ad166, e166, hx166_0⟩ := Kd.at_int HR0.out 1 p166 q166
             obtain rfl : ad165 = ad166 := (by injection e166)
             (try simp only [show (1 : Int).toNat = 1 from rfl, Nat.reduceMul, Nat.reduceEqDiff, Go.Addr.add, ↓reduceIte] at hx166_0)
             have qi166 : (1 < l0.length) = True := eq_true (by omega)
             (try rw [show ((1 : Int)).toNat = 1 from rfl] at hx166_0)
             replace p166 := eq_true p166
             replace q166 := eq_true q166
             have p167 : 0 ≤ (2 : Int) := (by omega)
             have q167 : 2 < (l0.length : Int) := of_decide_eq_true (by first | (with_reducible assumption) | assumption)
             obtain ⟨ad167, e167, hx167_0⟩ := Kd.at_int HR0.out 2 p167 q167
             obtain rfl : ad165 = ad167 := (by injection e167)
             (try simp only [show (2 : Int).toNat = 2 from rfl, Nat.reduceMul, Nat.reduceEqDiff, Go.Addr.add, ↓reduceIte] at hx167_0)
             have qi167 : (2 < l0.length) = True := eq_true (by omega)
             (try rw [show ((2 : Int)).toNat = 2 from rfl] at hx167_0)
             replace p167 := eq_true p167
             replace q167 := eq_true q167
             have p168 : 0 ≤ (2 : Int) := (by omega)
             have q168 : 2 < (l0.length : Int) := of_decide_eq_true (by first | (with_reducible assumption) | assumption)
             obtain ⟨ad168, e168, hx168_0⟩ := Kd.at_int HR0.out 2 p168 q168
             obtain rfl : ad165 = ad168 := (by injection e168)
             (try simp only [show (2 : Int).toNat = 2 from rfl, Nat.reduceMul, Nat.reduceEqDiff, Go.Addr.add, ↓reduceIte] at hx168_0)
             have qi168 : (2 < l0.length) = True := eq_true (by omega)
             (try rw [show ((2 : Int)).toNat = 2 from rfl] at hx168_0)
             replace p168 := eq_true p168
             replace q168 := eq_true q168
             have p169 : 0 ≤ (3 : Int) := (by omega)
             have q169 : 3 < (l0.length : Int) := of_decide_eq_true (by first | (with_reducible assumption) | assumption)
             obtain ⟨ad169, e169, hx169_0⟩ := Kd.at_int HR0.out 3 p169 q169
             obtain rfl : ad165 = ad169 := (by injection e169)
             (try simp only [show (3 : Int).toNat = 3 from rfl, Nat.reduceMul, Nat.reduceEqDiff, Go.Addr.add, ↓reduceIte] at hx169_0)
             have qi169 : (3 < l0.length) = True := eq_true (by omega)
             (try rw [show ((3 : Int)).toNat = 3 from rfl] at hx169_0)
             replace p169 := eq_true p169
             replace q169 := eq_true q169
             have p170 : 0 ≤ (4 : Int) := (by omega)
             have q170 : 4 < (l0.length : Int) := of_decide_eq_true (by first | (with_reducible assumption) | assumption)
             obtain ⟨ad170, e170, hx170_0⟩ := Kd.at_int HR0.out 4 p170 q170
             obtain rfl : ad165 = ad170 := (by injection e170)
             (try simp only [show (4 : Int).toNat = 4 from rfl, Nat.reduceMul, Nat.reduceEqDiff, Go.Addr.add, ↓reduceIte] at hx170_0)
             have qi170 : (4 < l0.length) = True := eq_true (by omega)
             (try rw [show ((4 : Int)).toNat = 4 from rfl] at hx170_0)
             replace p170 := eq_true p170
             replace q170 := eq_true q170
             have p171 : 0 ≤ (2 : Int) := (by omega)
             have q171 : 2 < (l0.length : Int) := of_decide_eq_true (by first | (with_reducible assumption) | assumption)
             obtain ⟨ad171, e171, hx171_0⟩ := Kd.at_int HR0.out 2 p171 q171
             obtain rfl : ad165 = ad171 := (by injection e171)
             (try simp only [show (2 : Int).toNat = 2 from rfl, Nat.reduceMul, Nat.reduceEqDiff, Go.Addr.add, ↓reduceIte] at hx171_0)
             have qi171 : (2 < l0.length) = True := eq_true (by omega)
             (try rw [show ((2 : Int)).toNat = 2 from rfl] at hx171_0)
             replace p171 := eq_true p171
             replace q171 := eq_true q171
             have p172 : 0 ≤ (3 : Int) := (by omega)
             have q172 : 3 < (l0.length : Int) := of_decide_eq_true (by first | (with_reducible assumption) | assumption)
             obtain ⟨ad172, e172, hx172_0⟩ := Kd.at_int HR0.out 3 p172 q172
             obtain rfl : ad165 = ad172 := (by injection e172)
             (try simp only [show (3 : Int).toNat = 3 from rfl, Nat.reduceMul, Nat.reduceEqDiff, Go.Addr.add, ↓reduceIte] at hx172_0)
             have qi172 : (3 < l0.length) = True := eq_true (by omega)
             (try rw [show ((3 : Int)).toNat = 3 from rfl] at hx172_0)
             replace p172 := eq_true p172
             replace q172 := eq_true q172
             have p173 : 0 ≤ (4 : Int) := (by omega)
             have q173 : 4 < (l0.length : Int) := of_decide_eq_true (by first | (with_reducible assumption) | assumption)
             obtain ⟨ad173, e173, hx173_0⟩ := Kd.at_int HR0.out 4 p173 q173
             obtain rfl : ad165 = ad173 := (by injection e173)
             (try simp only [show (4 : Int).toNat = 4 from rfl, Nat.reduceMul, Nat.reduceEqDiff, Go.Addr.add, ↓reduceIte] at hx173_0)
             have qi173 : (4 < l0.length) = True := eq_true (by omega)
             (try rw [show ((4 : Int)).toNat = 4 from rfl] at hx173_0)
             replace p173 := eq_true p173
             replace q173 := eq_true q173
             go_enter Tryd.func126, Tryd.ntmps126
             go_wp2
             repeat (go_quiet (fail); try go_wp2)
             go_ret3
             exact ⟨by first | rfl | (simp; done) | (simp [*]; done), by repeat (first | exact Drawn0.refl _ | apply Drawn0.step)⟩
          ·rw [if_neg c11] at H
           exact absurd H (by simp)
         ·rw [if_neg c10] at H
          exact absurd H (by simp)
      ·rw [if_neg c7] at H
       exact absurd H (by simp)
     ·rw [if_neg c6] at H
      have c6b0 : ((rd l0 1) == 109) = false := beq_eq_false_iff_ne.mpr c6
      have c6b1 : ((rd l0 1) != 109) = true := bne_iff_ne.mpr c6
      as_aux_lemma =>
       simp only [Option.some.injEq, Prod.mk.injEq] at H
       obtain ⟨rfl, rfl, rfl⟩ := H
       have p165 : 0 ≤ (0 : Int) := (by omega)
       have q165 : 0 < (l0.length : Int) := of_decide_eq_true (by first | (with_reducible assumption) | assumption)
       obtain ⟨ad165, e165, hx165_0⟩ := Kd.at_int HR0.out 0 p165 q165
       cases e165
       have qi165 : (0 < l0.length) = True := eq_true (by omega)
       (try rw [show ((0 : Int)).toNat = 0 from rfl] at hx165_0)
       (try rw [Addr.add_zero'] at hx165_0)
       replace p165 := eq_true p165
       replace q165 := eq_true q165
       have p166 : 0 ≤ (1 : Int) := (by omega)
       have q166 : 1 < (l0.length : Int) := of_decide_eq_true (by first | (with_reducible assumption) | assumption)
       obtain ⟨ad166, e166, hx166_0⟩ := Kd.at_int HR0.out 1 p166 q166
       obtain rfl : ad165 = ad166 := (by injection e166)
       (try simp only [show (1 : Int).toNat = 1 from rfl, Nat.reduceMul, Nat.reduceEqDiff, Go.Addr.add, ↓reduceIte] at hx166_0)
       have qi166 : (1 < l0.length) = True := eq_true (by omega)
       (try rw [show ((1 : Int)).toNat = 1 from rfl] at hx166_0)
       replace p166 := eq_true p166
       replace q166 := eq_true q166
       go_enter Tryd.func126, Tryd.ntmps126
       go_wp2
       repeat (go_quiet (fail); try go_wp2)
       go_ret3
       exact ⟨by first | rfl | (simp; done) | (simp [*]; done), by repeat (first | exact Drawn0.refl _ | apply Drawn0.step)⟩
    ·rw [if_neg c5] at H
     exact absurd H (by simp)
   ·rw [if_neg c4] at H
    have c4b0 : ((rd l0 0) == 116) = false := beq_eq_false_iff_ne.mpr c4
    have c4b1 : ((rd l0 0) != 116) = true := bne_iff_ne.mpr c4
    as_aux_lemma =>
     simp only [Option.some.injEq, Prod.mk.injEq] at H
     obtain ⟨rfl, rfl, rfl⟩ := H
     have p165 : 0 ≤ (0 : Int) := (by omega)
     have q165 : 0 < (l0.length : Int) := of_decide_eq_true (by first | (with_reducible assumption) | assumption)
     obtain ⟨ad165, e165, hx165_0⟩ := Kd.at_int HR0.out 0 p165 q165
     cases e165
     have qi165 : (0 < l0.length) = True := eq_true (by omega)
     (try rw [show ((0 : Int)).toNat = 0 from rfl] at hx165_0)
     (try rw [Addr.add_zero'] at hx165_0)
     replace p165 := eq_true p165
     replace q165 := eq_true q165
     go_enter Tryd.func126, Tryd.ntmps126
     go_wp2
     repeat (go_quiet (fail); try go_wp2)
     go_ret3
     exact ⟨by first | rfl | (simp; done) | (simp [*]; done), by repeat (first | exact Drawn0.refl _ | apply Drawn0.step)⟩
  ·rw [if_neg c3] at H
   exact absurd H (by simp)

/-! ### leap_Check: function 52 -/
mutual
def leap_Check.j0 : Nat → Bool → Int → Int → List Int → Option (Option Int)
 | 0, _, _, _, _ => none
 | k + 1, x28, x175000, x175001, x175002 => if x28 = true then (some (some 1)) else (leap_Check.l0 k x175002 (x175002.length : Int) 0 x175000 x175001 x175002)
def leap_Check.l0 : Nat → List Int → Int → Int → Int → Int → List Int → Option (Option Int)
 | 0, _, _, _, _, _, _ => none
 | k + 1, x31, x32, x33, x175000, x175001, x175002 => if x33 < x32 then (if 0 ≤ x33 then (if x33 < (x31.length : Int) then (if (rd x31 x33) < (-50000) then (some (some 1)) else (if (rd x31 x33) ≥ x175001 then (some (some 1)) else (if x33 > 0 then (if 0 ≤ (wrap64 (x33 - 1)) then (if (wrap64 (x33 - 1)) < (x175002.length : Int) then (if (rd x175002 (wrap64 (x33 - 1))) ≥ (rd x31 x33) then (some (some 1)) else (leap_Check.l0 k x31 x32 (wrap64 (x33 + 1)) x175000 x175001 x175002)) else (none)) else (none)) else (leap_Check.l0 k x31 x32 (wrap64 (x33 + 1)) x175000 x175001 x175002)))) else (none)) else (none)) else (some none)
end
def leap_Check.f (k : Nat) (a0_0 : Int) (a0_1 : Int) (l0_2 : List Int) : Option (Option Int) := if a0_0 < 0 then (leap_Check.j0 k true a0_0 a0_1 l0_2) else (if a0_0 > 100 then (leap_Check.j0 k true a0_0 a0_1 l0_2) else (if a0_1 < (-50000) then (leap_Check.j0 k true a0_0 a0_1 l0_2) else (if a0_1 > 50000 then (leap_Check.j0 k true a0_0 a0_1 l0_2) else (leap_Check.j0 k (decide ((l0_2.length : Int) > 32)) a0_0 a0_1 l0_2))))
theorem leap_Check.mono_l : ∀ k, (∀ y0 y1 y2 y3, LeO (leap_Check.j0 k y0 y1 y2 y3) (leap_Check.j0 (k + 1) y0 y1 y2 y3)) ∧ (∀ y0 y1 y2 y3 y4 y5, LeO (leap_Check.l0 k y0 y1 y2 y3 y4 y5) (leap_Check.l0 (k + 1) y0 y1 y2 y3 y4 y5))
 | 0 => ⟨fun _ _ _ _ r h => by simp [leap_Check.j0] at h, fun _ _ _ _ _ _ r h => by simp [leap_Check.l0] at h⟩
 | k + 1 => by
  obtain ⟨ih0, ih1⟩ := leap_Check.mono_l k
  refine ⟨?_, ?_⟩
  ·intro y0 y1 y2 y3
   unfold leap_Check.j0
   repeat' first
   | (with_reducible exact ih0 _ _ _ _)
   | (with_reducible exact ih1 _ _ _ _ _ _)
   | (with_reducible exact LeO.refl _)
   | (with_reducible exact LeO.none _)
   | (with_reducible refine LeO.ite ?_ ?_)
   | (with_reducible refine LeO.bind ?_ (fun _ => ?_))
   | exact ih0 _ _ _ _
   | exact ih1 _ _ _ _ _ _
   | exact LeO.none _
   | refine LeO.ite ?_ ?_
   | refine LeO.bind ?_ (fun _ => ?_)
  ·intro y0 y1 y2 y3 y4 y5
   unfold leap_Check.l0
   repeat' first
   | (with_reducible exact ih0 _ _ _ _)
   | (with_reducible exact ih1 _ _ _ _ _ _)
   | (with_reducible exact LeO.refl _)
   | (with_reducible exact LeO.none _)
   | (with_reducible refine LeO.ite ?_ ?_)
   | (with_reducible refine LeO.bind ?_ (fun _ => ?_))
   | exact ih0 _ _ _ _
   | exact ih1 _ _ _ _ _ _
   | exact LeO.none _
   | refine LeO.ite ?_ ?_
   | refine LeO.bind ?_ (fun _ => ?_)
theorem leap_Check.mono : ∀ a0 a1 a2 k, LeO (leap_Check.f k a0 a1 a2) (leap_Check.f (k + 1) a0 a1 a2) := by
 intro a0 a1 a2 k
 obtain ⟨ih0, ih1⟩ := leap_Check.mono_l k
 unfold leap_Check.f
 repeat' first
   | (with_reducible exact ih0 _ _ _ _)
   | (with_reducible exact ih1 _ _ _ _ _ _)
   | (with_reducible exact LeO.refl _)
   | (with_reducible exact LeO.none _)
   | (with_reducible refine LeO.ite ?_ ?_)
   | (with_reducible refine LeO.bind ?_ (fun _ => ?_))
   | exact ih0 _ _ _ _
   | exact ih1 _ _ _ _ _ _
   | exact LeO.none _
   | refine LeO.ite ?_ ?_
   | refine LeO.bind ?_ (fun _ => ?_)
set_option maxHeartbeats 8000000 in
set_option maxRecDepth 100000 in
theorem leap_Check.calls (k : Nat) (a0_0 : Int) (a0_1 : Int) (A0_2 : Option Addr) (c0_2 : Nat) (l0_2 : List Int) (r : Option Int) (w : World) (hr0_2 : Kd.C (Kd.int .i64) w A0_2 l0_2.length l0_2) (hc0_2 : l0_2.length ≤ c0_2) (h : leap_Check.f k a0_0 a0_1 l0_2 = some r) :
  Calls Tryd.prog 52 #[.agg #[.int .i64 a0_0, .int .i64 a0_1, .slice A0_2 l0_2.length c0_2]] w fun e w' => e = .returned (errW r) ∧ Below w.heap.size w w' := by
 have hu96 := Tryd.underlying96
 have hu28 := Tryd.underlying28
 have hu128 := Tryd.underlying128
 have HR0_2 := qS hr0_2
 have HC0_2 := qS hc0_2
 clear hr0_2 hc0_2
 have HB := qS (Below.refl w.heap.size w)
 have H : (if a0_0 < 0 then (leap_Check.j0 k true a0_0 a0_1 l0_2) else (if a0_0 > 100 then (leap_Check.j0 k true a0_0 a0_1 l0_2) else (if a0_1 < (-50000) then (leap_Check.j0 k true a0_0 a0_1 l0_2) else (if a0_1 > 50000 then (leap_Check.j0 k true a0_0 a0_1 l0_2) else (leap_Check.j0 k (decide ((l0_2.length : Int) > 32)) a0_0 a0_1 l0_2))))) = some r := h
 clear h
 have HC2 := qS H
 clear H
 go_enter Tryd.func52, Tryd.ntmps52
 go_upto_region 1 with (first | ((with_reducible refine gate_dst (N := 1) rfl ?_); (try (refine gate_guard (by rfl) ?_; dsimp only)); refine box_event ?hg (N := 1) ?hd (cs := #[.int .i64 a0_0, .int .i64 a0_1, .slice A0_2 l0_2.length c0_2]) (t := 96) ?hr ?_; (case hd => rfl); (case hg => rfl); (case hr => first | (go_simp; done) | (go_simp; rfl)); intro gb174 hg w3 hbox hb; have n0_ := qS (below_step (by repeat (first | (with_reducible first | exact HB.out | apply qpA | apply qpN | apply qp1) | exact HB.out)) hb); have n1_ := qS (hbox); have n2_ := qS ((by rw [hg]; exact (below_size (by repeat (first | (with_reducible first | exact HB.out | apply qpA | apply qpN | apply qp1) | exact HB.out))) : w.heap.size ≤ gb174)); have n3_ := qS ((by rw [hg]; exact (below_size (by repeat (first | (with_reducible first | exact HB.out | apply qpA | apply qpN | apply qp1) | exact HB.out))) : w.heap.size ≤ gb174)); clear HB; have HB := n0_; have BK174 := n1_; have GW174 := n2_; have GE174 := n3_; clear n0_ n1_ n2_ n3_; clear hb hbox hg))
 (try simp only [Act.put, List.setIfInBounds_toArray, List.set_cons_zero, List.set_cons_succ])
 go_cut [28] (fun v28 wc => ∃ (kq : Nat) (x28_1 : Bool), v28 = .bool x28_1 ∧ Aside0 (leap_Check.j0 kq x28_1 a0_0 a0_1 l0_2 = some r) ∧ Aside0 (kq ≤ k) ∧ Aside0 (wc.heap[gb174]? = some (.cells #[.int .i64 a0_0, .int .i64 a0_1, (.slice A0_2 l0_2.length c0_2)] 96 (0, 0))) ∧ Aside0 (Below w.heap.size w wc))
 case first =>
  have H := HC2.out
  clear HC2
  by_cases c4 : a0_0 < 0
  ·rw [if_pos c4] at H
   have c4b0 : decide (a0_0 < 0) = true := decide_eq_true c4
   clear c4
   (first | rw [c4b0] | (simp only [i64_w, i32_w]; rw [c4b0]) | skip)
   as_aux_lemma =>
    have H' := qS H
    clear H
    have hcz5_0 : w3.cell? ⟨gb174, 0, none⟩ = some (.int .i64 a0_0) := (qC BK174.out 0).trans rfl
    have hcz5_1 : w3.cell? ⟨gb174, 1, none⟩ = some (.int .i64 a0_1) := (qC BK174.out 1).trans rfl
    have hcz5_2 : w3.cell? ⟨gb174, 2, none⟩ = some (.slice A0_2 l0_2.length c0_2) := (qC BK174.out 2).trans rfl
    have hfz5_0 := qF BK174.out 0
    have hfz5_1 := qF BK174.out 1
    have hfz5_2 := qF BK174.out 2
    go_wp2
    go_meet
    case rel => exact ⟨_, (true), (by first | rfl | (simp; done) | (simp [*]; done)), H', ⟨by first | omega | exact Nat.le_refl _⟩, ⟨by (with_reducible repeat (first | refine qN ?_ _ | refine qD ?_ | refine qA ?_ _)); exact BK174.out⟩, ⟨by repeat (first | (with_reducible first | exact HB.out | apply qpA | apply qpN | apply qp1 | refine qpS ?_ GE174.out) | exact HB.out)⟩⟩
  ·rw [if_neg c4] at H
   have c4b0 : decide (a0_0 < 0) = false := decide_eq_false c4
   clear c4
   (first | rw [c4b0] | (simp only [i64_w, i32_w]; rw [c4b0]) | skip)
   by_cases c6 : a0_0 > 100
   ·rw [if_pos c6] at H
    have c6b0 : decide (100 < a0_0) = true := decide_eq_true c6
    clear c6
    as_aux_lemma =>
     have H' := qS H
     clear H
     have hcz7_0 : w3.cell? ⟨gb174, 0, none⟩ = some (.int .i64 a0_0) := (qC BK174.out 0).trans rfl
     have hcz7_1 : w3.cell? ⟨gb174, 1, none⟩ = some (.int .i64 a0_1) := (qC BK174.out 1).trans rfl
     have hcz7_2 : w3.cell? ⟨gb174, 2, none⟩ = some (.slice A0_2 l0_2.length c0_2) := (qC BK174.out 2).trans rfl
     have hfz7_0 := qF BK174.out 0
     have hfz7_1 := qF BK174.out 1
     have hfz7_2 := qF BK174.out 2
     go_wp2
     go_meet
     case rel => exact ⟨_, (true), (by first | rfl | (simp; done) | (simp [*]; done)), H', ⟨by first | omega | exact Nat.le_refl _⟩, ⟨by (with_reducible repeat (first | refine qN ?_ _ | refine qD ?_ | refine qA ?_ _)); exact BK174.out⟩, ⟨by repeat (first | (with_reducible first | exact HB.out | apply qpA | apply qpN | apply qp1 | refine qpS ?_ GE174.out) | exact HB.out)⟩⟩
   ·rw [if_neg c6] at H
    have c6b0 : decide (100 < a0_0) = false := decide_eq_false c6
    clear c6
    by_cases c8 : a0_1 < (-50000)
    ·rw [if_pos c8] at H
     have c8b0 : decide (a0_1 < (-50000)) = true := decide_eq_true c8
     clear c8
     as_aux_lemma =>
      have H' := qS H
      clear H
      have hcz9_0 : w3.cell? ⟨gb174, 0, none⟩ = some (.int .i64 a0_0) := (qC BK174.out 0).trans rfl
      have hcz9_1 : w3.cell? ⟨gb174, 1, none⟩ = some (.int .i64 a0_1) := (qC BK174.out 1).trans rfl
      have hcz9_2 : w3.cell? ⟨gb174, 2, none⟩ = some (.slice A0_2 l0_2.length c0_2) := (qC BK174.out 2).trans rfl
      have hfz9_0 := qF BK174.out 0
      have hfz9_1 := qF BK174.out 1
      have hfz9_2 := qF BK174.out 2
      go_wp2
      go_meet
      case rel => exact ⟨_, (true), (by first | rfl | (simp; done) | (simp [*]; done)), H', ⟨by first | omega | exact Nat.le_refl _⟩, ⟨by (with_reducible repeat (first | refine qN ?_ _ | refine qD ?_ | refine qA ?_ _)); exact BK174.out⟩, ⟨by repeat (first | (with_reducible first | exact HB.out | apply qpA | apply qpN | apply qp1 | refine qpS ?_ GE174.out) | exact HB.out)⟩⟩
    ·rw [if_neg c8] at H
     have c8b0 : decide (a0_1 < (-50000)) = false := decide_eq_false c8
     clear c8
     by_cases c10 : a0_1 > 50000
     ·rw [if_pos c10] at H
      have c10b0 : decide (50000 < a0_1) = true := decide_eq_true c10
      clear c10
      as_aux_lemma =>
       have H' := qS H
       clear H
       have hcz11_0 : w3.cell? ⟨gb174, 0, none⟩ = some (.int .i64 a0_0) := (qC BK174.out 0).trans rfl
       have hcz11_1 : w3.cell? ⟨gb174, 1, none⟩ = some (.int .i64 a0_1) := (qC BK174.out 1).trans rfl
       have hcz11_2 : w3.cell? ⟨gb174, 2, none⟩ = some (.slice A0_2 l0_2.length c0_2) := (qC BK174.out 2).trans rfl
       have hfz11_0 := qF BK174.out 0
       have hfz11_1 := qF BK174.out 1
       have hfz11_2 := qF BK174.out 2
       go_wp2
       go_meet
       case rel => exact ⟨_, (true), (by first | rfl | (simp; done) | (simp [*]; done)), H', ⟨by first | omega | exact Nat.le_refl _⟩, ⟨by (with_reducible repeat (first | refine qN ?_ _ | refine qD ?_ | refine qA ?_ _)); exact BK174.out⟩, ⟨by repeat (first | (with_reducible first | exact HB.out | apply qpA | apply qpN | apply qp1 | refine qpS ?_ GE174.out) | exact HB.out)⟩⟩
     ·rw [if_neg c10] at H
      have c10b0 : decide (50000 < a0_1) = false := decide_eq_false c10
      clear c10
      as_aux_lemma =>
       have H' := qS H
       clear H
       have hcz12_0 : w3.cell? ⟨gb174, 0, none⟩ = some (.int .i64 a0_0) := (qC BK174.out 0).trans rfl
       have hcz12_1 : w3.cell? ⟨gb174, 1, none⟩ = some (.int .i64 a0_1) := (qC BK174.out 1).trans rfl
       have hcz12_2 : w3.cell? ⟨gb174, 2, none⟩ = some (.slice A0_2 l0_2.length c0_2) := (qC BK174.out 2).trans rfl
       have hfz12_0 := qF BK174.out 0
       have hfz12_1 := qF BK174.out 1
       have hfz12_2 := qF BK174.out 2
       go_wp2
       go_meet
       case rel => exact ⟨_, (decide ((l0_2.length : Int) > 32)), (by first | rfl | (simp; done) | (simp [*]; done)), H', ⟨by first | omega | exact Nat.le_refl _⟩, ⟨by (with_reducible repeat (first | refine qN ?_ _ | refine qD ?_ | refine qA ?_ _)); exact BK174.out⟩, ⟨by repeat (first | (with_reducible first | exact HB.out | apply qpA | apply qpN | apply qp1 | refine qpS ?_ GE174.out) | exact HB.out)⟩⟩
 case rest =>
  clear HC2
  try clear c1
  try clear p2
  try clear c4
  try clear c4b0
  try clear c5
  try clear c6
  try clear c6b0
  try clear c8
  try clear c8b0
  try clear c10
  try clear c10b0
  try clear hcz11_0
  try clear hcz11_1
  try clear hcz11_2
  try clear hcz12_0
  try clear hcz12_1
  try clear hcz12_2
  try clear hcz5_0
  try clear hcz5_1
  try clear hcz5_2
  try clear hcz7_0
  try clear hcz7_1
  try clear hcz7_2
  try clear hcz9_0
  try clear hcz9_1
  try clear hcz9_2
  try clear hfz11_0
  try clear hfz11_1
  try clear hfz11_2
  try clear hfz12_0
  try clear hfz12_1
  try clear hfz12_2
  try clear hfz5_0
  try clear hfz5_1
  try clear hfz5_2
  try clear hfz7_0
  try clear hfz7_1
  try clear hfz7_2
  try clear hfz9_0
  try clear hfz9_1
  try clear hfz9_2
  obtain ⟨kq, x28_1, rfl, HA, HJ1, BK174, HB⟩ := hcut
  cases kq with
  | zero => exact absurd HA.out (by simp [leap_Check.j0])
  | succ kj1 =>
   have H := HA.out
   clear HA
   simp only [leap_Check.j0] at H
   by_cases c13 : x28_1 = true
   ·subst c13
    have H1 : (some (some 1)) = some r := by rw [if_pos rfl] at H; exact H
    clear H
    have H := H1
    clear H1
    as_aux_lemma =>
     obtain rfl := Option.some.inj H
     go_wp2
     go_ret
     exact ⟨by first | rfl | (simp [errW_none, errW_some] <;> rfl) | (simp [*, errW_none, errW_some] <;> rfl), by repeat (first | (with_reducible first | exact HB.out | apply qpA | apply qpN | apply qp1 | refine qpS ?_ GE174.out) | exact HB.out)⟩
   ·replace c13 := Bool.eq_false_iff.mpr c13
    subst c13
    have H1 : (leap_Check.l0 kj1 l0_2 (l0_2.length : Int) 0 a0_0 a0_1 l0_2) = some r := by rw [if_neg (show ¬ (false = true) by decide)] at H; exact H
    clear H
    have H := H1
    clear H1
    have H' := qS H
    clear H
    have hcz14_0 : wc.cell? ⟨gb174, 0, none⟩ = some (.int .i64 a0_0) := (qC BK174.out 0).trans rfl
    have hcz14_1 : wc.cell? ⟨gb174, 1, none⟩ = some (.int .i64 a0_1) := (qC BK174.out 1).trans rfl
    have hcz14_2 : wc.cell? ⟨gb174, 2, none⟩ = some (.slice A0_2 l0_2.length c0_2) := (qC BK174.out 2).trans rfl
    have hfz14_0 := qF BK174.out 0
    have hfz14_1 := qF BK174.out 1
    have hfz14_2 := qF BK174.out 2
    go_wp2
    go_loopg [33] kj1 (fun kq v33 w' => ∃ (x33_2 : Int), v33 = .int .i64 x33_2 ∧ Aside0 (leap_Check.l0 kq l0_2 (l0_2.length : Int) x33_2 a0_0 a0_1 l0_2 = some r) ∧ Aside0 (kq ≤ kj1) ∧ Aside0 (w'.heap[gb174]? = some (.cells #[.int .i64 a0_0, .int .i64 a0_1, (.slice A0_2 l0_2.length c0_2)] 96 (0, 0))) ∧ Aside0 (Below w.heap.size w w'))
    case atStart => exact ⟨(0), (by first | rfl | (simp; done) | (simp [*]; done)), H', ⟨Nat.le_refl _⟩, ⟨by (with_reducible repeat (first | refine qN ?_ _ | refine qD ?_ | refine qA ?_ _)); exact BK174.out⟩, ⟨by repeat (first | (with_reducible first | exact HB.out | apply qpA | apply qpN | apply qp1 | refine qpS ?_ GE174.out) | exact HB.out)⟩⟩
    case round =>
     clear H'
     try clear c1
     try clear p2
     try clear c4
     try clear c4b0
     try clear c5
     try clear c6
     try clear c6b0
     try clear c8
     try clear c8b0
     try clear c10
     try clear c10b0
     try clear c13
     try clear hcz11_0
     try clear hcz11_1
     try clear hcz11_2
     try clear hcz12_0
     try clear hcz12_1
     try clear hcz12_2
     try clear hcz14_0
     try clear hcz14_1
     try clear hcz14_2
     try clear hcz5_0
     try clear hcz5_1
     try clear hcz5_2
     try clear hcz7_0
     try clear hcz7_1
     try clear hcz7_2
     try clear hcz9_0
     try clear hcz9_1
     try clear hcz9_2
     try clear hfz11_0
     try clear hfz11_1
     try clear hfz11_2
     try clear hfz12_0
     try clear hfz12_1
     try clear hfz12_2
     try clear hfz14_0
     try clear hfz14_1
     try clear hfz14_2
     try clear hfz5_0
     try clear hfz5_1
     try clear hfz5_2
     try clear hfz7_0
     try clear hfz7_1
     try clear hfz7_2
     try clear hfz9_0
     try clear hfz9_1
     try clear hfz9_2
     try clear p2
     obtain ⟨x33_2, rfl, HA, HK2, BK174, HB⟩ := hrel
     cases gk with
     | zero => exact absurd HA.out (by simp [leap_Check.l0])
     | succ k2 =>
      have H := HA.out
      clear HA
      simp only [leap_Check.l0] at H
      by_cases c15 : x33_2 < (l0_2.length : Int)
      ·rw [if_pos c15] at H
       have c15b0 : decide (x33_2 < (l0_2.length : Int)) = true := decide_eq_true c15
       clear c15
       by_cases c16 : 0 ≤ x33_2
       ·rw [if_pos c16] at H
        have c16b0 : decide (0 ≤ x33_2) = true := decide_eq_true c16
        clear c16
        by_cases c17 : x33_2 < (l0_2.length : Int)
        ·rw [if_pos c17] at H
         have c17b0 : decide (x33_2 < (l0_2.length : Int)) = true := decide_eq_true c17
         clear c17
         by_cases c18 : (rd l0_2 x33_2) < (-50000)
         ·rw [if_pos c18] at H
          have c18b0 : decide ((rd l0_2 x33_2) < (-50000)) = true := decide_eq_true c18
          clear c18
          as_aux_lemma =>
           obtain rfl := Option.some.inj H
           have p175 : 0 ≤ (x33_2 : Int) := of_decide_eq_true (by first | (with_reducible assumption) | assumption)
           have q175 : x33_2 < (l0_2.length : Int) := of_decide_eq_true (by first | (with_reducible assumption) | assumption)
           obtain ⟨ad175, e175, hx175_0⟩ := Kd.at_int HR0_2.out x33_2 p175 q175
           cases e175
           replace hx175_0 := (HB.out.cell (World.block_lt_of_cell? w _ hx175_0)).trans hx175_0
           replace p175 := eq_true p175
           replace q175 := eq_true q175
           go_wp2
           go_ret
           exact ⟨by first | rfl | (simp [errW_none, errW_some] <;> rfl) | (simp [*, errW_none, errW_some] <;> rfl), by repeat (first | (with_reducible first | exact HB.out | apply qpA | apply qpN | apply qp1 | refine qpS ?_ GE174.out) | exact HB.out)⟩
         ·rw [if_neg c18] at H
          have c18b0 : decide ((rd l0_2 x33_2) < (-50000)) = false := decide_eq_false c18
          clear c18
          by_cases c19 : (rd l0_2 x33_2) ≥ a0_1
          ·rw [if_pos c19] at H
           have c19b0 : decide (a0_1 ≤ (rd l0_2 x33_2)) = true := decide_eq_true c19
           clear c19
           as_aux_lemma =>
            obtain rfl := Option.some.inj H
            have p175 : 0 ≤ (x33_2 : Int) := of_decide_eq_true (by first | (with_reducible assumption) | assumption)
            have q175 : x33_2 < (l0_2.length : Int) := of_decide_eq_true (by first | (with_reducible assumption) | assumption)
            obtain ⟨ad175, e175, hx175_0⟩ := Kd.at_int HR0_2.out x33_2 p175 q175
            cases e175
            replace hx175_0 := (HB.out.cell (World.block_lt_of_cell? w _ hx175_0)).trans hx175_0
            replace p175 := eq_true p175
            replace q175 := eq_true q175
            have hcz20_0 : wr.cell? ⟨gb174, 0, none⟩ = some (.int .i64 a0_0) := (qC BK174.out 0).trans rfl
            have hcz20_1 : wr.cell? ⟨gb174, 1, none⟩ = some (.int .i64 a0_1) := (qC BK174.out 1).trans rfl
            have hcz20_2 : wr.cell? ⟨gb174, 2, none⟩ = some (.slice (some ad175) l0_2.length c0_2) := (qC BK174.out 2).trans rfl
            have hfz20_0 := qF BK174.out 0
            have hfz20_1 := qF BK174.out 1
            have hfz20_2 := qF BK174.out 2
            go_wp2
            go_ret
            exact ⟨by first | rfl | (simp [errW_none, errW_some] <;> rfl) | (simp [*, errW_none, errW_some] <;> rfl), by repeat (first | (with_reducible first | exact HB.out | apply qpA | apply qpN | apply qp1 | refine qpS ?_ GE174.out) | exact HB.out)⟩
          ·rw [if_neg c19] at H
           have c19b0 : decide (a0_1 ≤ (rd l0_2 x33_2)) = false := decide_eq_false c19
           clear c19
           by_cases c21 : x33_2 > 0
           ·rw [if_pos c21] at H
            have c21b0 : decide (0 < x33_2) = true := decide_eq_true c21
            clear c21
            obtain ⟨ji22, hji22⟩ : ∃ j_ : Int, (wrap64 (x33_2 - 1)) = j_ := ⟨_, rfl⟩
            replace H : (if 0 ≤ (ji22) then (if (ji22) < (l0_2.length : Int) then (if (rd l0_2 (ji22)) ≥ (rd l0_2 x33_2) then (some (some 1)) else (leap_Check.l0 k2 l0_2 (l0_2.length : Int) (wrap64 (x33_2 + 1)) a0_0 a0_1 l0_2)) else (none)) else (none)) = some r := by first | (rw [hji22] at H; exact H) | (simp only [hji22] at H ⊢; exact H)
            have hji22w : (IntKind.i64.wrap (x33_2 - 1)) = ji22 := (i64_w _).trans hji22
            by_cases c23 : 0 ≤ (ji22)
            ·rw [if_pos c23] at H
             have c23b0 : decide (0 ≤ (ji22)) = true := decide_eq_true c23
             clear c23
             by_cases c24 : (ji22) < (l0_2.length : Int)
             ·rw [if_pos c24] at H
              have c24b0 : decide ((ji22) < (l0_2.length : Int)) = true := decide_eq_true c24
              clear c24
              by_cases c25 : (rd l0_2 (ji22)) ≥ (rd l0_2 x33_2)
              ·rw [if_pos c25] at H
               have c25b0 : decide ((rd l0_2 x33_2) ≤ (rd l0_2 (ji22))) = true := decide_eq_true c25
               clear c25
               as_aux_lemma =>
                obtain rfl := Option.some.inj H
                have p175 : 0 ≤ (x33_2 : Int) := of_decide_eq_true (by first | (with_reducible assumption) | assumption)
                have q175 : x33_2 < (l0_2.length : Int) := of_decide_eq_true (by first | (with_reducible assumption) | assumption)
                obtain ⟨ad175, e175, hx175_0⟩ := Kd.at_int HR0_2.out x33_2 p175 q175
                cases e175
                replace hx175_0 := (HB.out.cell (World.block_lt_of_cell? w _ hx175_0)).trans hx175_0
                replace p175 := eq_true p175
                replace q175 := eq_true q175
                have hcz26_0 : wr.cell? ⟨gb174, 0, none⟩ = some (.int .i64 a0_0) := (qC BK174.out 0).trans rfl
                have hcz26_1 : wr.cell? ⟨gb174, 1, none⟩ = some (.int .i64 a0_1) := (qC BK174.out 1).trans rfl
                have hcz26_2 : wr.cell? ⟨gb174, 2, none⟩ = some (.slice (some ad175) l0_2.length c0_2) := (qC BK174.out 2).trans rfl
                have hfz26_0 := qF BK174.out 0
                have hfz26_1 := qF BK174.out 1
                have hfz26_2 := qF BK174.out 2
                have p176 : 0 ≤ ((ji22) : Int) := of_decide_eq_true (by first | (with_reducible assumption) | assumption)
                have q176 : (ji22) < (l0_2.length : Int) := of_decide_eq_true (by first | (with_reducible assumption) | assumption)
                obtain ⟨ad176, e176, hx176_0⟩ := Kd.at_int HR0_2.out (ji22) p176 q176
                obtain rfl : ad175 = ad176 := (by injection e176)
                replace hx176_0 := (HB.out.cell (World.block_lt_of_cell? w _ hx176_0)).trans hx176_0
                replace p176 := eq_true p176
                replace q176 := eq_true q176
                go_wp2
                go_ret
                exact ⟨by first | rfl | (simp [errW_none, errW_some] <;> rfl) | (simp only [← hji22]; first | rfl | (simp [errW_none, errW_some] <;> rfl)) | (simp [*, errW_none, errW_some] <;> rfl), by repeat (first | (with_reducible first | exact HB.out | apply qpA | apply qpN | apply qp1 | refine qpS ?_ GE174.out) | exact HB.out)⟩
              ·rw [if_neg c25] at H
               have c25b0 : decide ((rd l0_2 x33_2) ≤ (rd l0_2 (ji22))) = false := decide_eq_false c25
               clear c25
               as_aux_lemma =>
                have H' := qS H
                clear H
                have p175 : 0 ≤ (x33_2 : Int) := of_decide_eq_true (by first | (with_reducible assumption) | assumption)
                have q175 : x33_2 < (l0_2.length : Int) := of_decide_eq_true (by first | (with_reducible assumption) | assumption)
                obtain ⟨ad175, e175, hx175_0⟩ := Kd.at_int HR0_2.out x33_2 p175 q175
                cases e175
                replace hx175_0 := (HB.out.cell (World.block_lt_of_cell? w _ hx175_0)).trans hx175_0
                replace p175 := eq_true p175
                replace q175 := eq_true q175
                have hcz27_0 : wr.cell? ⟨gb174, 0, none⟩ = some (.int .i64 a0_0) := (qC BK174.out 0).trans rfl
                have hcz27_1 : wr.cell? ⟨gb174, 1, none⟩ = some (.int .i64 a0_1) := (qC BK174.out 1).trans rfl
                have hcz27_2 : wr.cell? ⟨gb174, 2, none⟩ = some (.slice (some ad175) l0_2.length c0_2) := (qC BK174.out 2).trans rfl
                have hfz27_0 := qF BK174.out 0
                have hfz27_1 := qF BK174.out 1
                have hfz27_2 := qF BK174.out 2
                have p176 : 0 ≤ ((ji22) : Int) := of_decide_eq_true (by first | (with_reducible assumption) | assumption)
                have q176 : (ji22) < (l0_2.length : Int) := of_decide_eq_true (by first | (with_reducible assumption) | assumption)
                obtain ⟨ad176, e176, hx176_0⟩ := Kd.at_int HR0_2.out (ji22) p176 q176
                obtain rfl : ad175 = ad176 := (by injection e176)
                replace hx176_0 := (HB.out.cell (World.block_lt_of_cell? w _ hx176_0)).trans hx176_0
                replace p176 := eq_true p176
                replace q176 := eq_true q176
                go_wp2
                go_roundg k2
                case measure => have := HJ1.out; have := HK2.out; omega
                case rel => exact ⟨(wrap64 (x33_2 + 1)), (by first | rfl | (simp; done) | (simp [*]; done)), H', ⟨by have := HJ1.out; have := HK2.out; omega⟩, ⟨by (with_reducible repeat (first | refine qN ?_ _ | refine qD ?_ | refine qA ?_ _)); exact BK174.out⟩, ⟨by repeat (first | (with_reducible first | exact HB.out | apply qpA | apply qpN | apply qp1 | refine qpS ?_ GE174.out) | exact HB.out)⟩⟩
             ·rw [if_neg c24] at H
              exact absurd H (by simp)
            ·rw [if_neg c23] at H
             exact absurd H (by simp)
           ·rw [if_neg c21] at H
            have c21b0 : decide (0 < x33_2) = false := decide_eq_false c21
            clear c21
            as_aux_lemma =>
             have H' := qS H
             clear H
             have p175 : 0 ≤ (x33_2 : Int) := of_decide_eq_true (by first | (with_reducible assumption) | assumption)
             have q175 : x33_2 < (l0_2.length : Int) := of_decide_eq_true (by first | (with_reducible assumption) | assumption)
             obtain ⟨ad175, e175, hx175_0⟩ := Kd.at_int HR0_2.out x33_2 p175 q175
             cases e175
             replace hx175_0 := (HB.out.cell (World.block_lt_of_cell? w _ hx175_0)).trans hx175_0
             replace p175 := eq_true p175
             replace q175 := eq_true q175
             have hcz28_0 : wr.cell? ⟨gb174, 0, none⟩ = some (.int .i64 a0_0) := (qC BK174.out 0).trans rfl
             have hcz28_1 : wr.cell? ⟨gb174, 1, none⟩ = some (.int .i64 a0_1) := (qC BK174.out 1).trans rfl
             have hcz28_2 : wr.cell? ⟨gb174, 2, none⟩ = some (.slice (some ad175) l0_2.length c0_2) := (qC BK174.out 2).trans rfl
             have hfz28_0 := qF BK174.out 0
             have hfz28_1 := qF BK174.out 1
             have hfz28_2 := qF BK174.out 2
             go_wp2
             go_roundg k2
             case measure => have := HJ1.out; have := HK2.out; omega
             case rel => exact ⟨(wrap64 (x33_2 + 1)), (by first | rfl | (simp; done) | (simp [*]; done)), H', ⟨by have := HJ1.out; have := HK2.out; omega⟩, ⟨by (with_reducible repeat (first | refine qN ?_ _ | refine qD ?_ | refine qA ?_ _)); exact BK174.out⟩, ⟨by repeat (first | (with_reducible first | exact HB.out | apply qpA | apply qpN | apply qp1 | refine qpS ?_ GE174.out) | exact HB.out)⟩⟩
        ·rw [if_neg c17] at H
         exact absurd H (by simp)
       ·rw [if_neg c16] at H
        exact absurd H (by simp)
      ·rw [if_neg c15] at H
       have c15b0 : decide (x33_2 < (l0_2.length : Int)) = false := decide_eq_false c15
       clear c15
       as_aux_lemma =>
        obtain rfl := Option.some.inj H
        go_wp2
        go_ret
        exact ⟨by first | rfl | (simp [errW_none, errW_some] <;> rfl) | (simp [*, errW_none, errW_some] <;> rfl), by repeat (first | (with_reducible first | exact HB.out | apply qpA | apply qpN | apply qp1 | refine qpS ?_ GE174.out) | exact HB.out)⟩

end Go.Proofs.YtnlaiiophongmaaDoor.MCb
