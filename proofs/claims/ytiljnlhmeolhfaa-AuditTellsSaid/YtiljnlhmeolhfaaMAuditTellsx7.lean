/- Printed by wip/gen/mp.py: Go functions as plain Lean functions, and that the calls do what these say. -/
import Derived.Test.YtiljnlhmeolhfaaMAuditTellsx0
import Derived.Test.YtiljnlhmeolhfaaMAuditTellsx6
namespace Go.Proofs.Ytiljnlhmeolhfaa.MAuditTells
open Go.RowKit Go.Proofs.YtiljnlhmeolhfaaW.PrintWords Go.Proofs.YtiljnlhmeolhfaaW.PrintLast Go.Proofs.YtiljnlhmeolhfaaW.PrintMore
attribute [local go_sem] max2_int min2_int max_two min_two max_three min_three max_four min_four   -- for this text's walks alone
set_option linter.unusedVariables false
set_option linter.unusedSimpArgs false

/-! ### fuseeref38_Coarse: function 21 -/
def fuseeref38_Coarse.l0 : Nat → List (S68) → ByteArray → Int → Option (Int)
 | 0, _, _, _ => none
 | k + 1, x0, x1, x5 => if x5 < (x0.length : Int) then (if 0 ≤ x5 then (if ((rd_T68 x0 x5).f1).toList = x1.toList then ((fuseeref24_Down.f k ((rd_T68 x0 x5).f4.f0) ((rd_T68 x0 x5).f3)).bind fun bt197 => (if bt197.2 = 0 then (if bt197.1 = ((rd_T68 x0 x5).f4.f0) then (fuseeref38_Coarse.l0 k x0 x1 (wrap64 (x5 + 1))) else (some x5)) else (some x5))) else (fuseeref38_Coarse.l0 k x0 x1 (wrap64 (x5 + 1)))) else (none)) else (some (-1))
def fuseeref38_Coarse.f (k : Nat) (l0 : List (S68)) (a1 : ByteArray) : Option (Int) := fuseeref38_Coarse.l0 k l0 a1 0
theorem fuseeref38_Coarse.mono_l : ∀ k, (∀ y0 y1 y2, LeO (fuseeref38_Coarse.l0 k y0 y1 y2) (fuseeref38_Coarse.l0 (k + 1) y0 y1 y2))
 | 0 => fun _ _ _ r h => by simp [fuseeref38_Coarse.l0] at h
 | k + 1 => by
  have ih0 := fuseeref38_Coarse.mono_l k
  ·intro y0 y1 y2
   unfold fuseeref38_Coarse.l0
   repeat' first
   | (with_reducible exact ih0 _ _ _)
   | (with_reducible exact fuseeref24_Down.mono _ _ _)
   | (with_reducible exact LeO.refl _)
   | (with_reducible exact LeO.none _)
   | (with_reducible refine LeO.ite ?_ ?_)
   | (with_reducible refine LeO.bind ?_ (fun _ => ?_))
   | exact ih0 _ _ _
   | exact fuseeref24_Down.mono _ _ _
   | exact LeO.none _
   | refine LeO.ite ?_ ?_
   | refine LeO.bind ?_ (fun _ => ?_)
theorem fuseeref38_Coarse.mono : ∀ a0 a1 k, LeO (fuseeref38_Coarse.f k a0 a1) (fuseeref38_Coarse.f (k + 1) a0 a1) := by
 intro a0 a1 k
 have ih0 := fuseeref38_Coarse.mono_l k
 unfold fuseeref38_Coarse.f
 repeat' first
   | (with_reducible exact ih0 _ _ _)
   | (with_reducible exact fuseeref24_Down.mono _ _ _)
   | (with_reducible exact LeO.refl _)
   | (with_reducible exact LeO.none _)
   | (with_reducible refine LeO.ite ?_ ?_)
   | (with_reducible refine LeO.bind ?_ (fun _ => ?_))
   | exact ih0 _ _ _
   | exact fuseeref24_Down.mono _ _ _
   | exact LeO.none _
   | refine LeO.ite ?_ ?_
   | refine LeO.bind ?_ (fun _ => ?_)
set_option maxHeartbeats 8000000 in
set_option maxRecDepth 100000 in
theorem fuseeref38_Coarse.calls (k : Nat) (A0 : Option Addr) (c0 : Nat) (l0 : List (S68)) (a1 : ByteArray) (r : Int) (w : World) (hr0 : Kd.C k68 w A0 l0.length l0) (hc0 : l0.length ≤ c0) (h : fuseeref38_Coarse.f k l0 a1 = some r) :
  Calls Try.prog 21 #[.slice A0 l0.length c0, .string a1] w fun e w' => e = .returned (.int .i64 r) ∧ Drawn0 w w' := by
 have HR0 := qS hr0
 have HC0 := qS hc0
 clear hr0 hc0
 have H : (fuseeref38_Coarse.l0 k l0 a1 0) = some r := h
 clear h
 have H' := qS H
 clear H
 go_enter Try.func21, Try.ntmps21
 go_wp2
 repeat (go_quiet (fail); try go_wp2)
 go_loopg [5] k (fun kq v5 w' => ∃ (x5_1 : Int), v5 = .int .i64 x5_1 ∧ Aside0 (fuseeref38_Coarse.l0 kq l0 a1 x5_1 = some r) ∧ Aside0 (kq ≤ k) ∧ Drawn0 w w')
 case atStart => exact ⟨(0), (by first | rfl | (simp; done) | (simp [*]; done)), H', ⟨Nat.le_refl _⟩, by repeat (first | exact Drawn0.refl _ | apply Drawn0.step)⟩
 case round =>
  clear H'
  try clear c2
  try clear p2
  obtain ⟨x5_1, rfl, HA, HK1, ⟨m1, rfl⟩⟩ := hrel
  cases gk with
  | zero => exact absurd HA.out (by simp [fuseeref38_Coarse.l0])
  | succ k1 =>
   have H := HA.out
   clear HA
   simp only [fuseeref38_Coarse.l0] at H
   by_cases c3 : x5_1 < (l0.length : Int)
   ·rw [if_pos c3] at H
    have c3b0 : decide (x5_1 < (l0.length : Int)) = true := decide_eq_true c3
    clear c3
    by_cases c4 : 0 ≤ x5_1
    ·rw [if_pos c4] at H
     have c4b0 : decide (0 ≤ x5_1) = true := decide_eq_true c4
     clear c4
     by_cases c5 : ((rd_T68 l0 x5_1).f1).toList = a1.toList
     ·rw [if_pos c5] at H
      have c5b0 : (((rd_T68 l0 x5_1).f1).toList == a1.toList) = true := beq_iff_eq.mpr c5
      have c5b1 : (((rd_T68 l0 x5_1).f1).toList != a1.toList) = false := bne_eq_false_iff_eq.mpr c5
      clear c5
      replace H := Option.bind_eq_some_iff.mp H
      obtain ⟨⟨t197, t198⟩, A60, H⟩ := H
      replace H : (if t198 = 0 then (if t197 = ((rd_T68 l0 x5_1).f4.f0) then (fuseeref38_Coarse.l0 k1 l0 a1 (wrap64 (x5_1 + 1))) else (some x5_1)) else (some x5_1)) = some r := H
      have A6 := qS A60
      clear A60
      by_cases c7 : t198 = 0
      ·rw [if_pos c7] at H
       have c7b0 : (t198 == 0) = true := beq_iff_eq.mpr c7
       have c7b1 : (t198 != 0) = false := bne_eq_false_iff_eq.mpr c7
       clear c7
       by_cases c8 : t197 = ((rd_T68 l0 x5_1).f4.f0)
       ·rw [if_pos c8] at H
        have c8b0 : (t197 == ((rd_T68 l0 x5_1).f4.f0)) = true := beq_iff_eq.mpr c8
        have c8b1 : (t197 != ((rd_T68 l0 x5_1).f4.f0)) = false := bne_eq_false_iff_eq.mpr c8
        clear c8
        have H' := qS H
        clear H
        have p194 : 0 ≤ (x5_1 : Int) := of_decide_eq_true (by first | (with_reducible assumption) | assumption)
        have q194 : x5_1 < (l0.length : Int) := of_decide_eq_true (by first | (with_reducible assumption) | assumption)
        obtain ⟨ad194, e194, hx194_0, hx194_1, hx194_2, hx194_3, hx194_4, hx194_5, hx194_6, hx194_7, hx194_8, hx194_9⟩ := at_T68 HR0.out x5_1 p194 q194
        cases e194
        replace p194 := eq_true p194
        replace q194 := eq_true q194
        have p195 : 0 ≤ (x5_1 : Int) := of_decide_eq_true (by first | (with_reducible assumption) | assumption)
        have q195 : x5_1 < (l0.length : Int) := of_decide_eq_true (by first | (with_reducible assumption) | assumption)
        obtain ⟨ad195, e195, hx195_0, hx195_1, hx195_2, hx195_3, hx195_4, hx195_5, hx195_6, hx195_7, hx195_8, hx195_9⟩ := at_T68 HR0.out x5_1 p195 q195
        obtain rfl : ad194 = ad195 := (by injection e195)
        replace p195 := eq_true p195
        replace q195 := eq_true q195
        have p196 : 0 ≤ (x5_1 : Int) := of_decide_eq_true (by first | (with_reducible assumption) | assumption)
        have q196 : x5_1 < (l0.length : Int) := of_decide_eq_true (by first | (with_reducible assumption) | assumption)
        obtain ⟨ad196, e196, hx196_0, hx196_1, hx196_2, hx196_3, hx196_4, hx196_5, hx196_6, hx196_7, hx196_8, hx196_9⟩ := at_T68 HR0.out x5_1 p196 q196
        obtain rfl : ad194 = ad196 := (by injection e196)
        replace p196 := eq_true p196
        replace q196 := eq_true q196
        go_wp2_with (first | (go_at_call 43; (with_reducible refine (fuseeref24_Down.calls k1 ((rd_T68 l0 x5_1).f4.f0) ((rd_T68 l0 x5_1).f3) t197 t198 _ A6.out).mono ?_); rintro e w' ⟨rfl, ⟨nd, rfl⟩⟩; (try first | exact ⟨rfl, _, World.drewN_drewN _ _ _⟩ | exact ⟨rfl, _, Eq.trans (World.drewN_drewN _ _ _) (congrArg (World.drewN _) (Nat.add_assoc _ _ _))⟩); have p199 : 0 ≤ (x5_1 : Int) := of_decide_eq_true (by first | (with_reducible assumption) | assumption); have q199 : x5_1 < (l0.length : Int) := of_decide_eq_true (by first | (with_reducible assumption) | assumption); obtain ⟨ad199, e199, hx199_0, hx199_1, hx199_2, hx199_3, hx199_4, hx199_5, hx199_6, hx199_7, hx199_8, hx199_9⟩ := at_T68 HR0.out x5_1 p199 q199; obtain rfl : ad194 = ad199 := (by injection e199); replace p199 := eq_true p199; replace q199 := eq_true q199))
        repeat (go_quiet (first | (go_at_call 43; (with_reducible refine (fuseeref24_Down.calls k1 ((rd_T68 l0 x5_1).f4.f0) ((rd_T68 l0 x5_1).f3) t197 t198 _ A6.out).mono ?_); rintro e w' ⟨rfl, ⟨nd, rfl⟩⟩; (try first | exact ⟨rfl, _, World.drewN_drewN _ _ _⟩ | exact ⟨rfl, _, Eq.trans (World.drewN_drewN _ _ _) (congrArg (World.drewN _) (Nat.add_assoc _ _ _))⟩); have p199 : 0 ≤ (x5_1 : Int) := of_decide_eq_true (by first | (with_reducible assumption) | assumption); have q199 : x5_1 < (l0.length : Int) := of_decide_eq_true (by first | (with_reducible assumption) | assumption); obtain ⟨ad199, e199, hx199_0, hx199_1, hx199_2, hx199_3, hx199_4, hx199_5, hx199_6, hx199_7, hx199_8, hx199_9⟩ := at_T68 HR0.out x5_1 p199 q199; obtain rfl : ad194 = ad199 := (by injection e199); replace p199 := eq_true p199; replace q199 := eq_true q199)); try go_wp2_with (first | (go_at_call 43; (with_reducible refine (fuseeref24_Down.calls k1 ((rd_T68 l0 x5_1).f4.f0) ((rd_T68 l0 x5_1).f3) t197 t198 _ A6.out).mono ?_); rintro e w' ⟨rfl, ⟨nd, rfl⟩⟩; (try first | exact ⟨rfl, _, World.drewN_drewN _ _ _⟩ | exact ⟨rfl, _, Eq.trans (World.drewN_drewN _ _ _) (congrArg (World.drewN _) (Nat.add_assoc _ _ _))⟩); have p199 : 0 ≤ (x5_1 : Int) := of_decide_eq_true (by first | (with_reducible assumption) | assumption); have q199 : x5_1 < (l0.length : Int) := of_decide_eq_true (by first | (with_reducible assumption) | assumption); obtain ⟨ad199, e199, hx199_0, hx199_1, hx199_2, hx199_3, hx199_4, hx199_5, hx199_6, hx199_7, hx199_8, hx199_9⟩ := at_T68 HR0.out x5_1 p199 q199; obtain rfl : ad194 = ad199 := (by injection e199); replace p199 := eq_true p199; replace q199 := eq_true q199)))
        go_roundg k1
        case measure => have := HK1.out; omega
        case rel => exact ⟨(wrap64 (x5_1 + 1)), (by first | rfl | (simp; done) | (simp [*]; done)), H', ⟨by have := HK1.out; omega⟩, by repeat (first | exact Drawn0.refl _ | apply Drawn0.step)⟩
       ·rw [if_neg c8] at H
        have c8b0 : (t197 == ((rd_T68 l0 x5_1).f4.f0)) = false := beq_eq_false_iff_ne.mpr c8
        have c8b1 : (t197 != ((rd_T68 l0 x5_1).f4.f0)) = true := bne_iff_ne.mpr c8
        obtain rfl := Option.some.inj H
        have p194 : 0 ≤ (x5_1 : Int) := of_decide_eq_true (by first | (with_reducible assumption) | assumption)
        have q194 : x5_1 < (l0.length : Int) := of_decide_eq_true (by first | (with_reducible assumption) | assumption)
        obtain ⟨ad194, e194, hx194_0, hx194_1, hx194_2, hx194_3, hx194_4, hx194_5, hx194_6, hx194_7, hx194_8, hx194_9⟩ := at_T68 HR0.out x5_1 p194 q194
        cases e194
        replace p194 := eq_true p194
        replace q194 := eq_true q194
        have p195 : 0 ≤ (x5_1 : Int) := of_decide_eq_true (by first | (with_reducible assumption) | assumption)
        have q195 : x5_1 < (l0.length : Int) := of_decide_eq_true (by first | (with_reducible assumption) | assumption)
        obtain ⟨ad195, e195, hx195_0, hx195_1, hx195_2, hx195_3, hx195_4, hx195_5, hx195_6, hx195_7, hx195_8, hx195_9⟩ := at_T68 HR0.out x5_1 p195 q195
        obtain rfl : ad194 = ad195 := (by injection e195)
        replace p195 := eq_true p195
        replace q195 := eq_true q195
        have p196 : 0 ≤ (x5_1 : Int) := of_decide_eq_true (by first | (with_reducible assumption) | assumption)
        have q196 : x5_1 < (l0.length : Int) := of_decide_eq_true (by first | (with_reducible assumption) | assumption)
        obtain ⟨ad196, e196, hx196_0, hx196_1, hx196_2, hx196_3, hx196_4, hx196_5, hx196_6, hx196_7, hx196_8, hx196_9⟩ := at_T68 HR0.out x5_1 p196 q196
        obtain rfl : ad194 = ad196 := (by injection e196)
        replace p196 := eq_true p196
        replace q196 := eq_true q196
        go_wp2_with (first | (go_at_call 43; (with_reducible refine (fuseeref24_Down.calls k1 ((rd_T68 l0 x5_1).f4.f0) ((rd_T68 l0 x5_1).f3) t197 t198 _ A6.out).mono ?_); rintro e w' ⟨rfl, ⟨nd, rfl⟩⟩; (try first | exact ⟨rfl, _, World.drewN_drewN _ _ _⟩ | exact ⟨rfl, _, Eq.trans (World.drewN_drewN _ _ _) (congrArg (World.drewN _) (Nat.add_assoc _ _ _))⟩); have p199 : 0 ≤ (x5_1 : Int) := of_decide_eq_true (by first | (with_reducible assumption) | assumption); have q199 : x5_1 < (l0.length : Int) := of_decide_eq_true (by first | (with_reducible assumption) | assumption); obtain ⟨ad199, e199, hx199_0, hx199_1, hx199_2, hx199_3, hx199_4, hx199_5, hx199_6, hx199_7, hx199_8, hx199_9⟩ := at_T68 HR0.out x5_1 p199 q199; obtain rfl : ad194 = ad199 := (by injection e199); replace p199 := eq_true p199; replace q199 := eq_true q199))
        repeat (go_quiet (first | (go_at_call 43; (with_reducible refine (fuseeref24_Down.calls k1 ((rd_T68 l0 x5_1).f4.f0) ((rd_T68 l0 x5_1).f3) t197 t198 _ A6.out).mono ?_); rintro e w' ⟨rfl, ⟨nd, rfl⟩⟩; (try first | exact ⟨rfl, _, World.drewN_drewN _ _ _⟩ | exact ⟨rfl, _, Eq.trans (World.drewN_drewN _ _ _) (congrArg (World.drewN _) (Nat.add_assoc _ _ _))⟩); have p199 : 0 ≤ (x5_1 : Int) := of_decide_eq_true (by first | (with_reducible assumption) | assumption); have q199 : x5_1 < (l0.length : Int) := of_decide_eq_true (by first | (with_reducible assumption) | assumption); obtain ⟨ad199, e199, hx199_0, hx199_1, hx199_2, hx199_3, hx199_4, hx199_5, hx199_6, hx199_7, hx199_8, hx199_9⟩ := at_T68 HR0.out x5_1 p199 q199; obtain rfl : ad194 = ad199 := (by injection e199); replace p199 := eq_true p199; replace q199 := eq_true q199)); try go_wp2_with (first | (go_at_call 43; (with_reducible refine (fuseeref24_Down.calls k1 ((rd_T68 l0 x5_1).f4.f0) ((rd_T68 l0 x5_1).f3) t197 t198 _ A6.out).mono ?_); rintro e w' ⟨rfl, ⟨nd, rfl⟩⟩; (try first | exact ⟨rfl, _, World.drewN_drewN _ _ _⟩ | exact ⟨rfl, _, Eq.trans (World.drewN_drewN _ _ _) (congrArg (World.drewN _) (Nat.add_assoc _ _ _))⟩); have p199 : 0 ≤ (x5_1 : Int) := of_decide_eq_true (by first | (with_reducible assumption) | assumption); have q199 : x5_1 < (l0.length : Int) := of_decide_eq_true (by first | (with_reducible assumption) | assumption); obtain ⟨ad199, e199, hx199_0, hx199_1, hx199_2, hx199_3, hx199_4, hx199_5, hx199_6, hx199_7, hx199_8, hx199_9⟩ := at_T68 HR0.out x5_1 p199 q199; obtain rfl : ad194 = ad199 := (by injection e199); replace p199 := eq_true p199; replace q199 := eq_true q199)))
        go_ret
        exact ⟨by first | rfl | (simp; done) | (simp [*]; done), by repeat (first | exact Drawn0.refl _ | apply Drawn0.step)⟩
      ·rw [if_neg c7] at H
       have c7b0 : (t198 == 0) = false := beq_eq_false_iff_ne.mpr c7
       have c7b1 : (t198 != 0) = true := bne_iff_ne.mpr c7
       obtain rfl := Option.some.inj H
       have p194 : 0 ≤ (x5_1 : Int) := of_decide_eq_true (by first | (with_reducible assumption) | assumption)
       have q194 : x5_1 < (l0.length : Int) := of_decide_eq_true (by first | (with_reducible assumption) | assumption)
       obtain ⟨ad194, e194, hx194_0, hx194_1, hx194_2, hx194_3, hx194_4, hx194_5, hx194_6, hx194_7, hx194_8, hx194_9⟩ := at_T68 HR0.out x5_1 p194 q194
       cases e194
       replace p194 := eq_true p194
       replace q194 := eq_true q194
       have p195 : 0 ≤ (x5_1 : Int) := of_decide_eq_true (by first | (with_reducible assumption) | assumption)
       have q195 : x5_1 < (l0.length : Int) := of_decide_eq_true (by first | (with_reducible assumption) | assumption)
       obtain ⟨ad195, e195, hx195_0, hx195_1, hx195_2, hx195_3, hx195_4, hx195_5, hx195_6, hx195_7, hx195_8, hx195_9⟩ := at_T68 HR0.out x5_1 p195 q195
       obtain rfl : ad194 = ad195 := (by injection e195)
       replace p195 := eq_true p195
       replace q195 := eq_true q195
       have p196 : 0 ≤ (x5_1 : Int) := of_decide_eq_true (by first | (with_reducible assumption) | assumption)
       have q196 : x5_1 < (l0.length : Int) := of_decide_eq_true (by first | (with_reducible assumption) | assumption)
       obtain ⟨ad196, e196, hx196_0, hx196_1, hx196_2, hx196_3, hx196_4, hx196_5, hx196_6, hx196_7, hx196_8, hx196_9⟩ := at_T68 HR0.out x5_1 p196 q196
       obtain rfl : ad194 = ad196 := (by injection e196)
       replace p196 := eq_true p196
       replace q196 := eq_true q196
       go_wp2_with (first | (go_at_call 43; (with_reducible refine (fuseeref24_Down.calls k1 ((rd_T68 l0 x5_1).f4.f0) ((rd_T68 l0 x5_1).f3) t197 t198 _ A6.out).mono ?_); rintro e w' ⟨rfl, ⟨nd, rfl⟩⟩; (try first | exact ⟨rfl, _, World.drewN_drewN _ _ _⟩ | exact ⟨rfl, _, Eq.trans (World.drewN_drewN _ _ _) (congrArg (World.drewN _) (Nat.add_assoc _ _ _))⟩)))
       repeat (go_quiet (first | (go_at_call 43; (with_reducible refine (fuseeref24_Down.calls k1 ((rd_T68 l0 x5_1).f4.f0) ((rd_T68 l0 x5_1).f3) t197 t198 _ A6.out).mono ?_); rintro e w' ⟨rfl, ⟨nd, rfl⟩⟩; (try first | exact ⟨rfl, _, World.drewN_drewN _ _ _⟩ | exact ⟨rfl, _, Eq.trans (World.drewN_drewN _ _ _) (congrArg (World.drewN _) (Nat.add_assoc _ _ _))⟩))); try go_wp2_with (first | (go_at_call 43; (with_reducible refine (fuseeref24_Down.calls k1 ((rd_T68 l0 x5_1).f4.f0) ((rd_T68 l0 x5_1).f3) t197 t198 _ A6.out).mono ?_); rintro e w' ⟨rfl, ⟨nd, rfl⟩⟩; (try first | exact ⟨rfl, _, World.drewN_drewN _ _ _⟩ | exact ⟨rfl, _, Eq.trans (World.drewN_drewN _ _ _) (congrArg (World.drewN _) (Nat.add_assoc _ _ _))⟩))))
       go_ret
       exact ⟨by first | rfl | (simp; done) | (simp [*]; done), by repeat (first | exact Drawn0.refl _ | apply Drawn0.step)⟩
     ·rw [if_neg c5] at H
      have c5b0 : (((rd_T68 l0 x5_1).f1).toList == a1.toList) = false := beq_eq_false_iff_ne.mpr c5
      have c5b1 : (((rd_T68 l0 x5_1).f1).toList != a1.toList) = true := bne_iff_ne.mpr c5
      have H' := qS H
      clear H
      have p194 : 0 ≤ (x5_1 : Int) := of_decide_eq_true (by first | (with_reducible assumption) | assumption)
      have q194 : x5_1 < (l0.length : Int) := of_decide_eq_true (by first | (with_reducible assumption) | assumption)
      obtain ⟨ad194, e194, hx194_0, hx194_1, hx194_2, hx194_3, hx194_4, hx194_5, hx194_6, hx194_7, hx194_8, hx194_9⟩ := at_T68 HR0.out x5_1 p194 q194
      cases e194
      replace p194 := eq_true p194
      replace q194 := eq_true q194
      go_wp2
      repeat (go_quiet (fail); try go_wp2)
      go_roundg k1
      case measure => have := HK1.out; omega
      case rel => exact ⟨(wrap64 (x5_1 + 1)), (by first | rfl | (simp; done) | (simp [*]; done)), H', ⟨by have := HK1.out; omega⟩, by repeat (first | exact Drawn0.refl _ | apply Drawn0.step)⟩
    ·rw [if_neg c4] at H
     exact absurd H (by simp)
   ·rw [if_neg c3] at H
    have c3b0 : decide (x5_1 < (l0.length : Int)) = false := decide_eq_false c3
    clear c3
    obtain rfl := Option.some.inj H
    go_wp2
    repeat (go_quiet (fail); try go_wp2)
    go_ret
    exact ⟨by first | rfl | (simp; done) | (simp [*]; done), by repeat (first | exact Drawn0.refl _ | apply Drawn0.step)⟩

/-! ### fuseeref01_Bounded: function 47 -/
def fuseeref01_Bounded.f (a0 : Int) (a1 : Int) : Option (Int) := if a1 > 0 then (some 9223372036854775807) else (if a1 < 0 then (some (-9223372036854775808)) else (some a0))
set_option maxHeartbeats 8000000 in
set_option maxRecDepth 100000 in
theorem fuseeref01_Bounded.calls (a0 : Int) (a1 : Int) (r : Int) (w : World) (h : fuseeref01_Bounded.f a0 a1 = some r) :
  Calls Try.prog 47 #[.int .i64 a0, .int .i64 a1] w fun e w' => e = .returned (.int .i64 r) ∧ Drawn0 w w' := by
 have H : (if a1 > 0 then (some 9223372036854775807) else (if a1 < 0 then (some (-9223372036854775808)) else (some a0))) = some r := h
 clear h
 by_cases c3 : a1 > 0
 ·rw [if_pos c3] at H
  have c3b0 : decide (0 < a1) = true := decide_eq_true c3
  clear c3
  obtain rfl := Option.some.inj H
  go_enter Try.func47, Try.ntmps47
  go_wp2
  go_ret
  exact ⟨by first | rfl | (simp; done) | (simp [*]; done), by repeat (first | exact Drawn0.refl _ | apply Drawn0.step)⟩
 ·rw [if_neg c3] at H
  have c3b0 : decide (0 < a1) = false := decide_eq_false c3
  clear c3
  by_cases c4 : a1 < 0
  ·rw [if_pos c4] at H
   have c4b0 : decide (a1 < 0) = true := decide_eq_true c4
   clear c4
   obtain rfl := Option.some.inj H
   go_enter Try.func47, Try.ntmps47
   go_wp2
   go_ret
   exact ⟨by first | rfl | (simp; done) | (simp [*]; done), by repeat (first | exact Drawn0.refl _ | apply Drawn0.step)⟩
  ·rw [if_neg c4] at H
   have c4b0 : decide (a1 < 0) = false := decide_eq_false c4
   clear c4
   obtain rfl := Option.some.inj H
   go_enter Try.func47, Try.ntmps47
   go_wp2
   go_ret
   exact ⟨by first | rfl | (simp; done) | (simp [*]; done), by repeat (first | exact Drawn0.refl _ | apply Drawn0.step)⟩

end Go.Proofs.Ytiljnlhmeolhfaa.MAuditTells
