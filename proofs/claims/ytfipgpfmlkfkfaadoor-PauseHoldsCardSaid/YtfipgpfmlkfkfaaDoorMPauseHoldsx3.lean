/- Printed by wip/gen/mp.py: Go functions as plain Lean functions, and that the calls do what these say. -/
import Derived.Test.YtfipgpfmlkfkfaaDoorMPauseHoldsx0
import Derived.Test.YtfipgpfmlkfkfaaDoorMPauseHoldsx1
import Derived.Test.YtfipgpfmlkfkfaaDoorMPauseHoldsx2
namespace Go.Proofs.YtfipgpfmlkfkfaaDoor.MPauseHolds
open Go.RowKit Go.Proofs.YtfipgpfmlkfkfaaDoorW.PrintWords Go.Proofs.YtfipgpfmlkfkfaaDoorW.PrintLast Go.Proofs.YtfipgpfmlkfkfaaDoorW.PrintMore
attribute [local go_sem] max2_int min2_int max_two min_two max_three min_three max_four min_four   -- for this text's walks alone
set_option linter.unusedVariables false
set_option linter.unusedSimpArgs false

/-! ### fuseelaw27_PauseHolds: function 11 -/
mutual
def fuseelaw27_PauseHolds.l0 : Nat → List (S96) → Int → Int → Int → Bool → Int → Int → Option (Bool)
 | 0, _, _, _, _, _, _, _ => none
 | k + 1, x0, x4, x5, x7, x165000, x165001, x165002 => if x7 < (x0.length : Int) then (fuseelaw27_PauseHolds.j1 k x0 x4 x5 x7 (decide (x7 < 60)) x165000 x165001 x165002) else (fuseelaw27_PauseHolds.j1 k x0 x4 x5 x7 false x165000 x165001 x165002)
def fuseelaw27_PauseHolds.j1 : Nat → List (S96) → Int → Int → Int → Bool → Bool → Int → Int → Option (Bool)
 | 0, _, _, _, _, _, _, _, _ => none
 | k + 1, x0, x4, x5, x7, x33, x165000, x165001, x165002 => if x33 = true then (if 0 ≤ x7 then (if x7 < (x0.length : Int) then ((pause_View.f k x165000 x165001 x165002 (wrap64 (x4 + (wrap64 ((rd_T96 x0 x7).f0))))).bind fun bt170 => (if bt170.2.isNone = true then (if bt170.1 < x5 then (fuseelaw27_PauseHolds.j2 k x0 (wrap64 (x4 + (wrap64 ((rd_T96 x0 x7).f0)))) x7 x165000 bt170.1 true x165000 x165001 x165002) else (if x165000 = true then (if bt170.1 = x5 then (fuseelaw27_PauseHolds.j2 k x0 (wrap64 (x4 + (wrap64 ((rd_T96 x0 x7).f0)))) x7 x165000 bt170.1 false x165000 x165001 x165002) else (fuseelaw27_PauseHolds.j2 k x0 (wrap64 (x4 + (wrap64 ((rd_T96 x0 x7).f0)))) x7 x165000 bt170.1 true x165000 x165001 x165002)) else (fuseelaw27_PauseHolds.j2 k x0 (wrap64 (x4 + (wrap64 ((rd_T96 x0 x7).f0)))) x7 x165000 bt170.1 ((wrap64 (bt170.1 - x5)) != (wrap64 ((rd_T96 x0 x7).f0))) x165000 x165001 x165002))) else (fuseelaw27_PauseHolds.j2 k x0 (wrap64 (x4 + (wrap64 ((rd_T96 x0 x7).f0)))) x7 x165000 bt170.1 true x165000 x165001 x165002))) else (none)) else (none)) else ((fuseelaw27_sure.f k).bind fun t168 => (some t168))
def fuseelaw27_PauseHolds.j2 : Nat → List (S96) → Int → Int → Bool → Int → Bool → Bool → Int → Int → Option (Bool)
 | 0, _, _, _, _, _, _, _, _, _ => none
 | k + 1, x0, x4, x7, x8, x9, x82, x165000, x165001, x165002 => if x82 = true then (none) else (if 0 ≤ x7 then (if x7 < (x0.length : Int) then (if (Int.tmod ((rd_T96 x0 x7).f1) 3) = 0 then (fuseelaw27_PauseHolds.l0 k x0 x4 x9 (wrap64 (x7 + 1)) x165000 x165001 x165002) else (if x8 = true then ((pause_Go.f x165000 x165001 x165002 x4 ((Int.tmod ((rd_T96 x0 x7).f1) 3) == 2)).bind fun bt176 => (if bt176.2.2.2.isNone = true then ((pause_View.f k bt176.1 bt176.2.1 bt176.2.2.1 x4).bind fun bt182 => (if bt182.2.isNone = true then (if bt176.1 = true then (none) else (if bt182.1 < x9 then (none) else (if ((Int.tmod ((rd_T96 x0 x7).f1) 3) = 2) then (fuseelaw27_PauseHolds.l0 k x0 x4 bt182.1 (wrap64 (x7 + 1)) bt176.1 bt176.2.1 bt176.2.2.1) else (if bt182.1 = x9 then (fuseelaw27_PauseHolds.l0 k x0 x4 bt182.1 (wrap64 (x7 + 1)) bt176.1 bt176.2.1 bt176.2.2.1) else (none))))) else (none))) else (none))) else ((pause_Stop.f x165000 x165001 x165002 x4).bind fun bt185 => (if bt185.2.2.2.isNone = true then ((pause_View.f k bt185.1 bt185.2.1 bt185.2.2.1 x4).bind fun bt191 => (if bt191.2.isNone = true then (if bt185.1 = true then (if bt191.1 < x9 then (none) else (if bt191.1 = x9 then (fuseelaw27_PauseHolds.l0 k x0 x4 bt191.1 (wrap64 (x7 + 1)) bt185.1 bt185.2.1 bt185.2.2.1) else (none))) else (none)) else (none))) else (none))))) else (none)) else (none))
end
def fuseelaw27_PauseHolds.f (k : Nat) (l0 : List (S96)) : Option (Bool) := (pause_View.f k false 0 0 0).bind fun bt165 => (if bt165.2.isNone = true then (fuseelaw27_PauseHolds.l0 k l0 0 bt165.1 0 false 0 0) else (none))
theorem fuseelaw27_PauseHolds.mono_l : ∀ k, (∀ y0 y1 y2 y3 y4 y5 y6, LeO (fuseelaw27_PauseHolds.l0 k y0 y1 y2 y3 y4 y5 y6) (fuseelaw27_PauseHolds.l0 (k + 1) y0 y1 y2 y3 y4 y5 y6)) ∧ (∀ y0 y1 y2 y3 y4 y5 y6 y7, LeO (fuseelaw27_PauseHolds.j1 k y0 y1 y2 y3 y4 y5 y6 y7) (fuseelaw27_PauseHolds.j1 (k + 1) y0 y1 y2 y3 y4 y5 y6 y7)) ∧ (∀ y0 y1 y2 y3 y4 y5 y6 y7 y8, LeO (fuseelaw27_PauseHolds.j2 k y0 y1 y2 y3 y4 y5 y6 y7 y8) (fuseelaw27_PauseHolds.j2 (k + 1) y0 y1 y2 y3 y4 y5 y6 y7 y8))
 | 0 => ⟨fun _ _ _ _ _ _ _ r h => by simp [fuseelaw27_PauseHolds.l0] at h, fun _ _ _ _ _ _ _ _ r h => by simp [fuseelaw27_PauseHolds.j1] at h, fun _ _ _ _ _ _ _ _ _ r h => by simp [fuseelaw27_PauseHolds.j2] at h⟩
 | k + 1 => by
  obtain ⟨ih0, ih1, ih2⟩ := fuseelaw27_PauseHolds.mono_l k
  refine ⟨?_, ?_, ?_⟩
  ·intro y0 y1 y2 y3 y4 y5 y6
   unfold fuseelaw27_PauseHolds.l0
   repeat' first
   | (with_reducible exact ih0 _ _ _ _ _ _ _)
   | (with_reducible exact ih1 _ _ _ _ _ _ _ _)
   | (with_reducible exact ih2 _ _ _ _ _ _ _ _ _)
   | (with_reducible exact fuseelaw27_sure.mono _)
   | (with_reducible exact pause_View.mono _ _ _ _ _)
   | (with_reducible exact LeO.refl _)
   | (with_reducible exact LeO.none _)
   | (with_reducible refine LeO.ite ?_ ?_)
   | (with_reducible refine LeO.bind ?_ (fun _ => ?_))
   | exact ih0 _ _ _ _ _ _ _
   | exact ih1 _ _ _ _ _ _ _ _
   | exact ih2 _ _ _ _ _ _ _ _ _
   | exact fuseelaw27_sure.mono _
   | exact pause_View.mono _ _ _ _ _
   | exact LeO.none _
   | refine LeO.ite ?_ ?_
   | refine LeO.bind ?_ (fun _ => ?_)
  ·intro y0 y1 y2 y3 y4 y5 y6 y7
   unfold fuseelaw27_PauseHolds.j1
   repeat' first
   | (with_reducible exact ih0 _ _ _ _ _ _ _)
   | (with_reducible exact ih1 _ _ _ _ _ _ _ _)
   | (with_reducible exact ih2 _ _ _ _ _ _ _ _ _)
   | (with_reducible exact fuseelaw27_sure.mono _)
   | (with_reducible exact pause_View.mono _ _ _ _ _)
   | (with_reducible exact LeO.refl _)
   | (with_reducible exact LeO.none _)
   | (with_reducible refine LeO.ite ?_ ?_)
   | (with_reducible refine LeO.bind ?_ (fun _ => ?_))
   | exact ih0 _ _ _ _ _ _ _
   | exact ih1 _ _ _ _ _ _ _ _
   | exact ih2 _ _ _ _ _ _ _ _ _
   | exact fuseelaw27_sure.mono _
   | exact pause_View.mono _ _ _ _ _
   | exact LeO.none _
   | refine LeO.ite ?_ ?_
   | refine LeO.bind ?_ (fun _ => ?_)
  ·intro y0 y1 y2 y3 y4 y5 y6 y7 y8
   unfold fuseelaw27_PauseHolds.j2
   repeat' first
   | (with_reducible exact ih0 _ _ _ _ _ _ _)
   | (with_reducible exact ih1 _ _ _ _ _ _ _ _)
   | (with_reducible exact ih2 _ _ _ _ _ _ _ _ _)
   | (with_reducible exact fuseelaw27_sure.mono _)
   | (with_reducible exact pause_View.mono _ _ _ _ _)
   | (with_reducible exact LeO.refl _)
   | (with_reducible exact LeO.none _)
   | (with_reducible refine LeO.ite ?_ ?_)
   | (with_reducible refine LeO.bind ?_ (fun _ => ?_))
   | exact ih0 _ _ _ _ _ _ _
   | exact ih1 _ _ _ _ _ _ _ _
   | exact ih2 _ _ _ _ _ _ _ _ _
   | exact fuseelaw27_sure.mono _
   | exact pause_View.mono _ _ _ _ _
   | exact LeO.none _
   | refine LeO.ite ?_ ?_
   | refine LeO.bind ?_ (fun _ => ?_)
theorem fuseelaw27_PauseHolds.mono : ∀ a0 k, LeO (fuseelaw27_PauseHolds.f k a0) (fuseelaw27_PauseHolds.f (k + 1) a0) := by
 intro a0 k
 obtain ⟨ih0, ih1, ih2⟩ := fuseelaw27_PauseHolds.mono_l k
 unfold fuseelaw27_PauseHolds.f
 repeat' first
   | (with_reducible exact ih0 _ _ _ _ _ _ _)
   | (with_reducible exact ih1 _ _ _ _ _ _ _ _)
   | (with_reducible exact ih2 _ _ _ _ _ _ _ _ _)
   | (with_reducible exact fuseelaw27_sure.mono _)
   | (with_reducible exact pause_View.mono _ _ _ _ _)
   | (with_reducible exact LeO.refl _)
   | (with_reducible exact LeO.none _)
   | (with_reducible refine LeO.ite ?_ ?_)
   | (with_reducible refine LeO.bind ?_ (fun _ => ?_))
   | exact ih0 _ _ _ _ _ _ _
   | exact ih1 _ _ _ _ _ _ _ _
   | exact ih2 _ _ _ _ _ _ _ _ _
   | exact fuseelaw27_sure.mono _
   | exact pause_View.mono _ _ _ _ _
   | exact LeO.none _
   | refine LeO.ite ?_ ?_
   | refine LeO.bind ?_ (fun _ => ?_)
set_option maxHeartbeats 8000000 in
set_option maxRecDepth 100000 in
theorem fuseelaw27_PauseHolds.calls (k : Nat) (A0 : Option Addr) (c0 : Nat) (l0 : List (S96)) (r : Bool) (w : World) (hgL : HG w) (hr0 : Kd.C k96 w A0 l0.length l0) (hc0 : l0.length ≤ c0) (h : fuseelaw27_PauseHolds.f k l0 = some r) :
  Calls Tryd.prog 11 #[.slice A0 l0.length c0] w fun e w' => e = .returned (.bool r) ∧ Below w.heap.size w w' := by
 have hu81 := Tryd.underlying81
 have hu29 := Tryd.underlying29
 have hu115 := Tryd.underlying115
 have HR0 := qS hr0
 have HC0 := qS hc0
 clear hr0 hc0
 have HB := qS (Below.refl w.heap.size w)
 have H : ((pause_View.f k false 0 0 0).bind fun bt165 => (if bt165.2.isNone = true then (fuseelaw27_PauseHolds.l0 k l0 0 bt165.1 0 false 0 0) else (none))) = some r := h
 clear h
 replace H := Option.bind_eq_some_iff.mp H
 obtain ⟨⟨t165, t166⟩, A20, H⟩ := H
 replace H : (if t166.isNone = true then (fuseelaw27_PauseHolds.l0 k l0 0 t165 0 false 0 0) else (none)) = some r := H
 have A2 := qS A20
 clear A20
 rcases t166 with _ | q167
 ·have H1 : (fuseelaw27_PauseHolds.l0 k l0 0 t165 0 false 0 0) = some r := by rw [if_pos (show (none : Option Int).isNone = true by rfl)] at H; exact H
  clear H
  have H := H1
  clear H1
  try simp only [errW_none, errW_some]
  have H' := qS H
  clear H
  go_enter Tryd.func11, Tryd.ntmps11
  go_wp2_with (first | ((with_reducible refine gate_dst (N := 3) rfl ?_); refine box_event ?hg (N := 3) ?hd (cs := #[.bool false, .int .i64 0, .int .i64 0]) (t := 81) ?hr ?_; (case hd => rfl); (case hg => rfl); (case hr => first | (go_simp; done) | (go_simp; rfl)); intro gb164 hg w3 hbox hb; have n0_ := qS (below_step (by repeat (first | (with_reducible first | exact HB.out | apply qpA | apply qpN | apply qp1) | exact HB.out)) hb); have n1_ := qS (hbox); have n2_ := qS ((by rw [hg]; exact (below_size (by repeat (first | (with_reducible first | exact HB.out | apply qpA | apply qpN | apply qp1) | exact HB.out))) : w.heap.size ≤ gb164)); have n3_ := qS ((by rw [hg]; exact (below_size (by repeat (first | (with_reducible first | exact HB.out | apply qpA | apply qpN | apply qp1) | exact HB.out))) : w.heap.size ≤ gb164)); clear HB; have HB := n0_; have BK164 := n1_; have GW164 := n2_; have GE164 := n3_; clear n0_ n1_ n2_ n3_; clear hb hbox hg; have hcz4_0 : w3.cell? ⟨gb164, 0, none⟩ = some (.bool false) := (qC BK164.out 0).trans rfl; have hcz4_1 : w3.cell? ⟨gb164, 1, none⟩ = some (.int .i64 0) := (qC BK164.out 1).trans rfl; have hcz4_2 : w3.cell? ⟨gb164, 2, none⟩ = some (.int .i64 0) := (qC BK164.out 2).trans rfl; have hfz4_0 := qF BK164.out 0; have hfz4_1 := qF BK164.out 1; have hfz4_2 := qF BK164.out 2) | ((with_reducible refine gate_callee (f := 44) rfl ?_); refine goesL_ (some 21) rfl rfl Tryd.func44 (by kernel_rfl) rfl #[.agg #[.bool false, .int .i64 0, .int .i64 0], .int .i64 0] rfl (by (try simp only [List.map_toArray, List.map_cons, List.map_nil]); first | done | rfl | (simp only [*]; done) | (simp only [List.length_drop, List.length_take]; rfl)) ?_; (with_reducible refine (pause_View.calls k false 0 0 0 t165 none _ A2.out).mono ?_); rintro e w5 ⟨rfl, hb⟩; refine ⟨_, rfl, ?_⟩; have n0_ := qS (qB (g := gb164) (o := .cells #[.bool false, .int .i64 0, .int .i64 0] 81 (0, 0)) (by (with_reducible repeat (first | refine qN ?_ _ | refine qD ?_ | refine qA ?_ _)); exact BK164.out) hb); have n1_ := qS (below_step (by repeat (first | (with_reducible first | exact HB.out | apply qpA | apply qpN | apply qp1 | refine qpS ?_ GE164.out) | exact HB.out)) hb); clear BK164; clear HB; have BK164 := n0_; have HB := n1_; clear n0_ n1_; (try clear hb); (try clear hb2); (try clear hk); (try clear hi); (try simp only [errW_none, errW_some])))
  go_loopg [4, 5, 7] k (fun kq v4 v5 v7 w' => ∃ (x4_1 : Int) (x5_1 : Int) (x7_1 : Int) (x165000_1 : Bool) (x165001_1 : Int) (x165002_1 : Int), v4 = .int .i64 x4_1 ∧ v5 = .int .i64 x5_1 ∧ v7 = .int .i64 x7_1 ∧ Aside0 (fuseelaw27_PauseHolds.l0 kq l0 x4_1 x5_1 x7_1 x165000_1 x165001_1 x165002_1 = some r) ∧ Aside0 (kq ≤ k) ∧ Aside0 (w'.heap[gb164]? = some (.cells #[.bool x165000_1, .int .i64 x165001_1, .int .i64 x165002_1] 81 (0, 0))) ∧ Aside0 (Below w.heap.size w w'))
  case atStart => exact ⟨(0), (t165), (0), (false), (0), (0), (by first | rfl | (simp; done) | (simp [*]; done)), (by first | rfl | (simp; done) | (simp [*]; done)), (by first | rfl | (simp; done) | (simp [*]; done)), H', ⟨Nat.le_refl _⟩, ⟨by (with_reducible repeat (first | refine qN ?_ _ | refine qD ?_ | refine qA ?_ _)); exact BK164.out⟩, ⟨by repeat (first | (with_reducible first | exact HB.out | apply qpA | apply qpN | apply qp1 | refine qpS ?_ GE164.out) | exact HB.out)⟩⟩
  case round =>
   clear H'
   try clear c1
   try clear q1
   try clear p2
   try clear c4
   try clear hcz4_0
   try clear hcz4_1
   try clear hcz4_2
   try clear hfz4_0
   try clear hfz4_1
   try clear hfz4_2
   try clear q167
   obtain ⟨x4_1, x5_1, x7_1, x165000_1, x165001_1, x165002_1, rfl, rfl, rfl, HA, HK1, BK164, HB⟩ := hrel
   cases gk with
   | zero => exact absurd HA.out (by simp [fuseelaw27_PauseHolds.l0])
   | succ k1 =>
    have H := HA.out
    clear HA
    simp only [fuseelaw27_PauseHolds.l0] at H
    have HC6 := qS H
    clear H
    go_upto_region 7 with (fail)
    go_cut [33] (fun v33 wc => ∃ (kq : Nat) (x33_5 : Bool), v33 = .bool x33_5 ∧ Aside0 (fuseelaw27_PauseHolds.j1 kq l0 x4_1 x5_1 x7_1 x33_5 x165000_1 x165001_1 x165002_1 = some r) ∧ Aside0 (kq ≤ k1) ∧ Aside0 (wc.heap[gb164]? = some (.cells #[.bool x165000_1, .int .i64 x165001_1, .int .i64 x165002_1] 81 (0, 0))) ∧ Aside0 (Below w.heap.size w wc))
    case first =>
     have H := HC6.out
     clear HC6
     by_cases c7 : x7_1 < (l0.length : Int)
     ·rw [if_pos c7] at H
      have c7b0 : decide (x7_1 < (l0.length : Int)) = true := decide_eq_true c7
      clear c7
      (first | rw [c7b0] | (simp only [i64_w, i32_w]; rw [c7b0]) | skip)
      have H' := qS H
      clear H
      go_wp2
      go_meet
      case rel => exact ⟨_, (decide (x7_1 < 60)), (by first | rfl | (simp; done) | (simp [*]; done)), H', ⟨by have := HK1.out; first | omega | exact Nat.le_refl _⟩, ⟨by (with_reducible repeat (first | refine qN ?_ _ | refine qD ?_ | refine qA ?_ _)); exact BK164.out⟩, ⟨by repeat (first | (with_reducible first | exact HB.out | apply qpA | apply qpN | apply qp1 | refine qpS ?_ GE164.out) | exact HB.out)⟩⟩
     ·rw [if_neg c7] at H
      have c7b0 : decide (x7_1 < (l0.length : Int)) = false := decide_eq_false c7
      clear c7
      (first | rw [c7b0] | (simp only [i64_w, i32_w]; rw [c7b0]) | skip)
      have H' := qS H
      clear H
      go_wp2
      go_meet
      case rel => exact ⟨_, (false), (by first | rfl | (simp; done) | (simp [*]; done)), H', ⟨by have := HK1.out; first | omega | exact Nat.le_refl _⟩, ⟨by (with_reducible repeat (first | refine qN ?_ _ | refine qD ?_ | refine qA ?_ _)); exact BK164.out⟩, ⟨by repeat (first | (with_reducible first | exact HB.out | apply qpA | apply qpN | apply qp1 | refine qpS ?_ GE164.out) | exact HB.out)⟩⟩
    case rest =>
     clear HC6
     try clear c1
     try clear q1
     try clear p2
     try clear c4
     try clear c7
     try clear c7b0
     try clear hcz4_0
     try clear hcz4_1
     try clear hcz4_2
     try clear hfz4_0
     try clear hfz4_1
     try clear hfz4_2
     try clear p2
     try clear q1
     try clear q167
     obtain ⟨kq, x33_5, rfl, HA, HJ5, BK164, HB⟩ := hcut
     cases kq with
     | zero => exact absurd HA.out (by simp [fuseelaw27_PauseHolds.j1])
     | succ kj5 =>
      have H := HA.out
      clear HA
      simp only [fuseelaw27_PauseHolds.j1] at H
      by_cases c8 : x33_5 = true
      ·subst c8
       have H1 : (if 0 ≤ x7_1 then (if x7_1 < (l0.length : Int) then ((pause_View.f kj5 x165000_1 x165001_1 x165002_1 (wrap64 (x4_1 + (wrap64 ((rd_T96 l0 x7_1).f0))))).bind fun bt170 => (if bt170.2.isNone = true then (if bt170.1 < x5_1 then (fuseelaw27_PauseHolds.j2 kj5 l0 (wrap64 (x4_1 + (wrap64 ((rd_T96 l0 x7_1).f0)))) x7_1 x165000_1 bt170.1 true x165000_1 x165001_1 x165002_1) else (if x165000_1 = true then (if bt170.1 = x5_1 then (fuseelaw27_PauseHolds.j2 kj5 l0 (wrap64 (x4_1 + (wrap64 ((rd_T96 l0 x7_1).f0)))) x7_1 x165000_1 bt170.1 false x165000_1 x165001_1 x165002_1) else (fuseelaw27_PauseHolds.j2 kj5 l0 (wrap64 (x4_1 + (wrap64 ((rd_T96 l0 x7_1).f0)))) x7_1 x165000_1 bt170.1 true x165000_1 x165001_1 x165002_1)) else (fuseelaw27_PauseHolds.j2 kj5 l0 (wrap64 (x4_1 + (wrap64 ((rd_T96 l0 x7_1).f0)))) x7_1 x165000_1 bt170.1 ((wrap64 (bt170.1 - x5_1)) != (wrap64 ((rd_T96 l0 x7_1).f0))) x165000_1 x165001_1 x165002_1))) else (fuseelaw27_PauseHolds.j2 kj5 l0 (wrap64 (x4_1 + (wrap64 ((rd_T96 l0 x7_1).f0)))) x7_1 x165000_1 bt170.1 true x165000_1 x165001_1 x165002_1))) else (none)) else (none)) = some r := by rw [if_pos rfl] at H; exact H
       clear H
       have H := H1
       clear H1
       by_cases c9 : 0 ≤ x7_1
       ·rw [if_pos c9] at H
        have c9b0 : decide (0 ≤ x7_1) = true := decide_eq_true c9
        clear c9
        by_cases c10 : x7_1 < (l0.length : Int)
        ·rw [if_pos c10] at H
         have c10b0 : decide (x7_1 < (l0.length : Int)) = true := decide_eq_true c10
         clear c10
         replace H := Option.bind_eq_some_iff.mp H
         obtain ⟨⟨t170, t171⟩, A110, H⟩ := H
         replace H : (if t171.isNone = true then (if t170 < x5_1 then (fuseelaw27_PauseHolds.j2 kj5 l0 (wrap64 (x4_1 + (wrap64 ((rd_T96 l0 x7_1).f0)))) x7_1 x165000_1 t170 true x165000_1 x165001_1 x165002_1) else (if x165000_1 = true then (if t170 = x5_1 then (fuseelaw27_PauseHolds.j2 kj5 l0 (wrap64 (x4_1 + (wrap64 ((rd_T96 l0 x7_1).f0)))) x7_1 x165000_1 t170 false x165000_1 x165001_1 x165002_1) else (fuseelaw27_PauseHolds.j2 kj5 l0 (wrap64 (x4_1 + (wrap64 ((rd_T96 l0 x7_1).f0)))) x7_1 x165000_1 t170 true x165000_1 x165001_1 x165002_1)) else (fuseelaw27_PauseHolds.j2 kj5 l0 (wrap64 (x4_1 + (wrap64 ((rd_T96 l0 x7_1).f0)))) x7_1 x165000_1 t170 ((wrap64 (t170 - x5_1)) != (wrap64 ((rd_T96 l0 x7_1).f0))) x165000_1 x165001_1 x165002_1))) else (fuseelaw27_PauseHolds.j2 kj5 l0 (wrap64 (x4_1 + (wrap64 ((rd_T96 l0 x7_1).f0)))) x7_1 x165000_1 t170 true x165000_1 x165001_1 x165002_1)) = some r := H
         have A11 := qS A110
         clear A110
         have HC12 := qS H
         clear H
         have hcz13_0 : wc.cell? ⟨gb164, 0, none⟩ = some (.bool x165000_1) := (qC BK164.out 0).trans rfl
         have hcz13_1 : wc.cell? ⟨gb164, 1, none⟩ = some (.int .i64 x165001_1) := (qC BK164.out 1).trans rfl
         have hcz13_2 : wc.cell? ⟨gb164, 2, none⟩ = some (.int .i64 x165002_1) := (qC BK164.out 2).trans rfl
         have hfz13_0 := qF BK164.out 0
         have hfz13_1 := qF BK164.out 1
         have hfz13_2 := qF BK164.out 2
         have p169 : 0 ≤ (x7_1 : Int) := of_decide_eq_true (by first | (with_reducible assumption) | assumption)
         have q169 : x7_1 < (l0.length : Int) := of_decide_eq_true (by first | (with_reducible assumption) | assumption)
         obtain ⟨ad169, e169, hx169_0, hx169_1⟩ := at_T96 HR0.out x7_1 p169 q169
         cases e169
         replace hx169_0 := (HB.out.cell (World.block_lt_of_cell? w _ hx169_0)).trans hx169_0
         replace hx169_1 := (HB.out.cell (World.block_lt_of_cell? w _ hx169_1)).trans hx169_1
         replace p169 := eq_true p169
         replace q169 := eq_true q169
         go_upto_region 12 with (first | (go_at_call 44; refine calls_of_args (args' := #[.agg #[.bool x165000_1, .int .i64 x165001_1, .int .i64 x165002_1], .int .i64 (wrap64 (x4_1 + (wrap64 ((rd_T96 l0 x7_1).f0))))]) ?_ ?_; (focus (first | (rw [show (x165000_1) = true by with_reducible assumption]) | (rw [show (x165000_1) = false by with_reducible assumption]) | rfl | (simp only [*]; done) | (simp [*]; done))); (with_reducible refine (pause_View.calls kj5 x165000_1 x165001_1 x165002_1 (wrap64 (x4_1 + (wrap64 ((rd_T96 l0 x7_1).f0)))) t170 t171 _ A11.out).mono ?_); rintro e w14 ⟨rfl, hb⟩; have n0_ := qS (qB (g := gb164) (o := .cells #[.bool x165000_1, .int .i64 x165001_1, .int .i64 x165002_1] 81 (0, 0)) (by (with_reducible repeat (first | refine qN ?_ _ | refine qD ?_ | refine qA ?_ _)); exact BK164.out) hb); have n1_ := qS (below_step (by repeat (first | (with_reducible first | exact HB.out | apply qpA | apply qpN | apply qp1 | refine qpS ?_ GE164.out) | exact HB.out)) hb); clear BK164; clear HB; have BK164 := n0_; have HB := n1_; clear n0_ n1_; (try clear hb); (try clear hb2); (try clear hk); (try clear hi); (try simp only [errW_none, errW_some])))
         (try simp only [Act.put, List.setIfInBounds_toArray, List.set_cons_zero, List.set_cons_succ])
         go_cut [82] (fun v82 wc => ∃ (kq : Nat) (x82_11 : Bool), v82 = .bool x82_11 ∧ Aside0 (fuseelaw27_PauseHolds.j2 kq l0 (wrap64 (x4_1 + (wrap64 ((rd_T96 l0 x7_1).f0)))) x7_1 x165000_1 t170 x82_11 x165000_1 x165001_1 x165002_1 = some r) ∧ Aside0 (kq ≤ kj5) ∧ Aside0 (wc.heap[gb164]? = some (.cells #[.bool x165000_1, .int .i64 x165001_1, .int .i64 x165002_1] 81 (0, 0))) ∧ Aside0 (Below w.heap.size w wc))
         case first =>
          have H := HC12.out
          clear HC12
          rcases t171 with _ | q172
          ·have H1 : (if t170 < x5_1 then (fuseelaw27_PauseHolds.j2 kj5 l0 (wrap64 (x4_1 + (wrap64 ((rd_T96 l0 x7_1).f0)))) x7_1 x165000_1 t170 true x165000_1 x165001_1 x165002_1) else (if x165000_1 = true then (if t170 = x5_1 then (fuseelaw27_PauseHolds.j2 kj5 l0 (wrap64 (x4_1 + (wrap64 ((rd_T96 l0 x7_1).f0)))) x7_1 x165000_1 t170 false x165000_1 x165001_1 x165002_1) else (fuseelaw27_PauseHolds.j2 kj5 l0 (wrap64 (x4_1 + (wrap64 ((rd_T96 l0 x7_1).f0)))) x7_1 x165000_1 t170 true x165000_1 x165001_1 x165002_1)) else (fuseelaw27_PauseHolds.j2 kj5 l0 (wrap64 (x4_1 + (wrap64 ((rd_T96 l0 x7_1).f0)))) x7_1 x165000_1 t170 ((wrap64 (t170 - x5_1)) != (wrap64 ((rd_T96 l0 x7_1).f0))) x165000_1 x165001_1 x165002_1))) = some r := by rw [if_pos (show (none : Option Int).isNone = true by rfl)] at H; exact H
           clear H
           have H := H1
           clear H1
           try simp only [errW_none, errW_some]
           by_cases c15 : t170 < x5_1
           ·rw [if_pos c15] at H
            have c15b0 : decide (t170 < x5_1) = true := decide_eq_true c15
            clear c15
            (first | rw [c15b0] | (simp only [i64_w, i32_w]; rw [c15b0]) | skip)
            have H' := qS H
            clear H
            go_wp2
            go_meet
            case rel => exact ⟨_, (true), (by first | rfl | (simp; done) | (simp [*]; done)), H', ⟨by have := HK1.out; have := HJ5.out; first | omega | exact Nat.le_refl _⟩, ⟨by (with_reducible repeat (first | refine qN ?_ _ | refine qD ?_ | refine qA ?_ _)); exact BK164.out⟩, ⟨by repeat (first | (with_reducible first | exact HB.out | apply qpA | apply qpN | apply qp1 | refine qpS ?_ GE164.out) | exact HB.out)⟩⟩
           ·rw [if_neg c15] at H
            have c15b0 : decide (t170 < x5_1) = false := decide_eq_false c15
            clear c15
            (first | rw [c15b0] | (simp only [i64_w, i32_w]; rw [c15b0]) | skip)
            by_cases c16 : x165000_1 = true
            ·subst c16
             have H1 : (if t170 = x5_1 then (fuseelaw27_PauseHolds.j2 kj5 l0 (wrap64 (x4_1 + (wrap64 ((rd_T96 l0 x7_1).f0)))) x7_1 true t170 false true x165001_1 x165002_1) else (fuseelaw27_PauseHolds.j2 kj5 l0 (wrap64 (x4_1 + (wrap64 ((rd_T96 l0 x7_1).f0)))) x7_1 true t170 true true x165001_1 x165002_1)) = some r := by rw [if_pos rfl] at H; exact H
             clear H
             have H := H1
             clear H1
             by_cases c17 : t170 = x5_1
             ·rw [if_pos c17] at H
              have c17b0 : (t170 == x5_1) = true := beq_iff_eq.mpr c17
              have c17b1 : (t170 != x5_1) = false := bne_eq_false_iff_eq.mpr c17
              clear c17
              have H' := qS H
              clear H
              go_wp2
              go_meet
              case rel => exact ⟨_, (false), (by first | rfl | (simp; done) | (simp [*]; done)), H', ⟨by have := HK1.out; have := HJ5.out; first | omega | exact Nat.le_refl _⟩, ⟨by (with_reducible repeat (first | refine qN ?_ _ | refine qD ?_ | refine qA ?_ _)); exact BK164.out⟩, ⟨by repeat (first | (with_reducible first | exact HB.out | apply qpA | apply qpN | apply qp1 | refine qpS ?_ GE164.out) | exact HB.out)⟩⟩
             ·rw [if_neg c17] at H
              have c17b0 : (t170 == x5_1) = false := beq_eq_false_iff_ne.mpr c17
              have c17b1 : (t170 != x5_1) = true := bne_iff_ne.mpr c17
              have H' := qS H
              clear H
              go_wp2
              go_meet
              case rel => exact ⟨_, (true), (by first | rfl | (simp; done) | (simp [*]; done)), H', ⟨by have := HK1.out; have := HJ5.out; first | omega | exact Nat.le_refl _⟩, ⟨by (with_reducible repeat (first | refine qN ?_ _ | refine qD ?_ | refine qA ?_ _)); exact BK164.out⟩, ⟨by repeat (first | (with_reducible first | exact HB.out | apply qpA | apply qpN | apply qp1 | refine qpS ?_ GE164.out) | exact HB.out)⟩⟩
            ·replace c16 := Bool.eq_false_iff.mpr c16
             subst c16
             have H1 : (fuseelaw27_PauseHolds.j2 kj5 l0 (wrap64 (x4_1 + (wrap64 ((rd_T96 l0 x7_1).f0)))) x7_1 false t170 ((wrap64 (t170 - x5_1)) != (wrap64 ((rd_T96 l0 x7_1).f0))) false x165001_1 x165002_1) = some r := by rw [if_neg (show ¬ (false = true) by decide)] at H; exact H
             clear H
             have H := H1
             clear H1
             have H' := qS H
             clear H
             have p173 : 0 ≤ (x7_1 : Int) := of_decide_eq_true (by first | (with_reducible assumption) | assumption)
             have q173 : x7_1 < (l0.length : Int) := of_decide_eq_true (by first | (with_reducible assumption) | assumption)
             obtain ⟨ad173, e173, hx173_0, hx173_1⟩ := at_T96 HR0.out x7_1 p173 q173
             obtain rfl : ad169 = ad173 := (by injection e173)
             replace hx173_0 := (HB.out.cell (World.block_lt_of_cell? w _ hx173_0)).trans hx173_0
             replace hx173_1 := (HB.out.cell (World.block_lt_of_cell? w _ hx173_1)).trans hx173_1
             replace p173 := eq_true p173
             replace q173 := eq_true q173
             go_wp2
             go_meet
             case rel => exact ⟨_, (((wrap64 (t170 - x5_1)) != (wrap64 ((rd_T96 l0 x7_1).f0)))), (by first | rfl | (simp; done) | (simp [*]; done)), H', ⟨by have := HK1.out; have := HJ5.out; first | omega | exact Nat.le_refl _⟩, ⟨by (with_reducible repeat (first | refine qN ?_ _ | refine qD ?_ | refine qA ?_ _)); exact BK164.out⟩, ⟨by repeat (first | (with_reducible first | exact HB.out | apply qpA | apply qpN | apply qp1 | refine qpS ?_ GE164.out) | exact HB.out)⟩⟩
          ·have H1 : (fuseelaw27_PauseHolds.j2 kj5 l0 (wrap64 (x4_1 + (wrap64 ((rd_T96 l0 x7_1).f0)))) x7_1 x165000_1 t170 true x165000_1 x165001_1 x165002_1) = some r := by rw [if_neg (show ¬ (some q172).isNone = true by simp)] at H; exact H
           clear H
           have H := H1
           clear H1
           try simp only [errW_none, errW_some]
           have H' := qS H
           clear H
           go_wp2
           go_meet
           case rel => exact ⟨_, (true), (by first | rfl | (simp; done) | (simp [*]; done)), H', ⟨by have := HK1.out; have := HJ5.out; first | omega | exact Nat.le_refl _⟩, ⟨by (with_reducible repeat (first | refine qN ?_ _ | refine qD ?_ | refine qA ?_ _)); exact BK164.out⟩, ⟨by repeat (first | (with_reducible first | exact HB.out | apply qpA | apply qpN | apply qp1 | refine qpS ?_ GE164.out) | exact HB.out)⟩⟩
         case rest =>
          clear HC12
          try clear c1
          try clear p1
          try clear q1
          try clear hx1
          try clear p2
          try clear c4
          try clear p6
          try clear c7
          try clear c7b0
          try clear c8
          try clear c9
          try clear c9b0
          try clear c10
          try clear c10b0
          try clear c11
          try clear c15
          try clear c15b0
          try clear c16
          try clear p16
          try clear q16
          try clear hx16
          try clear c17
          try clear c17b0
          try clear c17b1
          try clear p17
          try clear q17
          try clear hx17
          try clear hcz13_0
          try clear hcz13_1
          try clear hcz13_2
          try clear hcz4_0
          try clear hcz4_1
          try clear hcz4_2
          try clear hfz13_0
          try clear hfz13_1
          try clear hfz13_2
          try clear hfz4_0
          try clear hfz4_1
          try clear hfz4_2
          try clear hx169_0
          try clear hx169_1
          try clear hx173_0
          try clear hx173_1
          try clear p169
          try clear p173
          try clear p2
          try clear q1
          try clear q167
          try clear q169
          try clear q172
          try clear q173
          obtain ⟨kq, x82_11, rfl, HA, HJ11, BK164, HB⟩ := hcut
          cases kq with
          | zero => exact absurd HA.out (by simp [fuseelaw27_PauseHolds.j2])
          | succ kj11 =>
           have H := HA.out
           clear HA
           simp only [fuseelaw27_PauseHolds.j2] at H
           by_cases c18 : x82_11 = true
           ·subst c18
            have H1 : (none) = some r := by rw [if_pos rfl] at H; exact H
            clear H
            have H := H1
            clear H1
            exact absurd H (by simp)
           ·replace c18 := Bool.eq_false_iff.mpr c18
            subst c18
            have H1 : (if 0 ≤ x7_1 then (if x7_1 < (l0.length : Int) then (if (Int.tmod ((rd_T96 l0 x7_1).f1) 3) = 0 then (fuseelaw27_PauseHolds.l0 kj11 l0 (wrap64 (x4_1 + (wrap64 ((rd_T96 l0 x7_1).f0)))) t170 (wrap64 (x7_1 + 1)) x165000_1 x165001_1 x165002_1) else (if x165000_1 = true then ((pause_Go.f x165000_1 x165001_1 x165002_1 (wrap64 (x4_1 + (wrap64 ((rd_T96 l0 x7_1).f0)))) ((Int.tmod ((rd_T96 l0 x7_1).f1) 3) == 2)).bind fun bt176 => (if bt176.2.2.2.isNone = true then ((pause_View.f kj11 bt176.1 bt176.2.1 bt176.2.2.1 (wrap64 (x4_1 + (wrap64 ((rd_T96 l0 x7_1).f0))))).bind fun bt182 => (if bt182.2.isNone = true then (if bt176.1 = true then (none) else (if bt182.1 < t170 then (none) else (if ((Int.tmod ((rd_T96 l0 x7_1).f1) 3) = 2) then (fuseelaw27_PauseHolds.l0 kj11 l0 (wrap64 (x4_1 + (wrap64 ((rd_T96 l0 x7_1).f0)))) bt182.1 (wrap64 (x7_1 + 1)) bt176.1 bt176.2.1 bt176.2.2.1) else (if bt182.1 = t170 then (fuseelaw27_PauseHolds.l0 kj11 l0 (wrap64 (x4_1 + (wrap64 ((rd_T96 l0 x7_1).f0)))) bt182.1 (wrap64 (x7_1 + 1)) bt176.1 bt176.2.1 bt176.2.2.1) else (none))))) else (none))) else (none))) else ((pause_Stop.f x165000_1 x165001_1 x165002_1 (wrap64 (x4_1 + (wrap64 ((rd_T96 l0 x7_1).f0))))).bind fun bt185 => (if bt185.2.2.2.isNone = true then ((pause_View.f kj11 bt185.1 bt185.2.1 bt185.2.2.1 (wrap64 (x4_1 + (wrap64 ((rd_T96 l0 x7_1).f0))))).bind fun bt191 => (if bt191.2.isNone = true then (if bt185.1 = true then (if bt191.1 < t170 then (none) else (if bt191.1 = t170 then (fuseelaw27_PauseHolds.l0 kj11 l0 (wrap64 (x4_1 + (wrap64 ((rd_T96 l0 x7_1).f0)))) bt191.1 (wrap64 (x7_1 + 1)) bt185.1 bt185.2.1 bt185.2.2.1) else (none))) else (none)) else (none))) else (none))))) else (none)) else (none)) = some r := by rw [if_neg (show ¬ (false = true) by decide)] at H; exact H
            clear H
            have H := H1
            clear H1
            by_cases c19 : 0 ≤ x7_1
            ·rw [if_pos c19] at H
             have c19b0 : decide (0 ≤ x7_1) = true := decide_eq_true c19
             clear c19
             by_cases c20 : x7_1 < (l0.length : Int)
             ·rw [if_pos c20] at H
              have c20b0 : decide (x7_1 < (l0.length : Int)) = true := decide_eq_true c20
              clear c20
              by_cases c21 : (Int.tmod ((rd_T96 l0 x7_1).f1) 3) = 0
              ·rw [if_pos c21] at H
               have c21b0 : ((Int.tmod ((rd_T96 l0 x7_1).f1) 3) == 0) = true := beq_iff_eq.mpr c21
               have c21b1 : ((Int.tmod ((rd_T96 l0 x7_1).f1) 3) != 0) = false := bne_eq_false_iff_eq.mpr c21
               clear c21
               have H' := qS H
               clear H
               have p174 : 0 ≤ (x7_1 : Int) := of_decide_eq_true (by first | (with_reducible assumption) | assumption)
               have q174 : x7_1 < (l0.length : Int) := of_decide_eq_true (by first | (with_reducible assumption) | assumption)
               obtain ⟨ad174, e174, hx174_0, hx174_1⟩ := at_T96 HR0.out x7_1 p174 q174
               obtain rfl : ad169 = ad174 := (by injection e174)
               replace hx174_0 := (HB.out.cell (World.block_lt_of_cell? w _ hx174_0)).trans hx174_0
               replace hx174_1 := (HB.out.cell (World.block_lt_of_cell? w _ hx174_1)).trans hx174_1
               replace p174 := eq_true p174
               replace q174 := eq_true q174
               go_wp2
               go_roundg kj11
               case measure => have := HK1.out; have := HJ5.out; have := HJ11.out; omega
               case rel => exact ⟨((wrap64 (x4_1 + (wrap64 ((rd_T96 l0 x7_1).f0))))), (t170), (wrap64 (x7_1 + 1)), (x165000_1), (x165001_1), (x165002_1), (by first | rfl | (simp; done) | (simp [*]; done)), (by first | rfl | (simp; done) | (simp [*]; done)), (by first | rfl | (simp; done) | (simp [*]; done)), H', ⟨by have := HK1.out; have := HJ5.out; have := HJ11.out; omega⟩, ⟨by (with_reducible repeat (first | refine qN ?_ _ | refine qD ?_ | refine qA ?_ _)); exact BK164.out⟩, ⟨by repeat (first | (with_reducible first | exact HB.out | apply qpA | apply qpN | apply qp1 | refine qpS ?_ GE164.out) | exact HB.out)⟩⟩
              ·rw [if_neg c21] at H
               have c21b0 : ((Int.tmod ((rd_T96 l0 x7_1).f1) 3) == 0) = false := beq_eq_false_iff_ne.mpr c21
               have c21b1 : ((Int.tmod ((rd_T96 l0 x7_1).f1) 3) != 0) = true := bne_iff_ne.mpr c21
               by_cases c22 : x165000_1 = true
               ·subst c22
                have H1 : ((pause_Go.f true x165001_1 x165002_1 (wrap64 (x4_1 + (wrap64 ((rd_T96 l0 x7_1).f0)))) ((Int.tmod ((rd_T96 l0 x7_1).f1) 3) == 2)).bind fun bt176 => (if bt176.2.2.2.isNone = true then ((pause_View.f kj11 bt176.1 bt176.2.1 bt176.2.2.1 (wrap64 (x4_1 + (wrap64 ((rd_T96 l0 x7_1).f0))))).bind fun bt182 => (if bt182.2.isNone = true then (if bt176.1 = true then (none) else (if bt182.1 < t170 then (none) else (if ((Int.tmod ((rd_T96 l0 x7_1).f1) 3) = 2) then (fuseelaw27_PauseHolds.l0 kj11 l0 (wrap64 (x4_1 + (wrap64 ((rd_T96 l0 x7_1).f0)))) bt182.1 (wrap64 (x7_1 + 1)) bt176.1 bt176.2.1 bt176.2.2.1) else (if bt182.1 = t170 then (fuseelaw27_PauseHolds.l0 kj11 l0 (wrap64 (x4_1 + (wrap64 ((rd_T96 l0 x7_1).f0)))) bt182.1 (wrap64 (x7_1 + 1)) bt176.1 bt176.2.1 bt176.2.2.1) else (none))))) else (none))) else (none))) = some r := by rw [if_pos rfl] at H; exact H
                clear H
                have H := H1
                clear H1
                replace H := Option.bind_eq_some_iff.mp H
                obtain ⟨⟨t176, t177, t178, t179⟩, A230, H⟩ := H
                replace H : (if t179.isNone = true then ((pause_View.f kj11 t176 t177 t178 (wrap64 (x4_1 + (wrap64 ((rd_T96 l0 x7_1).f0))))).bind fun bt182 => (if bt182.2.isNone = true then (if t176 = true then (none) else (if bt182.1 < t170 then (none) else (if ((Int.tmod ((rd_T96 l0 x7_1).f1) 3) = 2) then (fuseelaw27_PauseHolds.l0 kj11 l0 (wrap64 (x4_1 + (wrap64 ((rd_T96 l0 x7_1).f0)))) bt182.1 (wrap64 (x7_1 + 1)) t176 t177 t178) else (if bt182.1 = t170 then (fuseelaw27_PauseHolds.l0 kj11 l0 (wrap64 (x4_1 + (wrap64 ((rd_T96 l0 x7_1).f0)))) bt182.1 (wrap64 (x7_1 + 1)) t176 t177 t178) else (none))))) else (none))) else (none)) = some r := H
                have A23 := qS A230
                clear A230
                rcases t179 with _ | q181
                ·have H1 : ((pause_View.f kj11 t176 t177 t178 (wrap64 (x4_1 + (wrap64 ((rd_T96 l0 x7_1).f0))))).bind fun bt182 => (if bt182.2.isNone = true then (if t176 = true then (none) else (if bt182.1 < t170 then (none) else (if ((Int.tmod ((rd_T96 l0 x7_1).f1) 3) = 2) then (fuseelaw27_PauseHolds.l0 kj11 l0 (wrap64 (x4_1 + (wrap64 ((rd_T96 l0 x7_1).f0)))) bt182.1 (wrap64 (x7_1 + 1)) t176 t177 t178) else (if bt182.1 = t170 then (fuseelaw27_PauseHolds.l0 kj11 l0 (wrap64 (x4_1 + (wrap64 ((rd_T96 l0 x7_1).f0)))) bt182.1 (wrap64 (x7_1 + 1)) t176 t177 t178) else (none))))) else (none))) = some r := by rw [if_pos (show (none : Option Int).isNone = true by rfl)] at H; exact H
                 clear H
                 have H := H1
                 clear H1
                 try simp only [errW_none, errW_some]
                 replace H := Option.bind_eq_some_iff.mp H
                 obtain ⟨⟨t182, t183⟩, A240, H⟩ := H
                 replace H : (if t183.isNone = true then (if t176 = true then (none) else (if t182 < t170 then (none) else (if ((Int.tmod ((rd_T96 l0 x7_1).f1) 3) = 2) then (fuseelaw27_PauseHolds.l0 kj11 l0 (wrap64 (x4_1 + (wrap64 ((rd_T96 l0 x7_1).f0)))) t182 (wrap64 (x7_1 + 1)) t176 t177 t178) else (if t182 = t170 then (fuseelaw27_PauseHolds.l0 kj11 l0 (wrap64 (x4_1 + (wrap64 ((rd_T96 l0 x7_1).f0)))) t182 (wrap64 (x7_1 + 1)) t176 t177 t178) else (none))))) else (none)) = some r := H
                 have A24 := qS A240
                 clear A240
                 rcases t183 with _ | q184
                 ·have H1 : (if t176 = true then (none) else (if t182 < t170 then (none) else (if ((Int.tmod ((rd_T96 l0 x7_1).f1) 3) = 2) then (fuseelaw27_PauseHolds.l0 kj11 l0 (wrap64 (x4_1 + (wrap64 ((rd_T96 l0 x7_1).f0)))) t182 (wrap64 (x7_1 + 1)) t176 t177 t178) else (if t182 = t170 then (fuseelaw27_PauseHolds.l0 kj11 l0 (wrap64 (x4_1 + (wrap64 ((rd_T96 l0 x7_1).f0)))) t182 (wrap64 (x7_1 + 1)) t176 t177 t178) else (none))))) = some r := by rw [if_pos (show (none : Option Int).isNone = true by rfl)] at H; exact H
                  clear H
                  have H := H1
                  clear H1
                  try simp only [errW_none, errW_some]
                  by_cases c25 : t176 = true
                  ·subst c25
                   have H1 : (none) = some r := by rw [if_pos rfl] at H; exact H
                   clear H
                   have H := H1
                   clear H1
                   exact absurd H (by simp)
                  ·replace c25 := Bool.eq_false_iff.mpr c25
                   subst c25
                   have H1 : (if t182 < t170 then (none) else (if ((Int.tmod ((rd_T96 l0 x7_1).f1) 3) = 2) then (fuseelaw27_PauseHolds.l0 kj11 l0 (wrap64 (x4_1 + (wrap64 ((rd_T96 l0 x7_1).f0)))) t182 (wrap64 (x7_1 + 1)) false t177 t178) else (if t182 = t170 then (fuseelaw27_PauseHolds.l0 kj11 l0 (wrap64 (x4_1 + (wrap64 ((rd_T96 l0 x7_1).f0)))) t182 (wrap64 (x7_1 + 1)) false t177 t178) else (none)))) = some r := by rw [if_neg (show ¬ (false = true) by decide)] at H; exact H
                   clear H
                   have H := H1
                   clear H1
                   by_cases c26 : t182 < t170
                   ·rw [if_pos c26] at H
                    exact absurd H (by simp)
                   ·rw [if_neg c26] at H
                    have c26b0 : decide (t182 < t170) = false := decide_eq_false c26
                    clear c26
                    by_cases c27 : ((Int.tmod ((rd_T96 l0 x7_1).f1) 3) = 2)
                    ·rw [if_pos c27] at H
                     have c27b0 : ((Int.tmod ((rd_T96 l0 x7_1).f1) 3) == 2) = true := beq_iff_eq.mpr c27
                     have c27b1 : ((Int.tmod ((rd_T96 l0 x7_1).f1) 3) != 2) = false := bne_eq_false_iff_eq.mpr c27
                     clear c27
                     have H' := qS H
                     clear H
                     have p174 : 0 ≤ (x7_1 : Int) := of_decide_eq_true (by first | (with_reducible assumption) | assumption)
                     have q174 : x7_1 < (l0.length : Int) := of_decide_eq_true (by first | (with_reducible assumption) | assumption)
                     obtain ⟨ad174, e174, hx174_0, hx174_1⟩ := at_T96 HR0.out x7_1 p174 q174
                     obtain rfl : ad169 = ad174 := (by injection e174)
                     replace hx174_0 := (HB.out.cell (World.block_lt_of_cell? w _ hx174_0)).trans hx174_0
                     replace hx174_1 := (HB.out.cell (World.block_lt_of_cell? w _ hx174_1)).trans hx174_1
                     replace p174 := eq_true p174
                     replace q174 := eq_true q174
                     have p175 : 0 ≤ (x7_1 : Int) := of_decide_eq_true (by first | (with_reducible assumption) | assumption)
                     have q175 : x7_1 < (l0.length : Int) := of_decide_eq_true (by first | (with_reducible assumption) | assumption)
                     obtain ⟨ad175, e175, hx175_0, hx175_1⟩ := at_T96 HR0.out x7_1 p175 q175
                     obtain rfl : ad169 = ad175 := (by injection e175)
                     replace hx175_0 := (HB.out.cell (World.block_lt_of_cell? w _ hx175_0)).trans hx175_0
                     replace hx175_1 := (HB.out.cell (World.block_lt_of_cell? w _ hx175_1)).trans hx175_1
                     replace p175 := eq_true p175
                     replace q175 := eq_true q175
                     have hcz28_0 : wc.cell? ⟨gb164, 0, none⟩ = some (.bool true) := (qC BK164.out 0).trans rfl
                     have hcz28_1 : wc.cell? ⟨gb164, 1, none⟩ = some (.int .i64 x165001_1) := (qC BK164.out 1).trans rfl
                     have hcz28_2 : wc.cell? ⟨gb164, 2, none⟩ = some (.int .i64 x165002_1) := (qC BK164.out 2).trans rfl
                     have hfz28_0 := qF BK164.out 0
                     have hfz28_1 := qF BK164.out 1
                     have hfz28_2 := qF BK164.out 2
                     go_wp2_with (first | (go_at_call 42; refine calls_of_args (args' := #[.agg #[.bool true, .int .i64 x165001_1, .int .i64 x165002_1], .int .i64 (wrap64 (x4_1 + (wrap64 ((rd_T96 l0 x7_1).f0)))), .bool ((Int.tmod ((rd_T96 l0 x7_1).f1) 3) == 2)]) ?_ ?_; (focus (first | (rw [show (((Int.tmod ((rd_T96 l0 x7_1).f1) 3) == 2)) = true by with_reducible assumption]) | (rw [show (((Int.tmod ((rd_T96 l0 x7_1).f1) 3) == 2)) = false by with_reducible assumption]) | rfl | (simp only [*]; done) | (simp [*]; done))); (with_reducible refine (pause_Go.calls true x165001_1 x165002_1 (wrap64 (x4_1 + (wrap64 ((rd_T96 l0 x7_1).f0)))) ((Int.tmod ((rd_T96 l0 x7_1).f1) 3) == 2) false t177 t178 none _ A23.out).mono ?_); rintro e w29 ⟨rfl, hb⟩; have n0_ := qS (qB (g := gb164) (o := .cells #[.bool true, .int .i64 x165001_1, .int .i64 x165002_1] 81 (0, 0)) (by (with_reducible repeat (first | refine qN ?_ _ | refine qD ?_ | refine qA ?_ _)); exact BK164.out) hb); have n1_ := qS (below_step (by repeat (first | (with_reducible first | exact HB.out | apply qpA | apply qpN | apply qp1 | refine qpS ?_ GE164.out) | exact HB.out)) hb); clear BK164; clear HB; have BK164 := n0_; have HB := n1_; clear n0_ n1_; (try clear hb); (try clear hb2); (try clear hk); (try clear hi); (try simp only [errW_none, errW_some])) | ((with_reducible refine gate_dst (N := 12) rfl ?_); refine box_event ?hg (N := 12) ?hd (cs := #[.bool false, .int .i64 0, .int .i64 0]) (t := 81) ?hr ?_; (case hd => rfl); (case hg => rfl); (case hr => first | (go_simp; done) | (go_simp; rfl)); intro gb180 hg w30 hbox hb; have n0_ := qS (qB (g := gb164) (o := .cells #[.bool true, .int .i64 x165001_1, .int .i64 x165002_1] 81 (0, 0)) (by (with_reducible repeat (first | refine qN ?_ _ | refine qD ?_ | refine qA ?_ _)); exact BK164.out) hb); have n1_ := qS (below_step (by repeat (first | (with_reducible first | exact HB.out | apply qpA | apply qpN | apply qp1 | refine qpS ?_ GE164.out) | exact HB.out)) hb); have n2_ := qS (hbox); have n3_ := qS ((by rw [hg]; exact (below_size (by repeat (first | (with_reducible first | exact HB.out | apply qpA | apply qpN | apply qp1 | refine qpS ?_ GE164.out) | exact HB.out))) : w.heap.size ≤ gb180)); have n4_ := qS ((by rw [hg]; exact (below_size (by repeat (first | (with_reducible first | exact HB.out | apply qpA | apply qpN | apply qp1 | refine qpS ?_ GE164.out) | exact HB.out))) : w.heap.size ≤ gb180)); have n5_ := qS ((by rw [hg]; exact Nat.ne_of_lt (blk_lt (g := gb164) (o := .cells #[.bool true, .int .i64 x165001_1, .int .i64 x165002_1] 81 (0, 0)) (by (with_reducible repeat (first | refine qN ?_ _ | refine qD ?_ | refine qA ?_ _)); exact BK164.out)) : gb164 ≠ gb180)); have n6_ := qS ((by rw [hg]; exact Nat.ne_of_gt (blk_lt (g := gb164) (o := .cells #[.bool true, .int .i64 x165001_1, .int .i64 x165002_1] 81 (0, 0)) (by (with_reducible repeat (first | refine qN ?_ _ | refine qD ?_ | refine qA ?_ _)); exact BK164.out)) : gb180 ≠ gb164)); clear BK164; clear HB; have BK164 := n0_; have HB := n1_; have BK180 := n2_; have GW180 := n3_; have GE180 := n4_; have NB164_180 := n5_; have NB180_164 := n6_; clear n0_ n1_ n2_ n3_ n4_ n5_ n6_; clear hb hbox hg; have hnb31 := NB180_164.out; have hnc31 := NB164_180.out; have hcz32_0 : w30.cell? ⟨gb180, 0, none⟩ = some (.bool false) := (qC BK180.out 0).trans rfl; have hcz32_1 : w30.cell? ⟨gb180, 1, none⟩ = some (.int .i64 0) := (qC BK180.out 1).trans rfl; have hcz32_2 : w30.cell? ⟨gb180, 2, none⟩ = some (.int .i64 0) := (qC BK180.out 2).trans rfl; have hfz32_0 := qF BK180.out 0; have hfz32_1 := qF BK180.out 1; have hfz32_2 := qF BK180.out 2; have hcz33_0 : w30.cell? ⟨gb164, 0, none⟩ = some (.bool true) := (qC BK164.out 0).trans rfl; have hcz33_1 : w30.cell? ⟨gb164, 1, none⟩ = some (.int .i64 x165001_1) := (qC BK164.out 1).trans rfl; have hcz33_2 : w30.cell? ⟨gb164, 2, none⟩ = some (.int .i64 x165002_1) := (qC BK164.out 2).trans rfl; have hfz33_0 := qF BK164.out 0; have hfz33_1 := qF BK164.out 1; have hfz33_2 := qF BK164.out 2) | ((with_reducible refine gate_callee (f := 44) rfl ?_); refine goesL_ (some 121) rfl rfl Tryd.func44 (by kernel_rfl) rfl #[.agg #[.bool false, .int .i64 t177, .int .i64 t178], .int .i64 (wrap64 (x4_1 + (wrap64 ((rd_T96 l0 x7_1).f0))))] rfl (by (try simp only [List.map_toArray, List.map_cons, List.map_nil]); first | done | rfl | (simp only [*]; done) | (simp only [List.length_drop, List.length_take]; rfl)) ?_; (with_reducible refine (pause_View.calls kj11 false t177 t178 (wrap64 (x4_1 + (wrap64 ((rd_T96 l0 x7_1).f0)))) t182 none _ A24.out).mono ?_); rintro e w34 ⟨rfl, hb⟩; refine ⟨_, rfl, ?_⟩; have n0_ := qS (qB (g := gb164) (o := .cells #[.bool false, .int .i64 t177, .int .i64 t178] 81 (0, 0)) (by (with_reducible repeat (first | refine qN ?_ _ | refine qD ?_ | refine qA ?_ _)); refine blk_put (cs := #[.bool false, .int .i64 t177, .int .i64 x165002_1]) ?_ 2 _ rfl; (with_reducible repeat (first | refine qN ?_ _ | refine qD ?_ | refine qA ?_ _)); refine blk_put (cs := #[.bool false, .int .i64 x165001_1, .int .i64 x165002_1]) ?_ 1 _ rfl; (with_reducible repeat (first | refine qN ?_ _ | refine qD ?_ | refine qA ?_ _)); refine blk_put (cs := #[.bool true, .int .i64 x165001_1, .int .i64 x165002_1]) ?_ 0 _ rfl; (with_reducible repeat (first | refine qN ?_ _ | refine qD ?_ | refine qA ?_ _)); refine blk_far ?_ NB164_180.out _; (with_reducible repeat (first | refine qN ?_ _ | refine qD ?_ | refine qA ?_ _)); refine blk_far ?_ NB164_180.out _; (with_reducible repeat (first | refine qN ?_ _ | refine qD ?_ | refine qA ?_ _)); refine blk_far ?_ NB164_180.out _; (with_reducible repeat (first | refine qN ?_ _ | refine qD ?_ | refine qA ?_ _)); exact BK164.out) hb); have n1_ := qS (qB (g := gb180) (o := .cells #[.bool false, .int .i64 t177, .int .i64 t178] 81 (0, 0)) (by (with_reducible repeat (first | refine qN ?_ _ | refine qD ?_ | refine qA ?_ _)); refine blk_far ?_ NB180_164.out _; (with_reducible repeat (first | refine qN ?_ _ | refine qD ?_ | refine qA ?_ _)); refine blk_far ?_ NB180_164.out _; (with_reducible repeat (first | refine qN ?_ _ | refine qD ?_ | refine qA ?_ _)); refine blk_far ?_ NB180_164.out _; (with_reducible repeat (first | refine qN ?_ _ | refine qD ?_ | refine qA ?_ _)); refine blk_put (cs := #[.bool false, .int .i64 t177, .int .i64 0]) ?_ 2 _ rfl; (with_reducible repeat (first | refine qN ?_ _ | refine qD ?_ | refine qA ?_ _)); refine blk_put (cs := #[.bool false, .int .i64 0, .int .i64 0]) ?_ 1 _ rfl; (with_reducible repeat (first | refine qN ?_ _ | refine qD ?_ | refine qA ?_ _)); refine blk_put (cs := #[.bool false, .int .i64 0, .int .i64 0]) ?_ 0 _ rfl; (with_reducible repeat (first | refine qN ?_ _ | refine qD ?_ | refine qA ?_ _)); exact BK180.out) hb); have n2_ := qS (below_step (by repeat (first | (with_reducible first | exact HB.out | apply qpA | apply qpN | apply qp1 | refine qpS ?_ GE164.out | refine qpS ?_ GE180.out) | exact HB.out)) hb); clear BK164; clear BK180; clear HB; have BK164 := n0_; have BK180 := n1_; have HB := n2_; clear n0_ n1_ n2_; (try clear hb); (try clear hb2); (try clear hk); (try clear hi); (try simp only [errW_none, errW_some]); have hcz35_0 : w34.cell? ⟨gb164, 0, none⟩ = some (.bool false) := (qC BK164.out 0).trans rfl; have hcz35_1 : w34.cell? ⟨gb164, 1, none⟩ = some (.int .i64 t177) := (qC BK164.out 1).trans rfl; have hcz35_2 : w34.cell? ⟨gb164, 2, none⟩ = some (.int .i64 t178) := (qC BK164.out 2).trans rfl; have hfz35_0 := qF BK164.out 0; have hfz35_1 := qF BK164.out 1; have hfz35_2 := qF BK164.out 2))
                     go_roundg kj11
                     case measure => have := HK1.out; have := HJ5.out; have := HJ11.out; omega
                     case rel => exact ⟨((wrap64 (x4_1 + (wrap64 ((rd_T96 l0 x7_1).f0))))), (t182), (wrap64 (x7_1 + 1)), (false), (t177), (t178), (by first | rfl | (simp; done) | (simp [*]; done)), (by first | rfl | (simp; done) | (simp [*]; done)), (by first | rfl | (simp; done) | (simp [*]; done)), H', ⟨by have := HK1.out; have := HJ5.out; have := HJ11.out; omega⟩, ⟨by (with_reducible repeat (first | refine qN ?_ _ | refine qD ?_ | refine qA ?_ _)); exact BK164.out⟩, ⟨by repeat (first | (with_reducible first | exact HB.out | apply qpA | apply qpN | apply qp1 | refine qpS ?_ GE164.out | refine qpS ?_ GE180.out) | exact HB.out)⟩⟩
                    ·rw [if_neg c27] at H
                     have c27b0 : ((Int.tmod ((rd_T96 l0 x7_1).f1) 3) == 2) = false := beq_eq_false_iff_ne.mpr c27
                     have c27b1 : ((Int.tmod ((rd_T96 l0 x7_1).f1) 3) != 2) = true := bne_iff_ne.mpr c27
                     by_cases c36 : t182 = t170
                     ·rw [if_pos c36] at H
                      have c36b0 : (t182 == t170) = true := beq_iff_eq.mpr c36
                      have c36b1 : (t182 != t170) = false := bne_eq_false_iff_eq.mpr c36
                      clear c36
                      have H' := qS H
                      clear H
                      have p174 : 0 ≤ (x7_1 : Int) := of_decide_eq_true (by first | (with_reducible assumption) | assumption)
                      have q174 : x7_1 < (l0.length : Int) := of_decide_eq_true (by first | (with_reducible assumption) | assumption)
                      obtain ⟨ad174, e174, hx174_0, hx174_1⟩ := at_T96 HR0.out x7_1 p174 q174
                      obtain rfl : ad169 = ad174 := (by injection e174)
                      replace hx174_0 := (HB.out.cell (World.block_lt_of_cell? w _ hx174_0)).trans hx174_0
                      replace hx174_1 := (HB.out.cell (World.block_lt_of_cell? w _ hx174_1)).trans hx174_1
                      replace p174 := eq_true p174
                      replace q174 := eq_true q174
                      have p175 : 0 ≤ (x7_1 : Int) := of_decide_eq_true (by first | (with_reducible assumption) | assumption)
                      have q175 : x7_1 < (l0.length : Int) := of_decide_eq_true (by first | (with_reducible assumption) | assumption)
                      obtain ⟨ad175, e175, hx175_0, hx175_1⟩ := at_T96 HR0.out x7_1 p175 q175
                      obtain rfl : ad169 = ad175 := (by injection e175)
                      replace hx175_0 := (HB.out.cell (World.block_lt_of_cell? w _ hx175_0)).trans hx175_0
                      replace hx175_1 := (HB.out.cell (World.block_lt_of_cell? w _ hx175_1)).trans hx175_1
                      replace p175 := eq_true p175
                      replace q175 := eq_true q175
                      have hcz37_0 : wc.cell? ⟨gb164, 0, none⟩ = some (.bool true) := (qC BK164.out 0).trans rfl
                      have hcz37_1 : wc.cell? ⟨gb164, 1, none⟩ = some (.int .i64 x165001_1) := (qC BK164.out 1).trans rfl
                      have hcz37_2 : wc.cell? ⟨gb164, 2, none⟩ = some (.int .i64 x165002_1) := (qC BK164.out 2).trans rfl
                      have hfz37_0 := qF BK164.out 0
                      have hfz37_1 := qF BK164.out 1
                      have hfz37_2 := qF BK164.out 2
                      go_wp2_with (first | (go_at_call 42; refine calls_of_args (args' := #[.agg #[.bool true, .int .i64 x165001_1, .int .i64 x165002_1], .int .i64 (wrap64 (x4_1 + (wrap64 ((rd_T96 l0 x7_1).f0)))), .bool ((Int.tmod ((rd_T96 l0 x7_1).f1) 3) == 2)]) ?_ ?_; (focus (first | (rw [show (((Int.tmod ((rd_T96 l0 x7_1).f1) 3) == 2)) = true by with_reducible assumption]) | (rw [show (((Int.tmod ((rd_T96 l0 x7_1).f1) 3) == 2)) = false by with_reducible assumption]) | rfl | (simp only [*]; done) | (simp [*]; done))); (with_reducible refine (pause_Go.calls true x165001_1 x165002_1 (wrap64 (x4_1 + (wrap64 ((rd_T96 l0 x7_1).f0)))) ((Int.tmod ((rd_T96 l0 x7_1).f1) 3) == 2) false t177 t178 none _ A23.out).mono ?_); rintro e w38 ⟨rfl, hb⟩; have n0_ := qS (qB (g := gb164) (o := .cells #[.bool true, .int .i64 x165001_1, .int .i64 x165002_1] 81 (0, 0)) (by (with_reducible repeat (first | refine qN ?_ _ | refine qD ?_ | refine qA ?_ _)); exact BK164.out) hb); have n1_ := qS (below_step (by repeat (first | (with_reducible first | exact HB.out | apply qpA | apply qpN | apply qp1 | refine qpS ?_ GE164.out) | exact HB.out)) hb); clear BK164; clear HB; have BK164 := n0_; have HB := n1_; clear n0_ n1_; (try clear hb); (try clear hb2); (try clear hk); (try clear hi); (try simp only [errW_none, errW_some])) | ((with_reducible refine gate_dst (N := 12) rfl ?_); refine box_event ?hg (N := 12) ?hd (cs := #[.bool false, .int .i64 0, .int .i64 0]) (t := 81) ?hr ?_; (case hd => rfl); (case hg => rfl); (case hr => first | (go_simp; done) | (go_simp; rfl)); intro gb180 hg w39 hbox hb; have n0_ := qS (qB (g := gb164) (o := .cells #[.bool true, .int .i64 x165001_1, .int .i64 x165002_1] 81 (0, 0)) (by (with_reducible repeat (first | refine qN ?_ _ | refine qD ?_ | refine qA ?_ _)); exact BK164.out) hb); have n1_ := qS (below_step (by repeat (first | (with_reducible first | exact HB.out | apply qpA | apply qpN | apply qp1 | refine qpS ?_ GE164.out) | exact HB.out)) hb); have n2_ := qS (hbox); have n3_ := qS ((by rw [hg]; exact (below_size (by repeat (first | (with_reducible first | exact HB.out | apply qpA | apply qpN | apply qp1 | refine qpS ?_ GE164.out) | exact HB.out))) : w.heap.size ≤ gb180)); have n4_ := qS ((by rw [hg]; exact (below_size (by repeat (first | (with_reducible first | exact HB.out | apply qpA | apply qpN | apply qp1 | refine qpS ?_ GE164.out) | exact HB.out))) : w.heap.size ≤ gb180)); have n5_ := qS ((by rw [hg]; exact Nat.ne_of_lt (blk_lt (g := gb164) (o := .cells #[.bool true, .int .i64 x165001_1, .int .i64 x165002_1] 81 (0, 0)) (by (with_reducible repeat (first | refine qN ?_ _ | refine qD ?_ | refine qA ?_ _)); exact BK164.out)) : gb164 ≠ gb180)); have n6_ := qS ((by rw [hg]; exact Nat.ne_of_gt (blk_lt (g := gb164) (o := .cells #[.bool true, .int .i64 x165001_1, .int .i64 x165002_1] 81 (0, 0)) (by (with_reducible repeat (first | refine qN ?_ _ | refine qD ?_ | refine qA ?_ _)); exact BK164.out)) : gb180 ≠ gb164)); clear BK164; clear HB; have BK164 := n0_; have HB := n1_; have BK180 := n2_; have GW180 := n3_; have GE180 := n4_; have NB164_180 := n5_; have NB180_164 := n6_; clear n0_ n1_ n2_ n3_ n4_ n5_ n6_; clear hb hbox hg; have hnb40 := NB180_164.out; have hnc40 := NB164_180.out; have hcz41_0 : w39.cell? ⟨gb180, 0, none⟩ = some (.bool false) := (qC BK180.out 0).trans rfl; have hcz41_1 : w39.cell? ⟨gb180, 1, none⟩ = some (.int .i64 0) := (qC BK180.out 1).trans rfl; have hcz41_2 : w39.cell? ⟨gb180, 2, none⟩ = some (.int .i64 0) := (qC BK180.out 2).trans rfl; have hfz41_0 := qF BK180.out 0; have hfz41_1 := qF BK180.out 1; have hfz41_2 := qF BK180.out 2; have hcz42_0 : w39.cell? ⟨gb164, 0, none⟩ = some (.bool true) := (qC BK164.out 0).trans rfl; have hcz42_1 : w39.cell? ⟨gb164, 1, none⟩ = some (.int .i64 x165001_1) := (qC BK164.out 1).trans rfl; have hcz42_2 : w39.cell? ⟨gb164, 2, none⟩ = some (.int .i64 x165002_1) := (qC BK164.out 2).trans rfl; have hfz42_0 := qF BK164.out 0; have hfz42_1 := qF BK164.out 1; have hfz42_2 := qF BK164.out 2) | ((with_reducible refine gate_callee (f := 44) rfl ?_); refine goesL_ (some 121) rfl rfl Tryd.func44 (by kernel_rfl) rfl #[.agg #[.bool false, .int .i64 t177, .int .i64 t178], .int .i64 (wrap64 (x4_1 + (wrap64 ((rd_T96 l0 x7_1).f0))))] rfl (by (try simp only [List.map_toArray, List.map_cons, List.map_nil]); first | done | rfl | (simp only [*]; done) | (simp only [List.length_drop, List.length_take]; rfl)) ?_; (with_reducible refine (pause_View.calls kj11 false t177 t178 (wrap64 (x4_1 + (wrap64 ((rd_T96 l0 x7_1).f0)))) t182 none _ A24.out).mono ?_); rintro e w43 ⟨rfl, hb⟩; refine ⟨_, rfl, ?_⟩; have n0_ := qS (qB (g := gb164) (o := .cells #[.bool false, .int .i64 t177, .int .i64 t178] 81 (0, 0)) (by (with_reducible repeat (first | refine qN ?_ _ | refine qD ?_ | refine qA ?_ _)); refine blk_put (cs := #[.bool false, .int .i64 t177, .int .i64 x165002_1]) ?_ 2 _ rfl; (with_reducible repeat (first | refine qN ?_ _ | refine qD ?_ | refine qA ?_ _)); refine blk_put (cs := #[.bool false, .int .i64 x165001_1, .int .i64 x165002_1]) ?_ 1 _ rfl; (with_reducible repeat (first | refine qN ?_ _ | refine qD ?_ | refine qA ?_ _)); refine blk_put (cs := #[.bool true, .int .i64 x165001_1, .int .i64 x165002_1]) ?_ 0 _ rfl; (with_reducible repeat (first | refine qN ?_ _ | refine qD ?_ | refine qA ?_ _)); refine blk_far ?_ NB164_180.out _; (with_reducible repeat (first | refine qN ?_ _ | refine qD ?_ | refine qA ?_ _)); refine blk_far ?_ NB164_180.out _; (with_reducible repeat (first | refine qN ?_ _ | refine qD ?_ | refine qA ?_ _)); refine blk_far ?_ NB164_180.out _; (with_reducible repeat (first | refine qN ?_ _ | refine qD ?_ | refine qA ?_ _)); exact BK164.out) hb); have n1_ := qS (qB (g := gb180) (o := .cells #[.bool false, .int .i64 t177, .int .i64 t178] 81 (0, 0)) (by (with_reducible repeat (first | refine qN ?_ _ | refine qD ?_ | refine qA ?_ _)); refine blk_far ?_ NB180_164.out _; (with_reducible repeat (first | refine qN ?_ _ | refine qD ?_ | refine qA ?_ _)); refine blk_far ?_ NB180_164.out _; (with_reducible repeat (first | refine qN ?_ _ | refine qD ?_ | refine qA ?_ _)); refine blk_far ?_ NB180_164.out _; (with_reducible repeat (first | refine qN ?_ _ | refine qD ?_ | refine qA ?_ _)); refine blk_put (cs := #[.bool false, .int .i64 t177, .int .i64 0]) ?_ 2 _ rfl; (with_reducible repeat (first | refine qN ?_ _ | refine qD ?_ | refine qA ?_ _)); refine blk_put (cs := #[.bool false, .int .i64 0, .int .i64 0]) ?_ 1 _ rfl; (with_reducible repeat (first | refine qN ?_ _ | refine qD ?_ | refine qA ?_ _)); refine blk_put (cs := #[.bool false, .int .i64 0, .int .i64 0]) ?_ 0 _ rfl; (with_reducible repeat (first | refine qN ?_ _ | refine qD ?_ | refine qA ?_ _)); exact BK180.out) hb); have n2_ := qS (below_step (by repeat (first | (with_reducible first | exact HB.out | apply qpA | apply qpN | apply qp1 | refine qpS ?_ GE164.out | refine qpS ?_ GE180.out) | exact HB.out)) hb); clear BK164; clear BK180; clear HB; have BK164 := n0_; have BK180 := n1_; have HB := n2_; clear n0_ n1_ n2_; (try clear hb); (try clear hb2); (try clear hk); (try clear hi); (try simp only [errW_none, errW_some]); have hcz44_0 : w43.cell? ⟨gb164, 0, none⟩ = some (.bool false) := (qC BK164.out 0).trans rfl; have hcz44_1 : w43.cell? ⟨gb164, 1, none⟩ = some (.int .i64 t177) := (qC BK164.out 1).trans rfl; have hcz44_2 : w43.cell? ⟨gb164, 2, none⟩ = some (.int .i64 t178) := (qC BK164.out 2).trans rfl; have hfz44_0 := qF BK164.out 0; have hfz44_1 := qF BK164.out 1; have hfz44_2 := qF BK164.out 2))
                      go_roundg kj11
                      case measure => have := HK1.out; have := HJ5.out; have := HJ11.out; omega
                      case rel => exact ⟨((wrap64 (x4_1 + (wrap64 ((rd_T96 l0 x7_1).f0))))), (t182), (wrap64 (x7_1 + 1)), (false), (t177), (t178), (by first | rfl | (simp; done) | (simp [*]; done)), (by first | rfl | (simp; done) | (simp [*]; done)), (by first | rfl | (simp; done) | (simp [*]; done)), H', ⟨by have := HK1.out; have := HJ5.out; have := HJ11.out; omega⟩, ⟨by (with_reducible repeat (first | refine qN ?_ _ | refine qD ?_ | refine qA ?_ _)); exact BK164.out⟩, ⟨by repeat (first | (with_reducible first | exact HB.out | apply qpA | apply qpN | apply qp1 | refine qpS ?_ GE164.out | refine qpS ?_ GE180.out) | exact HB.out)⟩⟩
                     ·rw [if_neg c36] at H
                      exact absurd H (by simp)
                 ·have H1 : (none) = some r := by rw [if_neg (show ¬ (some q184).isNone = true by simp)] at H; exact H
                  clear H
                  have H := H1
                  clear H1
                  try simp only [errW_none, errW_some]
                  exact absurd H (by simp)
                ·have H1 : (none) = some r := by rw [if_neg (show ¬ (some q181).isNone = true by simp)] at H; exact H
                 clear H
                 have H := H1
                 clear H1
                 try simp only [errW_none, errW_some]
                 exact absurd H (by simp)
               ·replace c22 := Bool.eq_false_iff.mpr c22
                subst c22
                have H1 : ((pause_Stop.f false x165001_1 x165002_1 (wrap64 (x4_1 + (wrap64 ((rd_T96 l0 x7_1).f0))))).bind fun bt185 => (if bt185.2.2.2.isNone = true then ((pause_View.f kj11 bt185.1 bt185.2.1 bt185.2.2.1 (wrap64 (x4_1 + (wrap64 ((rd_T96 l0 x7_1).f0))))).bind fun bt191 => (if bt191.2.isNone = true then (if bt185.1 = true then (if bt191.1 < t170 then (none) else (if bt191.1 = t170 then (fuseelaw27_PauseHolds.l0 kj11 l0 (wrap64 (x4_1 + (wrap64 ((rd_T96 l0 x7_1).f0)))) bt191.1 (wrap64 (x7_1 + 1)) bt185.1 bt185.2.1 bt185.2.2.1) else (none))) else (none)) else (none))) else (none))) = some r := by rw [if_neg (show ¬ (false = true) by decide)] at H; exact H
                clear H
                have H := H1
                clear H1
                replace H := Option.bind_eq_some_iff.mp H
                obtain ⟨⟨t185, t186, t187, t188⟩, A450, H⟩ := H
                replace H : (if t188.isNone = true then ((pause_View.f kj11 t185 t186 t187 (wrap64 (x4_1 + (wrap64 ((rd_T96 l0 x7_1).f0))))).bind fun bt191 => (if bt191.2.isNone = true then (if t185 = true then (if bt191.1 < t170 then (none) else (if bt191.1 = t170 then (fuseelaw27_PauseHolds.l0 kj11 l0 (wrap64 (x4_1 + (wrap64 ((rd_T96 l0 x7_1).f0)))) bt191.1 (wrap64 (x7_1 + 1)) t185 t186 t187) else (none))) else (none)) else (none))) else (none)) = some r := H
                have A45 := qS A450
                clear A450
                rcases t188 with _ | q190
                ·have H1 : ((pause_View.f kj11 t185 t186 t187 (wrap64 (x4_1 + (wrap64 ((rd_T96 l0 x7_1).f0))))).bind fun bt191 => (if bt191.2.isNone = true then (if t185 = true then (if bt191.1 < t170 then (none) else (if bt191.1 = t170 then (fuseelaw27_PauseHolds.l0 kj11 l0 (wrap64 (x4_1 + (wrap64 ((rd_T96 l0 x7_1).f0)))) bt191.1 (wrap64 (x7_1 + 1)) t185 t186 t187) else (none))) else (none)) else (none))) = some r := by rw [if_pos (show (none : Option Int).isNone = true by rfl)] at H; exact H
                 clear H
                 have H := H1
                 clear H1
                 try simp only [errW_none, errW_some]
                 replace H := Option.bind_eq_some_iff.mp H
                 obtain ⟨⟨t191, t192⟩, A460, H⟩ := H
                 replace H : (if t192.isNone = true then (if t185 = true then (if t191 < t170 then (none) else (if t191 = t170 then (fuseelaw27_PauseHolds.l0 kj11 l0 (wrap64 (x4_1 + (wrap64 ((rd_T96 l0 x7_1).f0)))) t191 (wrap64 (x7_1 + 1)) t185 t186 t187) else (none))) else (none)) else (none)) = some r := H
                 have A46 := qS A460
                 clear A460
                 rcases t192 with _ | q193
                 ·have H1 : (if t185 = true then (if t191 < t170 then (none) else (if t191 = t170 then (fuseelaw27_PauseHolds.l0 kj11 l0 (wrap64 (x4_1 + (wrap64 ((rd_T96 l0 x7_1).f0)))) t191 (wrap64 (x7_1 + 1)) t185 t186 t187) else (none))) else (none)) = some r := by rw [if_pos (show (none : Option Int).isNone = true by rfl)] at H; exact H
                  clear H
                  have H := H1
                  clear H1
                  try simp only [errW_none, errW_some]
                  by_cases c47 : t185 = true
                  ·subst c47
                   have H1 : (if t191 < t170 then (none) else (if t191 = t170 then (fuseelaw27_PauseHolds.l0 kj11 l0 (wrap64 (x4_1 + (wrap64 ((rd_T96 l0 x7_1).f0)))) t191 (wrap64 (x7_1 + 1)) true t186 t187) else (none))) = some r := by rw [if_pos rfl] at H; exact H
                   clear H
                   have H := H1
                   clear H1
                   by_cases c48 : t191 < t170
                   ·rw [if_pos c48] at H
                    exact absurd H (by simp)
                   ·rw [if_neg c48] at H
                    have c48b0 : decide (t191 < t170) = false := decide_eq_false c48
                    clear c48
                    by_cases c49 : t191 = t170
                    ·rw [if_pos c49] at H
                     have c49b0 : (t191 == t170) = true := beq_iff_eq.mpr c49
                     have c49b1 : (t191 != t170) = false := bne_eq_false_iff_eq.mpr c49
                     clear c49
                     have H' := qS H
                     clear H
                     have p174 : 0 ≤ (x7_1 : Int) := of_decide_eq_true (by first | (with_reducible assumption) | assumption)
                     have q174 : x7_1 < (l0.length : Int) := of_decide_eq_true (by first | (with_reducible assumption) | assumption)
                     obtain ⟨ad174, e174, hx174_0, hx174_1⟩ := at_T96 HR0.out x7_1 p174 q174
                     obtain rfl : ad169 = ad174 := (by injection e174)
                     replace hx174_0 := (HB.out.cell (World.block_lt_of_cell? w _ hx174_0)).trans hx174_0
                     replace hx174_1 := (HB.out.cell (World.block_lt_of_cell? w _ hx174_1)).trans hx174_1
                     replace p174 := eq_true p174
                     replace q174 := eq_true q174
                     have p175 : 0 ≤ (x7_1 : Int) := of_decide_eq_true (by first | (with_reducible assumption) | assumption)
                     have q175 : x7_1 < (l0.length : Int) := of_decide_eq_true (by first | (with_reducible assumption) | assumption)
                     obtain ⟨ad175, e175, hx175_0, hx175_1⟩ := at_T96 HR0.out x7_1 p175 q175
                     obtain rfl : ad169 = ad175 := (by injection e175)
                     replace hx175_0 := (HB.out.cell (World.block_lt_of_cell? w _ hx175_0)).trans hx175_0
                     replace hx175_1 := (HB.out.cell (World.block_lt_of_cell? w _ hx175_1)).trans hx175_1
                     replace p175 := eq_true p175
                     replace q175 := eq_true q175
                     have hcz50_0 : wc.cell? ⟨gb164, 0, none⟩ = some (.bool false) := (qC BK164.out 0).trans rfl
                     have hcz50_1 : wc.cell? ⟨gb164, 1, none⟩ = some (.int .i64 x165001_1) := (qC BK164.out 1).trans rfl
                     have hcz50_2 : wc.cell? ⟨gb164, 2, none⟩ = some (.int .i64 x165002_1) := (qC BK164.out 2).trans rfl
                     have hfz50_0 := qF BK164.out 0
                     have hfz50_1 := qF BK164.out 1
                     have hfz50_2 := qF BK164.out 2
                     go_wp2_with (first | ((with_reducible refine gate_callee (f := 40) rfl ?_); refine goesL_ (some 112) rfl rfl Tryd.func40 (by kernel_rfl) rfl #[.agg #[.bool false, .int .i64 x165001_1, .int .i64 x165002_1], .int .i64 (wrap64 (x4_1 + (wrap64 ((rd_T96 l0 x7_1).f0))))] rfl (by (try simp only [List.map_toArray, List.map_cons, List.map_nil]); first | done | rfl | (simp only [*]; done) | (simp only [List.length_drop, List.length_take]; rfl)) ?_; (with_reducible refine (pause_Stop.calls false x165001_1 x165002_1 (wrap64 (x4_1 + (wrap64 ((rd_T96 l0 x7_1).f0)))) true t186 t187 none _ A45.out).mono ?_); rintro e w51 ⟨rfl, hb⟩; refine ⟨_, rfl, ?_⟩; have n0_ := qS (qB (g := gb164) (o := .cells #[.bool false, .int .i64 x165001_1, .int .i64 x165002_1] 81 (0, 0)) (by (with_reducible repeat (first | refine qN ?_ _ | refine qD ?_ | refine qA ?_ _)); exact BK164.out) hb); have n1_ := qS (below_step (by repeat (first | (with_reducible first | exact HB.out | apply qpA | apply qpN | apply qp1 | refine qpS ?_ GE164.out) | exact HB.out)) hb); clear BK164; clear HB; have BK164 := n0_; have HB := n1_; clear n0_ n1_; (try clear hb); (try clear hb2); (try clear hk); (try clear hi); (try simp only [errW_none, errW_some])) | ((with_reducible refine gate_dst (N := 14) rfl ?_); refine box_event ?hg (N := 14) ?hd (cs := #[.bool false, .int .i64 0, .int .i64 0]) (t := 81) ?hr ?_; (case hd => rfl); (case hg => rfl); (case hr => first | (go_simp; done) | (go_simp; rfl)); intro gb189 hg w52 hbox hb; have n0_ := qS (qB (g := gb164) (o := .cells #[.bool false, .int .i64 x165001_1, .int .i64 x165002_1] 81 (0, 0)) (by (with_reducible repeat (first | refine qN ?_ _ | refine qD ?_ | refine qA ?_ _)); exact BK164.out) hb); have n1_ := qS (below_step (by repeat (first | (with_reducible first | exact HB.out | apply qpA | apply qpN | apply qp1 | refine qpS ?_ GE164.out) | exact HB.out)) hb); have n2_ := qS (hbox); have n3_ := qS ((by rw [hg]; exact (below_size (by repeat (first | (with_reducible first | exact HB.out | apply qpA | apply qpN | apply qp1 | refine qpS ?_ GE164.out) | exact HB.out))) : w.heap.size ≤ gb189)); have n4_ := qS ((by rw [hg]; exact (below_size (by repeat (first | (with_reducible first | exact HB.out | apply qpA | apply qpN | apply qp1 | refine qpS ?_ GE164.out) | exact HB.out))) : w.heap.size ≤ gb189)); have n5_ := qS ((by rw [hg]; exact Nat.ne_of_lt (blk_lt (g := gb164) (o := .cells #[.bool false, .int .i64 x165001_1, .int .i64 x165002_1] 81 (0, 0)) (by (with_reducible repeat (first | refine qN ?_ _ | refine qD ?_ | refine qA ?_ _)); exact BK164.out)) : gb164 ≠ gb189)); have n6_ := qS ((by rw [hg]; exact Nat.ne_of_gt (blk_lt (g := gb164) (o := .cells #[.bool false, .int .i64 x165001_1, .int .i64 x165002_1] 81 (0, 0)) (by (with_reducible repeat (first | refine qN ?_ _ | refine qD ?_ | refine qA ?_ _)); exact BK164.out)) : gb189 ≠ gb164)); clear BK164; clear HB; have BK164 := n0_; have HB := n1_; have BK189 := n2_; have GW189 := n3_; have GE189 := n4_; have NB164_189 := n5_; have NB189_164 := n6_; clear n0_ n1_ n2_ n3_ n4_ n5_ n6_; clear hb hbox hg; have hnb53 := NB189_164.out; have hnc53 := NB164_189.out; have hcz54_0 : w52.cell? ⟨gb189, 0, none⟩ = some (.bool false) := (qC BK189.out 0).trans rfl; have hcz54_1 : w52.cell? ⟨gb189, 1, none⟩ = some (.int .i64 0) := (qC BK189.out 1).trans rfl; have hcz54_2 : w52.cell? ⟨gb189, 2, none⟩ = some (.int .i64 0) := (qC BK189.out 2).trans rfl; have hfz54_0 := qF BK189.out 0; have hfz54_1 := qF BK189.out 1; have hfz54_2 := qF BK189.out 2; have hcz55_0 : w52.cell? ⟨gb164, 0, none⟩ = some (.bool false) := (qC BK164.out 0).trans rfl; have hcz55_1 : w52.cell? ⟨gb164, 1, none⟩ = some (.int .i64 x165001_1) := (qC BK164.out 1).trans rfl; have hcz55_2 : w52.cell? ⟨gb164, 2, none⟩ = some (.int .i64 x165002_1) := (qC BK164.out 2).trans rfl; have hfz55_0 := qF BK164.out 0; have hfz55_1 := qF BK164.out 1; have hfz55_2 := qF BK164.out 2) | ((with_reducible refine gate_callee (f := 44) rfl ?_); refine goesL_ (some 121) rfl rfl Tryd.func44 (by kernel_rfl) rfl #[.agg #[.bool true, .int .i64 t186, .int .i64 t187], .int .i64 (wrap64 (x4_1 + (wrap64 ((rd_T96 l0 x7_1).f0))))] rfl (by (try simp only [List.map_toArray, List.map_cons, List.map_nil]); first | done | rfl | (simp only [*]; done) | (simp only [List.length_drop, List.length_take]; rfl)) ?_; (with_reducible refine (pause_View.calls kj11 true t186 t187 (wrap64 (x4_1 + (wrap64 ((rd_T96 l0 x7_1).f0)))) t191 none _ A46.out).mono ?_); rintro e w56 ⟨rfl, hb⟩; refine ⟨_, rfl, ?_⟩; have n0_ := qS (qB (g := gb164) (o := .cells #[.bool true, .int .i64 t186, .int .i64 t187] 81 (0, 0)) (by (with_reducible repeat (first | refine qN ?_ _ | refine qD ?_ | refine qA ?_ _)); refine blk_put (cs := #[.bool true, .int .i64 t186, .int .i64 x165002_1]) ?_ 2 _ rfl; (with_reducible repeat (first | refine qN ?_ _ | refine qD ?_ | refine qA ?_ _)); refine blk_put (cs := #[.bool true, .int .i64 x165001_1, .int .i64 x165002_1]) ?_ 1 _ rfl; (with_reducible repeat (first | refine qN ?_ _ | refine qD ?_ | refine qA ?_ _)); refine blk_put (cs := #[.bool false, .int .i64 x165001_1, .int .i64 x165002_1]) ?_ 0 _ rfl; (with_reducible repeat (first | refine qN ?_ _ | refine qD ?_ | refine qA ?_ _)); refine blk_far ?_ NB164_189.out _; (with_reducible repeat (first | refine qN ?_ _ | refine qD ?_ | refine qA ?_ _)); refine blk_far ?_ NB164_189.out _; (with_reducible repeat (first | refine qN ?_ _ | refine qD ?_ | refine qA ?_ _)); refine blk_far ?_ NB164_189.out _; (with_reducible repeat (first | refine qN ?_ _ | refine qD ?_ | refine qA ?_ _)); exact BK164.out) hb); have n1_ := qS (qB (g := gb189) (o := .cells #[.bool true, .int .i64 t186, .int .i64 t187] 81 (0, 0)) (by (with_reducible repeat (first | refine qN ?_ _ | refine qD ?_ | refine qA ?_ _)); refine blk_far ?_ NB189_164.out _; (with_reducible repeat (first | refine qN ?_ _ | refine qD ?_ | refine qA ?_ _)); refine blk_far ?_ NB189_164.out _; (with_reducible repeat (first | refine qN ?_ _ | refine qD ?_ | refine qA ?_ _)); refine blk_far ?_ NB189_164.out _; (with_reducible repeat (first | refine qN ?_ _ | refine qD ?_ | refine qA ?_ _)); refine blk_put (cs := #[.bool true, .int .i64 t186, .int .i64 0]) ?_ 2 _ rfl; (with_reducible repeat (first | refine qN ?_ _ | refine qD ?_ | refine qA ?_ _)); refine blk_put (cs := #[.bool true, .int .i64 0, .int .i64 0]) ?_ 1 _ rfl; (with_reducible repeat (first | refine qN ?_ _ | refine qD ?_ | refine qA ?_ _)); refine blk_put (cs := #[.bool false, .int .i64 0, .int .i64 0]) ?_ 0 _ rfl; (with_reducible repeat (first | refine qN ?_ _ | refine qD ?_ | refine qA ?_ _)); exact BK189.out) hb); have n2_ := qS (below_step (by repeat (first | (with_reducible first | exact HB.out | apply qpA | apply qpN | apply qp1 | refine qpS ?_ GE164.out | refine qpS ?_ GE189.out) | exact HB.out)) hb); clear BK164; clear BK189; clear HB; have BK164 := n0_; have BK189 := n1_; have HB := n2_; clear n0_ n1_ n2_; (try clear hb); (try clear hb2); (try clear hk); (try clear hi); (try simp only [errW_none, errW_some]); have hcz57_0 : w56.cell? ⟨gb164, 0, none⟩ = some (.bool true) := (qC BK164.out 0).trans rfl; have hcz57_1 : w56.cell? ⟨gb164, 1, none⟩ = some (.int .i64 t186) := (qC BK164.out 1).trans rfl; have hcz57_2 : w56.cell? ⟨gb164, 2, none⟩ = some (.int .i64 t187) := (qC BK164.out 2).trans rfl; have hfz57_0 := qF BK164.out 0; have hfz57_1 := qF BK164.out 1; have hfz57_2 := qF BK164.out 2))
                     go_roundg kj11
                     case measure => have := HK1.out; have := HJ5.out; have := HJ11.out; omega
                     case rel => exact ⟨((wrap64 (x4_1 + (wrap64 ((rd_T96 l0 x7_1).f0))))), (t191), (wrap64 (x7_1 + 1)), (true), (t186), (t187), (by first | rfl | (simp; done) | (simp [*]; done)), (by first | rfl | (simp; done) | (simp [*]; done)), (by first | rfl | (simp; done) | (simp [*]; done)), H', ⟨by have := HK1.out; have := HJ5.out; have := HJ11.out; omega⟩, ⟨by (with_reducible repeat (first | refine qN ?_ _ | refine qD ?_ | refine qA ?_ _)); exact BK164.out⟩, ⟨by repeat (first | (with_reducible first | exact HB.out | apply qpA | apply qpN | apply qp1 | refine qpS ?_ GE164.out | refine qpS ?_ GE189.out) | exact HB.out)⟩⟩
                    ·rw [if_neg c49] at H
                     exact absurd H (by simp)
                  ·replace c47 := Bool.eq_false_iff.mpr c47
                   subst c47
                   have H1 : (none) = some r := by rw [if_neg (show ¬ (false = true) by decide)] at H; exact H
                   clear H
                   have H := H1
                   clear H1
                   exact absurd H (by simp)
                 ·have H1 : (none) = some r := by rw [if_neg (show ¬ (some q193).isNone = true by simp)] at H; exact H
                  clear H
                  have H := H1
                  clear H1
                  try simp only [errW_none, errW_some]
                  exact absurd H (by simp)
                ·have H1 : (none) = some r := by rw [if_neg (show ¬ (some q190).isNone = true by simp)] at H; exact H
                 clear H
                 have H := H1
                 clear H1
                 try simp only [errW_none, errW_some]
                 exact absurd H (by simp)
             ·rw [if_neg c20] at H
              exact absurd H (by simp)
            ·rw [if_neg c19] at H
             exact absurd H (by simp)
        ·rw [if_neg c10] at H
         exact absurd H (by simp)
       ·rw [if_neg c9] at H
        exact absurd H (by simp)
      ·replace c8 := Bool.eq_false_iff.mpr c8
       subst c8
       have H1 : ((fuseelaw27_sure.f kj5).bind fun t168 => (some t168)) = some r := by rw [if_neg (show ¬ (false = true) by decide)] at H; exact H
       clear H
       have H := H1
       clear H1
       replace H := Option.bind_eq_some_iff.mp H
       obtain ⟨t168, A580, H⟩ := H
       replace H : (some t168) = some r := H
       have A58 := qS A580
       clear A580
       obtain rfl := Option.some.inj H
       go_wp2_with (first | ((with_reducible refine gate_callee (f := 49) rfl ?_); refine goesL_ (some 150) rfl rfl Tryd.func49 (by kernel_rfl) rfl #[] rfl (by (try simp only [List.map_toArray, List.map_cons, List.map_nil]); first | done | rfl | (simp only [*]; done) | (simp only [List.length_drop, List.length_take]; rfl)) ?_; (with_reducible refine (fuseelaw27_sure.calls kj5  t168 _ ?side1 A58.out).mono ?_); (case side1 => exact HG.below hgL (Nat.le_refl _) (by repeat (first | (with_reducible first | exact HB.out | apply qpA | apply qpN | apply qp1 | refine qpS ?_ GE164.out) | exact HB.out))); rintro e w59 ⟨rfl, hb⟩; refine ⟨_, rfl, ?_⟩; have n0_ := qS (qB (g := gb164) (o := .cells #[.bool x165000_1, .int .i64 x165001_1, .int .i64 x165002_1] 81 (0, 0)) (by (with_reducible repeat (first | refine qN ?_ _ | refine qD ?_ | refine qA ?_ _)); exact BK164.out) hb); have n1_ := qS (below_step (by repeat (first | (with_reducible first | exact HB.out | apply qpA | apply qpN | apply qp1 | refine qpS ?_ GE164.out) | exact HB.out)) hb); clear BK164; clear HB; have BK164 := n0_; have HB := n1_; clear n0_ n1_; (try clear hb); (try clear hb2); (try clear hk); (try clear hi)))
       go_ret
       exact ⟨by first | rfl | (simp [errW_none, errW_some] <;> rfl) | (simp [*, errW_none, errW_some] <;> rfl), by repeat (first | (with_reducible first | exact HB.out | apply qpA | apply qpN | apply qp1 | refine qpS ?_ GE164.out) | exact HB.out)⟩
 ·have H1 : (none) = some r := by rw [if_neg (show ¬ (some q167).isNone = true by simp)] at H; exact H
  clear H
  have H := H1
  clear H1
  try simp only [errW_none, errW_some]
  exact absurd H (by simp)

end Go.Proofs.YtfipgpfmlkfkfaaDoor.MPauseHolds
