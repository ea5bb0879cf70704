/-
  servo.Check and servo.Pull walked.
-/
import Derived.Test.YtcpbfckmngbgdaaDoorMSbx
import Derived.Laws.ComplexArith
import Derived.Test.YtcpbfckmngbgdaaDoorFl
import Derived.Deep.RegionHeld3
import Derived.Deep.DeepCutAuto
import Derived.Deep.CutBlock
import Derived.LoopTactic
namespace Go.Proofs.YtcpbfckmngbgdaaDoor.MSv
open Go.RowKit Go.Proofs.YtcpbfckmngbgdaaDoorW.PrintWords Go.Proofs.YtcpbfckmngbgdaaDoorW.PrintLast Go.Proofs.YtcpbfckmngbgdaaDoorW.PrintMore
set_option linter.unusedVariables false
set_option linter.unusedSimpArgs false

/-- may a gain and a limit be? -/
def okGain (p i limit : Int) : Prop := 0 ≤ p ∧ p ≤ 1024 ∧ 0 ≤ i ∧ i ≤ 1024 ∧ 0 ≤ limit ∧ limit ≤ 1048576
instance (p i limit : Int) : Decidable (okGain p i limit) := by unfold okGain; infer_instance
def servo_Check.f (a0_0 : Int) (a0_1 : Int) (a1 : Int) : Option (Option Int) := some (if okGain a0_0 a0_1 a1 then none else some 1)
theorem idx0 (p i : Int) : ∀ w, (Instr.index 131 (.agg #[.int .i64 p, .int .i64 i]) (.int .i64 0)).run Tryd.prog w = .ok (.int .i64 p) w := by
  intro w; kernel_rfl
theorem idx1 (p i : Int) : ∀ w, (Instr.index 131 (.agg #[.int .i64 p, .int .i64 i]) (.int .i64 1)).run Tryd.prog w = .ok (.int .i64 i) w := by
  intro w; kernel_rfl
set_option maxHeartbeats 2000000 in
set_option maxRecDepth 100000 in
theorem check_walk (p i limit : Int) (w : World) :
    Calls Tryd.prog 167 #[.agg #[.int .i64 p, .int .i64 i], .int .i64 limit] w fun e w' => e = .returned (errV (if okGain p i limit then none else some 1)) ∧ Below w.heap.size w w' := by
  obtain ⟨r, hr⟩ : ∃ r, r = (if okGain p i limit then none else some (1 : Int)) := ⟨_, rfl⟩
  rw [← hr]
  have HR := Lib.hid hr
  clear hr
  obtain ⟨w1, hw1⟩ : ∃ w1, w1 = w.alloc (.cells #[.int .i64 p, .int .i64 i] 132) := ⟨_, rfl⟩
  obtain ⟨gk, hgk⟩ : ∃ gk, gk = w.heap.size := ⟨_, rfl⟩
  have hk1 : w1.heap[gk]? = some (.cells #[.int .i64 p, .int .i64 i] 132 (0, 0)) := by rw [hw1, hgk]; exact heap_alloc_new w _
  have hb1 : Below w.heap.size w w1 := by rw [hw1]; exact (Below.refl _ w).alloc (Nat.le_refl _) _
  have HW := Lib.hid hw1
  have HG := Lib.hid hgk
  have c0 : w1.cell? ⟨gk, 0, none⟩ = some (.int .i64 p) := (blk_cell hk1 0).trans rfl
  have c1 : w1.cell? ⟨gk, 1, none⟩ = some (.int .i64 i) := (blk_cell hk1 1).trans rfl
  have f0 := blk_frozen hk1 0
  have f1 := blk_frozen hk1 1
  have HB := Aside0.mk hb1
  have ix0 := idx0 p i
  have ix1 := idx1 p i
  clear hw1 hgk hk1 hb1
  go_enter Tryd.func167, Tryd.ntmps167
  go_upto_region 1 with (fail)
  rw [← HW.out, ← HG.out]
  go_wp2_with (fail)
  go_loopw [12] (fun v wr => ∃ j : Int, Aside0 (0 ≤ j ∧ j ≤ 2 ∧ (1 ≤ j → 0 ≤ p ∧ p ≤ 1024) ∧ (2 ≤ j → 0 ≤ i ∧ i ≤ 1024)) ∧ v = .int .i64 j ∧ Aside0 (Below w.heap.size w wr)) (fun v _ => match v with | .int _ i => (2 - i).toNat | _ => 0)
  case atStart => exact ⟨0, ⟨by omega, by omega, by omega, by omega⟩, rfl, HB⟩
  case round =>
    clear HB c0 c1 f0 f1
    obtain ⟨j, hj, rfl, HB⟩ := hrel
    have hj0 := hj.out.1
    have hj2 := hj.out.2.1
    rcases Int.lt_or_le j 1 with h | h
    · obtain rfl : j = 0 := by omega
      clear h hj0 hj2
      by_cases a : p < 0
      · have A0 := decide_eq_true a
        go_wp2
        go_ret
        refine ⟨?_, HB.out⟩
        rw [HR.out, if_neg (by unfold okGain; omega)]; rfl
      · have A0 := decide_eq_false a
        by_cases b : 1024 < p
        · have B0 := decide_eq_true b
          go_wp2
          go_ret
          refine ⟨?_, HB.out⟩
          rw [HR.out, if_neg (by unfold okGain; omega)]; rfl
        · have B0 := decide_eq_false b
          go_wp2
          go_roundw
          case rel => exact ⟨1, ⟨by omega, by omega, by omega, by omega⟩, rfl, HB⟩
          case measure => simp
    · rcases Int.lt_or_le j 2 with h' | h'
      · obtain rfl : j = 1 := by omega
        clear h h' hj0 hj2
        by_cases a : i < 0
        · have A0 := decide_eq_true a
          go_wp2
          go_ret
          refine ⟨?_, HB.out⟩
          rw [HR.out, if_neg (by unfold okGain; omega)]; rfl
        · have A0 := decide_eq_false a
          by_cases b : 1024 < i
          · have B0 := decide_eq_true b
            go_wp2
            go_ret
            refine ⟨?_, HB.out⟩
            rw [HR.out, if_neg (by unfold okGain; omega)]; rfl
          · have B0 := decide_eq_false b
            go_wp2
            go_roundw
            case rel => exact ⟨2, ⟨by omega, by omega, by have := hj.out.2.2.1 (by omega); omega, by omega⟩, rfl, HB⟩
            case measure => simp
      · obtain rfl : j = 2 := by omega
        clear h h' hj0 hj2
        have hP := hj.out.2.2.1 (by omega)
        have hI := hj.out.2.2.2 (by omega)
        by_cases a : limit < 0
        · have A0 := decide_eq_true a
          clear hP hI
          go_wp2
          go_ret
          refine ⟨?_, HB.out⟩
          rw [HR.out, if_neg (by unfold okGain; omega)]; rfl
        · have A0 := decide_eq_false a
          by_cases b : 1048576 < limit
          · have B0 := decide_eq_true b
            clear hP hI
            go_wp2
            go_ret
            refine ⟨?_, HB.out⟩
            rw [HR.out, if_neg (by unfold okGain; omega)]; rfl
          · have B0 := decide_eq_false b
            have HO := Lib.hid (And.intro hP hI)
            clear hP hI
            go_wp2
            go_ret
            refine ⟨?_, HB.out⟩
            have := HO.out
            rw [HR.out, if_pos (by unfold okGain; omega)]; rfl
def small (n : Int) : Prop := -1048576 ≤ n ∧ n ≤ 1048576
instance (n : Int) : Decidable (small n) := by unfold small; infer_instance
theorem within_eq (n : Int) : _root_.Go.Proofs.YtcpbfckmngbgdaaDoor.MSb.servo_within.f n = some (if small n then n else if n < 0 then -1048576 else 1048576) := by
  unfold _root_.Go.Proofs.YtcpbfckmngbgdaaDoor.MSb.servo_within.f _root_.Go.Proofs.YtcpbfckmngbgdaaDoor.MSb.num_Clamp.f
  simp only [Option.bind_some, mx, mn]
  congr 1
  unfold small
  repeat' split
  all_goals omega
set_option maxHeartbeats 2000000 in
set_option maxRecDepth 100000 in
theorem pull_ok (p i off sum : Int) (re im : Nat) (w : World) (hg : okGain p i 0) (ho : small off) (hs : small sum) (hm : cMulBits (floatOfInt .f64 p) (floatOfInt .f64 i) (floatOfInt .f64 off) (Op.negFloat .f64 (floatOfInt .f64 sum)) = some (re, im)) :
    Calls Tryd.prog 170 #[.agg #[.int .i64 p, .int .i64 i], .int .i64 off, .int .i64 sum] w fun e w' => e = .returned (.tuple #[.complex .f64 re im, .nilIface]) ∧ Below w.heap.size w w' := by
  have hC : ∀ W, Calls Tryd.prog 167 #[.agg #[.int .i64 p, .int .i64 i], .int .i64 0] W fun e w' => e = .returned .nilIface ∧ Below W.heap.size W w' := fun W => (check_walk p i 0 W).mono fun e w' h => by rw [if_pos hg] at h; exact h
  have hw1 : ∀ W, Calls Tryd.prog 168 #[.int .i64 off] W fun e w' => e = .returned (.int .i64 off) ∧ Below W.heap.size W w' := fun W => _root_.Go.Proofs.YtcpbfckmngbgdaaDoor.MSb.servo_within.calls off off W (by rw [within_eq, if_pos ho])
  have hw2 : ∀ W, Calls Tryd.prog 168 #[.int .i64 sum] W fun e w' => e = .returned (.int .i64 sum) ∧ Below W.heap.size W w' := fun W => _root_.Go.Proofs.YtcpbfckmngbgdaaDoor.MSb.servo_within.calls sum sum W (by rw [within_eq, if_pos hs])
  obtain ⟨w1, hw1'⟩ : ∃ w1, w1 = w.alloc (.cells #[.int .i64 p, .int .i64 i] 132) := ⟨_, rfl⟩
  obtain ⟨gk, hgk⟩ : ∃ gk, gk = w.heap.size := ⟨_, rfl⟩
  have hk1 : w1.heap[gk]? = some (.cells #[.int .i64 p, .int .i64 i] 132 (0, 0)) := by rw [hw1', hgk]; exact heap_alloc_new w _
  have hb1 : Below w.heap.size w w1 := by rw [hw1']; exact (Below.refl _ w).alloc (Nat.le_refl _) _
  have HW := Lib.hid hw1'
  have HG := Lib.hid hgk
  have HK := Aside0.mk hk1
  have HB := Aside0.mk hb1
  have hmul : ∀ W, (binOp .mul 262 (.complex .f64 (floatOfInt .f64 p) (floatOfInt .f64 i)) (.complex .f64 (floatOfInt .f64 off) (Op.negFloat .f64 (floatOfInt .f64 sum)))).run Tryd.prog W = .ok (.complex .f64 re im) W := fun W => run_complex_mul W _ _ _ _ _ _ _ hm
  have hneg : ∀ W, (Op.unary .neg (.float .f64 (floatOfInt .f64 sum))).run Tryd.prog W = .ok (.float .f64 (Op.negFloat .f64 (floatOfInt .f64 sum))) W := fun W => rfl
  clear hw1' hgk hk1 hb1 hg ho hs hm
  go_enter Tryd.func170, Tryd.ntmps170
  go_upto_region 1 with (fail)
  rw [← HW.out, ← HG.out]
  have c0 : w1.cell? ⟨gk, 0, none⟩ = some (.int .i64 p) := (blk_cell HK.out 0).trans rfl
  have c1 : w1.cell? ⟨gk, 1, none⟩ = some (.int .i64 i) := (blk_cell HK.out 1).trans rfl
  have f0 := blk_frozen HK.out 0
  have f1 := blk_frozen HK.out 1
  go_wp2_with (fail)
  (with_reducible refine (hC _).mono ?_)
  clear c0 c1 f0 f1
  rintro e w2 ⟨rfl, hb_⟩
  have nB := Aside0.mk (HB.out.trans (hb_.mono HB.out.size))
  have nK := Aside0.mk ((hb_.block gk ((Array.getElem?_eq_some_iff.1 HK.out).1)).trans HK.out)
  clear HB HK hb_
  have HB := nB
  have HK := nK
  clear nB nK
  go_wp2_with (fail)
  (with_reducible refine (hw1 _).mono ?_)
  rintro e w3 ⟨rfl, hb_⟩
  have nB := Aside0.mk (HB.out.trans (hb_.mono HB.out.size))
  have nK := Aside0.mk ((hb_.block gk ((Array.getElem?_eq_some_iff.1 HK.out).1)).trans HK.out)
  clear HB HK hb_
  have HB := nB
  have HK := nK
  clear nB nK
  go_wp2_with (fail)
  (with_reducible refine (hw2 _).mono ?_)
  rintro e w4 ⟨rfl, hb_⟩
  have nB := Aside0.mk (HB.out.trans (hb_.mono HB.out.size))
  have nK := Aside0.mk ((hb_.block gk ((Array.getElem?_eq_some_iff.1 HK.out).1)).trans HK.out)
  clear HB HK hb_
  have HB := nB
  have HK := nK
  clear nB nK
  have c0 : w4.cell? ⟨gk, 0, none⟩ = some (.int .i64 p) := (blk_cell HK.out 0).trans rfl
  have c1 : w4.cell? ⟨gk, 1, none⟩ = some (.int .i64 i) := (blk_cell HK.out 1).trans rfl
  have f0 := blk_frozen HK.out 0
  have f1 := blk_frozen HK.out 1
  clear hC hw1 hw2
  go_wp2
  refine bodyPost_ret (results_tmp2 rfl _ _ _) rfl ?_
  exact ⟨rfl, HB.out⟩
set_option maxHeartbeats 2000000 in
set_option maxRecDepth 100000 in
theorem pull_bad1 (p i off sum : Int) (w : World) (hg : ¬ okGain p i 0) :
    Calls Tryd.prog 170 #[.agg #[.int .i64 p, .int .i64 i], .int .i64 off, .int .i64 sum] w fun e w' => e = .returned (.tuple #[.complex .f64 0 0, .iface 162 (.int .i64 1)]) ∧ Below w.heap.size w w' := by
  have hC : ∀ W, Calls Tryd.prog 167 #[.agg #[.int .i64 p, .int .i64 i], .int .i64 0] W fun e w' => e = .returned (.iface 162 (.int .i64 1)) ∧ Below W.heap.size W w' := fun W => (check_walk p i 0 W).mono fun e w' h => by rw [if_neg hg] at h; exact h
  clear hg
  obtain ⟨w1, hw1'⟩ : ∃ w1, w1 = w.alloc (.cells #[.int .i64 p, .int .i64 i] 132) := ⟨_, rfl⟩
  obtain ⟨gk, hgk⟩ : ∃ gk, gk = w.heap.size := ⟨_, rfl⟩
  have hk1 : w1.heap[gk]? = some (.cells #[.int .i64 p, .int .i64 i] 132 (0, 0)) := by rw [hw1', hgk]; exact heap_alloc_new w _
  have hb1 : Below w.heap.size w w1 := by rw [hw1']; exact (Below.refl _ w).alloc (Nat.le_refl _) _
  have HW := Lib.hid hw1'
  have HG := Lib.hid hgk
  have HB := Aside0.mk hb1
  have c0 : w1.cell? ⟨gk, 0, none⟩ = some (.int .i64 p) := (blk_cell hk1 0).trans rfl
  have c1 : w1.cell? ⟨gk, 1, none⟩ = some (.int .i64 i) := (blk_cell hk1 1).trans rfl
  have f0 := blk_frozen hk1 0
  have f1 := blk_frozen hk1 1
  clear hw1' hgk hk1 hb1
  go_enter Tryd.func170, Tryd.ntmps170
  go_upto_region 1 with (fail)
  rw [← HW.out, ← HG.out]
  go_wp2_with (fail)
  clear c0 c1 f0 f1
  (with_reducible refine (hC _).mono ?_)
  rintro e w2 ⟨rfl, hb_⟩
  have nB := Aside0.mk (HB.out.trans (hb_.mono HB.out.size))
  clear HB hb_
  have HB := nB
  clear nB
  clear hC
  go_wp2
  refine bodyPost_ret (results_tmp2 rfl _ _ _) rfl ?_
  exact ⟨rfl, HB.out⟩
set_option maxHeartbeats 2000000 in
set_option maxRecDepth 100000 in
theorem pull_bad2 (p i off sum : Int) (w : World) (hg : okGain p i 0) (ho : ¬ small off) :
    Calls Tryd.prog 170 #[.agg #[.int .i64 p, .int .i64 i], .int .i64 off, .int .i64 sum] w fun e w' => e = .returned (.tuple #[.complex .f64 0 0, .iface 162 (.int .i64 1)]) ∧ Below w.heap.size w w' := by
  have hC : ∀ W, Calls Tryd.prog 167 #[.agg #[.int .i64 p, .int .i64 i], .int .i64 0] W fun e w' => e = .returned .nilIface ∧ Below W.heap.size W w' := fun W => (check_walk p i 0 W).mono fun e w' h => by rw [if_pos hg] at h; exact h
  have hw1 : ∀ W, Calls Tryd.prog 168 #[.int .i64 off] W fun e w' => e = .returned (.int .i64 (if off < 0 then (-1048576 : Int) else 1048576)) ∧ Below W.heap.size W w' := fun W => _root_.Go.Proofs.YtcpbfckmngbgdaaDoor.MSb.servo_within.calls off _ W (by rw [within_eq, if_neg ho])
  obtain ⟨v, hv⟩ : ∃ v, v = (if off < 0 then (-1048576 : Int) else 1048576) := ⟨_, rfl⟩
  have hne : v ≠ off := by rw [hv]; unfold small at ho; split <;> omega
  rw [← hv] at hw1
  have n1 : (v != off) = true := bne_iff_ne.mpr hne
  have n2 : (v == off) = false := beq_eq_false_iff_ne.mpr hne
  clear hv hne hg ho
  obtain ⟨w1, hw1'⟩ : ∃ w1, w1 = w.alloc (.cells #[.int .i64 p, .int .i64 i] 132) := ⟨_, rfl⟩
  obtain ⟨gk, hgk⟩ : ∃ gk, gk = w.heap.size := ⟨_, rfl⟩
  have hk1 : w1.heap[gk]? = some (.cells #[.int .i64 p, .int .i64 i] 132 (0, 0)) := by rw [hw1', hgk]; exact heap_alloc_new w _
  have hb1 : Below w.heap.size w w1 := by rw [hw1']; exact (Below.refl _ w).alloc (Nat.le_refl _) _
  have HW := Lib.hid hw1'
  have HG := Lib.hid hgk
  have HB := Aside0.mk hb1
  have c0 : w1.cell? ⟨gk, 0, none⟩ = some (.int .i64 p) := (blk_cell hk1 0).trans rfl
  have c1 : w1.cell? ⟨gk, 1, none⟩ = some (.int .i64 i) := (blk_cell hk1 1).trans rfl
  have f0 := blk_frozen hk1 0
  have f1 := blk_frozen hk1 1
  clear hw1' hgk hk1 hb1
  go_enter Tryd.func170, Tryd.ntmps170
  go_upto_region 1 with (fail)
  rw [← HW.out, ← HG.out]
  go_wp2_with (fail)
  clear c0 c1 f0 f1
  (with_reducible refine (hC _).mono ?_)
  rintro e w2 ⟨rfl, hb_⟩
  have nB := Aside0.mk (HB.out.trans (hb_.mono HB.out.size))
  clear HB hb_
  have HB := nB
  clear nB
  clear hC
  go_wp2_with (fail)
  (with_reducible refine (hw1 _).mono ?_)
  rintro e w3 ⟨rfl, hb_⟩
  have nB := Aside0.mk (HB.out.trans (hb_.mono HB.out.size))
  clear HB hb_
  have HB := nB
  clear nB
  clear hw1
  go_wp2
  refine bodyPost_ret (results_tmp2 rfl _ _ _) rfl ?_
  exact ⟨rfl, HB.out⟩
set_option maxHeartbeats 2000000 in
set_option maxRecDepth 100000 in
theorem pull_bad3 (p i off sum : Int) (w : World) (hg : okGain p i 0) (ho : small off) (hs : ¬ small sum) :
    Calls Tryd.prog 170 #[.agg #[.int .i64 p, .int .i64 i], .int .i64 off, .int .i64 sum] w fun e w' => e = .returned (.tuple #[.complex .f64 0 0, .iface 162 (.int .i64 1)]) ∧ Below w.heap.size w w' := by
  have hC : ∀ W, Calls Tryd.prog 167 #[.agg #[.int .i64 p, .int .i64 i], .int .i64 0] W fun e w' => e = .returned .nilIface ∧ Below W.heap.size W w' := fun W => (check_walk p i 0 W).mono fun e w' h => by rw [if_pos hg] at h; exact h
  have hw1 : ∀ W, Calls Tryd.prog 168 #[.int .i64 off] W fun e w' => e = .returned (.int .i64 off) ∧ Below W.heap.size W w' := fun W => _root_.Go.Proofs.YtcpbfckmngbgdaaDoor.MSb.servo_within.calls off off W (by rw [within_eq, if_pos ho])
  have hw2 : ∀ W, Calls Tryd.prog 168 #[.int .i64 sum] W fun e w' => e = .returned (.int .i64 (if sum < 0 then (-1048576 : Int) else 1048576)) ∧ Below W.heap.size W w' := fun W => _root_.Go.Proofs.YtcpbfckmngbgdaaDoor.MSb.servo_within.calls sum _ W (by rw [within_eq, if_neg hs])
  obtain ⟨v, hv⟩ : ∃ v, v = (if sum < 0 then (-1048576 : Int) else 1048576) := ⟨_, rfl⟩
  have hne : v ≠ sum := by rw [hv]; unfold small at hs; split <;> omega
  rw [← hv] at hw2
  have n1 : (v != sum) = true := bne_iff_ne.mpr hne
  have n2 : (v == sum) = false := beq_eq_false_iff_ne.mpr hne
  clear hv hne hg hs ho
  obtain ⟨w1, hw1'⟩ : ∃ w1, w1 = w.alloc (.cells #[.int .i64 p, .int .i64 i] 132) := ⟨_, rfl⟩
  obtain ⟨gk, hgk⟩ : ∃ gk, gk = w.heap.size := ⟨_, rfl⟩
  have hk1 : w1.heap[gk]? = some (.cells #[.int .i64 p, .int .i64 i] 132 (0, 0)) := by rw [hw1', hgk]; exact heap_alloc_new w _
  have hb1 : Below w.heap.size w w1 := by rw [hw1']; exact (Below.refl _ w).alloc (Nat.le_refl _) _
  have HW := Lib.hid hw1'
  have HG := Lib.hid hgk
  have HB := Aside0.mk hb1
  have c0 : w1.cell? ⟨gk, 0, none⟩ = some (.int .i64 p) := (blk_cell hk1 0).trans rfl
  have c1 : w1.cell? ⟨gk, 1, none⟩ = some (.int .i64 i) := (blk_cell hk1 1).trans rfl
  have f0 := blk_frozen hk1 0
  have f1 := blk_frozen hk1 1
  clear hw1' hgk hk1 hb1
  go_enter Tryd.func170, Tryd.ntmps170
  go_upto_region 1 with (fail)
  rw [← HW.out, ← HG.out]
  go_wp2_with (fail)
  clear c0 c1 f0 f1
  (with_reducible refine (hC _).mono ?_)
  rintro e w2 ⟨rfl, hb_⟩
  have nB := Aside0.mk (HB.out.trans (hb_.mono HB.out.size))
  clear HB hb_
  have HB := nB
  clear nB
  clear hC
  go_wp2_with (fail)
  (with_reducible refine (hw1 _).mono ?_)
  rintro e w3 ⟨rfl, hb_⟩
  have nB := Aside0.mk (HB.out.trans (hb_.mono HB.out.size))
  clear HB hb_
  have HB := nB
  clear nB
  clear hw1
  go_wp2_with (fail)
  (with_reducible refine (hw2 _).mono ?_)
  rintro e w4 ⟨rfl, hb_⟩
  have nB := Aside0.mk (HB.out.trans (hb_.mono HB.out.size))
  clear HB hb_
  have HB := nB
  clear nB
  clear hw2
  go_wp2
  refine bodyPost_ret (results_tmp2 rfl _ _ _) rfl ?_
  exact ⟨rfl, HB.out⟩
/-- a pull, as bits -/
def servo_Pull.f (a0_0 a0_1 a1 a2 : Int) : Option ((Nat × Nat) × Option Int) :=
  if okGain a0_0 a0_1 0 ∧ small a1 ∧ small a2 then (cMulBits (floatOfInt .f64 a0_0) (floatOfInt .f64 a0_1) (floatOfInt .f64 a1) (Op.negFloat .f64 (floatOfInt .f64 a2))).map (fun b => (b, none)) else some ((0, 0), some 1)
theorem pull_walk (p i off sum : Int) (r1 : Nat × Nat) (r2 : Option Int) (w : World) (h : servo_Pull.f p i off sum = some (r1, r2)) :
    Calls Tryd.prog 170 #[.agg #[.int .i64 p, .int .i64 i], .int .i64 off, .int .i64 sum] w fun e w' => e = .returned (.tuple #[.complex .f64 r1.1 r1.2, errV r2]) ∧ Below w.heap.size w w' := by
  unfold servo_Pull.f at h
  by_cases hg : okGain p i 0
  · by_cases ho : small off
    · by_cases hs : small sum
      · rw [if_pos ⟨hg, ho, hs⟩] at h
        obtain ⟨⟨re, im⟩, e1, e2⟩ := Option.map_eq_some_iff.1 h
        obtain ⟨rfl, rfl⟩ := Prod.mk.inj e2
        exact pull_ok p i off sum re im w hg ho hs e1
      · rw [if_neg (fun x => hs x.2.2)] at h
        obtain ⟨rfl, rfl⟩ := Prod.mk.inj (Option.some.inj h)
        exact pull_bad3 p i off sum w hg ho hs
    · rw [if_neg (fun x => ho x.2.1)] at h
      obtain ⟨rfl, rfl⟩ := Prod.mk.inj (Option.some.inj h)
      exact pull_bad2 p i off sum w hg ho
  · rw [if_neg (fun x => hg x.1)] at h
    obtain ⟨rfl, rfl⟩ := Prod.mk.inj (Option.some.inj h)
    exact pull_bad1 p i off sum w hg
end Go.Proofs.YtcpbfckmngbgdaaDoor.MSv
namespace Go.Proofs.YtcpbfckmngbgdaaDoor
open Go.RowKit
def flEq (a b : Nat) : Bool := Ieee.double.order a b == some .eq
theorem conv_fl (b : Nat) (h : (floatToIntVal .f64 b .i64).isSome = true) (w : World) : (convert 266 2 (.float .f64 b)).run Tryd.prog w = .ok (.int .i64 ((floatToIntVal .f64 b .i64).getD 0)) w := by
  obtain ⟨n, hn⟩ := Option.isSome_iff_exists.1 h
  rw [hn]
  exact run_convert_float_int w _ _ _ _ _ _ (by rw [Tryd.underlying266]; rfl) Tryd.underlying2 hn
theorem eq_fl (a b : Nat) (w : World) : (binOp .eql 266 (.float .f64 a) (.float .f64 b)).run Tryd.prog w = .ok (.bool (flEq a b)) w := by
  simp [binOp, Op.floatCmp, flEq]
  rfl
theorem eq_fl2 {P : Program} (a b : Nat) (w : World) : (Op.floatCmp .eql .f64 a b).run P w = .ok (.bool (flEq a b)) w := rfl
end Go.Proofs.YtcpbfckmngbgdaaDoor
