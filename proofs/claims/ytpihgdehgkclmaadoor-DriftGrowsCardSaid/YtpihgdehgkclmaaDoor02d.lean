/-
  The reference's numbers of 256 bits, walked: Mul.
-/
import Derived.Test.YtpihgdehgkclmaaDoor02c
namespace Go.Proofs.YtpihgdehgkclmaaDoor.Big
open Go.RowKit Go.Proofs.YtpihgdehgkclmaaDoorW.PrintWords Go.Proofs.YtpihgdehgkclmaaDoorW.PrintLast Go.Proofs.YtpihgdehgkclmaaDoorW.PrintMore
set_option linter.unusedVariables false
set_option linter.unusedSimpArgs false
set_option maxHeartbeats 2000000 in
set_option maxRecDepth 100000 in
theorem mul_true_true (x y : Nat) (hx : x < P 4) (hy : y < P 4) (w : World) : Calls Tryd.prog 128 #[.agg (bg true (dn x)), .agg (bg true (dn y))] w fun e w' => e = .returned (.agg (bg (false && !(x * y == 0)) (dn (x * y)))) ∧ Below w.heap.size w w' := by
  obtain ⟨w1, hw1⟩ : ∃ w1, w1 = (((w.alloc (.cells (bg true (dn x)) 197)).alloc (.cells (bg true (dn y)) 197)).alloc (.cells (zb false) 197)) := ⟨_, rfl⟩
  have k2 : w1.heap[w.heap.size]? = some (.cells (bg true (dn x)) 197 (0, 0)) := by rw [hw1]; exact blk_alloc (blk_alloc (heap_alloc_new w _) _) _
  have k3 : w1.heap[w.heap.size + 1]? = some (.cells (bg true (dn y)) 197 (0, 0)) := by rw [hw1]; exact blk_alloc (new1 w _ _) _
  have k4 : w1.heap[w.heap.size + 1 + 1]? = some (.cells (zb false) 197 (0, 0)) := by rw [hw1]; exact new2 w _ _ _
  have hb1 : Below w.heap.size w w1 := by rw [hw1]; exact (((Below.refl _ w).alloc (Nat.le_refl _) _).alloc (by simp) _).alloc (by simp; omega) _
  have hn1 : w1.heap.size = w.heap.size + 1 + 1 + 1 := by rw [hw1]; simp
  obtain ⟨g2, hg2⟩ : ∃ g, g = w.heap.size := ⟨_, rfl⟩
  obtain ⟨g3, hg3⟩ : ∃ g, g = w.heap.size + 1 := ⟨_, rfl⟩
  obtain ⟨g4, hg4⟩ : ∃ g, g = w.heap.size + 1 + 1 := ⟨_, rfl⟩
  obtain ⟨g5, hg5⟩ : ∃ g, g = w1.heap.size := ⟨_, rfl⟩
  rw [← hg2] at k2
  rw [← hg3] at k3
  rw [← hg4] at k4
  have HX := Aside0.mk (And.intro k2 (And.intro k3 (And.intro k4 hb1)))
  have HL4 := Lib.hid (show w.heap.size ≤ g4 by omega)
  have HL5 := Lib.hid (show w.heap.size ≤ g5 by omega)
  have HD := Lib.hid (show g2 ≠ g5 ∧ g3 ≠ g5 ∧ g4 ≠ g5 by omega)
  have HW := Lib.hid hw1
  have H2 := Lib.hid hg2
  have H3 := Lib.hid hg3
  have H4 := Lib.hid hg4
  have H5 := Lib.hid hg5
  have HXY := Lib.hid (And.intro hx hy)
  clear hw1 hg2 hg3 hg4 hg5 k2 k3 k4 hb1 hn1 hx hy
  go_enter Tryd.func128, Tryd.ntmps128
  go_upto_region 1 with (fail)
  rw [← HW.out, ← H4.out, ← H3.out, ← H2.out]
  go_wp2_with (((with_reducible refine gate_store (t := 197) (p := 5) rfl ?_); refine put9z rfl rfl rfl w1.heap.size 197 (zb false) (false) rfl rfl (heap_alloc_new w1 _) (by kernel_rfl) rfl (HX.out.2.2.2.alloc HX.out.2.2.2.size _) HX.out.2.2.2.size ?_; intro wz hz hfar hbz; rw [← H5.out] at hz hfar; have HZwz := Aside0.mk hz; have HFwz := Aside0.mk hfar; have HBwz := Aside0.mk hbz; clear hz hfar hbz))
  rw [← H5.out]
  have HK : Aside0 (wz.heap[g5]? = some (.cells (bg false (dn 0)) 197 (0, 0)) ∧ wz.heap[g2]? = some (.cells (bg true (dn x)) 197 (0, 0)) ∧ wz.heap[g3]? = some (.cells (bg true (dn y)) 197 (0, 0)) ∧ wz.heap[g4]? = some (.cells (zb false) 197 (0, 0)) ∧ Below w.heap.size w wz) := ⟨HZwz.out, (HFwz.out g2 HD.out.1).trans (blk_alloc HX.out.1 _), (HFwz.out g3 HD.out.2.1).trans (blk_alloc HX.out.2.1 _), (HFwz.out g4 HD.out.2.2).trans (blk_alloc HX.out.2.2.1 _), HBwz.out⟩
  clear HZwz HBwz HFwz HX
  go_loopw [6] (fun v6 wr => ∃ (i : Nat), Aside0 (i ≤ 4 ∧ wr.heap[g5]? = some (.cells (bg false (dn (x % P i * y))) 197 (0, 0)) ∧ wr.heap[g2]? = some (.cells (bg true (dn x)) 197 (0, 0)) ∧ wr.heap[g3]? = some (.cells (bg true (dn y)) 197 (0, 0)) ∧ wr.heap[g4]? = some (.cells (zb false) 197 (0, 0)) ∧ Below w.heap.size w wr) ∧ v6 = .int .i64 i) (fun v6 _ => (4 - intOf v6).toNat)
  case atStart => exact ⟨0, ⟨by omega, by rw [P_zero, Nat.mod_one, Nat.zero_mul]; exact HK.out⟩, rfl⟩
  case round =>
    obtain ⟨i, HI, rfl⟩ := hrel
    clear HK
    by_cases hi : i < 4
    · have hlt : (i : Int) < 4 := by omega
      have h0 : (0 : Int) ≤ i := by omega
      obtain ⟨M, hM⟩ : ∃ M, M = x % P i * y := ⟨_, rfl⟩
      obtain ⟨z, hz⟩ : ∃ z : Nat, z = dn x i := ⟨_, rfl⟩
      obtain ⟨R, hR⟩ : ∃ R, R = M + P i * z * y := ⟨_, rfl⟩
      have hIo := HI.out.2
      rw [← hM] at hIo
      have HK := Aside0.mk hIo
      have hz1 : z < 4294967296 := by rw [hz]; exact dn_lt x i
      have HM := Lib.hid (And.intro hM (And.intro hz (And.intro hR hz1)))
      clear hM hz hR hIo HI hz1
      go_wp2_with (fail)
      go_loopw [7, 8] (fun v7 v8 wr => ∃ (k : Nat) (c : Int), Aside0 (k ≤ 4 ∧ c = (mc M z y i k : Nat) ∧ wr.heap[g5]? = some (.cells (bg false (fun j => if j < i + k then dn R j else dn M j)) 197 (0, 0)) ∧ wr.heap[g2]? = some (.cells (bg true (dn x)) 197 (0, 0)) ∧ wr.heap[g3]? = some (.cells (bg true (dn y)) 197 (0, 0)) ∧ wr.heap[g4]? = some (.cells (zb false) 197 (0, 0)) ∧ Below w.heap.size w wr) ∧ v7 = .int .u64 c ∧ v8 = .int .i64 k) (fun _ v8 _ => (4 - intOf v8).toNat)
      case atStart => exact ⟨0, 0, ⟨by omega, by rw [mc_zero]; rfl, by
          rw [HK.out.1, bg_congr (g := fun j => if j < i + 0 then dn R j else dn M j) (fun j hj => by
            have := HM.out.2.2.1
            simp only [Nat.add_zero]
            split
            · rw [this]; apply dn_of_mod; rw [show P i * z * y = P (j + 1) * (P (i - (j + 1)) * z * y) by rw [← Nat.mul_assoc, ← Nat.mul_assoc, ← P_add, show j + 1 + (i - (j + 1)) = i by omega], Nat.add_mul_mod_self_left]
            · rfl)], HK.out.2⟩, rfl, rfl⟩
      case round =>
        obtain ⟨k, c, HY, rfl, rfl⟩ := hrel
        clear HK
        by_cases hk : k < 4
        · have hkt : (k : Int) < 4 := by omega
          have hk0 : (0 : Int) ≤ k := by omega
          obtain ⟨zz, hzz⟩ : ∃ a : Int, a = (z : Nat) := ⟨_, rfl⟩
          obtain ⟨yy, hyy⟩ : ∃ a : Int, a = (dn y k : Nat) := ⟨_, rfl⟩
          obtain ⟨ee, hee⟩ : ∃ a : Int, a = (dn M (i + k) : Nat) := ⟨_, rfl⟩
          obtain ⟨pr, hpr⟩ : ∃ a : Int, a = zz * yy := ⟨_, rfl⟩
          have cx : wr.cell? ⟨g2, 1 + i, none⟩ = some (.int .u64 zz) := by rw [blk_cell HY.out.2.2.2.1 (1 + i), bg_get _ _ (by omega), hzz, HM.out.2.1]
          have cy : wr.cell? ⟨g3, 1 + k, none⟩ = some (.int .u64 yy) := by rw [blk_cell HY.out.2.2.2.2.1 (1 + k), bg_get _ _ (by omega), hyy]
          have cm : wr.cell? ⟨g5, 1 + (i + k), none⟩ = some (.int .u64 ee) := by rw [blk_cell HY.out.2.2.1 (1 + (i + k)), bg_get _ _ (by omega), hee]; simp
          have fx := blk_frozen HY.out.2.2.2.1 (1 + i)
          have fy := blk_frozen HY.out.2.2.2.2.1 (1 + k)
          have fm := blk_frozen HY.out.2.2.1 (1 + (i + k))
          have z1 := HM.out.2.2.2
          have y1 := dn_lt y k
          have e1 := dn_lt M (i + k)
          have c1 := mc_lt M z y i k z1
          have hprn : pr = ((z * dn y k : Nat) : Int) := by rw [hpr, hzz, hyy, Int.natCast_mul]
          have hmb : z * dn y k ≤ 4294967295 * 4294967295 := Nat.mul_le_mul (by omega) (by omega)
          have p0 : 0 ≤ pr := by omega
          have p1 : pr ≤ 18446744065119617025 := by omega
          have hwp : IntKind.u64.wrap (zz * yy) = pr := by rw [← hpr, IntKind.wrap_u64]; omega
          have e0 : 0 ≤ ee := by omega
          have e2 : ee ≤ 4294967295 := by omega
          have c0 : 0 ≤ c := by have := HY.out.2.1; omega
          have c2 : c ≤ 4294967295 := by have := HY.out.2.1; omega
          have hik : (i : Int) + k < 8 := by omega
          have HV := Lib.hid (And.intro hprn (And.intro hee hyy))
          clear hzz hyy hee hpr hprn hmb z1 y1 e1 c1
          go_wp2
          go_region
          go_wp2
          go_roundw
          case rel =>
            have hV := HV.out
            have hc := HY.out.2.1
            have s1 := mc_succ M z y i k
            have s2 := mul_digit M z y i k
            rw [← HM.out.2.2.1] at s2
            have v2 : (pr + ee + c) % 4294967296 = ((dn R (i + k) : Nat) : Int) := by omega
            refine ⟨k + 1, _, ⟨by omega, by omega, ?e2, ?e3, ?e4, ?e5, ?e6⟩, rfl, by go_num⟩
            case e2 => rw [v2]; exact blk_put HY.out.2.2.1 (1 + (i + k)) _ (bg_set _ _ _ (by omega) (by simp [show i + k < i + (k + 1) by omega]) (fun j hj => by show (if j < i + (k + 1) then dn R j else dn M j) = (if j < i + k then dn R j else dn M j); simp only [show (j < i + (k + 1)) = (j < i + k) from propext (by omega)]))
            case e3 => exact (Below.heap_setCell wr ⟨g5, 1 + (i + k), none⟩ _ g2 HD.out.1).trans HY.out.2.2.2.1
            case e4 => exact (Below.heap_setCell wr ⟨g5, 1 + (i + k), none⟩ _ g3 HD.out.2.1).trans HY.out.2.2.2.2.1
            case e5 => exact (Below.heap_setCell wr ⟨g5, 1 + (i + k), none⟩ _ g4 HD.out.2.2).trans HY.out.2.2.2.2.2.1
            case e6 => exact (HY.out.2.2.2.2.2.2.setCell HL5.out _).drew
          case measure => simp [intOf]; omega
        · obtain rfl : k = 4 := by have := HY.out.1; omega
          have cm : wr.cell? ⟨g5, 1 + (i + 4), none⟩ = some (.int .u64 ((dn M (i + 4) : Nat) : Int)) := by rw [blk_cell HY.out.2.2.1 (1 + (i + 4)), bg_get _ _ (by omega)]; simp
          have fm := blk_frozen HY.out.2.2.1 (1 + (i + 4))
          have hik : (i : Int) + 4 < 8 := by omega
          go_wp2
          go_roundw
          case rel =>
            have hc := HY.out.2.1
            have hMx : M < P (i + 4) := by
              rw [HM.out.1, P_add]
              exact Nat.mul_lt_mul_of_lt_of_le (Nat.mod_lt _ (P_pos i)) (Nat.le_of_lt HXY.out.2) (P_pos 4)
            have hRx : R < P (i + 4 + 1) := by
              rw [HM.out.2.2.1, HM.out.1]
              exact mul_bound _ y i 4 HXY.out.2 z (Nat.mod_lt _ (P_pos i)) HM.out.2.2.2
            have hl := mul_last M z y i 4 hMx HXY.out.2
            rw [← HM.out.2.2.1, ← dn_eq_div hRx] at hl
            have v2 : c = ((dn R (i + 4) : Nat) : Int) := by rw [hc, hl]
            have hRR : x % P (i + 1) * y = R := by
              rw [mod_succ, Nat.add_mul, HM.out.2.2.1, HM.out.1, HM.out.2.1]
            refine ⟨i + 1, ⟨by omega, ?e2, ?e3, ?e4, ?e5, ?e6⟩, by go_num⟩
            case e2 =>
              rw [v2, hRR, blk_put HY.out.2.2.1 (1 + (i + 4)) _ (bg_set _ _ (fun j => if j = i + 4 then dn R (i + 4) else if j < i + 4 then dn R j else dn M j) (by omega) (by simp) (fun j hj => by simp [hj]))]
              rw [bg_congr (g := dn R) (fun j hj => ?_)]
              show (if j = i + 4 then dn R (i + 4) else if j < i + 4 then dn R j else dn M j) = dn R j
              by_cases h1 : j = i + 4
              · rw [if_pos h1, h1]
              · rw [if_neg h1]
                by_cases h2 : j < i + 4
                · rw [if_pos h2]
                · rw [if_neg h2, dn_zero_of_lt (Nat.lt_of_lt_of_le hMx (P_mono (by omega))), dn_zero_of_lt (Nat.lt_of_lt_of_le hRx (P_mono (by omega)))]
            case e3 => exact (Below.heap_setCell wr ⟨g5, 1 + (i + 4), none⟩ _ g2 HD.out.1).trans HY.out.2.2.2.1
            case e4 => exact (Below.heap_setCell wr ⟨g5, 1 + (i + 4), none⟩ _ g3 HD.out.2.1).trans HY.out.2.2.2.2.1
            case e5 => exact (Below.heap_setCell wr ⟨g5, 1 + (i + 4), none⟩ _ g4 HD.out.2.2).trans HY.out.2.2.2.2.2.1
            case e6 => exact HY.out.2.2.2.2.2.2.setCell HL5.out _
          case measure => simp [intOf]; omega
    · obtain rfl : i = 4 := by have := HI.out.1; omega
      have hIo := HI.out.2
      rw [Nat.mod_eq_of_lt HXY.out.1] at hIo
      obtain ⟨m, hm⟩ : ∃ m, m = x * y := ⟨_, rfl⟩
      rw [← hm] at hIo
      have HT := Aside0.mk hIo
      have hmb : m < P 8 := by
        rw [hm, show P 8 = P 4 * P 4 from (P_add 4 4)]
        exact Nat.mul_lt_mul_of_lt_of_le HXY.out.1 (Nat.le_of_lt HXY.out.2) (P_pos 4)
      obtain ⟨z, hz⟩ : ∃ z, z = (m == 0) := ⟨_, rfl⟩
      have hZ : ∀ W, Calls Tryd.prog 132 #[.agg (c8 (dn m))] W fun e w' => e = .returned (.bool z) ∧ Below W.heap.size W w' := fun W => by
        rw [hz]; exact zero_calls m hmb W
      have HZM := Lib.hid (show z = (x * y == 0) ∧ m = x * y from ⟨by rw [hz, hm], hm⟩)
      clear hIo HI hm hmb hz hi
      have c2 := (blk_cell HT.out.2.1 0).trans (bg_neg _ _)
      have c3 := (blk_cell HT.out.2.2.1 0).trans (bg_neg _ _)
      have c5 := (blk_cell HT.out.1 0).trans (bg_neg _ _)
      have f2 := blk_frozen HT.out.2.1 0
      have f3 := blk_frozen HT.out.2.2.1 0
      have f5 := blk_frozen HT.out.1 0
      go_upto_region 14 with (fail)
      have HV := Aside0.mk (And.intro HT.out.1 (And.intro HT.out.2.2.2.1 HT.out.2.2.2.2))
      refine name_w (fun W8 hW8 => ?_)
      have h8 : W8.heap[g5]? = some (.cells (bg (false) (dn m)) 197 (0, 0)) := by rw [hW8]; exact blk_put HV.out.1 0 _ (bg_setneg _ _ _)
      have h8r : W8.heap[g4]? = some (.cells (zb false) 197 (0, 0)) := by rw [hW8]; exact (Below.heap_setCell _ ⟨g5, 0, none⟩ _ g4 HD.out.2.2).trans HV.out.2.1
      have h8b : Below w.heap.size w W8 := by rw [hW8]; exact HV.out.2.2.setCell HL5.out _
      have H8 := Aside0.mk (And.intro h8 (And.intro h8r h8b))
      clear hW8 h8 h8r h8b hZ
      go_wp2_with (first | ((with_reducible refine gate_dst (N := 63) rfl ?_); refine get9 rfl rfl g5 197 (false) (dn m) _ rfl H8.out.1 Tryd.underlying197 rfl (by kernel_rfl) ?_) | ((with_reducible refine gate_store (t := 197) (p := 4) rfl ?_); refine put9 rfl rfl rfl g4 197 (zb false) (false) (dn m) rfl rfl H8.out.2.1 (by kernel_rfl) rfl H8.out.2.2 HL4.out ?_; intro wy hz hfar hbz; have HZwy := Aside0.mk hz; have HFwy := Aside0.mk hfar; have HBwy := Aside0.mk hbz; clear hz hfar hbz))
      refine bodyPost_ret (results_single rfl (.cell g4 197 (bg (false) (dn m)) (0, 0) _ rfl HZwy.out Tryd.underlying197 rfl (by kernel_rfl) .nil)) rfl ?_
      exact ⟨by rw [HZM.out.2]; simp [HZM.out.1], HBwy.out⟩
set_option maxHeartbeats 2000000 in
set_option maxRecDepth 100000 in
theorem mul_true_false (x y : Nat) (hx : x < P 4) (hy : y < P 4) (w : World) : Calls Tryd.prog 128 #[.agg (bg true (dn x)), .agg (bg false (dn y))] w fun e w' => e = .returned (.agg (bg (true && !(x * y == 0)) (dn (x * y)))) ∧ Below w.heap.size w w' := by
  obtain ⟨w1, hw1⟩ : ∃ w1, w1 = (((w.alloc (.cells (bg true (dn x)) 197)).alloc (.cells (bg false (dn y)) 197)).alloc (.cells (zb false) 197)) := ⟨_, rfl⟩
  have k2 : w1.heap[w.heap.size]? = some (.cells (bg true (dn x)) 197 (0, 0)) := by rw [hw1]; exact blk_alloc (blk_alloc (heap_alloc_new w _) _) _
  have k3 : w1.heap[w.heap.size + 1]? = some (.cells (bg false (dn y)) 197 (0, 0)) := by rw [hw1]; exact blk_alloc (new1 w _ _) _
  have k4 : w1.heap[w.heap.size + 1 + 1]? = some (.cells (zb false) 197 (0, 0)) := by rw [hw1]; exact new2 w _ _ _
  have hb1 : Below w.heap.size w w1 := by rw [hw1]; exact (((Below.refl _ w).alloc (Nat.le_refl _) _).alloc (by simp) _).alloc (by simp; omega) _
  have hn1 : w1.heap.size = w.heap.size + 1 + 1 + 1 := by rw [hw1]; simp
  obtain ⟨g2, hg2⟩ : ∃ g, g = w.heap.size := ⟨_, rfl⟩
  obtain ⟨g3, hg3⟩ : ∃ g, g = w.heap.size + 1 := ⟨_, rfl⟩
  obtain ⟨g4, hg4⟩ : ∃ g, g = w.heap.size + 1 + 1 := ⟨_, rfl⟩
  obtain ⟨g5, hg5⟩ : ∃ g, g = w1.heap.size := ⟨_, rfl⟩
  rw [← hg2] at k2
  rw [← hg3] at k3
  rw [← hg4] at k4
  have HX := Aside0.mk (And.intro k2 (And.intro k3 (And.intro k4 hb1)))
  have HL4 := Lib.hid (show w.heap.size ≤ g4 by omega)
  have HL5 := Lib.hid (show w.heap.size ≤ g5 by omega)
  have HD := Lib.hid (show g2 ≠ g5 ∧ g3 ≠ g5 ∧ g4 ≠ g5 by omega)
  have HW := Lib.hid hw1
  have H2 := Lib.hid hg2
  have H3 := Lib.hid hg3
  have H4 := Lib.hid hg4
  have H5 := Lib.hid hg5
  have HXY := Lib.hid (And.intro hx hy)
  clear hw1 hg2 hg3 hg4 hg5 k2 k3 k4 hb1 hn1 hx hy
  go_enter Tryd.func128, Tryd.ntmps128
  go_upto_region 1 with (fail)
  rw [← HW.out, ← H4.out, ← H3.out, ← H2.out]
  go_wp2_with (((with_reducible refine gate_store (t := 197) (p := 5) rfl ?_); refine put9z rfl rfl rfl w1.heap.size 197 (zb false) (false) rfl rfl (heap_alloc_new w1 _) (by kernel_rfl) rfl (HX.out.2.2.2.alloc HX.out.2.2.2.size _) HX.out.2.2.2.size ?_; intro wz hz hfar hbz; rw [← H5.out] at hz hfar; have HZwz := Aside0.mk hz; have HFwz := Aside0.mk hfar; have HBwz := Aside0.mk hbz; clear hz hfar hbz))
  rw [← H5.out]
  have HK : Aside0 (wz.heap[g5]? = some (.cells (bg false (dn 0)) 197 (0, 0)) ∧ wz.heap[g2]? = some (.cells (bg true (dn x)) 197 (0, 0)) ∧ wz.heap[g3]? = some (.cells (bg false (dn y)) 197 (0, 0)) ∧ wz.heap[g4]? = some (.cells (zb false) 197 (0, 0)) ∧ Below w.heap.size w wz) := ⟨HZwz.out, (HFwz.out g2 HD.out.1).trans (blk_alloc HX.out.1 _), (HFwz.out g3 HD.out.2.1).trans (blk_alloc HX.out.2.1 _), (HFwz.out g4 HD.out.2.2).trans (blk_alloc HX.out.2.2.1 _), HBwz.out⟩
  clear HZwz HBwz HFwz HX
  go_loopw [6] (fun v6 wr => ∃ (i : Nat), Aside0 (i ≤ 4 ∧ wr.heap[g5]? = some (.cells (bg false (dn (x % P i * y))) 197 (0, 0)) ∧ wr.heap[g2]? = some (.cells (bg true (dn x)) 197 (0, 0)) ∧ wr.heap[g3]? = some (.cells (bg false (dn y)) 197 (0, 0)) ∧ wr.heap[g4]? = some (.cells (zb false) 197 (0, 0)) ∧ Below w.heap.size w wr) ∧ v6 = .int .i64 i) (fun v6 _ => (4 - intOf v6).toNat)
  case atStart => exact ⟨0, ⟨by omega, by rw [P_zero, Nat.mod_one, Nat.zero_mul]; exact HK.out⟩, rfl⟩
  case round =>
    obtain ⟨i, HI, rfl⟩ := hrel
    clear HK
    by_cases hi : i < 4
    · have hlt : (i : Int) < 4 := by omega
      have h0 : (0 : Int) ≤ i := by omega
      obtain ⟨M, hM⟩ : ∃ M, M = x % P i * y := ⟨_, rfl⟩
      obtain ⟨z, hz⟩ : ∃ z : Nat, z = dn x i := ⟨_, rfl⟩
      obtain ⟨R, hR⟩ : ∃ R, R = M + P i * z * y := ⟨_, rfl⟩
      have hIo := HI.out.2
      rw [← hM] at hIo
      have HK := Aside0.mk hIo
      have hz1 : z < 4294967296 := by rw [hz]; exact dn_lt x i
      have HM := Lib.hid (And.intro hM (And.intro hz (And.intro hR hz1)))
      clear hM hz hR hIo HI hz1
      go_wp2_with (fail)
      go_loopw [7, 8] (fun v7 v8 wr => ∃ (k : Nat) (c : Int), Aside0 (k ≤ 4 ∧ c = (mc M z y i k : Nat) ∧ wr.heap[g5]? = some (.cells (bg false (fun j => if j < i + k then dn R j else dn M j)) 197 (0, 0)) ∧ wr.heap[g2]? = some (.cells (bg true (dn x)) 197 (0, 0)) ∧ wr.heap[g3]? = some (.cells (bg false (dn y)) 197 (0, 0)) ∧ wr.heap[g4]? = some (.cells (zb false) 197 (0, 0)) ∧ Below w.heap.size w wr) ∧ v7 = .int .u64 c ∧ v8 = .int .i64 k) (fun _ v8 _ => (4 - intOf v8).toNat)
      case atStart => exact ⟨0, 0, ⟨by omega, by rw [mc_zero]; rfl, by
          rw [HK.out.1, bg_congr (g := fun j => if j < i + 0 then dn R j else dn M j) (fun j hj => by
            have := HM.out.2.2.1
            simp only [Nat.add_zero]
            split
            · rw [this]; apply dn_of_mod; rw [show P i * z * y = P (j + 1) * (P (i - (j + 1)) * z * y) by rw [← Nat.mul_assoc, ← Nat.mul_assoc, ← P_add, show j + 1 + (i - (j + 1)) = i by omega], Nat.add_mul_mod_self_left]
            · rfl)], HK.out.2⟩, rfl, rfl⟩
      case round =>
        obtain ⟨k, c, HY, rfl, rfl⟩ := hrel
        clear HK
        by_cases hk : k < 4
        · have hkt : (k : Int) < 4 := by omega
          have hk0 : (0 : Int) ≤ k := by omega
          obtain ⟨zz, hzz⟩ : ∃ a : Int, a = (z : Nat) := ⟨_, rfl⟩
          obtain ⟨yy, hyy⟩ : ∃ a : Int, a = (dn y k : Nat) := ⟨_, rfl⟩
          obtain ⟨ee, hee⟩ : ∃ a : Int, a = (dn M (i + k) : Nat) := ⟨_, rfl⟩
          obtain ⟨pr, hpr⟩ : ∃ a : Int, a = zz * yy := ⟨_, rfl⟩
          have cx : wr.cell? ⟨g2, 1 + i, none⟩ = some (.int .u64 zz) := by rw [blk_cell HY.out.2.2.2.1 (1 + i), bg_get _ _ (by omega), hzz, HM.out.2.1]
          have cy : wr.cell? ⟨g3, 1 + k, none⟩ = some (.int .u64 yy) := by rw [blk_cell HY.out.2.2.2.2.1 (1 + k), bg_get _ _ (by omega), hyy]
          have cm : wr.cell? ⟨g5, 1 + (i + k), none⟩ = some (.int .u64 ee) := by rw [blk_cell HY.out.2.2.1 (1 + (i + k)), bg_get _ _ (by omega), hee]; simp
          have fx := blk_frozen HY.out.2.2.2.1 (1 + i)
          have fy := blk_frozen HY.out.2.2.2.2.1 (1 + k)
          have fm := blk_frozen HY.out.2.2.1 (1 + (i + k))
          have z1 := HM.out.2.2.2
          have y1 := dn_lt y k
          have e1 := dn_lt M (i + k)
          have c1 := mc_lt M z y i k z1
          have hprn : pr = ((z * dn y k : Nat) : Int) := by rw [hpr, hzz, hyy, Int.natCast_mul]
          have hmb : z * dn y k ≤ 4294967295 * 4294967295 := Nat.mul_le_mul (by omega) (by omega)
          have p0 : 0 ≤ pr := by omega
          have p1 : pr ≤ 18446744065119617025 := by omega
          have hwp : IntKind.u64.wrap (zz * yy) = pr := by rw [← hpr, IntKind.wrap_u64]; omega
          have e0 : 0 ≤ ee := by omega
          have e2 : ee ≤ 4294967295 := by omega
          have c0 : 0 ≤ c := by have := HY.out.2.1; omega
          have c2 : c ≤ 4294967295 := by have := HY.out.2.1; omega
          have hik : (i : Int) + k < 8 := by omega
          have HV := Lib.hid (And.intro hprn (And.intro hee hyy))
          clear hzz hyy hee hpr hprn hmb z1 y1 e1 c1
          go_wp2
          go_region
          go_wp2
          go_roundw
          case rel =>
            have hV := HV.out
            have hc := HY.out.2.1
            have s1 := mc_succ M z y i k
            have s2 := mul_digit M z y i k
            rw [← HM.out.2.2.1] at s2
            have v2 : (pr + ee + c) % 4294967296 = ((dn R (i + k) : Nat) : Int) := by omega
            refine ⟨k + 1, _, ⟨by omega, by omega, ?e2, ?e3, ?e4, ?e5, ?e6⟩, rfl, by go_num⟩
            case e2 => rw [v2]; exact blk_put HY.out.2.2.1 (1 + (i + k)) _ (bg_set _ _ _ (by omega) (by simp [show i + k < i + (k + 1) by omega]) (fun j hj => by show (if j < i + (k + 1) then dn R j else dn M j) = (if j < i + k then dn R j else dn M j); simp only [show (j < i + (k + 1)) = (j < i + k) from propext (by omega)]))
            case e3 => exact (Below.heap_setCell wr ⟨g5, 1 + (i + k), none⟩ _ g2 HD.out.1).trans HY.out.2.2.2.1
            case e4 => exact (Below.heap_setCell wr ⟨g5, 1 + (i + k), none⟩ _ g3 HD.out.2.1).trans HY.out.2.2.2.2.1
            case e5 => exact (Below.heap_setCell wr ⟨g5, 1 + (i + k), none⟩ _ g4 HD.out.2.2).trans HY.out.2.2.2.2.2.1
            case e6 => exact (HY.out.2.2.2.2.2.2.setCell HL5.out _).drew
          case measure => simp [intOf]; omega
        · obtain rfl : k = 4 := by have := HY.out.1; omega
          have cm : wr.cell? ⟨g5, 1 + (i + 4), none⟩ = some (.int .u64 ((dn M (i + 4) : Nat) : Int)) := by rw [blk_cell HY.out.2.2.1 (1 + (i + 4)), bg_get _ _ (by omega)]; simp
          have fm := blk_frozen HY.out.2.2.1 (1 + (i + 4))
          have hik : (i : Int) + 4 < 8 := by omega
          go_wp2
          go_roundw
          case rel =>
            have hc := HY.out.2.1
            have hMx : M < P (i + 4) := by
              rw [HM.out.1, P_add]
              exact Nat.mul_lt_mul_of_lt_of_le (Nat.mod_lt _ (P_pos i)) (Nat.le_of_lt HXY.out.2) (P_pos 4)
            have hRx : R < P (i + 4 + 1) := by
              rw [HM.out.2.2.1, HM.out.1]
              exact mul_bound _ y i 4 HXY.out.2 z (Nat.mod_lt _ (P_pos i)) HM.out.2.2.2
            have hl := mul_last M z y i 4 hMx HXY.out.2
            rw [← HM.out.2.2.1, ← dn_eq_div hRx] at hl
            have v2 : c = ((dn R (i + 4) : Nat) : Int) := by rw [hc, hl]
            have hRR : x % P (i + 1) * y = R := by
              rw [mod_succ, Nat.add_mul, HM.out.2.2.1, HM.out.1, HM.out.2.1]
            refine ⟨i + 1, ⟨by omega, ?e2, ?e3, ?e4, ?e5, ?e6⟩, by go_num⟩
            case e2 =>
              rw [v2, hRR, blk_put HY.out.2.2.1 (1 + (i + 4)) _ (bg_set _ _ (fun j => if j = i + 4 then dn R (i + 4) else if j < i + 4 then dn R j else dn M j) (by omega) (by simp) (fun j hj => by simp [hj]))]
              rw [bg_congr (g := dn R) (fun j hj => ?_)]
              show (if j = i + 4 then dn R (i + 4) else if j < i + 4 then dn R j else dn M j) = dn R j
              by_cases h1 : j = i + 4
              · rw [if_pos h1, h1]
              · rw [if_neg h1]
                by_cases h2 : j < i + 4
                · rw [if_pos h2]
                · rw [if_neg h2, dn_zero_of_lt (Nat.lt_of_lt_of_le hMx (P_mono (by omega))), dn_zero_of_lt (Nat.lt_of_lt_of_le hRx (P_mono (by omega)))]
            case e3 => exact (Below.heap_setCell wr ⟨g5, 1 + (i + 4), none⟩ _ g2 HD.out.1).trans HY.out.2.2.2.1
            case e4 => exact (Below.heap_setCell wr ⟨g5, 1 + (i + 4), none⟩ _ g3 HD.out.2.1).trans HY.out.2.2.2.2.1
            case e5 => exact (Below.heap_setCell wr ⟨g5, 1 + (i + 4), none⟩ _ g4 HD.out.2.2).trans HY.out.2.2.2.2.2.1
            case e6 => exact HY.out.2.2.2.2.2.2.setCell HL5.out _
          case measure => simp [intOf]; omega
    · obtain rfl : i = 4 := by have := HI.out.1; omega
      have hIo := HI.out.2
      rw [Nat.mod_eq_of_lt HXY.out.1] at hIo
      obtain ⟨m, hm⟩ : ∃ m, m = x * y := ⟨_, rfl⟩
      rw [← hm] at hIo
      have HT := Aside0.mk hIo
      have hmb : m < P 8 := by
        rw [hm, show P 8 = P 4 * P 4 from (P_add 4 4)]
        exact Nat.mul_lt_mul_of_lt_of_le HXY.out.1 (Nat.le_of_lt HXY.out.2) (P_pos 4)
      obtain ⟨z, hz⟩ : ∃ z, z = (m == 0) := ⟨_, rfl⟩
      have hZ : ∀ W, Calls Tryd.prog 132 #[.agg (c8 (dn m))] W fun e w' => e = .returned (.bool z) ∧ Below W.heap.size W w' := fun W => by
        rw [hz]; exact zero_calls m hmb W
      have HZM := Lib.hid (show z = (x * y == 0) ∧ m = x * y from ⟨by rw [hz, hm], hm⟩)
      clear hIo HI hm hmb hz hi
      have c2 := (blk_cell HT.out.2.1 0).trans (bg_neg _ _)
      have c3 := (blk_cell HT.out.2.2.1 0).trans (bg_neg _ _)
      have c5 := (blk_cell HT.out.1 0).trans (bg_neg _ _)
      have f2 := blk_frozen HT.out.2.1 0
      have f3 := blk_frozen HT.out.2.2.1 0
      have f5 := blk_frozen HT.out.1 0
      go_upto_region 14 with (first | ((with_reducible refine gate_dst (N := 58) rfl ?_); refine gate_guard (by kernel_rfl) ?_; (try dsimp only); refine get81 rfl rfl g5 197 (false) (dn m) _ rfl HT.out.1 Tryd.underlying195 rfl (by kernel_rfl) ?_) | (go_at_call 132; (with_reducible refine (hZ _).mono ?_); rintro e w6 ⟨rfl, hb6⟩; have HV := Aside0.mk (And.intro (blk_below HT.out.1 hb6) (And.intro (blk_below HT.out.2.2.2.1 hb6) (HT.out.2.2.2.2.trans (hb6.mono HT.out.2.2.2.2.size)))); clear hb6 c5 f5; have c6 := (blk_cell HV.out.1 0).trans (bg_neg _ _); have f6 := blk_frozen HV.out.1 0))
      refine name_w (fun W8 hW8 => ?_)
      have h8 : W8.heap[g5]? = some (.cells (bg (!z) (dn m)) 197 (0, 0)) := by rw [hW8]; exact blk_put HV.out.1 0 _ (bg_setneg _ _ _)
      have h8r : W8.heap[g4]? = some (.cells (zb false) 197 (0, 0)) := by rw [hW8]; exact (Below.heap_setCell _ ⟨g5, 0, none⟩ _ g4 HD.out.2.2).trans HV.out.2.1
      have h8b : Below w.heap.size w W8 := by rw [hW8]; exact HV.out.2.2.setCell HL5.out _
      have H8 := Aside0.mk (And.intro h8 (And.intro h8r h8b))
      clear hW8 h8 h8r h8b hZ
      go_wp2_with (first | ((with_reducible refine gate_dst (N := 63) rfl ?_); refine get9 rfl rfl g5 197 (!z) (dn m) _ rfl H8.out.1 Tryd.underlying197 rfl (by kernel_rfl) ?_) | ((with_reducible refine gate_store (t := 197) (p := 4) rfl ?_); refine put9 rfl rfl rfl g4 197 (zb false) (!z) (dn m) rfl rfl H8.out.2.1 (by kernel_rfl) rfl H8.out.2.2 HL4.out ?_; intro wy hz hfar hbz; have HZwy := Aside0.mk hz; have HFwy := Aside0.mk hfar; have HBwy := Aside0.mk hbz; clear hz hfar hbz))
      refine bodyPost_ret (results_single rfl (.cell g4 197 (bg (!z) (dn m)) (0, 0) _ rfl HZwy.out Tryd.underlying197 rfl (by kernel_rfl) .nil)) rfl ?_
      exact ⟨by rw [HZM.out.2]; simp [HZM.out.1], HBwy.out⟩
set_option maxHeartbeats 2000000 in
set_option maxRecDepth 100000 in
theorem mul_false_true (x y : Nat) (hx : x < P 4) (hy : y < P 4) (w : World) : Calls Tryd.prog 128 #[.agg (bg false (dn x)), .agg (bg true (dn y))] w fun e w' => e = .returned (.agg (bg (true && !(x * y == 0)) (dn (x * y)))) ∧ Below w.heap.size w w' := by
  obtain ⟨w1, hw1⟩ : ∃ w1, w1 = (((w.alloc (.cells (bg false (dn x)) 197)).alloc (.cells (bg true (dn y)) 197)).alloc (.cells (zb false) 197)) := ⟨_, rfl⟩
  have k2 : w1.heap[w.heap.size]? = some (.cells (bg false (dn x)) 197 (0, 0)) := by rw [hw1]; exact blk_alloc (blk_alloc (heap_alloc_new w _) _) _
  have k3 : w1.heap[w.heap.size + 1]? = some (.cells (bg true (dn y)) 197 (0, 0)) := by rw [hw1]; exact blk_alloc (new1 w _ _) _
  have k4 : w1.heap[w.heap.size + 1 + 1]? = some (.cells (zb false) 197 (0, 0)) := by rw [hw1]; exact new2 w _ _ _
  have hb1 : Below w.heap.size w w1 := by rw [hw1]; exact (((Below.refl _ w).alloc (Nat.le_refl _) _).alloc (by simp) _).alloc (by simp; omega) _
  have hn1 : w1.heap.size = w.heap.size + 1 + 1 + 1 := by rw [hw1]; simp
  obtain ⟨g2, hg2⟩ : ∃ g, g = w.heap.size := ⟨_, rfl⟩
  obtain ⟨g3, hg3⟩ : ∃ g, g = w.heap.size + 1 := ⟨_, rfl⟩
  obtain ⟨g4, hg4⟩ : ∃ g, g = w.heap.size + 1 + 1 := ⟨_, rfl⟩
  obtain ⟨g5, hg5⟩ : ∃ g, g = w1.heap.size := ⟨_, rfl⟩
  rw [← hg2] at k2
  rw [← hg3] at k3
  rw [← hg4] at k4
  have HX := Aside0.mk (And.intro k2 (And.intro k3 (And.intro k4 hb1)))
  have HL4 := Lib.hid (show w.heap.size ≤ g4 by omega)
  have HL5 := Lib.hid (show w.heap.size ≤ g5 by omega)
  have HD := Lib.hid (show g2 ≠ g5 ∧ g3 ≠ g5 ∧ g4 ≠ g5 by omega)
  have HW := Lib.hid hw1
  have H2 := Lib.hid hg2
  have H3 := Lib.hid hg3
  have H4 := Lib.hid hg4
  have H5 := Lib.hid hg5
  have HXY := Lib.hid (And.intro hx hy)
  clear hw1 hg2 hg3 hg4 hg5 k2 k3 k4 hb1 hn1 hx hy
  go_enter Tryd.func128, Tryd.ntmps128
  go_upto_region 1 with (fail)
  rw [← HW.out, ← H4.out, ← H3.out, ← H2.out]
  go_wp2_with (((with_reducible refine gate_store (t := 197) (p := 5) rfl ?_); refine put9z rfl rfl rfl w1.heap.size 197 (zb false) (false) rfl rfl (heap_alloc_new w1 _) (by kernel_rfl) rfl (HX.out.2.2.2.alloc HX.out.2.2.2.size _) HX.out.2.2.2.size ?_; intro wz hz hfar hbz; rw [← H5.out] at hz hfar; have HZwz := Aside0.mk hz; have HFwz := Aside0.mk hfar; have HBwz := Aside0.mk hbz; clear hz hfar hbz))
  rw [← H5.out]
  have HK : Aside0 (wz.heap[g5]? = some (.cells (bg false (dn 0)) 197 (0, 0)) ∧ wz.heap[g2]? = some (.cells (bg false (dn x)) 197 (0, 0)) ∧ wz.heap[g3]? = some (.cells (bg true (dn y)) 197 (0, 0)) ∧ wz.heap[g4]? = some (.cells (zb false) 197 (0, 0)) ∧ Below w.heap.size w wz) := ⟨HZwz.out, (HFwz.out g2 HD.out.1).trans (blk_alloc HX.out.1 _), (HFwz.out g3 HD.out.2.1).trans (blk_alloc HX.out.2.1 _), (HFwz.out g4 HD.out.2.2).trans (blk_alloc HX.out.2.2.1 _), HBwz.out⟩
  clear HZwz HBwz HFwz HX
  go_loopw [6] (fun v6 wr => ∃ (i : Nat), Aside0 (i ≤ 4 ∧ wr.heap[g5]? = some (.cells (bg false (dn (x % P i * y))) 197 (0, 0)) ∧ wr.heap[g2]? = some (.cells (bg false (dn x)) 197 (0, 0)) ∧ wr.heap[g3]? = some (.cells (bg true (dn y)) 197 (0, 0)) ∧ wr.heap[g4]? = some (.cells (zb false) 197 (0, 0)) ∧ Below w.heap.size w wr) ∧ v6 = .int .i64 i) (fun v6 _ => (4 - intOf v6).toNat)
  case atStart => exact ⟨0, ⟨by omega, by rw [P_zero, Nat.mod_one, Nat.zero_mul]; exact HK.out⟩, rfl⟩
  case round =>
    obtain ⟨i, HI, rfl⟩ := hrel
    clear HK
    by_cases hi : i < 4
    · have hlt : (i : Int) < 4 := by omega
      have h0 : (0 : Int) ≤ i := by omega
      obtain ⟨M, hM⟩ : ∃ M, M = x % P i * y := ⟨_, rfl⟩
      obtain ⟨z, hz⟩ : ∃ z : Nat, z = dn x i := ⟨_, rfl⟩
      obtain ⟨R, hR⟩ : ∃ R, R = M + P i * z * y := ⟨_, rfl⟩
      have hIo := HI.out.2
      rw [← hM] at hIo
      have HK := Aside0.mk hIo
      have hz1 : z < 4294967296 := by rw [hz]; exact dn_lt x i
      have HM := Lib.hid (And.intro hM (And.intro hz (And.intro hR hz1)))
      clear hM hz hR hIo HI hz1
      go_wp2_with (fail)
      go_loopw [7, 8] (fun v7 v8 wr => ∃ (k : Nat) (c : Int), Aside0 (k ≤ 4 ∧ c = (mc M z y i k : Nat) ∧ wr.heap[g5]? = some (.cells (bg false (fun j => if j < i + k then dn R j else dn M j)) 197 (0, 0)) ∧ wr.heap[g2]? = some (.cells (bg false (dn x)) 197 (0, 0)) ∧ wr.heap[g3]? = some (.cells (bg true (dn y)) 197 (0, 0)) ∧ wr.heap[g4]? = some (.cells (zb false) 197 (0, 0)) ∧ Below w.heap.size w wr) ∧ v7 = .int .u64 c ∧ v8 = .int .i64 k) (fun _ v8 _ => (4 - intOf v8).toNat)
      case atStart => exact ⟨0, 0, ⟨by omega, by rw [mc_zero]; rfl, by
          rw [HK.out.1, bg_congr (g := fun j => if j < i + 0 then dn R j else dn M j) (fun j hj => by
            have := HM.out.2.2.1
            simp only [Nat.add_zero]
            split
            · rw [this]; apply dn_of_mod; rw [show P i * z * y = P (j + 1) * (P (i - (j + 1)) * z * y) by rw [← Nat.mul_assoc, ← Nat.mul_assoc, ← P_add, show j + 1 + (i - (j + 1)) = i by omega], Nat.add_mul_mod_self_left]
            · rfl)], HK.out.2⟩, rfl, rfl⟩
      case round =>
        obtain ⟨k, c, HY, rfl, rfl⟩ := hrel
        clear HK
        by_cases hk : k < 4
        · have hkt : (k : Int) < 4 := by omega
          have hk0 : (0 : Int) ≤ k := by omega
          obtain ⟨zz, hzz⟩ : ∃ a : Int, a = (z : Nat) := ⟨_, rfl⟩
          obtain ⟨yy, hyy⟩ : ∃ a : Int, a = (dn y k : Nat) := ⟨_, rfl⟩
          obtain ⟨ee, hee⟩ : ∃ a : Int, a = (dn M (i + k) : Nat) := ⟨_, rfl⟩
          obtain ⟨pr, hpr⟩ : ∃ a : Int, a = zz * yy := ⟨_, rfl⟩
          have cx : wr.cell? ⟨g2, 1 + i, none⟩ = some (.int .u64 zz) := by rw [blk_cell HY.out.2.2.2.1 (1 + i), bg_get _ _ (by omega), hzz, HM.out.2.1]
          have cy : wr.cell? ⟨g3, 1 + k, none⟩ = some (.int .u64 yy) := by rw [blk_cell HY.out.2.2.2.2.1 (1 + k), bg_get _ _ (by omega), hyy]
          have cm : wr.cell? ⟨g5, 1 + (i + k), none⟩ = some (.int .u64 ee) := by rw [blk_cell HY.out.2.2.1 (1 + (i + k)), bg_get _ _ (by omega), hee]; simp
          have fx := blk_frozen HY.out.2.2.2.1 (1 + i)
          have fy := blk_frozen HY.out.2.2.2.2.1 (1 + k)
          have fm := blk_frozen HY.out.2.2.1 (1 + (i + k))
          have z1 := HM.out.2.2.2
          have y1 := dn_lt y k
          have e1 := dn_lt M (i + k)
          have c1 := mc_lt M z y i k z1
          have hprn : pr = ((z * dn y k : Nat) : Int) := by rw [hpr, hzz, hyy, Int.natCast_mul]
          have hmb : z * dn y k ≤ 4294967295 * 4294967295 := Nat.mul_le_mul (by omega) (by omega)
          have p0 : 0 ≤ pr := by omega
          have p1 : pr ≤ 18446744065119617025 := by omega
          have hwp : IntKind.u64.wrap (zz * yy) = pr := by rw [← hpr, IntKind.wrap_u64]; omega
          have e0 : 0 ≤ ee := by omega
          have e2 : ee ≤ 4294967295 := by omega
          have c0 : 0 ≤ c := by have := HY.out.2.1; omega
          have c2 : c ≤ 4294967295 := by have := HY.out.2.1; omega
          have hik : (i : Int) + k < 8 := by omega
          have HV := Lib.hid (And.intro hprn (And.intro hee hyy))
          clear hzz hyy hee hpr hprn hmb z1 y1 e1 c1
          go_wp2
          go_region
          go_wp2
          go_roundw
          case rel =>
            have hV := HV.out
            have hc := HY.out.2.1
            have s1 := mc_succ M z y i k
            have s2 := mul_digit M z y i k
            rw [← HM.out.2.2.1] at s2
            have v2 : (pr + ee + c) % 4294967296 = ((dn R (i + k) : Nat) : Int) := by omega
            refine ⟨k + 1, _, ⟨by omega, by omega, ?e2, ?e3, ?e4, ?e5, ?e6⟩, rfl, by go_num⟩
            case e2 => rw [v2]; exact blk_put HY.out.2.2.1 (1 + (i + k)) _ (bg_set _ _ _ (by omega) (by simp [show i + k < i + (k + 1) by omega]) (fun j hj => by show (if j < i + (k + 1) then dn R j else dn M j) = (if j < i + k then dn R j else dn M j); simp only [show (j < i + (k + 1)) = (j < i + k) from propext (by omega)]))
            case e3 => exact (Below.heap_setCell wr ⟨g5, 1 + (i + k), none⟩ _ g2 HD.out.1).trans HY.out.2.2.2.1
            case e4 => exact (Below.heap_setCell wr ⟨g5, 1 + (i + k), none⟩ _ g3 HD.out.2.1).trans HY.out.2.2.2.2.1
            case e5 => exact (Below.heap_setCell wr ⟨g5, 1 + (i + k), none⟩ _ g4 HD.out.2.2).trans HY.out.2.2.2.2.2.1
            case e6 => exact (HY.out.2.2.2.2.2.2.setCell HL5.out _).drew
          case measure => simp [intOf]; omega
        · obtain rfl : k = 4 := by have := HY.out.1; omega
          have cm : wr.cell? ⟨g5, 1 + (i + 4), none⟩ = some (.int .u64 ((dn M (i + 4) : Nat) : Int)) := by rw [blk_cell HY.out.2.2.1 (1 + (i + 4)), bg_get _ _ (by omega)]; simp
          have fm := blk_frozen HY.out.2.2.1 (1 + (i + 4))
          have hik : (i : Int) + 4 < 8 := by omega
          go_wp2
          go_roundw
          case rel =>
            have hc := HY.out.2.1
            have hMx : M < P (i + 4) := by
              rw [HM.out.1, P_add]
              exact Nat.mul_lt_mul_of_lt_of_le (Nat.mod_lt _ (P_pos i)) (Nat.le_of_lt HXY.out.2) (P_pos 4)
            have hRx : R < P (i + 4 + 1) := by
              rw [HM.out.2.2.1, HM.out.1]
              exact mul_bound _ y i 4 HXY.out.2 z (Nat.mod_lt _ (P_pos i)) HM.out.2.2.2
            have hl := mul_last M z y i 4 hMx HXY.out.2
            rw [← HM.out.2.2.1, ← dn_eq_div hRx] at hl
            have v2 : c = ((dn R (i + 4) : Nat) : Int) := by rw [hc, hl]
            have hRR : x % P (i + 1) * y = R := by
              rw [mod_succ, Nat.add_mul, HM.out.2.2.1, HM.out.1, HM.out.2.1]
            refine ⟨i + 1, ⟨by omega, ?e2, ?e3, ?e4, ?e5, ?e6⟩, by go_num⟩
            case e2 =>
              rw [v2, hRR, blk_put HY.out.2.2.1 (1 + (i + 4)) _ (bg_set _ _ (fun j => if j = i + 4 then dn R (i + 4) else if j < i + 4 then dn R j else dn M j) (by omega) (by simp) (fun j hj => by simp [hj]))]
              rw [bg_congr (g := dn R) (fun j hj => ?_)]
              show (if j = i + 4 then dn R (i + 4) else if j < i + 4 then dn R j else dn M j) = dn R j
              by_cases h1 : j = i + 4
              · rw [if_pos h1, h1]
              · rw [if_neg h1]
                by_cases h2 : j < i + 4
                · rw [if_pos h2]
                · rw [if_neg h2, dn_zero_of_lt (Nat.lt_of_lt_of_le hMx (P_mono (by omega))), dn_zero_of_lt (Nat.lt_of_lt_of_le hRx (P_mono (by omega)))]
            case e3 => exact (Below.heap_setCell wr ⟨g5, 1 + (i + 4), none⟩ _ g2 HD.out.1).trans HY.out.2.2.2.1
            case e4 => exact (Below.heap_setCell wr ⟨g5, 1 + (i + 4), none⟩ _ g3 HD.out.2.1).trans HY.out.2.2.2.2.1
            case e5 => exact (Below.heap_setCell wr ⟨g5, 1 + (i + 4), none⟩ _ g4 HD.out.2.2).trans HY.out.2.2.2.2.2.1
            case e6 => exact HY.out.2.2.2.2.2.2.setCell HL5.out _
          case measure => simp [intOf]; omega
    · obtain rfl : i = 4 := by have := HI.out.1; omega
      have hIo := HI.out.2
      rw [Nat.mod_eq_of_lt HXY.out.1] at hIo
      obtain ⟨m, hm⟩ : ∃ m, m = x * y := ⟨_, rfl⟩
      rw [← hm] at hIo
      have HT := Aside0.mk hIo
      have hmb : m < P 8 := by
        rw [hm, show P 8 = P 4 * P 4 from (P_add 4 4)]
        exact Nat.mul_lt_mul_of_lt_of_le HXY.out.1 (Nat.le_of_lt HXY.out.2) (P_pos 4)
      obtain ⟨z, hz⟩ : ∃ z, z = (m == 0) := ⟨_, rfl⟩
      have hZ : ∀ W, Calls Tryd.prog 132 #[.agg (c8 (dn m))] W fun e w' => e = .returned (.bool z) ∧ Below W.heap.size W w' := fun W => by
        rw [hz]; exact zero_calls m hmb W
      have HZM := Lib.hid (show z = (x * y == 0) ∧ m = x * y from ⟨by rw [hz, hm], hm⟩)
      clear hIo HI hm hmb hz hi
      have c2 := (blk_cell HT.out.2.1 0).trans (bg_neg _ _)
      have c3 := (blk_cell HT.out.2.2.1 0).trans (bg_neg _ _)
      have c5 := (blk_cell HT.out.1 0).trans (bg_neg _ _)
      have f2 := blk_frozen HT.out.2.1 0
      have f3 := blk_frozen HT.out.2.2.1 0
      have f5 := blk_frozen HT.out.1 0
      go_upto_region 14 with (first | ((with_reducible refine gate_dst (N := 58) rfl ?_); refine gate_guard (by kernel_rfl) ?_; (try dsimp only); refine get81 rfl rfl g5 197 (false) (dn m) _ rfl HT.out.1 Tryd.underlying195 rfl (by kernel_rfl) ?_) | (go_at_call 132; (with_reducible refine (hZ _).mono ?_); rintro e w6 ⟨rfl, hb6⟩; have HV := Aside0.mk (And.intro (blk_below HT.out.1 hb6) (And.intro (blk_below HT.out.2.2.2.1 hb6) (HT.out.2.2.2.2.trans (hb6.mono HT.out.2.2.2.2.size)))); clear hb6 c5 f5; have c6 := (blk_cell HV.out.1 0).trans (bg_neg _ _); have f6 := blk_frozen HV.out.1 0))
      refine name_w (fun W8 hW8 => ?_)
      have h8 : W8.heap[g5]? = some (.cells (bg (!z) (dn m)) 197 (0, 0)) := by rw [hW8]; exact blk_put HV.out.1 0 _ (bg_setneg _ _ _)
      have h8r : W8.heap[g4]? = some (.cells (zb false) 197 (0, 0)) := by rw [hW8]; exact (Below.heap_setCell _ ⟨g5, 0, none⟩ _ g4 HD.out.2.2).trans HV.out.2.1
      have h8b : Below w.heap.size w W8 := by rw [hW8]; exact HV.out.2.2.setCell HL5.out _
      have H8 := Aside0.mk (And.intro h8 (And.intro h8r h8b))
      clear hW8 h8 h8r h8b hZ
      go_wp2_with (first | ((with_reducible refine gate_dst (N := 63) rfl ?_); refine get9 rfl rfl g5 197 (!z) (dn m) _ rfl H8.out.1 Tryd.underlying197 rfl (by kernel_rfl) ?_) | ((with_reducible refine gate_store (t := 197) (p := 4) rfl ?_); refine put9 rfl rfl rfl g4 197 (zb false) (!z) (dn m) rfl rfl H8.out.2.1 (by kernel_rfl) rfl H8.out.2.2 HL4.out ?_; intro wy hz hfar hbz; have HZwy := Aside0.mk hz; have HFwy := Aside0.mk hfar; have HBwy := Aside0.mk hbz; clear hz hfar hbz))
      refine bodyPost_ret (results_single rfl (.cell g4 197 (bg (!z) (dn m)) (0, 0) _ rfl HZwy.out Tryd.underlying197 rfl (by kernel_rfl) .nil)) rfl ?_
      exact ⟨by rw [HZM.out.2]; simp [HZM.out.1], HBwy.out⟩
set_option maxHeartbeats 2000000 in
set_option maxRecDepth 100000 in
theorem mul_false_false (x y : Nat) (hx : x < P 4) (hy : y < P 4) (w : World) : Calls Tryd.prog 128 #[.agg (bg false (dn x)), .agg (bg false (dn y))] w fun e w' => e = .returned (.agg (bg (false && !(x * y == 0)) (dn (x * y)))) ∧ Below w.heap.size w w' := by
  obtain ⟨w1, hw1⟩ : ∃ w1, w1 = (((w.alloc (.cells (bg false (dn x)) 197)).alloc (.cells (bg false (dn y)) 197)).alloc (.cells (zb false) 197)) := ⟨_, rfl⟩
  have k2 : w1.heap[w.heap.size]? = some (.cells (bg false (dn x)) 197 (0, 0)) := by rw [hw1]; exact blk_alloc (blk_alloc (heap_alloc_new w _) _) _
  have k3 : w1.heap[w.heap.size + 1]? = some (.cells (bg false (dn y)) 197 (0, 0)) := by rw [hw1]; exact blk_alloc (new1 w _ _) _
  have k4 : w1.heap[w.heap.size + 1 + 1]? = some (.cells (zb false) 197 (0, 0)) := by rw [hw1]; exact new2 w _ _ _
  have hb1 : Below w.heap.size w w1 := by rw [hw1]; exact (((Below.refl _ w).alloc (Nat.le_refl _) _).alloc (by simp) _).alloc (by simp; omega) _
  have hn1 : w1.heap.size = w.heap.size + 1 + 1 + 1 := by rw [hw1]; simp
  obtain ⟨g2, hg2⟩ : ∃ g, g = w.heap.size := ⟨_, rfl⟩
  obtain ⟨g3, hg3⟩ : ∃ g, g = w.heap.size + 1 := ⟨_, rfl⟩
  obtain ⟨g4, hg4⟩ : ∃ g, g = w.heap.size + 1 + 1 := ⟨_, rfl⟩
  obtain ⟨g5, hg5⟩ : ∃ g, g = w1.heap.size := ⟨_, rfl⟩
  rw [← hg2] at k2
  rw [← hg3] at k3
  rw [← hg4] at k4
  have HX := Aside0.mk (And.intro k2 (And.intro k3 (And.intro k4 hb1)))
  have HL4 := Lib.hid (show w.heap.size ≤ g4 by omega)
  have HL5 := Lib.hid (show w.heap.size ≤ g5 by omega)
  have HD := Lib.hid (show g2 ≠ g5 ∧ g3 ≠ g5 ∧ g4 ≠ g5 by omega)
  have HW := Lib.hid hw1
  have H2 := Lib.hid hg2
  have H3 := Lib.hid hg3
  have H4 := Lib.hid hg4
  have H5 := Lib.hid hg5
  have HXY := Lib.hid (And.intro hx hy)
  clear hw1 hg2 hg3 hg4 hg5 k2 k3 k4 hb1 hn1 hx hy
  go_enter Tryd.func128, Tryd.ntmps128
  go_upto_region 1 with (fail)
  rw [← HW.out, ← H4.out, ← H3.out, ← H2.out]
  go_wp2_with (((with_reducible refine gate_store (t := 197) (p := 5) rfl ?_); refine put9z rfl rfl rfl w1.heap.size 197 (zb false) (false) rfl rfl (heap_alloc_new w1 _) (by kernel_rfl) rfl (HX.out.2.2.2.alloc HX.out.2.2.2.size _) HX.out.2.2.2.size ?_; intro wz hz hfar hbz; rw [← H5.out] at hz hfar; have HZwz := Aside0.mk hz; have HFwz := Aside0.mk hfar; have HBwz := Aside0.mk hbz; clear hz hfar hbz))
  rw [← H5.out]
  have HK : Aside0 (wz.heap[g5]? = some (.cells (bg false (dn 0)) 197 (0, 0)) ∧ wz.heap[g2]? = some (.cells (bg false (dn x)) 197 (0, 0)) ∧ wz.heap[g3]? = some (.cells (bg false (dn y)) 197 (0, 0)) ∧ wz.heap[g4]? = some (.cells (zb false) 197 (0, 0)) ∧ Below w.heap.size w wz) := ⟨HZwz.out, (HFwz.out g2 HD.out.1).trans (blk_alloc HX.out.1 _), (HFwz.out g3 HD.out.2.1).trans (blk_alloc HX.out.2.1 _), (HFwz.out g4 HD.out.2.2).trans (blk_alloc HX.out.2.2.1 _), HBwz.out⟩
  clear HZwz HBwz HFwz HX
  go_loopw [6] (fun v6 wr => ∃ (i : Nat), Aside0 (i ≤ 4 ∧ wr.heap[g5]? = some (.cells (bg false (dn (x % P i * y))) 197 (0, 0)) ∧ wr.heap[g2]? = some (.cells (bg false (dn x)) 197 (0, 0)) ∧ wr.heap[g3]? = some (.cells (bg false (dn y)) 197 (0, 0)) ∧ wr.heap[g4]? = some (.cells (zb false) 197 (0, 0)) ∧ Below w.heap.size w wr) ∧ v6 = .int .i64 i) (fun v6 _ => (4 - intOf v6).toNat)
  case atStart => exact ⟨0, ⟨by omega, by rw [P_zero, Nat.mod_one, Nat.zero_mul]; exact HK.out⟩, rfl⟩
  case round =>
    obtain ⟨i, HI, rfl⟩ := hrel
    clear HK
    by_cases hi : i < 4
    · have hlt : (i : Int) < 4 := by omega
      have h0 : (0 : Int) ≤ i := by omega
      obtain ⟨M, hM⟩ : ∃ M, M = x % P i * y := ⟨_, rfl⟩
      obtain ⟨z, hz⟩ : ∃ z : Nat, z = dn x i := ⟨_, rfl⟩
      obtain ⟨R, hR⟩ : ∃ R, R = M + P i * z * y := ⟨_, rfl⟩
      have hIo := HI.out.2
      rw [← hM] at hIo
      have HK := Aside0.mk hIo
      have hz1 : z < 4294967296 := by rw [hz]; exact dn_lt x i
      have HM := Lib.hid (And.intro hM (And.intro hz (And.intro hR hz1)))
      clear hM hz hR hIo HI hz1
      go_wp2_with (fail)
      go_loopw [7, 8] (fun v7 v8 wr => ∃ (k : Nat) (c : Int), Aside0 (k ≤ 4 ∧ c = (mc M z y i k : Nat) ∧ wr.heap[g5]? = some (.cells (bg false (fun j => if j < i + k then dn R j else dn M j)) 197 (0, 0)) ∧ wr.heap[g2]? = some (.cells (bg false (dn x)) 197 (0, 0)) ∧ wr.heap[g3]? = some (.cells (bg false (dn y)) 197 (0, 0)) ∧ wr.heap[g4]? = some (.cells (zb false) 197 (0, 0)) ∧ Below w.heap.size w wr) ∧ v7 = .int .u64 c ∧ v8 = .int .i64 k) (fun _ v8 _ => (4 - intOf v8).toNat)
      case atStart => exact ⟨0, 0, ⟨by omega, by rw [mc_zero]; rfl, by
          rw [HK.out.1, bg_congr (g := fun j => if j < i + 0 then dn R j else dn M j) (fun j hj => by
            have := HM.out.2.2.1
            simp only [Nat.add_zero]
            split
            · rw [this]; apply dn_of_mod; rw [show P i * z * y = P (j + 1) * (P (i - (j + 1)) * z * y) by rw [← Nat.mul_assoc, ← Nat.mul_assoc, ← P_add, show j + 1 + (i - (j + 1)) = i by omega], Nat.add_mul_mod_self_left]
            · rfl)], HK.out.2⟩, rfl, rfl⟩
      case round =>
        obtain ⟨k, c, HY, rfl, rfl⟩ := hrel
        clear HK
        by_cases hk : k < 4
        · have hkt : (k : Int) < 4 := by omega
          have hk0 : (0 : Int) ≤ k := by omega
          obtain ⟨zz, hzz⟩ : ∃ a : Int, a = (z : Nat) := ⟨_, rfl⟩
          obtain ⟨yy, hyy⟩ : ∃ a : Int, a = (dn y k : Nat) := ⟨_, rfl⟩
          obtain ⟨ee, hee⟩ : ∃ a : Int, a = (dn M (i + k) : Nat) := ⟨_, rfl⟩
          obtain ⟨pr, hpr⟩ : ∃ a : Int, a = zz * yy := ⟨_, rfl⟩
          have cx : wr.cell? ⟨g2, 1 + i, none⟩ = some (.int .u64 zz) := by rw [blk_cell HY.out.2.2.2.1 (1 + i), bg_get _ _ (by omega), hzz, HM.out.2.1]
          have cy : wr.cell? ⟨g3, 1 + k, none⟩ = some (.int .u64 yy) := by rw [blk_cell HY.out.2.2.2.2.1 (1 + k), bg_get _ _ (by omega), hyy]
          have cm : wr.cell? ⟨g5, 1 + (i + k), none⟩ = some (.int .u64 ee) := by rw [blk_cell HY.out.2.2.1 (1 + (i + k)), bg_get _ _ (by omega), hee]; simp
          have fx := blk_frozen HY.out.2.2.2.1 (1 + i)
          have fy := blk_frozen HY.out.2.2.2.2.1 (1 + k)
          have fm := blk_frozen HY.out.2.2.1 (1 + (i + k))
          have z1 := HM.out.2.2.2
          have y1 := dn_lt y k
          have e1 := dn_lt M (i + k)
          have c1 := mc_lt M z y i k z1
          have hprn : pr = ((z * dn y k : Nat) : Int) := by rw [hpr, hzz, hyy, Int.natCast_mul]
          have hmb : z * dn y k ≤ 4294967295 * 4294967295 := Nat.mul_le_mul (by omega) (by omega)
          have p0 : 0 ≤ pr := by omega
          have p1 : pr ≤ 18446744065119617025 := by omega
          have hwp : IntKind.u64.wrap (zz * yy) = pr := by rw [← hpr, IntKind.wrap_u64]; omega
          have e0 : 0 ≤ ee := by omega
          have e2 : ee ≤ 4294967295 := by omega
          have c0 : 0 ≤ c := by have := HY.out.2.1; omega
          have c2 : c ≤ 4294967295 := by have := HY.out.2.1; omega
          have hik : (i : Int) + k < 8 := by omega
          have HV := Lib.hid (And.intro hprn (And.intro hee hyy))
          clear hzz hyy hee hpr hprn hmb z1 y1 e1 c1
          go_wp2
          go_region
          go_wp2
          go_roundw
          case rel =>
            have hV := HV.out
            have hc := HY.out.2.1
            have s1 := mc_succ M z y i k
            have s2 := mul_digit M z y i k
            rw [← HM.out.2.2.1] at s2
            have v2 : (pr + ee + c) % 4294967296 = ((dn R (i + k) : Nat) : Int) := by omega
            refine ⟨k + 1, _, ⟨by omega, by omega, ?e2, ?e3, ?e4, ?e5, ?e6⟩, rfl, by go_num⟩
            case e2 => rw [v2]; exact blk_put HY.out.2.2.1 (1 + (i + k)) _ (bg_set _ _ _ (by omega) (by simp [show i + k < i + (k + 1) by omega]) (fun j hj => by show (if j < i + (k + 1) then dn R j else dn M j) = (if j < i + k then dn R j else dn M j); simp only [show (j < i + (k + 1)) = (j < i + k) from propext (by omega)]))
            case e3 => exact (Below.heap_setCell wr ⟨g5, 1 + (i + k), none⟩ _ g2 HD.out.1).trans HY.out.2.2.2.1
            case e4 => exact (Below.heap_setCell wr ⟨g5, 1 + (i + k), none⟩ _ g3 HD.out.2.1).trans HY.out.2.2.2.2.1
            case e5 => exact (Below.heap_setCell wr ⟨g5, 1 + (i + k), none⟩ _ g4 HD.out.2.2).trans HY.out.2.2.2.2.2.1
            case e6 => exact (HY.out.2.2.2.2.2.2.setCell HL5.out _).drew
          case measure => simp [intOf]; omega
        · obtain rfl : k = 4 := by have := HY.out.1; omega
          have cm : wr.cell? ⟨g5, 1 + (i + 4), none⟩ = some (.int .u64 ((dn M (i + 4) : Nat) : Int)) := by rw [blk_cell HY.out.2.2.1 (1 + (i + 4)), bg_get _ _ (by omega)]; simp
          have fm := blk_frozen HY.out.2.2.1 (1 + (i + 4))
          have hik : (i : Int) + 4 < 8 := by omega
          go_wp2
          go_roundw
          case rel =>
            have hc := HY.out.2.1
            have hMx : M < P (i + 4) := by
              rw [HM.out.1, P_add]
              exact Nat.mul_lt_mul_of_lt_of_le (Nat.mod_lt _ (P_pos i)) (Nat.le_of_lt HXY.out.2) (P_pos 4)
            have hRx : R < P (i + 4 + 1) := by
              rw [HM.out.2.2.1, HM.out.1]
              exact mul_bound _ y i 4 HXY.out.2 z (Nat.mod_lt _ (P_pos i)) HM.out.2.2.2
            have hl := mul_last M z y i 4 hMx HXY.out.2
            rw [← HM.out.2.2.1, ← dn_eq_div hRx] at hl
            have v2 : c = ((dn R (i + 4) : Nat) : Int) := by rw [hc, hl]
            have hRR : x % P (i + 1) * y = R := by
              rw [mod_succ, Nat.add_mul, HM.out.2.2.1, HM.out.1, HM.out.2.1]
            refine ⟨i + 1, ⟨by omega, ?e2, ?e3, ?e4, ?e5, ?e6⟩, by go_num⟩
            case e2 =>
              rw [v2, hRR, blk_put HY.out.2.2.1 (1 + (i + 4)) _ (bg_set _ _ (fun j => if j = i + 4 then dn R (i + 4) else if j < i + 4 then dn R j else dn M j) (by omega) (by simp) (fun j hj => by simp [hj]))]
              rw [bg_congr (g := dn R) (fun j hj => ?_)]
              show (if j = i + 4 then dn R (i + 4) else if j < i + 4 then dn R j else dn M j) = dn R j
              by_cases h1 : j = i + 4
              · rw [if_pos h1, h1]
              · rw [if_neg h1]
                by_cases h2 : j < i + 4
                · rw [if_pos h2]
                · rw [if_neg h2, dn_zero_of_lt (Nat.lt_of_lt_of_le hMx (P_mono (by omega))), dn_zero_of_lt (Nat.lt_of_lt_of_le hRx (P_mono (by omega)))]
            case e3 => exact (Below.heap_setCell wr ⟨g5, 1 + (i + 4), none⟩ _ g2 HD.out.1).trans HY.out.2.2.2.1
            case e4 => exact (Below.heap_setCell wr ⟨g5, 1 + (i + 4), none⟩ _ g3 HD.out.2.1).trans HY.out.2.2.2.2.1
            case e5 => exact (Below.heap_setCell wr ⟨g5, 1 + (i + 4), none⟩ _ g4 HD.out.2.2).trans HY.out.2.2.2.2.2.1
            case e6 => exact HY.out.2.2.2.2.2.2.setCell HL5.out _
          case measure => simp [intOf]; omega
    · obtain rfl : i = 4 := by have := HI.out.1; omega
      have hIo := HI.out.2
      rw [Nat.mod_eq_of_lt HXY.out.1] at hIo
      obtain ⟨m, hm⟩ : ∃ m, m = x * y := ⟨_, rfl⟩
      rw [← hm] at hIo
      have HT := Aside0.mk hIo
      have hmb : m < P 8 := by
        rw [hm, show P 8 = P 4 * P 4 from (P_add 4 4)]
        exact Nat.mul_lt_mul_of_lt_of_le HXY.out.1 (Nat.le_of_lt HXY.out.2) (P_pos 4)
      obtain ⟨z, hz⟩ : ∃ z, z = (m == 0) := ⟨_, rfl⟩
      have hZ : ∀ W, Calls Tryd.prog 132 #[.agg (c8 (dn m))] W fun e w' => e = .returned (.bool z) ∧ Below W.heap.size W w' := fun W => by
        rw [hz]; exact zero_calls m hmb W
      have HZM := Lib.hid (show z = (x * y == 0) ∧ m = x * y from ⟨by rw [hz, hm], hm⟩)
      clear hIo HI hm hmb hz hi
      have c2 := (blk_cell HT.out.2.1 0).trans (bg_neg _ _)
      have c3 := (blk_cell HT.out.2.2.1 0).trans (bg_neg _ _)
      have c5 := (blk_cell HT.out.1 0).trans (bg_neg _ _)
      have f2 := blk_frozen HT.out.2.1 0
      have f3 := blk_frozen HT.out.2.2.1 0
      have f5 := blk_frozen HT.out.1 0
      go_upto_region 14 with (fail)
      have HV := Aside0.mk (And.intro HT.out.1 (And.intro HT.out.2.2.2.1 HT.out.2.2.2.2))
      refine name_w (fun W8 hW8 => ?_)
      have h8 : W8.heap[g5]? = some (.cells (bg (false) (dn m)) 197 (0, 0)) := by rw [hW8]; exact blk_put HV.out.1 0 _ (bg_setneg _ _ _)
      have h8r : W8.heap[g4]? = some (.cells (zb false) 197 (0, 0)) := by rw [hW8]; exact (Below.heap_setCell _ ⟨g5, 0, none⟩ _ g4 HD.out.2.2).trans HV.out.2.1
      have h8b : Below w.heap.size w W8 := by rw [hW8]; exact HV.out.2.2.setCell HL5.out _
      have H8 := Aside0.mk (And.intro h8 (And.intro h8r h8b))
      clear hW8 h8 h8r h8b hZ
      go_wp2_with (first | ((with_reducible refine gate_dst (N := 63) rfl ?_); refine get9 rfl rfl g5 197 (false) (dn m) _ rfl H8.out.1 Tryd.underlying197 rfl (by kernel_rfl) ?_) | ((with_reducible refine gate_store (t := 197) (p := 4) rfl ?_); refine put9 rfl rfl rfl g4 197 (zb false) (false) (dn m) rfl rfl H8.out.2.1 (by kernel_rfl) rfl H8.out.2.2 HL4.out ?_; intro wy hz hfar hbz; have HZwy := Aside0.mk hz; have HFwy := Aside0.mk hfar; have HBwy := Aside0.mk hbz; clear hz hfar hbz))
      refine bodyPost_ret (results_single rfl (.cell g4 197 (bg (false) (dn m)) (0, 0) _ rfl HZwy.out Tryd.underlying197 rfl (by kernel_rfl) .nil)) rfl ?_
      exact ⟨by rw [HZM.out.2]; simp [HZM.out.1], HBwy.out⟩
end Go.Proofs.YtpihgdehgkclmaaDoor.Big
