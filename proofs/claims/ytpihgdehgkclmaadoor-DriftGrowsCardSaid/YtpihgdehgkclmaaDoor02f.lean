/-
  The reference's numbers of 256 bits, walked: To.
-/
import Derived.Test.YtpihgdehgkclmaaDoor02e
namespace Go.Proofs.YtpihgdehgkclmaaDoor.Big
open Go.RowKit Go.Proofs.YtpihgdehgkclmaaDoorW.PrintWords Go.Proofs.YtpihgdehgkclmaaDoorW.PrintLast Go.Proofs.YtpihgdehgkclmaaDoorW.PrintMore
set_option linter.unusedVariables false
set_option linter.unusedSimpArgs false
theorem lt_of_top {n i : Nat} (h : n < P (i + 1)) (h0 : dn n i = 0) : n < P i := by
  rw [dn_eq_div h] at h0
  exact (Nat.div_eq_zero_iff_lt (P_pos i)).1 h0
set_option maxHeartbeats 2000000 in
set_option maxRecDepth 100000 in
theorem to_false_ok (m : Nat) (hm : m < 170141183460469231731687303715884105728) (w : World) : Calls Tryd.prog 155 #[.agg (bg false (dn m))] w fun e w' => e = .returned (.tuple #[.agg #[.int .i64 ((m / 18446744073709551616 : Nat) : Int), .int .u64 ((m % 18446744073709551616 : Nat) : Int)], .bool true]) ∧ Below w.heap.size w w' := by
  obtain ⟨w1, hw1⟩ : ∃ w1, w1 = ((w.alloc (.cells (bg false (dn m)) 197)).alloc (.cells #[.int .i64 0, .int .u64 0] 243)) := ⟨_, rfl⟩
  have k1 : w1.heap[w.heap.size]? = some (.cells (bg false (dn m)) 197 (0, 0)) := by rw [hw1]; exact blk_alloc (heap_alloc_new w _) _
  have k2 : w1.heap[w.heap.size + 1]? = some (.cells #[.int .i64 0, .int .u64 0] 243 (0, 0)) := by rw [hw1]; exact new1 w _ _
  have hb1 : Below w.heap.size w w1 := by rw [hw1]; exact ((Below.refl _ w).alloc (Nat.le_refl _) _).alloc (by simp) _
  have hn1 : w1.heap.size = w.heap.size + 1 + 1 := by rw [hw1]; simp
  obtain ⟨g1, hg1⟩ : ∃ g, g = w.heap.size := ⟨_, rfl⟩
  obtain ⟨g2, hg2⟩ : ∃ g, g = w.heap.size + 1 := ⟨_, rfl⟩
  obtain ⟨g4, hg4⟩ : ∃ g, g = w1.heap.size := ⟨_, rfl⟩
  rw [← hg1] at k1
  rw [← hg2] at k2
  have HX := Aside0.mk (And.intro k1 (And.intro k2 hb1))
  have HL2 := Lib.hid (show w.heap.size ≤ g2 by omega)
  have HL4 := Lib.hid (show w.heap.size ≤ g4 by omega)
  have HD := Lib.hid (show g1 ≠ g4 ∧ g2 ≠ g4 ∧ g1 ≠ g2 by omega)
  have HW := Lib.hid hw1
  have H1 := Lib.hid hg1
  have H2 := Lib.hid hg2
  have H4 := Lib.hid hg4
  have HMM := Lib.hid hm
  clear hw1 hg1 hg2 hg4 k1 k2 hb1 hn1 hm
  obtain ⟨H, hH⟩ : ∃ H : Int, H = ((m / 18446744073709551616 : Nat) : Int) := ⟨_, rfl⟩
  obtain ⟨L, hL⟩ : ∃ L : Int, L = ((m % 18446744073709551616 : Nat) : Int) := ⟨_, rfl⟩
  rw [← hH, ← hL]
  have HHL := Lib.hid (And.intro hH hL)
  clear hH hL
  go_enter Tryd.func155, Tryd.ntmps155
  go_upto_region 1 with (fail)
  rw [← HW.out, ← H2.out, ← H1.out]
  go_upto_region 2 with (first | ((with_reducible refine gate_dst (N := 8) rfl ?_); refine get81 rfl rfl g1 197 (false) (dn m) _ rfl HX.out.1 Tryd.underlying195 rfl (by kernel_rfl) ?_) | ((with_reducible refine gate_store (t := 195) (p := 4) rfl ?_); refine put8 rfl rfl rfl w1.heap.size 195 z8 (dn m) rfl rfl (heap_alloc_new w1 _) (by kernel_rfl) rfl (HX.out.2.2.alloc HX.out.2.2.size _) HX.out.2.2.size ?_; intro wz hz hfar hbz; rw [← H4.out] at hz hfar; have HZwz := Aside0.mk hz; have HFwz := Aside0.mk hfar; have HBwz := Aside0.mk hbz; clear hz hfar hbz))
  rw [← H4.out]
  have HK : Aside0 (wz.heap[g4]? = some (.cells (c8 (dn m)) 195 (0, 0)) ∧ wz.heap[g1]? = some (.cells (bg false (dn m)) 197 (0, 0)) ∧ wz.heap[g2]? = some (.cells #[.int .i64 0, .int .u64 0] 243 (0, 0)) ∧ Below w.heap.size w wz) := ⟨HZwz.out, (HFwz.out g1 HD.out.1).trans (blk_alloc HX.out.1 _), (HFwz.out g2 HD.out.2.1).trans (blk_alloc HX.out.2.1 _), HBwz.out⟩
  clear HZwz HBwz HFwz HX
  have c1 := (blk_cell HK.out.2.1 0).trans (bg_neg _ _)
  have f1 := blk_frozen HK.out.2.1 0
  go_upto_region 4 with (fail)
  clear c1 f1
  have HT := HK
  obtain ⟨d3, hd3⟩ : ∃ d : Int, d = (dn m 3 : Nat) := ⟨_, rfl⟩
  have c3 : wz.cell? ⟨g4, 3, none⟩ = some (.int .u64 d3) := by rw [blk_cell HT.out.1 3, c8_get _ (by omega), hd3]
  have f3 := blk_frozen HT.out.1 3
  have HD3 := Lib.hid hd3
  have hd30 : d3 < 2147483648 := by
    rw [hd3]
    have hq := HMM.out
    have hqq : dn m 3 = m / P 3 % 4294967296 := rfl
    have e3 : P 3 = 79228162514264337593543950336 := by decide
    rw [e3] at hqq
    omega
  clear hd3
  have hd3d := decide_eq_false (show ¬ (2147483648 ≤ d3) by omega)
  go_wp2_with (fail)
  go_loopw [5] (fun v5 wr => ∃ (i : Nat), Aside0 (4 ≤ i ∧ i ≤ 8 ∧ (∀ j, 4 ≤ j → j < i → dn m j = 0) ∧ wr.heap[g4]? = some (.cells (c8 (dn m)) 195 (0, 0)) ∧ wr.heap[g1]? = some (.cells (bg false (dn m)) 197 (0, 0)) ∧ wr.heap[g2]? = some (.cells #[.int .i64 0, .int .u64 0] 243 (0, 0)) ∧ Below w.heap.size w wr) ∧ v5 = .int .i64 i) (fun v5 _ => (8 - intOf v5).toNat)
  case atStart => exact ⟨4, ⟨by omega, by omega, fun j h1 h2 => by omega, HT.out⟩, rfl⟩
  case round =>
    obtain ⟨i, HI, rfl⟩ := hrel
    clear HT c3 f3
    have h0 : (0 : Int) ≤ i := by omega
    by_cases hi : i < 8
    · have hlt : (i : Int) < 8 := by omega
      obtain ⟨x, hx⟩ : ∃ x : Int, x = (dn m i : Nat) := ⟨_, rfl⟩
      have cx : wr.cell? ⟨g4, i, none⟩ = some (.int .u64 x) := by rw [blk_cell HI.out.2.2.2.1 i, c8_get _ hi, hx]
      have fx := blk_frozen HI.out.2.2.2.1 i
      have hx0 : x = 0 := by
        have hq := HMM.out
        have e4 : P 4 = 340282366920938463463374607431768211456 := by decide
        have := P_mono HI.out.1
        have := dn_zero_of_lt (n := m) (i := i) (by omega)
        omega
      have HXX := Lib.hid (show (dn m i : Int) = 0 by omega)
      clear hx
      subst hx0
      go_wp2
      go_roundw
      case rel => exact ⟨i + 1, ⟨by have := HI.out.1; omega, by omega, fun j h1 h2 => by
          by_cases hj : j < i
          · exact HI.out.2.2.1 j h1 hj
          · rw [show j = i by omega]; have := HXX.out; omega, HI.out.2.2.2⟩, by go_num⟩
      case measure => simp [intOf]; omega
    · obtain rfl : i = 8 := by have := HI.out.2.1; omega
      obtain ⟨d0, hd0⟩ : ∃ d : Int, d = (dn m 0 : Nat) := ⟨_, rfl⟩
      obtain ⟨d1, hd1⟩ : ∃ d : Int, d = (dn m 1 : Nat) := ⟨_, rfl⟩
      obtain ⟨d2, hd2⟩ : ∃ d : Int, d = (dn m 2 : Nat) := ⟨_, rfl⟩
      have HI4 := Aside0.mk HI.out.2.2.2
      have c0 : wr.cell? ⟨g4, 0, none⟩ = some (.int .u64 d0) := by rw [blk_cell HI4.out.1 0, c8_get _ (by omega), hd0]
      have c1 : wr.cell? ⟨g4, 1, none⟩ = some (.int .u64 d1) := by rw [blk_cell HI4.out.1 1, c8_get _ (by omega), hd1]
      have c2 : wr.cell? ⟨g4, 2, none⟩ = some (.int .u64 d2) := by rw [blk_cell HI4.out.1 2, c8_get _ (by omega), hd2]
      have c3 : wr.cell? ⟨g4, 3, none⟩ = some (.int .u64 d3) := by rw [blk_cell HI4.out.1 3, c8_get _ (by omega), HD3.out]
      have f0 := blk_frozen HI4.out.1 0
      have f1 := blk_frozen HI4.out.1 1
      have f2 := blk_frozen HI4.out.1 2
      have f3 := blk_frozen HI4.out.1 3
      have b00 : 0 ≤ d0 := by omega
      have b01 : d0 ≤ 4294967295 := by have := dn_lt m 0; omega
      have b10 : 0 ≤ d1 := by omega
      have b11 : d1 ≤ 4294967295 := by have := dn_lt m 1; omega
      have b20 : 0 ≤ d2 := by omega
      have b21 : d2 ≤ 4294967295 := by have := dn_lt m 2; omega
      have b30 : 0 ≤ d3 := by have := HD3.out; omega
      have hHe : d3 * 4294967296 + d2 = H ∧ d1 * 4294967296 + d0 = L := by
        have h1 := HHL.out
        have h3 := HD3.out
        have hq := HMM.out
        have q0 : dn m 0 = m / 1 % 4294967296 := rfl
        have q1 : dn m 1 = m / 4294967296 % 4294967296 := rfl
        have q2 : dn m 2 = m / 18446744073709551616 % 4294967296 := rfl
        have q3 : dn m 3 = m / 79228162514264337593543950336 % 4294967296 := rfl
        constructor <;> omega
      have HE := Lib.hid hHe
      obtain ⟨g6, hg6⟩ : ∃ g, g = wr.heap.size := ⟨_, rfl⟩
      have hlt4 := (Array.getElem?_eq_some_iff.1 HI4.out.2.2.1).1
      have HD6 := Lib.hid (show g2 ≠ g6 by omega)
      have hle6 := HI4.out.2.2.2.size
      have HL6 := Lib.hid (show w.heap.size ≤ g6 by omega)
      have H6 := Lib.hid hg6
      have cn : wr.cell? ⟨g1, 0, none⟩ = some (.bool false) := (blk_cell HI4.out.2.1 0).trans (bg_neg _ _)
      have fn := blk_frozen HI4.out.2.1 0
      clear hd0 hd1 hd2 hHe hg6 hlt4 hle6 HI
      go_upto_region 12 with (fail)
      refine name_w (fun W6 hW6 => ?_)
      rw [← H6.out]
      have k6 : W6.heap[g6]? = some (.cells #[.int .i64 H, .int .u64 L] 243 (0, 0)) := by rw [hW6, H6.out, ← HE.out.1, ← HE.out.2]; exact heap_alloc_new wr _
      have k2 : W6.heap[g2]? = some (.cells #[.int .i64 0, .int .u64 0] 243 (0, 0)) := by rw [hW6]; exact blk_alloc HI4.out.2.2.1 _
      have k1 : W6.heap[g1]? = some (.cells (bg false (dn m)) 197 (0, 0)) := by rw [hW6]; exact blk_alloc HI4.out.2.1 _
      have hb6 : Below w.heap.size w W6 := by rw [hW6]; exact HI4.out.2.2.2.alloc HI4.out.2.2.2.size _
      have c60 : W6.cell? ⟨g6, 0, none⟩ = some (.int .i64 H) := (blk_cell k6 0).trans rfl
      have c61 : W6.cell? ⟨g6, 1, none⟩ = some (.int .u64 L) := (blk_cell k6 1).trans rfl
      have f60 := blk_frozen k6 0
      have f61 := blk_frozen k6 1
      have c20 : W6.cell? ⟨g2, 0, none⟩ = some (.int .i64 0) := (blk_cell k2 0).trans rfl
      have c21 : W6.cell? ⟨g2, 1, none⟩ = some (.int .u64 0) := (blk_cell k2 1).trans rfl
      have f20 := blk_frozen k2 0
      have f21 := blk_frozen k2 1
      have cn6 : W6.cell? ⟨g1, 0, none⟩ = some (.bool false) := (blk_cell k1 0).trans (bg_neg _ _)
      have fn6 := blk_frozen k1 0
      have hH0 : 0 ≤ H := by have := HHL.out; omega
      have hH1 : H ≤ 9223372036854775807 := by have := HHL.out; have := HMM.out; omega
      have hL0 : 0 ≤ L := by have := HHL.out; omega
      have hL1 : L ≤ 18446744073709551615 := by have := HHL.out; omega
      have HQ := Aside0.mk (And.intro k6 (And.intro k2 hb6))
      clear hW6 k6 k2 k1 hb6 c0 c1 c2 c3 f0 f1 f2 f3 cn fn
      go_wp2
      refine bodyPost_ret (results_ct rfl _ _ g2 243 #[.int .i64 H, .int .u64 L] (0, 0) _ rfl (blk_put (blk_put HQ.out.2.1 0 _ rfl) 1 _ rfl) Tryd.underlying243 rfl (by kernel_rfl)) rfl ?_
      exact ⟨rfl, (HQ.out.2.2.setCell HL2.out _).setCell HL2.out _⟩
set_option maxHeartbeats 2000000 in
set_option maxRecDepth 100000 in
theorem to_true_ok (m : Nat) (hm : m < 170141183460469231731687303715884105728) (w : World) : Calls Tryd.prog 155 #[.agg (bg true (dn (m + 1)))] w fun e w' => e = .returned (.tuple #[.agg #[.int .i64 (-1 - ((m / 18446744073709551616 : Nat) : Int)), .int .u64 (18446744073709551615 - ((m % 18446744073709551616 : Nat) : Int))], .bool true]) ∧ Below w.heap.size w w' := by
  obtain ⟨w1, hw1⟩ : ∃ w1, w1 = ((w.alloc (.cells (bg true (dn (m + 1))) 197)).alloc (.cells #[.int .i64 0, .int .u64 0] 243)) := ⟨_, rfl⟩
  have k1 : w1.heap[w.heap.size]? = some (.cells (bg true (dn (m + 1))) 197 (0, 0)) := by rw [hw1]; exact blk_alloc (heap_alloc_new w _) _
  have k2 : w1.heap[w.heap.size + 1]? = some (.cells #[.int .i64 0, .int .u64 0] 243 (0, 0)) := by rw [hw1]; exact new1 w _ _
  have hb1 : Below w.heap.size w w1 := by rw [hw1]; exact ((Below.refl _ w).alloc (Nat.le_refl _) _).alloc (by simp) _
  have hn1 : w1.heap.size = w.heap.size + 1 + 1 := by rw [hw1]; simp
  obtain ⟨g1, hg1⟩ : ∃ g, g = w.heap.size := ⟨_, rfl⟩
  obtain ⟨g2, hg2⟩ : ∃ g, g = w.heap.size + 1 := ⟨_, rfl⟩
  obtain ⟨g4, hg4⟩ : ∃ g, g = w1.heap.size := ⟨_, rfl⟩
  rw [← hg1] at k1
  rw [← hg2] at k2
  have HX := Aside0.mk (And.intro k1 (And.intro k2 hb1))
  have HL2 := Lib.hid (show w.heap.size ≤ g2 by omega)
  have HL4 := Lib.hid (show w.heap.size ≤ g4 by omega)
  have HD := Lib.hid (show g1 ≠ g4 ∧ g2 ≠ g4 ∧ g1 ≠ g2 by omega)
  have HW := Lib.hid hw1
  have H1 := Lib.hid hg1
  have H2 := Lib.hid hg2
  have H4 := Lib.hid hg4
  have HMM := Lib.hid hm
  clear hw1 hg1 hg2 hg4 k1 k2 hb1 hn1 hm
  obtain ⟨H, hH⟩ : ∃ H : Int, H = ((m / 18446744073709551616 : Nat) : Int) := ⟨_, rfl⟩
  obtain ⟨L, hL⟩ : ∃ L : Int, L = ((m % 18446744073709551616 : Nat) : Int) := ⟨_, rfl⟩
  rw [← hH, ← hL]
  have HHL := Lib.hid (And.intro hH hL)
  clear hH hL
  go_enter Tryd.func155, Tryd.ntmps155
  go_upto_region 1 with (fail)
  rw [← HW.out, ← H2.out, ← H1.out]
  go_upto_region 2 with (first | ((with_reducible refine gate_dst (N := 8) rfl ?_); refine get81 rfl rfl g1 197 (true) (dn (m + 1)) _ rfl HX.out.1 Tryd.underlying195 rfl (by kernel_rfl) ?_) | ((with_reducible refine gate_store (t := 195) (p := 4) rfl ?_); refine put8 rfl rfl rfl w1.heap.size 195 z8 (dn (m + 1)) rfl rfl (heap_alloc_new w1 _) (by kernel_rfl) rfl (HX.out.2.2.alloc HX.out.2.2.size _) HX.out.2.2.size ?_; intro wz hz hfar hbz; rw [← H4.out] at hz hfar; have HZwz := Aside0.mk hz; have HFwz := Aside0.mk hfar; have HBwz := Aside0.mk hbz; clear hz hfar hbz))
  rw [← H4.out]
  have HK : Aside0 (wz.heap[g4]? = some (.cells (c8 (dn (m + 1))) 195 (0, 0)) ∧ wz.heap[g1]? = some (.cells (bg true (dn (m + 1))) 197 (0, 0)) ∧ wz.heap[g2]? = some (.cells #[.int .i64 0, .int .u64 0] 243 (0, 0)) ∧ Below w.heap.size w wz) := ⟨HZwz.out, (HFwz.out g1 HD.out.1).trans (blk_alloc HX.out.1 _), (HFwz.out g2 HD.out.2.1).trans (blk_alloc HX.out.2.1 _), HBwz.out⟩
  clear HZwz HBwz HFwz HX
  have c1 := (blk_cell HK.out.2.1 0).trans (bg_neg _ _)
  have f1 := blk_frozen HK.out.2.1 0
  go_upto_region 3 with (fail)
  clear c1 f1
  refine start_ (n := 4) (S := fun w' => w'.heap[g4]? = some (.cells (c8 (dn (m + 1))) 195 (0, 0)) ∧ w'.heap[g1]? = some (.cells (bg true (dn (m + 1))) 197 (0, 0)) ∧ w'.heap[g2]? = some (.cells #[.int .i64 0, .int .u64 0] 243 (0, 0)) ∧ Below w.heap.size w w') (ds := [3]) #[false, false, false, false] (by kernel_rfl) rfl rfl ⟨HK.out.1, HK.out.2.1, HK.out.2.2.1, HK.out.2.2.2.drew⟩ (fun hHeld => ?_)
  refine take_ (i := 0) (N := some 11) (v := ?_) (a' := ?_) #[true, false, false, false] rfl rfl (by kernel_rfl) (fun _ _ _ h => h) (Or.inl ⟨by rfl, ?_⟩) hHeld ?_ ?_
  rotate_left
  · rintro w' ⟨s0, s1, s2, s3⟩
    refine get_run (x := Operand.tmp 4) ?_ g4 0 195 (c8 (dn (m + 1))) (c8 (dn (m + 1))) _ ?_ s0 rfl Tryd.underlying195 rfl ?_
    · rfl
    · rfl
    · kernel_rfl
  rotate_left
  · simp only [Act.put, List.setIfInBounds_toArray, List.set_cons_zero, List.set_cons_succ, i64_w, i32_w]
    rfl
  refine one_ (i := 1) (N := some 12) #[true, true, false, false] rfl rfl (by kernel_rfl) (by decide) (fun K hK => ?_)
  refine goes_ Tryd.func154 (by kernel_rfl) rfl #[] (by rfl) rfl rfl (by simp only [List.map_toArray, List.map_cons, List.map_nil]) ?_
  with_reducible refine (one_calls _).mono ?_
  rintro e w3 ⟨rfl, hb3⟩
  refine ⟨_, rfl, ?_⟩
  refine hK.out _ _ ⟨(blk_below hHeld.1 hb3), (blk_below hHeld.2.1 hb3), (blk_below hHeld.2.2.1 hb3), (hHeld.2.2.2.trans (hb3.mono hHeld.2.2.2.size))⟩ (fun hHeld => ?_)
  clear hK K
  refine norm_ (a' := ?_) ?_ ?_
  rotate_left
  · show Act.put _ (some 12) _ = _
    simp only [Act.put, List.setIfInBounds_toArray, List.set_cons_zero, List.set_cons_succ, i64_w, i32_w]
    rfl
  refine one_ (i := 2) (N := some 13) #[true, true, true, false] rfl rfl (by kernel_rfl) (by decide) (fun K hK => ?_)
  refine goes_ Tryd.func151 (by kernel_rfl) rfl #[.agg (c8 (dn (m + 1))), .agg (c8 (dn 1))] (by rfl) rfl rfl (by simp only [List.map_toArray, List.map_cons, List.map_nil]; rfl) ?_
  with_reducible refine (less_calls m 1 _).mono ?_
  rintro e w3 ⟨rfl, hb3⟩
  refine ⟨_, rfl, ?_⟩
  refine hK.out _ _ ⟨(blk_below hHeld.1 hb3), (blk_below hHeld.2.1 hb3), (blk_below hHeld.2.2.1 hb3), (hHeld.2.2.2.trans (hb3.mono hHeld.2.2.2.size))⟩ (fun hHeld => ?_)
  clear hK K
  refine norm_ (a' := ?_) ?_ ?_
  rotate_left
  · show Act.put _ (some 13) _ = _
    simp only [Act.put, List.setIfInBounds_toArray, List.set_cons_zero, List.set_cons_succ, i64_w, i32_w]
    rfl
  refine last_ (i := 3) (N := none) #[true, true, true, true] rfl rfl (by kernel_rfl) (by decide) (fun K hK => ?_)
  refine skip_ (w1 := (w3.setCells g4 0 (c8 (dn m)).toList)) (by rfl) rfl (rowput_run rfl g4 0 195 (c8 (dn (m + 1))) _ (c8 (dn m)).toList rfl rfl rfl hHeld.1 (by kernel_rfl) (Nat.le_refl 8) (c8_one _) rfl) ?_
  have pf9 := put8_facts (w := w3) g4 195 (c8 (dn (m + 1))) (dn m) hHeld.1 rfl hHeld.2.2.2 HL4.out
  generalize (w3.setCells g4 0 (c8 (dn m)).toList) = w9 at pf9 ⊢
  obtain ⟨hk9, hfar9, hb9⟩ := pf9
  refine hK.out _ _ ?_
  clear hK K
  refine done_ (by kernel_rfl) ?_
  have HT : Aside0 (w9.heap[g4]? = some (.cells (c8 (dn m)) 195 (0, 0)) ∧ w9.heap[g1]? = some (.cells (bg true (dn (m + 1))) 197 (0, 0)) ∧ w9.heap[g2]? = some (.cells #[.int .i64 0, .int .u64 0] 243 (0, 0)) ∧ Below w.heap.size w w9) := ⟨hk9, (hfar9 g1 HD.out.1).trans hHeld.2.1, (hfar9 g2 HD.out.2.1).trans hHeld.2.2.1, hb9⟩
  clear hk9 hfar9 hb9 HK
  obtain ⟨d3, hd3⟩ : ∃ d : Int, d = (dn m 3 : Nat) := ⟨_, rfl⟩
  have c3 : w9.cell? ⟨g4, 3, none⟩ = some (.int .u64 d3) := by rw [blk_cell HT.out.1 3, c8_get _ (by omega), hd3]
  have f3 := blk_frozen HT.out.1 3
  have HD3 := Lib.hid hd3
  have hd30 : d3 < 2147483648 := by
    rw [hd3]
    have hq := HMM.out
    have hqq : dn m 3 = m / P 3 % 4294967296 := rfl
    have e3 : P 3 = 79228162514264337593543950336 := by decide
    rw [e3] at hqq
    omega
  clear hd3
  have hd3d := decide_eq_false (show ¬ (2147483648 ≤ d3) by omega)
  go_wp2_with (fail)
  go_loopw [5] (fun v5 wr => ∃ (i : Nat), Aside0 (4 ≤ i ∧ i ≤ 8 ∧ (∀ j, 4 ≤ j → j < i → dn m j = 0) ∧ wr.heap[g4]? = some (.cells (c8 (dn m)) 195 (0, 0)) ∧ wr.heap[g1]? = some (.cells (bg true (dn (m + 1))) 197 (0, 0)) ∧ wr.heap[g2]? = some (.cells #[.int .i64 0, .int .u64 0] 243 (0, 0)) ∧ Below w.heap.size w wr) ∧ v5 = .int .i64 i) (fun v5 _ => (8 - intOf v5).toNat)
  case atStart => exact ⟨4, ⟨by omega, by omega, fun j h1 h2 => by omega, HT.out⟩, rfl⟩
  case round =>
    obtain ⟨i, HI, rfl⟩ := hrel
    clear HT c3 f3
    have h0 : (0 : Int) ≤ i := by omega
    by_cases hi : i < 8
    · have hlt : (i : Int) < 8 := by omega
      obtain ⟨x, hx⟩ : ∃ x : Int, x = (dn m i : Nat) := ⟨_, rfl⟩
      have cx : wr.cell? ⟨g4, i, none⟩ = some (.int .u64 x) := by rw [blk_cell HI.out.2.2.2.1 i, c8_get _ hi, hx]
      have fx := blk_frozen HI.out.2.2.2.1 i
      have hx0 : x = 0 := by
        have hq := HMM.out
        have e4 : P 4 = 340282366920938463463374607431768211456 := by decide
        have := P_mono HI.out.1
        have := dn_zero_of_lt (n := m) (i := i) (by omega)
        omega
      have HXX := Lib.hid (show (dn m i : Int) = 0 by omega)
      clear hx
      subst hx0
      go_wp2
      go_roundw
      case rel => exact ⟨i + 1, ⟨by have := HI.out.1; omega, by omega, fun j h1 h2 => by
          by_cases hj : j < i
          · exact HI.out.2.2.1 j h1 hj
          · rw [show j = i by omega]; have := HXX.out; omega, HI.out.2.2.2⟩, by go_num⟩
      case measure => simp [intOf]; omega
    · obtain rfl : i = 8 := by have := HI.out.2.1; omega
      obtain ⟨d0, hd0⟩ : ∃ d : Int, d = (dn m 0 : Nat) := ⟨_, rfl⟩
      obtain ⟨d1, hd1⟩ : ∃ d : Int, d = (dn m 1 : Nat) := ⟨_, rfl⟩
      obtain ⟨d2, hd2⟩ : ∃ d : Int, d = (dn m 2 : Nat) := ⟨_, rfl⟩
      have HI4 := Aside0.mk HI.out.2.2.2
      have c0 : wr.cell? ⟨g4, 0, none⟩ = some (.int .u64 d0) := by rw [blk_cell HI4.out.1 0, c8_get _ (by omega), hd0]
      have c1 : wr.cell? ⟨g4, 1, none⟩ = some (.int .u64 d1) := by rw [blk_cell HI4.out.1 1, c8_get _ (by omega), hd1]
      have c2 : wr.cell? ⟨g4, 2, none⟩ = some (.int .u64 d2) := by rw [blk_cell HI4.out.1 2, c8_get _ (by omega), hd2]
      have c3 : wr.cell? ⟨g4, 3, none⟩ = some (.int .u64 d3) := by rw [blk_cell HI4.out.1 3, c8_get _ (by omega), HD3.out]
      have f0 := blk_frozen HI4.out.1 0
      have f1 := blk_frozen HI4.out.1 1
      have f2 := blk_frozen HI4.out.1 2
      have f3 := blk_frozen HI4.out.1 3
      have b00 : 0 ≤ d0 := by omega
      have b01 : d0 ≤ 4294967295 := by have := dn_lt m 0; omega
      have b10 : 0 ≤ d1 := by omega
      have b11 : d1 ≤ 4294967295 := by have := dn_lt m 1; omega
      have b20 : 0 ≤ d2 := by omega
      have b21 : d2 ≤ 4294967295 := by have := dn_lt m 2; omega
      have b30 : 0 ≤ d3 := by have := HD3.out; omega
      have hHe : d3 * 4294967296 + d2 = H ∧ d1 * 4294967296 + d0 = L := by
        have h1 := HHL.out
        have h3 := HD3.out
        have hq := HMM.out
        have q0 : dn m 0 = m / 1 % 4294967296 := rfl
        have q1 : dn m 1 = m / 4294967296 % 4294967296 := rfl
        have q2 : dn m 2 = m / 18446744073709551616 % 4294967296 := rfl
        have q3 : dn m 3 = m / 79228162514264337593543950336 % 4294967296 := rfl
        constructor <;> omega
      have HE := Lib.hid hHe
      obtain ⟨g6, hg6⟩ : ∃ g, g = wr.heap.size := ⟨_, rfl⟩
      have hlt4 := (Array.getElem?_eq_some_iff.1 HI4.out.2.2.1).1
      have HD6 := Lib.hid (show g2 ≠ g6 by omega)
      have hle6 := HI4.out.2.2.2.size
      have HL6 := Lib.hid (show w.heap.size ≤ g6 by omega)
      have H6 := Lib.hid hg6
      have cn : wr.cell? ⟨g1, 0, none⟩ = some (.bool true) := (blk_cell HI4.out.2.1 0).trans (bg_neg _ _)
      have fn := blk_frozen HI4.out.2.1 0
      clear hd0 hd1 hd2 hHe hg6 hlt4 hle6 HI
      go_upto_region 12 with (fail)
      refine name_w (fun W6 hW6 => ?_)
      rw [← H6.out]
      have k6 : W6.heap[g6]? = some (.cells #[.int .i64 H, .int .u64 L] 243 (0, 0)) := by rw [hW6, H6.out, ← HE.out.1, ← HE.out.2]; exact heap_alloc_new wr _
      have k2 : W6.heap[g2]? = some (.cells #[.int .i64 0, .int .u64 0] 243 (0, 0)) := by rw [hW6]; exact blk_alloc HI4.out.2.2.1 _
      have k1 : W6.heap[g1]? = some (.cells (bg true (dn (m + 1))) 197 (0, 0)) := by rw [hW6]; exact blk_alloc HI4.out.2.1 _
      have hb6 : Below w.heap.size w W6 := by rw [hW6]; exact HI4.out.2.2.2.alloc HI4.out.2.2.2.size _
      have c60 : W6.cell? ⟨g6, 0, none⟩ = some (.int .i64 H) := (blk_cell k6 0).trans rfl
      have c61 : W6.cell? ⟨g6, 1, none⟩ = some (.int .u64 L) := (blk_cell k6 1).trans rfl
      have f60 := blk_frozen k6 0
      have f61 := blk_frozen k6 1
      have c20 : W6.cell? ⟨g2, 0, none⟩ = some (.int .i64 0) := (blk_cell k2 0).trans rfl
      have c21 : W6.cell? ⟨g2, 1, none⟩ = some (.int .u64 0) := (blk_cell k2 1).trans rfl
      have f20 := blk_frozen k2 0
      have f21 := blk_frozen k2 1
      have cn6 : W6.cell? ⟨g1, 0, none⟩ = some (.bool true) := (blk_cell k1 0).trans (bg_neg _ _)
      have fn6 := blk_frozen k1 0
      have hH0 : 0 ≤ H := by have := HHL.out; omega
      have hH1 : H ≤ 9223372036854775807 := by have := HHL.out; have := HMM.out; omega
      have hL0 : 0 ≤ L := by have := HHL.out; omega
      have hL1 : L ≤ 18446744073709551615 := by have := HHL.out; omega
      have HQ := Aside0.mk (And.intro k6 (And.intro k2 hb6))
      clear hW6 k6 k2 k1 hb6 c0 c1 c2 c3 f0 f1 f2 f3 cn fn
      go_upto_region 14 with (fail)
      refine name_w (fun W7 hW7 => ?_)
      have k6 : W7.heap[g6]? = some (.cells #[.int .i64 (-1 - H), .int .u64 (18446744073709551615 - L)] 243 (0, 0)) := by rw [hW7]; exact blk_put (blk_put HQ.out.1 0 _ rfl) 1 _ rfl
      have k2 : W7.heap[g2]? = some (.cells #[.int .i64 0, .int .u64 0] 243 (0, 0)) := by rw [hW7]; exact (Below.heap_setCell _ ⟨g6, 1, none⟩ _ g2 HD6.out).trans ((Below.heap_setCell _ ⟨g6, 0, none⟩ _ g2 HD6.out).trans HQ.out.2.1)
      have hb7 : Below w.heap.size w W7 := by rw [hW7]; exact (HQ.out.2.2.setCell HL6.out _).setCell HL6.out _
      have c70 : W7.cell? ⟨g6, 0, none⟩ = some (.int .i64 (-1 - H)) := (blk_cell k6 0).trans rfl
      have c71 : W7.cell? ⟨g6, 1, none⟩ = some (.int .u64 (18446744073709551615 - L)) := (blk_cell k6 1).trans rfl
      have f70 := blk_frozen k6 0
      have f71 := blk_frozen k6 1
      have e20 : W7.cell? ⟨g2, 0, none⟩ = some (.int .i64 0) := (blk_cell k2 0).trans rfl
      have e21 : W7.cell? ⟨g2, 1, none⟩ = some (.int .u64 0) := (blk_cell k2 1).trans rfl
      have e22 := blk_frozen k2 0
      have e23 := blk_frozen k2 1
      have HQ7 := Aside0.mk (And.intro k2 hb7)
      clear hW7 k6 k2 hb7 c60 c61 f60 f61 c20 c21 f20 f21 cn6 fn6
      go_wp2
      refine bodyPost_ret (results_ct rfl _ _ g2 243 #[.int .i64 (-1 - H), .int .u64 (18446744073709551615 - L)] (0, 0) _ rfl (blk_put (blk_put HQ7.out.1 0 _ rfl) 1 _ rfl) Tryd.underlying243 rfl (by kernel_rfl)) rfl ?_
      exact ⟨rfl, (HQ7.out.2.setCell HL2.out _).setCell HL2.out _⟩
set_option maxHeartbeats 2000000 in
set_option maxRecDepth 100000 in
theorem to_false_no (m : Nat) (hm : 170141183460469231731687303715884105728 ≤ m ∧ m + 1 < P 8) (w : World) : Calls Tryd.prog 155 #[.agg (bg false (dn m))] w fun e w' => e = .returned (.tuple #[.agg #[.int .i64 0, .int .u64 0], .bool false]) ∧ Below w.heap.size w w' := by
  obtain ⟨w1, hw1⟩ : ∃ w1, w1 = ((w.alloc (.cells (bg false (dn m)) 197)).alloc (.cells #[.int .i64 0, .int .u64 0] 243)) := ⟨_, rfl⟩
  have k1 : w1.heap[w.heap.size]? = some (.cells (bg false (dn m)) 197 (0, 0)) := by rw [hw1]; exact blk_alloc (heap_alloc_new w _) _
  have k2 : w1.heap[w.heap.size + 1]? = some (.cells #[.int .i64 0, .int .u64 0] 243 (0, 0)) := by rw [hw1]; exact new1 w _ _
  have hb1 : Below w.heap.size w w1 := by rw [hw1]; exact ((Below.refl _ w).alloc (Nat.le_refl _) _).alloc (by simp) _
  have hn1 : w1.heap.size = w.heap.size + 1 + 1 := by rw [hw1]; simp
  obtain ⟨g1, hg1⟩ : ∃ g, g = w.heap.size := ⟨_, rfl⟩
  obtain ⟨g2, hg2⟩ : ∃ g, g = w.heap.size + 1 := ⟨_, rfl⟩
  obtain ⟨g4, hg4⟩ : ∃ g, g = w1.heap.size := ⟨_, rfl⟩
  rw [← hg1] at k1
  rw [← hg2] at k2
  have HX := Aside0.mk (And.intro k1 (And.intro k2 hb1))
  have HL2 := Lib.hid (show w.heap.size ≤ g2 by omega)
  have HL4 := Lib.hid (show w.heap.size ≤ g4 by omega)
  have HD := Lib.hid (show g1 ≠ g4 ∧ g2 ≠ g4 ∧ g1 ≠ g2 by omega)
  have HW := Lib.hid hw1
  have H1 := Lib.hid hg1
  have H2 := Lib.hid hg2
  have H4 := Lib.hid hg4
  have HMM := Lib.hid hm
  clear hw1 hg1 hg2 hg4 k1 k2 hb1 hn1 hm
  go_enter Tryd.func155, Tryd.ntmps155
  go_upto_region 1 with (fail)
  rw [← HW.out, ← H2.out, ← H1.out]
  go_upto_region 2 with (first | ((with_reducible refine gate_dst (N := 8) rfl ?_); refine get81 rfl rfl g1 197 (false) (dn m) _ rfl HX.out.1 Tryd.underlying195 rfl (by kernel_rfl) ?_) | ((with_reducible refine gate_store (t := 195) (p := 4) rfl ?_); refine put8 rfl rfl rfl w1.heap.size 195 z8 (dn m) rfl rfl (heap_alloc_new w1 _) (by kernel_rfl) rfl (HX.out.2.2.alloc HX.out.2.2.size _) HX.out.2.2.size ?_; intro wz hz hfar hbz; rw [← H4.out] at hz hfar; have HZwz := Aside0.mk hz; have HFwz := Aside0.mk hfar; have HBwz := Aside0.mk hbz; clear hz hfar hbz))
  rw [← H4.out]
  have HK : Aside0 (wz.heap[g4]? = some (.cells (c8 (dn m)) 195 (0, 0)) ∧ wz.heap[g1]? = some (.cells (bg false (dn m)) 197 (0, 0)) ∧ wz.heap[g2]? = some (.cells #[.int .i64 0, .int .u64 0] 243 (0, 0)) ∧ Below w.heap.size w wz) := ⟨HZwz.out, (HFwz.out g1 HD.out.1).trans (blk_alloc HX.out.1 _), (HFwz.out g2 HD.out.2.1).trans (blk_alloc HX.out.2.1 _), HBwz.out⟩
  clear HZwz HBwz HFwz HX
  have c1 := (blk_cell HK.out.2.1 0).trans (bg_neg _ _)
  have f1 := blk_frozen HK.out.2.1 0
  go_upto_region 4 with (fail)
  clear c1 f1
  have HT := HK
  obtain ⟨d3, hd3⟩ : ∃ d : Int, d = (dn m 3 : Nat) := ⟨_, rfl⟩
  have c3 : wz.cell? ⟨g4, 3, none⟩ = some (.int .u64 d3) := by rw [blk_cell HT.out.1 3, c8_get _ (by omega), hd3]
  have f3 := blk_frozen HT.out.1 3
  have HD3 := Lib.hid hd3
  clear hd3
  by_cases hbig : 2147483648 ≤ d3
  · have hbd := decide_eq_true hbig
    have z20 := (blk_cell HT.out.2.2.1 0).trans rfl
    have z21 := (blk_cell HT.out.2.2.1 1).trans rfl
    have z22 := blk_frozen HT.out.2.2.1 0
    have z23 := blk_frozen HT.out.2.2.1 1
    go_wp2
    refine bodyPost_ret (results_ct rfl _ _ g2 243 #[.int .i64 0, .int .u64 0] (0, 0) _ rfl (blk_put (blk_put HT.out.2.2.1 0 _ rfl) 1 _ rfl) Tryd.underlying243 rfl (by kernel_rfl)) rfl ?_
    exact ⟨rfl, (HT.out.2.2.2.setCell HL2.out _).setCell HL2.out _⟩
  have hd3d := decide_eq_false hbig
  go_wp2_with (fail)
  go_loopw [5] (fun v5 wr => ∃ (i : Nat), Aside0 (4 ≤ i ∧ i ≤ 8 ∧ (∀ j, 4 ≤ j → j < i → dn m j = 0) ∧ wr.heap[g4]? = some (.cells (c8 (dn m)) 195 (0, 0)) ∧ wr.heap[g1]? = some (.cells (bg false (dn m)) 197 (0, 0)) ∧ wr.heap[g2]? = some (.cells #[.int .i64 0, .int .u64 0] 243 (0, 0)) ∧ Below w.heap.size w wr) ∧ v5 = .int .i64 i) (fun v5 _ => (8 - intOf v5).toNat)
  case atStart => exact ⟨4, ⟨by omega, by omega, fun j h1 h2 => by omega, HT.out⟩, rfl⟩
  case round =>
    obtain ⟨i, HI, rfl⟩ := hrel
    clear HT c3 f3
    have h0 : (0 : Int) ≤ i := by omega
    by_cases hi : i < 8
    · have hlt : (i : Int) < 8 := by omega
      obtain ⟨x, hx⟩ : ∃ x : Int, x = (dn m i : Nat) := ⟨_, rfl⟩
      have cx : wr.cell? ⟨g4, i, none⟩ = some (.int .u64 x) := by rw [blk_cell HI.out.2.2.2.1 i, c8_get _ hi, hx]
      have fx := blk_frozen HI.out.2.2.2.1 i
      by_cases hp : 0 < x
      · have hpd := decide_eq_true hp
        clear hx
        have z20 := (blk_cell HI.out.2.2.2.2.2.1 0).trans rfl
        have z21 := (blk_cell HI.out.2.2.2.2.2.1 1).trans rfl
        have z22 := blk_frozen HI.out.2.2.2.2.2.1 0
        have z23 := blk_frozen HI.out.2.2.2.2.2.1 1
        go_wp2
        refine bodyPost_ret (results_ct rfl _ _ g2 243 #[.int .i64 0, .int .u64 0] (0, 0) _ rfl (blk_put (blk_put HI.out.2.2.2.2.2.1 0 _ rfl) 1 _ rfl) Tryd.underlying243 rfl (by kernel_rfl)) rfl ?_
        exact ⟨rfl, (HI.out.2.2.2.2.2.2.setCell HL2.out _).setCell HL2.out _⟩
      · have hx0 : x = 0 := by omega
        have HXX := Lib.hid (show (dn m i : Int) = 0 by omega)
        clear hx hp
        subst hx0
        go_wp2
        go_roundw
        case rel => exact ⟨i + 1, ⟨by have := HI.out.1; omega, by omega, fun j h1 h2 => by
            by_cases hj : j < i
            · exact HI.out.2.2.1 j h1 hj
            · rw [show j = i by omega]; have := HXX.out; omega, HI.out.2.2.2⟩, by go_num⟩
        case measure => simp [intOf]; omega
    · obtain rfl : i = 8 := by have := HI.out.2.1; omega
      exfalso
      have hz := HI.out.2.2.1
      have h8 := HMM.out.2
      have h7 : m < P 7 := lt_of_top (i := 7) (by show m < P 8; omega) (hz 7 (by omega) (by omega))
      have h6 : m < P 6 := lt_of_top h7 (hz 6 (by omega) (by omega))
      have h5 : m < P 5 := lt_of_top h6 (hz 5 (by omega) (by omega))
      have h4 : m < P 4 := lt_of_top h5 (hz 4 (by omega) (by omega))
      have hdd := HD3.out
      rw [dn_eq_div h4] at hdd
      have hq := HMM.out.1
      have e3 : P 3 = 79228162514264337593543950336 := by decide
      rw [e3] at hdd
      omega
set_option maxHeartbeats 2000000 in
set_option maxRecDepth 100000 in
theorem to_true_no (m : Nat) (hm : 170141183460469231731687303715884105728 ≤ m ∧ m + 1 < P 8) (w : World) : Calls Tryd.prog 155 #[.agg (bg true (dn (m + 1)))] w fun e w' => e = .returned (.tuple #[.agg #[.int .i64 0, .int .u64 0], .bool false]) ∧ Below w.heap.size w w' := by
  obtain ⟨w1, hw1⟩ : ∃ w1, w1 = ((w.alloc (.cells (bg true (dn (m + 1))) 197)).alloc (.cells #[.int .i64 0, .int .u64 0] 243)) := ⟨_, rfl⟩
  have k1 : w1.heap[w.heap.size]? = some (.cells (bg true (dn (m + 1))) 197 (0, 0)) := by rw [hw1]; exact blk_alloc (heap_alloc_new w _) _
  have k2 : w1.heap[w.heap.size + 1]? = some (.cells #[.int .i64 0, .int .u64 0] 243 (0, 0)) := by rw [hw1]; exact new1 w _ _
  have hb1 : Below w.heap.size w w1 := by rw [hw1]; exact ((Below.refl _ w).alloc (Nat.le_refl _) _).alloc (by simp) _
  have hn1 : w1.heap.size = w.heap.size + 1 + 1 := by rw [hw1]; simp
  obtain ⟨g1, hg1⟩ : ∃ g, g = w.heap.size := ⟨_, rfl⟩
  obtain ⟨g2, hg2⟩ : ∃ g, g = w.heap.size + 1 := ⟨_, rfl⟩
  obtain ⟨g4, hg4⟩ : ∃ g, g = w1.heap.size := ⟨_, rfl⟩
  rw [← hg1] at k1
  rw [← hg2] at k2
  have HX := Aside0.mk (And.intro k1 (And.intro k2 hb1))
  have HL2 := Lib.hid (show w.heap.size ≤ g2 by omega)
  have HL4 := Lib.hid (show w.heap.size ≤ g4 by omega)
  have HD := Lib.hid (show g1 ≠ g4 ∧ g2 ≠ g4 ∧ g1 ≠ g2 by omega)
  have HW := Lib.hid hw1
  have H1 := Lib.hid hg1
  have H2 := Lib.hid hg2
  have H4 := Lib.hid hg4
  have HMM := Lib.hid hm
  clear hw1 hg1 hg2 hg4 k1 k2 hb1 hn1 hm
  go_enter Tryd.func155, Tryd.ntmps155
  go_upto_region 1 with (fail)
  rw [← HW.out, ← H2.out, ← H1.out]
  go_upto_region 2 with (first | ((with_reducible refine gate_dst (N := 8) rfl ?_); refine get81 rfl rfl g1 197 (true) (dn (m + 1)) _ rfl HX.out.1 Tryd.underlying195 rfl (by kernel_rfl) ?_) | ((with_reducible refine gate_store (t := 195) (p := 4) rfl ?_); refine put8 rfl rfl rfl w1.heap.size 195 z8 (dn (m + 1)) rfl rfl (heap_alloc_new w1 _) (by kernel_rfl) rfl (HX.out.2.2.alloc HX.out.2.2.size _) HX.out.2.2.size ?_; intro wz hz hfar hbz; rw [← H4.out] at hz hfar; have HZwz := Aside0.mk hz; have HFwz := Aside0.mk hfar; have HBwz := Aside0.mk hbz; clear hz hfar hbz))
  rw [← H4.out]
  have HK : Aside0 (wz.heap[g4]? = some (.cells (c8 (dn (m + 1))) 195 (0, 0)) ∧ wz.heap[g1]? = some (.cells (bg true (dn (m + 1))) 197 (0, 0)) ∧ wz.heap[g2]? = some (.cells #[.int .i64 0, .int .u64 0] 243 (0, 0)) ∧ Below w.heap.size w wz) := ⟨HZwz.out, (HFwz.out g1 HD.out.1).trans (blk_alloc HX.out.1 _), (HFwz.out g2 HD.out.2.1).trans (blk_alloc HX.out.2.1 _), HBwz.out⟩
  clear HZwz HBwz HFwz HX
  have c1 := (blk_cell HK.out.2.1 0).trans (bg_neg _ _)
  have f1 := blk_frozen HK.out.2.1 0
  go_upto_region 3 with (fail)
  clear c1 f1
  refine start_ (n := 4) (S := fun w' => w'.heap[g4]? = some (.cells (c8 (dn (m + 1))) 195 (0, 0)) ∧ w'.heap[g1]? = some (.cells (bg true (dn (m + 1))) 197 (0, 0)) ∧ w'.heap[g2]? = some (.cells #[.int .i64 0, .int .u64 0] 243 (0, 0)) ∧ Below w.heap.size w w') (ds := [3]) #[false, false, false, false] (by kernel_rfl) rfl rfl ⟨HK.out.1, HK.out.2.1, HK.out.2.2.1, HK.out.2.2.2.drew⟩ (fun hHeld => ?_)
  refine take_ (i := 0) (N := some 11) (v := ?_) (a' := ?_) #[true, false, false, false] rfl rfl (by kernel_rfl) (fun _ _ _ h => h) (Or.inl ⟨by rfl, ?_⟩) hHeld ?_ ?_
  rotate_left
  · rintro w' ⟨s0, s1, s2, s3⟩
    refine get_run (x := Operand.tmp 4) ?_ g4 0 195 (c8 (dn (m + 1))) (c8 (dn (m + 1))) _ ?_ s0 rfl Tryd.underlying195 rfl ?_
    · rfl
    · rfl
    · kernel_rfl
  rotate_left
  · simp only [Act.put, List.setIfInBounds_toArray, List.set_cons_zero, List.set_cons_succ, i64_w, i32_w]
    rfl
  refine one_ (i := 1) (N := some 12) #[true, true, false, false] rfl rfl (by kernel_rfl) (by decide) (fun K hK => ?_)
  refine goes_ Tryd.func154 (by kernel_rfl) rfl #[] (by rfl) rfl rfl (by simp only [List.map_toArray, List.map_cons, List.map_nil]) ?_
  with_reducible refine (one_calls _).mono ?_
  rintro e w3 ⟨rfl, hb3⟩
  refine ⟨_, rfl, ?_⟩
  refine hK.out _ _ ⟨(blk_below hHeld.1 hb3), (blk_below hHeld.2.1 hb3), (blk_below hHeld.2.2.1 hb3), (hHeld.2.2.2.trans (hb3.mono hHeld.2.2.2.size))⟩ (fun hHeld => ?_)
  clear hK K
  refine norm_ (a' := ?_) ?_ ?_
  rotate_left
  · show Act.put _ (some 12) _ = _
    simp only [Act.put, List.setIfInBounds_toArray, List.set_cons_zero, List.set_cons_succ, i64_w, i32_w]
    rfl
  refine one_ (i := 2) (N := some 13) #[true, true, true, false] rfl rfl (by kernel_rfl) (by decide) (fun K hK => ?_)
  refine goes_ Tryd.func151 (by kernel_rfl) rfl #[.agg (c8 (dn (m + 1))), .agg (c8 (dn 1))] (by rfl) rfl rfl (by simp only [List.map_toArray, List.map_cons, List.map_nil]; rfl) ?_
  with_reducible refine (less_calls m 1 _).mono ?_
  rintro e w3 ⟨rfl, hb3⟩
  refine ⟨_, rfl, ?_⟩
  refine hK.out _ _ ⟨(blk_below hHeld.1 hb3), (blk_below hHeld.2.1 hb3), (blk_below hHeld.2.2.1 hb3), (hHeld.2.2.2.trans (hb3.mono hHeld.2.2.2.size))⟩ (fun hHeld => ?_)
  clear hK K
  refine norm_ (a' := ?_) ?_ ?_
  rotate_left
  · show Act.put _ (some 13) _ = _
    simp only [Act.put, List.setIfInBounds_toArray, List.set_cons_zero, List.set_cons_succ, i64_w, i32_w]
    rfl
  refine last_ (i := 3) (N := none) #[true, true, true, true] rfl rfl (by kernel_rfl) (by decide) (fun K hK => ?_)
  refine skip_ (w1 := (w3.setCells g4 0 (c8 (dn m)).toList)) (by rfl) rfl (rowput_run rfl g4 0 195 (c8 (dn (m + 1))) _ (c8 (dn m)).toList rfl rfl rfl hHeld.1 (by kernel_rfl) (Nat.le_refl 8) (c8_one _) rfl) ?_
  have pf9 := put8_facts (w := w3) g4 195 (c8 (dn (m + 1))) (dn m) hHeld.1 rfl hHeld.2.2.2 HL4.out
  generalize (w3.setCells g4 0 (c8 (dn m)).toList) = w9 at pf9 ⊢
  obtain ⟨hk9, hfar9, hb9⟩ := pf9
  refine hK.out _ _ ?_
  clear hK K
  refine done_ (by kernel_rfl) ?_
  have HT : Aside0 (w9.heap[g4]? = some (.cells (c8 (dn m)) 195 (0, 0)) ∧ w9.heap[g1]? = some (.cells (bg true (dn (m + 1))) 197 (0, 0)) ∧ w9.heap[g2]? = some (.cells #[.int .i64 0, .int .u64 0] 243 (0, 0)) ∧ Below w.heap.size w w9) := ⟨hk9, (hfar9 g1 HD.out.1).trans hHeld.2.1, (hfar9 g2 HD.out.2.1).trans hHeld.2.2.1, hb9⟩
  clear hk9 hfar9 hb9 HK
  obtain ⟨d3, hd3⟩ : ∃ d : Int, d = (dn m 3 : Nat) := ⟨_, rfl⟩
  have c3 : w9.cell? ⟨g4, 3, none⟩ = some (.int .u64 d3) := by rw [blk_cell HT.out.1 3, c8_get _ (by omega), hd3]
  have f3 := blk_frozen HT.out.1 3
  have HD3 := Lib.hid hd3
  clear hd3
  by_cases hbig : 2147483648 ≤ d3
  · have hbd := decide_eq_true hbig
    have z20 := (blk_cell HT.out.2.2.1 0).trans rfl
    have z21 := (blk_cell HT.out.2.2.1 1).trans rfl
    have z22 := blk_frozen HT.out.2.2.1 0
    have z23 := blk_frozen HT.out.2.2.1 1
    go_wp2
    refine bodyPost_ret (results_ct rfl _ _ g2 243 #[.int .i64 0, .int .u64 0] (0, 0) _ rfl (blk_put (blk_put HT.out.2.2.1 0 _ rfl) 1 _ rfl) Tryd.underlying243 rfl (by kernel_rfl)) rfl ?_
    exact ⟨rfl, (HT.out.2.2.2.setCell HL2.out _).setCell HL2.out _⟩
  have hd3d := decide_eq_false hbig
  go_wp2_with (fail)
  go_loopw [5] (fun v5 wr => ∃ (i : Nat), Aside0 (4 ≤ i ∧ i ≤ 8 ∧ (∀ j, 4 ≤ j → j < i → dn m j = 0) ∧ wr.heap[g4]? = some (.cells (c8 (dn m)) 195 (0, 0)) ∧ wr.heap[g1]? = some (.cells (bg true (dn (m + 1))) 197 (0, 0)) ∧ wr.heap[g2]? = some (.cells #[.int .i64 0, .int .u64 0] 243 (0, 0)) ∧ Below w.heap.size w wr) ∧ v5 = .int .i64 i) (fun v5 _ => (8 - intOf v5).toNat)
  case atStart => exact ⟨4, ⟨by omega, by omega, fun j h1 h2 => by omega, HT.out⟩, rfl⟩
  case round =>
    obtain ⟨i, HI, rfl⟩ := hrel
    clear HT c3 f3
    have h0 : (0 : Int) ≤ i := by omega
    by_cases hi : i < 8
    · have hlt : (i : Int) < 8 := by omega
      obtain ⟨x, hx⟩ : ∃ x : Int, x = (dn m i : Nat) := ⟨_, rfl⟩
      have cx : wr.cell? ⟨g4, i, none⟩ = some (.int .u64 x) := by rw [blk_cell HI.out.2.2.2.1 i, c8_get _ hi, hx]
      have fx := blk_frozen HI.out.2.2.2.1 i
      by_cases hp : 0 < x
      · have hpd := decide_eq_true hp
        clear hx
        have z20 := (blk_cell HI.out.2.2.2.2.2.1 0).trans rfl
        have z21 := (blk_cell HI.out.2.2.2.2.2.1 1).trans rfl
        have z22 := blk_frozen HI.out.2.2.2.2.2.1 0
        have z23 := blk_frozen HI.out.2.2.2.2.2.1 1
        go_wp2
        refine bodyPost_ret (results_ct rfl _ _ g2 243 #[.int .i64 0, .int .u64 0] (0, 0) _ rfl (blk_put (blk_put HI.out.2.2.2.2.2.1 0 _ rfl) 1 _ rfl) Tryd.underlying243 rfl (by kernel_rfl)) rfl ?_
        exact ⟨rfl, (HI.out.2.2.2.2.2.2.setCell HL2.out _).setCell HL2.out _⟩
      · have hx0 : x = 0 := by omega
        have HXX := Lib.hid (show (dn m i : Int) = 0 by omega)
        clear hx hp
        subst hx0
        go_wp2
        go_roundw
        case rel => exact ⟨i + 1, ⟨by have := HI.out.1; omega, by omega, fun j h1 h2 => by
            by_cases hj : j < i
            · exact HI.out.2.2.1 j h1 hj
            · rw [show j = i by omega]; have := HXX.out; omega, HI.out.2.2.2⟩, by go_num⟩
        case measure => simp [intOf]; omega
    · obtain rfl : i = 8 := by have := HI.out.2.1; omega
      exfalso
      have hz := HI.out.2.2.1
      have h8 := HMM.out.2
      have h7 : m < P 7 := lt_of_top (i := 7) (by show m < P 8; omega) (hz 7 (by omega) (by omega))
      have h6 : m < P 6 := lt_of_top h7 (hz 6 (by omega) (by omega))
      have h5 : m < P 5 := lt_of_top h6 (hz 5 (by omega) (by omega))
      have h4 : m < P 4 := lt_of_top h5 (hz 4 (by omega) (by omega))
      have hdd := HD3.out
      rw [dn_eq_div h4] at hdd
      have hq := HMM.out.1
      have e3 : P 3 = 79228162514264337593543950336 := by decide
      rw [e3] at hdd
      omega
end Go.Proofs.YtpihgdehgkclmaaDoor.Big
