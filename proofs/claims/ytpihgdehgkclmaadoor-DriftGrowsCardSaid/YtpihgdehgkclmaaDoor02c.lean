/-
  The reference's numbers of 256 bits, walked: Int, Add.
-/
import Derived.Test.YtpihgdehgkclmaaDoor02b
namespace Go.Proofs.YtpihgdehgkclmaaDoor.Big
open Go.RowKit Go.Proofs.YtpihgdehgkclmaaDoorW.PrintWords Go.Proofs.YtpihgdehgkclmaaDoorW.PrintLast Go.Proofs.YtpihgdehgkclmaaDoorW.PrintMore
set_option linter.unusedVariables false
set_option linter.unusedSimpArgs false
set_option maxHeartbeats 2000000 in
set_option maxRecDepth 100000 in
theorem int_pos (a : Int) (h0 : -9223372036854775808 ≤ a) (h1 : a ≤ 9223372036854775807) (hs : 0 ≤ a) (w : World) : Calls Tryd.prog 129 #[.int .i64 a] w fun e w' => e = .returned (.agg (big a)) ∧ Below w.heap.size w w' := by
  obtain ⟨w1, hw1⟩ : ∃ w1, w1 = w.alloc (.cells (zb false) 197) := ⟨_, rfl⟩
  have k1 : w1.heap[w.heap.size]? = some (.cells (zb false) 197 (0, 0)) := by rw [hw1]; exact heap_alloc_new w _
  have hb1 : Below w.heap.size w w1 := by rw [hw1]; exact (Below.refl _ w).alloc (Nat.le_refl _) _
  obtain ⟨g2, hg2⟩ : ∃ g, g = w.heap.size := ⟨_, rfl⟩
  rw [← hg2] at k1
  have HX := Aside0.mk (And.intro k1 hb1)
  have HL := Lib.hid (show w.heap.size ≤ g2 by omega)
  have HW := Lib.hid hw1
  have H2 := Lib.hid hg2
  clear hw1 k1 hb1 hg2
  have hF : ∀ W, Calls Tryd.prog 153 #[.agg #[.int .i64 0, .int .u64 a]] W fun e w' => e = .returned (.agg (big a)) ∧ Below W.heap.size W w' := fun W => by
    have := from_calls 0 a (by omega) (by omega) (by omega) (by omega) W
    rwa [show (0 : Int) * 18446744073709551616 + a = a by omega] at this
  have hsd := decide_eq_false (show ¬ a < 0 by omega)
  go_enter Tryd.func129, Tryd.ntmps129
  go_upto_region 1 with (fail)
  rw [← HW.out, ← H2.out]
  go_wp2_with (first | (go_at_call 153; (with_reducible refine (hF _).mono ?_); rintro e w2 ⟨rfl, hb2⟩; have HY := Aside0.mk (And.intro (blk_below HX.out.1 hb2) (HX.out.2.trans (hb2.mono HX.out.2.size))); clear hb2) | ((with_reducible refine gate_store (t := 197) (p := 2) rfl ?_); refine put9 rfl rfl rfl g2 197 (zb false) (decide (a < 0)) (dn a.natAbs) rfl rfl HY.out.1 (by kernel_rfl) rfl HY.out.2 HL.out ?_; intro wy hz hfar hbz; have HZwy := Aside0.mk hz; have HFwy := Aside0.mk hfar; have HBwy := Aside0.mk hbz; clear hz hfar hbz))
  refine bodyPost_ret (results_single rfl (.cell g2 197 (big a) (0, 0) _ rfl HZwy.out Tryd.underlying197 rfl (by kernel_rfl) .nil)) rfl ?_
  exact ⟨rfl, HBwy.out⟩
set_option maxHeartbeats 2000000 in
set_option maxRecDepth 100000 in
theorem int_neg (a : Int) (h0 : -9223372036854775808 ≤ a) (h1 : a ≤ 9223372036854775807) (hs : a < 0) (w : World) : Calls Tryd.prog 129 #[.int .i64 a] w fun e w' => e = .returned (.agg (big a)) ∧ Below w.heap.size w w' := by
  obtain ⟨w1, hw1⟩ : ∃ w1, w1 = w.alloc (.cells (zb false) 197) := ⟨_, rfl⟩
  have k1 : w1.heap[w.heap.size]? = some (.cells (zb false) 197 (0, 0)) := by rw [hw1]; exact heap_alloc_new w _
  have hb1 : Below w.heap.size w w1 := by rw [hw1]; exact (Below.refl _ w).alloc (Nat.le_refl _) _
  obtain ⟨g2, hg2⟩ : ∃ g, g = w.heap.size := ⟨_, rfl⟩
  rw [← hg2] at k1
  have HX := Aside0.mk (And.intro k1 hb1)
  have HL := Lib.hid (show w.heap.size ≤ g2 by omega)
  have HW := Lib.hid hw1
  have H2 := Lib.hid hg2
  clear hw1 k1 hb1 hg2
  obtain ⟨u, hu⟩ : ∃ u, u = a + 18446744073709551616 := ⟨_, rfl⟩
  have hwu : IntKind.u64.wrap a = u := by rw [IntKind.wrap_u64]; omega
  have hF : ∀ W, Calls Tryd.prog 153 #[.agg #[.int .i64 (-1), .int .u64 u]] W fun e w' => e = .returned (.agg (big a)) ∧ Below W.heap.size W w' := fun W => by
    have := from_calls (-1) u (by omega) (by omega) (by omega) (by omega) W
    rwa [show (-1 : Int) * 18446744073709551616 + u = a by omega] at this
  have hsd := decide_eq_true hs
  clear hu
  go_enter Tryd.func129, Tryd.ntmps129
  go_upto_region 1 with (fail)
  rw [← HW.out, ← H2.out]
  go_wp2_with (first | (go_at_call 153; (with_reducible refine (hF _).mono ?_); rintro e w2 ⟨rfl, hb2⟩; have HY := Aside0.mk (And.intro (blk_below HX.out.1 hb2) (HX.out.2.trans (hb2.mono HX.out.2.size))); clear hb2) | ((with_reducible refine gate_store (t := 197) (p := 2) rfl ?_); refine put9 rfl rfl rfl g2 197 (zb false) (decide (a < 0)) (dn a.natAbs) rfl rfl HY.out.1 (by kernel_rfl) rfl HY.out.2 HL.out ?_; intro wy hz hfar hbz; have HZwy := Aside0.mk hz; have HFwy := Aside0.mk hfar; have HBwy := Aside0.mk hbz; clear hz hfar hbz))
  refine bodyPost_ret (results_single rfl (.cell g2 197 (big a) (0, 0) _ rfl HZwy.out Tryd.underlying197 rfl (by kernel_rfl) .nil)) rfl ?_
  exact ⟨rfl, HBwy.out⟩
theorem int_calls (a : Int) (h0 : -9223372036854775808 ≤ a) (h1 : a ≤ 9223372036854775807) (w : World) : Calls Tryd.prog 129 #[.int .i64 a] w fun e w' => e = .returned (.agg (big a)) ∧ Below w.heap.size w w' := by
  rcases Int.lt_or_le a 0 with hs | hs
  · exact int_neg a h0 h1 hs w
  · exact int_pos a h0 h1 hs w
set_option maxHeartbeats 2000000 in
set_option maxRecDepth 100000 in
theorem add_same_true (p q : Nat) (hpq : p + q < P 8) (w : World) : Calls Tryd.prog 152 #[.agg (bg true (dn p)), .agg (bg true (dn q))] w fun e w' => e = .returned (.agg (bg (true && !(p + q == 0)) (dn (p + q)))) ∧ Below w.heap.size w w' := by
  obtain ⟨w1, hw1⟩ : ∃ w1, w1 = (((w.alloc (.cells (bg true (dn p)) 197)).alloc (.cells (bg true (dn q)) 197)).alloc (.cells (zb false) 197)) := ⟨_, rfl⟩
  have k2 : w1.heap[w.heap.size]? = some (.cells (bg true (dn p)) 197 (0, 0)) := by rw [hw1]; exact blk_alloc (blk_alloc (heap_alloc_new w _) _) _
  have k3 : w1.heap[w.heap.size + 1]? = some (.cells (bg true (dn q)) 197 (0, 0)) := by rw [hw1]; exact blk_alloc (new1 w _ _) _
  have k4 : w1.heap[w.heap.size + 1 + 1]? = some (.cells (zb false) 197 (0, 0)) := by rw [hw1]; exact new2 w _ _ _
  have hb1 : Below w.heap.size w w1 := by rw [hw1]; exact (((Below.refl _ w).alloc (Nat.le_refl _) _).alloc (by simp) _).alloc (by simp; omega) _
  have hn1 : w1.heap.size = w.heap.size + 1 + 1 + 1 := by rw [hw1]; simp
  obtain ⟨g2, hg2⟩ : ∃ g, g = w.heap.size := ⟨_, rfl⟩
  obtain ⟨g3, hg3⟩ : ∃ g, g = w.heap.size + 1 := ⟨_, rfl⟩
  obtain ⟨g4, hg4⟩ : ∃ g, g = w.heap.size + 1 + 1 := ⟨_, rfl⟩
  obtain ⟨g5, hg5⟩ : ∃ g, g = w1.heap.size := ⟨_, rfl⟩
  rw [← hg2] at k2
  rw [← hg3] at k3
  rw [← hg4] at k4
  have HX := Aside0.mk (And.intro k2 (And.intro k3 (And.intro k4 hb1)))
  have HL4 := Lib.hid (show w.heap.size ≤ g4 by omega)
  have HL5 := Lib.hid (show w.heap.size ≤ g5 by omega)
  have HD := Lib.hid (show g2 ≠ g5 ∧ g3 ≠ g5 ∧ g4 ≠ g5 by omega)
  have HW := Lib.hid hw1
  have H2 := Lib.hid hg2
  have H3 := Lib.hid hg3
  have H4 := Lib.hid hg4
  have H5 := Lib.hid hg5
  have c2 : w1.cell? ⟨g2, 0, none⟩ = some (.bool true) := (blk_cell k2 0).trans rfl
  have f2 := blk_frozen k2 0
  have HPQ := Lib.hid hpq
  clear hw1 hg2 hg3 hg4 hg5 k2 k3 k4 hb1 hn1 hpq
  obtain ⟨m, hm⟩ : ∃ m, m = p + q := ⟨_, rfl⟩
  rw [← hm]
  have HM := Lib.hid hm
  clear hm
  obtain ⟨z, hz⟩ : ∃ z, z = (m == 0) := ⟨_, rfl⟩
  rw [← hz]
  have HZ0 := Lib.hid hz
  clear hz
  go_enter Tryd.func152, Tryd.ntmps152
  go_upto_region 1 with (fail)
  rw [← HW.out, ← H4.out, ← H3.out, ← H2.out]
  go_upto_region 3 with (((with_reducible refine gate_store (t := 197) (p := 5) rfl ?_); refine put9z rfl rfl rfl w1.heap.size 197 (zb false) (true) rfl rfl (heap_alloc_new w1 _) (by kernel_rfl) rfl (HX.out.2.2.2.alloc HX.out.2.2.2.size _) HX.out.2.2.2.size ?_; intro wz hz hfar hbz; rw [← H5.out] at hz hfar; have HZwz := Aside0.mk hz; have HFwz := Aside0.mk hfar; have HBwz := Aside0.mk hbz; clear hz hfar hbz))
  rw [← H5.out]
  have kx : wz.heap[g2]? = some (.cells (bg true (dn p)) 197 (0, 0)) := (HFwz.out g2 HD.out.1).trans (blk_alloc HX.out.1 _)
  have ky : wz.heap[g3]? = some (.cells (bg true (dn q)) 197 (0, 0)) := (HFwz.out g3 HD.out.2.1).trans (blk_alloc HX.out.2.1 _)
  have kr : wz.heap[g4]? = some (.cells (zb false) 197 (0, 0)) := (HFwz.out g4 HD.out.2.2).trans (blk_alloc HX.out.2.2.1 _)
  clear c2 f2 HFwz
  have HK := Aside0.mk (And.intro kx (And.intro ky (And.intro HZwz.out (And.intro kr HBwz.out))))
  have cx0 : wz.cell? ⟨g2, 0, none⟩ = some (.bool true) := (blk_cell kx 0).trans rfl
  have cy0 : wz.cell? ⟨g3, 0, none⟩ = some (.bool true) := (blk_cell ky 0).trans rfl
  have fx0 := blk_frozen kx 0
  have fy0 := blk_frozen ky 0
  clear kx ky kr HZwz HBwz HX
  go_upto_region 7 with (first | ((with_reducible refine gate_dst (N := 24) rfl ?_); refine get81 rfl rfl g2 197 (true) (dn p) _ rfl HK.out.1 Tryd.underlying195 rfl (by kernel_rfl) ?_) | ((with_reducible refine gate_dst (N := 26) rfl ?_); refine get81 rfl rfl g3 197 (true) (dn q) _ rfl HK.out.2.1 Tryd.underlying195 rfl (by kernel_rfl) ?_) | (go_at_call 163; (with_reducible refine (plus_calls p q _).mono ?_); rintro e w2 ⟨rfl, hb2⟩; rw [← HM.out]; have HKN := Aside0.mk (And.intro (blk_below HK.out.1 hb2) (And.intro (blk_below HK.out.2.1 hb2) (And.intro (blk_below HK.out.2.2.1 hb2) (And.intro (blk_below HK.out.2.2.2.1 hb2) (HK.out.2.2.2.2.trans (hb2.mono HK.out.2.2.2.2.size)))))); clear hb2) | ((with_reducible refine gate_store (t := 195) (p := 28) rfl ?_); refine put81 rfl rfl rfl g5 197 (true) (dn 0) (dn m) rfl rfl HKN.out.2.2.1 (by kernel_rfl) HKN.out.2.2.2.2 HL5.out ?_; intro wt hz hfar hbz; have HZwt := Aside0.mk hz; have HFwt := Aside0.mk hfar; have HBwt := Aside0.mk hbz; clear hz hfar hbz))
  have HT := Aside0.mk (And.intro HZwt.out (And.intro ((HFwt.out g4 HD.out.2.2).trans HKN.out.2.2.2.1) HBwt.out)); clear HZwt HFwt HBwt HKN
  have hZ : ∀ W, Calls Tryd.prog 132 #[.agg (c8 (dn m))] W fun e w' => e = .returned (.bool z) ∧ Below W.heap.size W w' := fun W => by
    rw [HZ0.out]; exact zero_calls m (by rw [HM.out]; have := HPQ.out; omega) W
  have c5 := (blk_cell HT.out.1 0).trans (bg_neg true (dn m))
  have f5 := blk_frozen HT.out.1 0
  go_upto_region 8 with (first | ((with_reducible refine gate_dst (N := 46) rfl ?_); refine gate_guard (by kernel_rfl) ?_; (try dsimp only); refine get81 rfl rfl g5 197 (true) (dn m) _ rfl HT.out.1 Tryd.underlying195 rfl (by kernel_rfl) ?_) | (go_at_call 132; (with_reducible refine (hZ _).mono ?_); rintro e w6 ⟨rfl, hb6⟩; have HU := Aside0.mk (And.intro (blk_below HT.out.1 hb6) (And.intro (blk_below HT.out.2.1 hb6) (HT.out.2.2.trans (hb6.mono HT.out.2.2.size)))); clear hb6 c5 f5; have c6 := (blk_cell HU.out.1 0).trans (bg_neg true (dn m)); have f6 := blk_frozen HU.out.1 0))
  have HV := HU
  refine name_w (fun W8 hW8 => ?_)
  have h8 : W8.heap[g5]? = some (.cells (bg (!z) (dn m)) 197 (0, 0)) := by rw [hW8]; exact blk_put HV.out.1 0 _ (bg_setneg _ _ _)
  have h8r : W8.heap[g4]? = some (.cells (zb false) 197 (0, 0)) := by rw [hW8]; exact (Below.heap_setCell _ ⟨g5, 0, none⟩ _ g4 HD.out.2.2).trans HV.out.2.1
  have h8b : Below w.heap.size w W8 := by rw [hW8]; exact HV.out.2.2.setCell HL5.out _
  have H8 := Aside0.mk (And.intro h8 (And.intro h8r h8b))
  clear hW8 h8 h8r h8b hZ
  go_wp2_with (first | ((with_reducible refine gate_dst (N := 51) rfl ?_); refine get9 rfl rfl g5 197 (!z) (dn m) _ rfl H8.out.1 Tryd.underlying197 rfl (by kernel_rfl) ?_) | ((with_reducible refine gate_store (t := 197) (p := 4) rfl ?_); refine put9 rfl rfl rfl g4 197 (zb false) (!z) (dn m) rfl rfl H8.out.2.1 (by kernel_rfl) rfl H8.out.2.2 HL4.out ?_; intro wy hz hfar hbz; have HZwy := Aside0.mk hz; have HFwy := Aside0.mk hfar; have HBwy := Aside0.mk hbz; clear hz hfar hbz))
  refine bodyPost_ret (results_single rfl (.cell g4 197 (bg (!z) (dn m)) (0, 0) _ rfl HZwy.out Tryd.underlying197 rfl (by kernel_rfl) .nil)) rfl ?_
  exact ⟨by simp, HBwy.out⟩
set_option maxHeartbeats 2000000 in
set_option maxRecDepth 100000 in
theorem add_same_false (p q : Nat) (hpq : p + q < P 8) (w : World) : Calls Tryd.prog 152 #[.agg (bg false (dn p)), .agg (bg false (dn q))] w fun e w' => e = .returned (.agg (bg (false && !(p + q == 0)) (dn (p + q)))) ∧ Below w.heap.size w w' := by
  obtain ⟨w1, hw1⟩ : ∃ w1, w1 = (((w.alloc (.cells (bg false (dn p)) 197)).alloc (.cells (bg false (dn q)) 197)).alloc (.cells (zb false) 197)) := ⟨_, rfl⟩
  have k2 : w1.heap[w.heap.size]? = some (.cells (bg false (dn p)) 197 (0, 0)) := by rw [hw1]; exact blk_alloc (blk_alloc (heap_alloc_new w _) _) _
  have k3 : w1.heap[w.heap.size + 1]? = some (.cells (bg false (dn q)) 197 (0, 0)) := by rw [hw1]; exact blk_alloc (new1 w _ _) _
  have k4 : w1.heap[w.heap.size + 1 + 1]? = some (.cells (zb false) 197 (0, 0)) := by rw [hw1]; exact new2 w _ _ _
  have hb1 : Below w.heap.size w w1 := by rw [hw1]; exact (((Below.refl _ w).alloc (Nat.le_refl _) _).alloc (by simp) _).alloc (by simp; omega) _
  have hn1 : w1.heap.size = w.heap.size + 1 + 1 + 1 := by rw [hw1]; simp
  obtain ⟨g2, hg2⟩ : ∃ g, g = w.heap.size := ⟨_, rfl⟩
  obtain ⟨g3, hg3⟩ : ∃ g, g = w.heap.size + 1 := ⟨_, rfl⟩
  obtain ⟨g4, hg4⟩ : ∃ g, g = w.heap.size + 1 + 1 := ⟨_, rfl⟩
  obtain ⟨g5, hg5⟩ : ∃ g, g = w1.heap.size := ⟨_, rfl⟩
  rw [← hg2] at k2
  rw [← hg3] at k3
  rw [← hg4] at k4
  have HX := Aside0.mk (And.intro k2 (And.intro k3 (And.intro k4 hb1)))
  have HL4 := Lib.hid (show w.heap.size ≤ g4 by omega)
  have HL5 := Lib.hid (show w.heap.size ≤ g5 by omega)
  have HD := Lib.hid (show g2 ≠ g5 ∧ g3 ≠ g5 ∧ g4 ≠ g5 by omega)
  have HW := Lib.hid hw1
  have H2 := Lib.hid hg2
  have H3 := Lib.hid hg3
  have H4 := Lib.hid hg4
  have H5 := Lib.hid hg5
  have c2 : w1.cell? ⟨g2, 0, none⟩ = some (.bool false) := (blk_cell k2 0).trans rfl
  have f2 := blk_frozen k2 0
  have HPQ := Lib.hid hpq
  clear hw1 hg2 hg3 hg4 hg5 k2 k3 k4 hb1 hn1 hpq
  obtain ⟨m, hm⟩ : ∃ m, m = p + q := ⟨_, rfl⟩
  rw [← hm]
  have HM := Lib.hid hm
  clear hm
  obtain ⟨z, hz⟩ : ∃ z, z = (m == 0) := ⟨_, rfl⟩
  rw [← hz]
  have HZ0 := Lib.hid hz
  clear hz
  go_enter Tryd.func152, Tryd.ntmps152
  go_upto_region 1 with (fail)
  rw [← HW.out, ← H4.out, ← H3.out, ← H2.out]
  go_upto_region 3 with (((with_reducible refine gate_store (t := 197) (p := 5) rfl ?_); refine put9z rfl rfl rfl w1.heap.size 197 (zb false) (false) rfl rfl (heap_alloc_new w1 _) (by kernel_rfl) rfl (HX.out.2.2.2.alloc HX.out.2.2.2.size _) HX.out.2.2.2.size ?_; intro wz hz hfar hbz; rw [← H5.out] at hz hfar; have HZwz := Aside0.mk hz; have HFwz := Aside0.mk hfar; have HBwz := Aside0.mk hbz; clear hz hfar hbz))
  rw [← H5.out]
  have kx : wz.heap[g2]? = some (.cells (bg false (dn p)) 197 (0, 0)) := (HFwz.out g2 HD.out.1).trans (blk_alloc HX.out.1 _)
  have ky : wz.heap[g3]? = some (.cells (bg false (dn q)) 197 (0, 0)) := (HFwz.out g3 HD.out.2.1).trans (blk_alloc HX.out.2.1 _)
  have kr : wz.heap[g4]? = some (.cells (zb false) 197 (0, 0)) := (HFwz.out g4 HD.out.2.2).trans (blk_alloc HX.out.2.2.1 _)
  clear c2 f2 HFwz
  have HK := Aside0.mk (And.intro kx (And.intro ky (And.intro HZwz.out (And.intro kr HBwz.out))))
  have cx0 : wz.cell? ⟨g2, 0, none⟩ = some (.bool false) := (blk_cell kx 0).trans rfl
  have cy0 : wz.cell? ⟨g3, 0, none⟩ = some (.bool false) := (blk_cell ky 0).trans rfl
  have fx0 := blk_frozen kx 0
  have fy0 := blk_frozen ky 0
  clear kx ky kr HZwz HBwz HX
  go_upto_region 7 with (first | ((with_reducible refine gate_dst (N := 24) rfl ?_); refine get81 rfl rfl g2 197 (false) (dn p) _ rfl HK.out.1 Tryd.underlying195 rfl (by kernel_rfl) ?_) | ((with_reducible refine gate_dst (N := 26) rfl ?_); refine get81 rfl rfl g3 197 (false) (dn q) _ rfl HK.out.2.1 Tryd.underlying195 rfl (by kernel_rfl) ?_) | (go_at_call 163; (with_reducible refine (plus_calls p q _).mono ?_); rintro e w2 ⟨rfl, hb2⟩; rw [← HM.out]; have HKN := Aside0.mk (And.intro (blk_below HK.out.1 hb2) (And.intro (blk_below HK.out.2.1 hb2) (And.intro (blk_below HK.out.2.2.1 hb2) (And.intro (blk_below HK.out.2.2.2.1 hb2) (HK.out.2.2.2.2.trans (hb2.mono HK.out.2.2.2.2.size)))))); clear hb2) | ((with_reducible refine gate_store (t := 195) (p := 28) rfl ?_); refine put81 rfl rfl rfl g5 197 (false) (dn 0) (dn m) rfl rfl HKN.out.2.2.1 (by kernel_rfl) HKN.out.2.2.2.2 HL5.out ?_; intro wt hz hfar hbz; have HZwt := Aside0.mk hz; have HFwt := Aside0.mk hfar; have HBwt := Aside0.mk hbz; clear hz hfar hbz))
  have HT := Aside0.mk (And.intro HZwt.out (And.intro ((HFwt.out g4 HD.out.2.2).trans HKN.out.2.2.2.1) HBwt.out)); clear HZwt HFwt HBwt HKN
  have hZ : ∀ W, Calls Tryd.prog 132 #[.agg (c8 (dn m))] W fun e w' => e = .returned (.bool z) ∧ Below W.heap.size W w' := fun W => by
    rw [HZ0.out]; exact zero_calls m (by rw [HM.out]; have := HPQ.out; omega) W
  have c5 := (blk_cell HT.out.1 0).trans (bg_neg false (dn m))
  have f5 := blk_frozen HT.out.1 0
  go_upto_region 8 with (fail)
  have HV := HT
  refine name_w (fun W8 hW8 => ?_)
  have h8 : W8.heap[g5]? = some (.cells (bg (false) (dn m)) 197 (0, 0)) := by rw [hW8]; exact blk_put HV.out.1 0 _ (bg_setneg _ _ _)
  have h8r : W8.heap[g4]? = some (.cells (zb false) 197 (0, 0)) := by rw [hW8]; exact (Below.heap_setCell _ ⟨g5, 0, none⟩ _ g4 HD.out.2.2).trans HV.out.2.1
  have h8b : Below w.heap.size w W8 := by rw [hW8]; exact HV.out.2.2.setCell HL5.out _
  have H8 := Aside0.mk (And.intro h8 (And.intro h8r h8b))
  clear hW8 h8 h8r h8b hZ
  go_wp2_with (first | ((with_reducible refine gate_dst (N := 51) rfl ?_); refine get9 rfl rfl g5 197 (false) (dn m) _ rfl H8.out.1 Tryd.underlying197 rfl (by kernel_rfl) ?_) | ((with_reducible refine gate_store (t := 197) (p := 4) rfl ?_); refine put9 rfl rfl rfl g4 197 (zb false) (false) (dn m) rfl rfl H8.out.2.1 (by kernel_rfl) rfl H8.out.2.2 HL4.out ?_; intro wy hz hfar hbz; have HZwy := Aside0.mk hz; have HFwy := Aside0.mk hfar; have HBwy := Aside0.mk hbz; clear hz hfar hbz))
  refine bodyPost_ret (results_single rfl (.cell g4 197 (bg (false) (dn m)) (0, 0) _ rfl HZwy.out Tryd.underlying197 rfl (by kernel_rfl) .nil)) rfl ?_
  exact ⟨by simp, HBwy.out⟩
set_option maxHeartbeats 2000000 in
set_option maxRecDepth 100000 in
theorem add_ge_true (m q : Nat) (hpq : m + q < P 8) (w : World) : Calls Tryd.prog 152 #[.agg (bg true (dn (m + q))), .agg (bg false (dn q))] w fun e w' => e = .returned (.agg (bg (true && !(m == 0)) (dn (m)))) ∧ Below w.heap.size w w' := by
  obtain ⟨w1, hw1⟩ : ∃ w1, w1 = (((w.alloc (.cells (bg true (dn (m + q))) 197)).alloc (.cells (bg false (dn q)) 197)).alloc (.cells (zb false) 197)) := ⟨_, rfl⟩
  have k2 : w1.heap[w.heap.size]? = some (.cells (bg true (dn (m + q))) 197 (0, 0)) := by rw [hw1]; exact blk_alloc (blk_alloc (heap_alloc_new w _) _) _
  have k3 : w1.heap[w.heap.size + 1]? = some (.cells (bg false (dn q)) 197 (0, 0)) := by rw [hw1]; exact blk_alloc (new1 w _ _) _
  have k4 : w1.heap[w.heap.size + 1 + 1]? = some (.cells (zb false) 197 (0, 0)) := by rw [hw1]; exact new2 w _ _ _
  have hb1 : Below w.heap.size w w1 := by rw [hw1]; exact (((Below.refl _ w).alloc (Nat.le_refl _) _).alloc (by simp) _).alloc (by simp; omega) _
  have hn1 : w1.heap.size = w.heap.size + 1 + 1 + 1 := by rw [hw1]; simp
  obtain ⟨g2, hg2⟩ : ∃ g, g = w.heap.size := ⟨_, rfl⟩
  obtain ⟨g3, hg3⟩ : ∃ g, g = w.heap.size + 1 := ⟨_, rfl⟩
  obtain ⟨g4, hg4⟩ : ∃ g, g = w.heap.size + 1 + 1 := ⟨_, rfl⟩
  obtain ⟨g5, hg5⟩ : ∃ g, g = w1.heap.size := ⟨_, rfl⟩
  rw [← hg2] at k2
  rw [← hg3] at k3
  rw [← hg4] at k4
  have HX := Aside0.mk (And.intro k2 (And.intro k3 (And.intro k4 hb1)))
  have HL4 := Lib.hid (show w.heap.size ≤ g4 by omega)
  have HL5 := Lib.hid (show w.heap.size ≤ g5 by omega)
  have HD := Lib.hid (show g2 ≠ g5 ∧ g3 ≠ g5 ∧ g4 ≠ g5 by omega)
  have HW := Lib.hid hw1
  have H2 := Lib.hid hg2
  have H3 := Lib.hid hg3
  have H4 := Lib.hid hg4
  have H5 := Lib.hid hg5
  have c2 : w1.cell? ⟨g2, 0, none⟩ = some (.bool true) := (blk_cell k2 0).trans rfl
  have f2 := blk_frozen k2 0
  have HPQ := Lib.hid hpq
  clear hw1 hg2 hg3 hg4 hg5 k2 k3 k4 hb1 hn1 hpq
  obtain ⟨z, hz⟩ : ∃ z, z = (m == 0) := ⟨_, rfl⟩
  rw [← hz]
  have HZ0 := Lib.hid hz
  clear hz
  go_enter Tryd.func152, Tryd.ntmps152
  go_upto_region 1 with (fail)
  rw [← HW.out, ← H4.out, ← H3.out, ← H2.out]
  go_upto_region 3 with (((with_reducible refine gate_store (t := 197) (p := 5) rfl ?_); refine put9z rfl rfl rfl w1.heap.size 197 (zb false) (true) rfl rfl (heap_alloc_new w1 _) (by kernel_rfl) rfl (HX.out.2.2.2.alloc HX.out.2.2.2.size _) HX.out.2.2.2.size ?_; intro wz hz hfar hbz; rw [← H5.out] at hz hfar; have HZwz := Aside0.mk hz; have HFwz := Aside0.mk hfar; have HBwz := Aside0.mk hbz; clear hz hfar hbz))
  rw [← H5.out]
  have kx : wz.heap[g2]? = some (.cells (bg true (dn (m + q))) 197 (0, 0)) := (HFwz.out g2 HD.out.1).trans (blk_alloc HX.out.1 _)
  have ky : wz.heap[g3]? = some (.cells (bg false (dn q)) 197 (0, 0)) := (HFwz.out g3 HD.out.2.1).trans (blk_alloc HX.out.2.1 _)
  have kr : wz.heap[g4]? = some (.cells (zb false) 197 (0, 0)) := (HFwz.out g4 HD.out.2.2).trans (blk_alloc HX.out.2.2.1 _)
  clear c2 f2 HFwz
  have HK := Aside0.mk (And.intro kx (And.intro ky (And.intro HZwz.out (And.intro kr HBwz.out))))
  have cx0 : wz.cell? ⟨g2, 0, none⟩ = some (.bool true) := (blk_cell kx 0).trans rfl
  have cy0 : wz.cell? ⟨g3, 0, none⟩ = some (.bool false) := (blk_cell ky 0).trans rfl
  have fx0 := blk_frozen kx 0
  have fy0 := blk_frozen ky 0
  clear kx ky kr HZwz HBwz HX
  have hS : ∀ W, Calls Tryd.prog 150 #[.agg (c8 (dn (m + q))), .agg (c8 (dn q))] W fun e w' => e = .returned (.int .i64 (sg (m + q) q)) ∧ Below W.heap.size W w' := fun W => size_calls _ _ HPQ.out (by have := HPQ.out; omega) W
  obtain ⟨sv, hsv⟩ : ∃ v, v = sg (m + q) q := ⟨_, rfl⟩
  rw [← hsv] at hS
  have hsg : 0 ≤ sv := by rw [hsv]; unfold sg; split <;> (try split) <;> omega
  clear hsv
  go_upto_region 6 with (first | ((with_reducible refine gate_dst (N := 31) rfl ?_); refine get81 rfl rfl g2 197 (true) (dn (m + q)) _ rfl HK.out.1 Tryd.underlying195 rfl (by kernel_rfl) ?_) | ((with_reducible refine gate_dst (N := 33) rfl ?_); refine get81 rfl rfl g3 197 (false) (dn q) _ rfl HK.out.2.1 Tryd.underlying195 rfl (by kernel_rfl) ?_) | (go_at_call 150; (with_reducible refine (hS _).mono ?_); rintro e w2 ⟨rfl, hb2⟩; have HKM := Aside0.mk (And.intro (blk_below HK.out.1 hb2) (And.intro (blk_below HK.out.2.1 hb2) (And.intro (blk_below HK.out.2.2.1 hb2) (And.intro (blk_below HK.out.2.2.2.1 hb2) (HK.out.2.2.2.2.trans (hb2.mono HK.out.2.2.2.2.size)))))); clear hb2))
  clear HK cx0 cy0 fx0 fy0
  have HK := HKM
  clear HKM hS
  go_upto_region 7 with (first | ((with_reducible refine gate_dst (N := 37) rfl ?_); refine get81 rfl rfl g2 197 (true) (dn (m + q)) _ rfl HK.out.1 Tryd.underlying195 rfl (by kernel_rfl) ?_) | ((with_reducible refine gate_dst (N := 39) rfl ?_); refine get81 rfl rfl g3 197 (false) (dn q) _ rfl HK.out.2.1 Tryd.underlying195 rfl (by kernel_rfl) ?_) | (go_at_call 151; (with_reducible refine (less_calls m q _).mono ?_); rintro e w2 ⟨rfl, hb2⟩; have HKN := Aside0.mk (And.intro (blk_below HK.out.1 hb2) (And.intro (blk_below HK.out.2.1 hb2) (And.intro (blk_below HK.out.2.2.1 hb2) (And.intro (blk_below HK.out.2.2.2.1 hb2) (HK.out.2.2.2.2.trans (hb2.mono HK.out.2.2.2.2.size)))))); clear hb2) | ((with_reducible refine gate_store (t := 195) (p := 41) rfl ?_); refine put81 rfl rfl rfl g5 197 (true) (dn 0) (dn m) rfl rfl HKN.out.2.2.1 (by kernel_rfl) HKN.out.2.2.2.2 HL5.out ?_; intro wt hz hfar hbz; have HZwt := Aside0.mk hz; have HFwt := Aside0.mk hfar; have HBwt := Aside0.mk hbz; clear hz hfar hbz))
  have HT := Aside0.mk (And.intro HZwt.out (And.intro ((HFwt.out g4 HD.out.2.2).trans HKN.out.2.2.2.1) HBwt.out)); clear HZwt HFwt HBwt HKN
  have hZ : ∀ W, Calls Tryd.prog 132 #[.agg (c8 (dn m))] W fun e w' => e = .returned (.bool z) ∧ Below W.heap.size W w' := fun W => by
    rw [HZ0.out]; exact zero_calls m (by have := HPQ.out; omega) W
  have c5 := (blk_cell HT.out.1 0).trans (bg_neg true (dn m))
  have f5 := blk_frozen HT.out.1 0
  go_upto_region 8 with (first | ((with_reducible refine gate_dst (N := 46) rfl ?_); refine gate_guard (by kernel_rfl) ?_; (try dsimp only); refine get81 rfl rfl g5 197 (true) (dn m) _ rfl HT.out.1 Tryd.underlying195 rfl (by kernel_rfl) ?_) | (go_at_call 132; (with_reducible refine (hZ _).mono ?_); rintro e w6 ⟨rfl, hb6⟩; have HU := Aside0.mk (And.intro (blk_below HT.out.1 hb6) (And.intro (blk_below HT.out.2.1 hb6) (HT.out.2.2.trans (hb6.mono HT.out.2.2.size)))); clear hb6 c5 f5; have c6 := (blk_cell HU.out.1 0).trans (bg_neg true (dn m)); have f6 := blk_frozen HU.out.1 0))
  have HV := HU
  refine name_w (fun W8 hW8 => ?_)
  have h8 : W8.heap[g5]? = some (.cells (bg (!z) (dn m)) 197 (0, 0)) := by rw [hW8]; exact blk_put HV.out.1 0 _ (bg_setneg _ _ _)
  have h8r : W8.heap[g4]? = some (.cells (zb false) 197 (0, 0)) := by rw [hW8]; exact (Below.heap_setCell _ ⟨g5, 0, none⟩ _ g4 HD.out.2.2).trans HV.out.2.1
  have h8b : Below w.heap.size w W8 := by rw [hW8]; exact HV.out.2.2.setCell HL5.out _
  have H8 := Aside0.mk (And.intro h8 (And.intro h8r h8b))
  clear hW8 h8 h8r h8b hZ
  go_wp2_with (first | ((with_reducible refine gate_dst (N := 51) rfl ?_); refine get9 rfl rfl g5 197 (!z) (dn m) _ rfl H8.out.1 Tryd.underlying197 rfl (by kernel_rfl) ?_) | ((with_reducible refine gate_store (t := 197) (p := 4) rfl ?_); refine put9 rfl rfl rfl g4 197 (zb false) (!z) (dn m) rfl rfl H8.out.2.1 (by kernel_rfl) rfl H8.out.2.2 HL4.out ?_; intro wy hz hfar hbz; have HZwy := Aside0.mk hz; have HFwy := Aside0.mk hfar; have HBwy := Aside0.mk hbz; clear hz hfar hbz))
  refine bodyPost_ret (results_single rfl (.cell g4 197 (bg (!z) (dn m)) (0, 0) _ rfl HZwy.out Tryd.underlying197 rfl (by kernel_rfl) .nil)) rfl ?_
  exact ⟨by simp, HBwy.out⟩
set_option maxHeartbeats 2000000 in
set_option maxRecDepth 100000 in
theorem add_ge_false (m q : Nat) (hpq : m + q < P 8) (w : World) : Calls Tryd.prog 152 #[.agg (bg false (dn (m + q))), .agg (bg true (dn q))] w fun e w' => e = .returned (.agg (bg (false && !(m == 0)) (dn (m)))) ∧ Below w.heap.size w w' := by
  obtain ⟨w1, hw1⟩ : ∃ w1, w1 = (((w.alloc (.cells (bg false (dn (m + q))) 197)).alloc (.cells (bg true (dn q)) 197)).alloc (.cells (zb false) 197)) := ⟨_, rfl⟩
  have k2 : w1.heap[w.heap.size]? = some (.cells (bg false (dn (m + q))) 197 (0, 0)) := by rw [hw1]; exact blk_alloc (blk_alloc (heap_alloc_new w _) _) _
  have k3 : w1.heap[w.heap.size + 1]? = some (.cells (bg true (dn q)) 197 (0, 0)) := by rw [hw1]; exact blk_alloc (new1 w _ _) _
  have k4 : w1.heap[w.heap.size + 1 + 1]? = some (.cells (zb false) 197 (0, 0)) := by rw [hw1]; exact new2 w _ _ _
  have hb1 : Below w.heap.size w w1 := by rw [hw1]; exact (((Below.refl _ w).alloc (Nat.le_refl _) _).alloc (by simp) _).alloc (by simp; omega) _
  have hn1 : w1.heap.size = w.heap.size + 1 + 1 + 1 := by rw [hw1]; simp
  obtain ⟨g2, hg2⟩ : ∃ g, g = w.heap.size := ⟨_, rfl⟩
  obtain ⟨g3, hg3⟩ : ∃ g, g = w.heap.size + 1 := ⟨_, rfl⟩
  obtain ⟨g4, hg4⟩ : ∃ g, g = w.heap.size + 1 + 1 := ⟨_, rfl⟩
  obtain ⟨g5, hg5⟩ : ∃ g, g = w1.heap.size := ⟨_, rfl⟩
  rw [← hg2] at k2
  rw [← hg3] at k3
  rw [← hg4] at k4
  have HX := Aside0.mk (And.intro k2 (And.intro k3 (And.intro k4 hb1)))
  have HL4 := Lib.hid (show w.heap.size ≤ g4 by omega)
  have HL5 := Lib.hid (show w.heap.size ≤ g5 by omega)
  have HD := Lib.hid (show g2 ≠ g5 ∧ g3 ≠ g5 ∧ g4 ≠ g5 by omega)
  have HW := Lib.hid hw1
  have H2 := Lib.hid hg2
  have H3 := Lib.hid hg3
  have H4 := Lib.hid hg4
  have H5 := Lib.hid hg5
  have c2 : w1.cell? ⟨g2, 0, none⟩ = some (.bool false) := (blk_cell k2 0).trans rfl
  have f2 := blk_frozen k2 0
  have HPQ := Lib.hid hpq
  clear hw1 hg2 hg3 hg4 hg5 k2 k3 k4 hb1 hn1 hpq
  obtain ⟨z, hz⟩ : ∃ z, z = (m == 0) := ⟨_, rfl⟩
  rw [← hz]
  have HZ0 := Lib.hid hz
  clear hz
  go_enter Tryd.func152, Tryd.ntmps152
  go_upto_region 1 with (fail)
  rw [← HW.out, ← H4.out, ← H3.out, ← H2.out]
  go_upto_region 3 with (((with_reducible refine gate_store (t := 197) (p := 5) rfl ?_); refine put9z rfl rfl rfl w1.heap.size 197 (zb false) (false) rfl rfl (heap_alloc_new w1 _) (by kernel_rfl) rfl (HX.out.2.2.2.alloc HX.out.2.2.2.size _) HX.out.2.2.2.size ?_; intro wz hz hfar hbz; rw [← H5.out] at hz hfar; have HZwz := Aside0.mk hz; have HFwz := Aside0.mk hfar; have HBwz := Aside0.mk hbz; clear hz hfar hbz))
  rw [← H5.out]
  have kx : wz.heap[g2]? = some (.cells (bg false (dn (m + q))) 197 (0, 0)) := (HFwz.out g2 HD.out.1).trans (blk_alloc HX.out.1 _)
  have ky : wz.heap[g3]? = some (.cells (bg true (dn q)) 197 (0, 0)) := (HFwz.out g3 HD.out.2.1).trans (blk_alloc HX.out.2.1 _)
  have kr : wz.heap[g4]? = some (.cells (zb false) 197 (0, 0)) := (HFwz.out g4 HD.out.2.2).trans (blk_alloc HX.out.2.2.1 _)
  clear c2 f2 HFwz
  have HK := Aside0.mk (And.intro kx (And.intro ky (And.intro HZwz.out (And.intro kr HBwz.out))))
  have cx0 : wz.cell? ⟨g2, 0, none⟩ = some (.bool false) := (blk_cell kx 0).trans rfl
  have cy0 : wz.cell? ⟨g3, 0, none⟩ = some (.bool true) := (blk_cell ky 0).trans rfl
  have fx0 := blk_frozen kx 0
  have fy0 := blk_frozen ky 0
  clear kx ky kr HZwz HBwz HX
  have hS : ∀ W, Calls Tryd.prog 150 #[.agg (c8 (dn (m + q))), .agg (c8 (dn q))] W fun e w' => e = .returned (.int .i64 (sg (m + q) q)) ∧ Below W.heap.size W w' := fun W => size_calls _ _ HPQ.out (by have := HPQ.out; omega) W
  obtain ⟨sv, hsv⟩ : ∃ v, v = sg (m + q) q := ⟨_, rfl⟩
  rw [← hsv] at hS
  have hsg : 0 ≤ sv := by rw [hsv]; unfold sg; split <;> (try split) <;> omega
  clear hsv
  go_upto_region 6 with (first | ((with_reducible refine gate_dst (N := 31) rfl ?_); refine get81 rfl rfl g2 197 (false) (dn (m + q)) _ rfl HK.out.1 Tryd.underlying195 rfl (by kernel_rfl) ?_) | ((with_reducible refine gate_dst (N := 33) rfl ?_); refine get81 rfl rfl g3 197 (true) (dn q) _ rfl HK.out.2.1 Tryd.underlying195 rfl (by kernel_rfl) ?_) | (go_at_call 150; (with_reducible refine (hS _).mono ?_); rintro e w2 ⟨rfl, hb2⟩; have HKM := Aside0.mk (And.intro (blk_below HK.out.1 hb2) (And.intro (blk_below HK.out.2.1 hb2) (And.intro (blk_below HK.out.2.2.1 hb2) (And.intro (blk_below HK.out.2.2.2.1 hb2) (HK.out.2.2.2.2.trans (hb2.mono HK.out.2.2.2.2.size)))))); clear hb2))
  clear HK cx0 cy0 fx0 fy0
  have HK := HKM
  clear HKM hS
  go_upto_region 7 with (first | ((with_reducible refine gate_dst (N := 37) rfl ?_); refine get81 rfl rfl g2 197 (false) (dn (m + q)) _ rfl HK.out.1 Tryd.underlying195 rfl (by kernel_rfl) ?_) | ((with_reducible refine gate_dst (N := 39) rfl ?_); refine get81 rfl rfl g3 197 (true) (dn q) _ rfl HK.out.2.1 Tryd.underlying195 rfl (by kernel_rfl) ?_) | (go_at_call 151; (with_reducible refine (less_calls m q _).mono ?_); rintro e w2 ⟨rfl, hb2⟩; have HKN := Aside0.mk (And.intro (blk_below HK.out.1 hb2) (And.intro (blk_below HK.out.2.1 hb2) (And.intro (blk_below HK.out.2.2.1 hb2) (And.intro (blk_below HK.out.2.2.2.1 hb2) (HK.out.2.2.2.2.trans (hb2.mono HK.out.2.2.2.2.size)))))); clear hb2) | ((with_reducible refine gate_store (t := 195) (p := 41) rfl ?_); refine put81 rfl rfl rfl g5 197 (false) (dn 0) (dn m) rfl rfl HKN.out.2.2.1 (by kernel_rfl) HKN.out.2.2.2.2 HL5.out ?_; intro wt hz hfar hbz; have HZwt := Aside0.mk hz; have HFwt := Aside0.mk hfar; have HBwt := Aside0.mk hbz; clear hz hfar hbz))
  have HT := Aside0.mk (And.intro HZwt.out (And.intro ((HFwt.out g4 HD.out.2.2).trans HKN.out.2.2.2.1) HBwt.out)); clear HZwt HFwt HBwt HKN
  have hZ : ∀ W, Calls Tryd.prog 132 #[.agg (c8 (dn m))] W fun e w' => e = .returned (.bool z) ∧ Below W.heap.size W w' := fun W => by
    rw [HZ0.out]; exact zero_calls m (by have := HPQ.out; omega) W
  have c5 := (blk_cell HT.out.1 0).trans (bg_neg false (dn m))
  have f5 := blk_frozen HT.out.1 0
  go_upto_region 8 with (fail)
  have HV := HT
  refine name_w (fun W8 hW8 => ?_)
  have h8 : W8.heap[g5]? = some (.cells (bg (false) (dn m)) 197 (0, 0)) := by rw [hW8]; exact blk_put HV.out.1 0 _ (bg_setneg _ _ _)
  have h8r : W8.heap[g4]? = some (.cells (zb false) 197 (0, 0)) := by rw [hW8]; exact (Below.heap_setCell _ ⟨g5, 0, none⟩ _ g4 HD.out.2.2).trans HV.out.2.1
  have h8b : Below w.heap.size w W8 := by rw [hW8]; exact HV.out.2.2.setCell HL5.out _
  have H8 := Aside0.mk (And.intro h8 (And.intro h8r h8b))
  clear hW8 h8 h8r h8b hZ
  go_wp2_with (first | ((with_reducible refine gate_dst (N := 51) rfl ?_); refine get9 rfl rfl g5 197 (false) (dn m) _ rfl H8.out.1 Tryd.underlying197 rfl (by kernel_rfl) ?_) | ((with_reducible refine gate_store (t := 197) (p := 4) rfl ?_); refine put9 rfl rfl rfl g4 197 (zb false) (false) (dn m) rfl rfl H8.out.2.1 (by kernel_rfl) rfl H8.out.2.2 HL4.out ?_; intro wy hz hfar hbz; have HZwy := Aside0.mk hz; have HFwy := Aside0.mk hfar; have HBwy := Aside0.mk hbz; clear hz hfar hbz))
  refine bodyPost_ret (results_single rfl (.cell g4 197 (bg (false) (dn m)) (0, 0) _ rfl HZwy.out Tryd.underlying197 rfl (by kernel_rfl) .nil)) rfl ?_
  exact ⟨by simp, HBwy.out⟩
set_option maxHeartbeats 2000000 in
set_option maxRecDepth 100000 in
theorem add_lt_true (m p : Nat) (hd : 0 < m) (hpq : m + p < P 8) (w : World) : Calls Tryd.prog 152 #[.agg (bg true (dn p)), .agg (bg false (dn (m + p)))] w fun e w' => e = .returned (.agg (bg (false && !(m == 0)) (dn (m)))) ∧ Below w.heap.size w w' := by
  obtain ⟨w1, hw1⟩ : ∃ w1, w1 = (((w.alloc (.cells (bg true (dn p)) 197)).alloc (.cells (bg false (dn (m + p))) 197)).alloc (.cells (zb false) 197)) := ⟨_, rfl⟩
  have k2 : w1.heap[w.heap.size]? = some (.cells (bg true (dn p)) 197 (0, 0)) := by rw [hw1]; exact blk_alloc (blk_alloc (heap_alloc_new w _) _) _
  have k3 : w1.heap[w.heap.size + 1]? = some (.cells (bg false (dn (m + p))) 197 (0, 0)) := by rw [hw1]; exact blk_alloc (new1 w _ _) _
  have k4 : w1.heap[w.heap.size + 1 + 1]? = some (.cells (zb false) 197 (0, 0)) := by rw [hw1]; exact new2 w _ _ _
  have hb1 : Below w.heap.size w w1 := by rw [hw1]; exact (((Below.refl _ w).alloc (Nat.le_refl _) _).alloc (by simp) _).alloc (by simp; omega) _
  have hn1 : w1.heap.size = w.heap.size + 1 + 1 + 1 := by rw [hw1]; simp
  obtain ⟨g2, hg2⟩ : ∃ g, g = w.heap.size := ⟨_, rfl⟩
  obtain ⟨g3, hg3⟩ : ∃ g, g = w.heap.size + 1 := ⟨_, rfl⟩
  obtain ⟨g4, hg4⟩ : ∃ g, g = w.heap.size + 1 + 1 := ⟨_, rfl⟩
  obtain ⟨g5, hg5⟩ : ∃ g, g = w1.heap.size := ⟨_, rfl⟩
  rw [← hg2] at k2
  rw [← hg3] at k3
  rw [← hg4] at k4
  have HX := Aside0.mk (And.intro k2 (And.intro k3 (And.intro k4 hb1)))
  have HL4 := Lib.hid (show w.heap.size ≤ g4 by omega)
  have HL5 := Lib.hid (show w.heap.size ≤ g5 by omega)
  have HD := Lib.hid (show g2 ≠ g5 ∧ g3 ≠ g5 ∧ g4 ≠ g5 by omega)
  have HW := Lib.hid hw1
  have H2 := Lib.hid hg2
  have H3 := Lib.hid hg3
  have H4 := Lib.hid hg4
  have H5 := Lib.hid hg5
  have c2 : w1.cell? ⟨g2, 0, none⟩ = some (.bool true) := (blk_cell k2 0).trans rfl
  have f2 := blk_frozen k2 0
  have HPQ := Lib.hid hpq
  clear hw1 hg2 hg3 hg4 hg5 k2 k3 k4 hb1 hn1 hpq
  obtain ⟨z, hz⟩ : ∃ z, z = (m == 0) := ⟨_, rfl⟩
  rw [← hz]
  have HZ0 := Lib.hid hz
  clear hz
  go_enter Tryd.func152, Tryd.ntmps152
  go_upto_region 1 with (fail)
  rw [← HW.out, ← H4.out, ← H3.out, ← H2.out]
  go_upto_region 3 with (((with_reducible refine gate_store (t := 197) (p := 5) rfl ?_); refine put9z rfl rfl rfl w1.heap.size 197 (zb false) (true) rfl rfl (heap_alloc_new w1 _) (by kernel_rfl) rfl (HX.out.2.2.2.alloc HX.out.2.2.2.size _) HX.out.2.2.2.size ?_; intro wz hz hfar hbz; rw [← H5.out] at hz hfar; have HZwz := Aside0.mk hz; have HFwz := Aside0.mk hfar; have HBwz := Aside0.mk hbz; clear hz hfar hbz))
  rw [← H5.out]
  have kx : wz.heap[g2]? = some (.cells (bg true (dn p)) 197 (0, 0)) := (HFwz.out g2 HD.out.1).trans (blk_alloc HX.out.1 _)
  have ky : wz.heap[g3]? = some (.cells (bg false (dn (m + p))) 197 (0, 0)) := (HFwz.out g3 HD.out.2.1).trans (blk_alloc HX.out.2.1 _)
  have kr : wz.heap[g4]? = some (.cells (zb false) 197 (0, 0)) := (HFwz.out g4 HD.out.2.2).trans (blk_alloc HX.out.2.2.1 _)
  clear c2 f2 HFwz
  have HK := Aside0.mk (And.intro kx (And.intro ky (And.intro HZwz.out (And.intro kr HBwz.out))))
  have cx0 : wz.cell? ⟨g2, 0, none⟩ = some (.bool true) := (blk_cell kx 0).trans rfl
  have cy0 : wz.cell? ⟨g3, 0, none⟩ = some (.bool false) := (blk_cell ky 0).trans rfl
  have fx0 := blk_frozen kx 0
  have fy0 := blk_frozen ky 0
  clear kx ky kr HZwz HBwz HX
  have hS : ∀ W, Calls Tryd.prog 150 #[.agg (c8 (dn p)), .agg (c8 (dn (m + p)))] W fun e w' => e = .returned (.int .i64 (-1)) ∧ Below W.heap.size W w' := fun W => by
    have := size_calls p (m + p) (by have := HPQ.out; omega) HPQ.out W
    rwa [show sg p (m + p) = -1 by unfold sg; rw [if_neg (by omega), if_pos (by omega)]] at this
  go_upto_region 2 with (first | ((with_reducible refine gate_dst (N := 31) rfl ?_); refine get81 rfl rfl g2 197 (true) (dn p) _ rfl HK.out.1 Tryd.underlying195 rfl (by kernel_rfl) ?_) | ((with_reducible refine gate_dst (N := 33) rfl ?_); refine get81 rfl rfl g3 197 (false) (dn (m + p)) _ rfl HK.out.2.1 Tryd.underlying195 rfl (by kernel_rfl) ?_) | (go_at_call 150; (with_reducible refine (hS _).mono ?_); rintro e w2 ⟨rfl, hb2⟩; have HKM := Aside0.mk (And.intro (blk_below HK.out.1 hb2) (And.intro (blk_below HK.out.2.1 hb2) (And.intro (blk_below HK.out.2.2.1 hb2) (And.intro (blk_below HK.out.2.2.2.1 hb2) (HK.out.2.2.2.2.trans (hb2.mono HK.out.2.2.2.2.size)))))); clear hb2))
  clear HK cx0 cy0 fx0 fy0
  have HK := HKM
  clear HKM hS
  refine start_ (n := 9) (S := fun w' => w'.heap[g2]? = some (.cells (bg true (dn p)) 197 (0, 0)) ∧ w'.heap[g3]? = some (.cells (bg false (dn (m + p))) 197 (0, 0)) ∧ w'.heap[g5]? = some (.cells (bg true (dn 0)) 197 (0, 0)) ∧ w'.heap[g4]? = some (.cells (zb false) 197 (0, 0)) ∧ Below w.heap.size w w') (ds := [8]) #[false, false, false, false, false, false, false, false, false] (by kernel_rfl) rfl rfl ⟨HK.out.1, HK.out.2.1, HK.out.2.2.1, HK.out.2.2.2.1, HK.out.2.2.2.2.drew⟩ (fun hHeld => ?_)
  refine pure_ (i := 0) (N := some 9) (v := ?_) (a' := ?_) #[true, false, false, false, false, false, false, false, false] rfl rfl (by kernel_rfl) (fun _ _ _ h => h) (Or.inl ⟨by rfl, ?_⟩) ?_ ?_
  rotate_left
  · intro w'
    go_simp
    with_reducible rfl
  rotate_left
  · simp only [Act.put, List.setIfInBounds_toArray, List.set_cons_zero, List.set_cons_succ, i64_w, i32_w]
    rfl
  refine pure_ (i := 2) (N := some 11) (v := ?_) (a' := ?_) #[true, false, true, false, false, false, false, false, false] rfl rfl (by kernel_rfl) (fun _ _ _ h => h) (Or.inl ⟨by rfl, ?_⟩) ?_ ?_
  rotate_left
  · intro w'
    go_simp
    with_reducible rfl
  rotate_left
  · simp only [Act.put, List.setIfInBounds_toArray, List.set_cons_zero, List.set_cons_succ, i64_w, i32_w]
    rfl
  refine pure_ (i := 4) (N := some 13) (v := ?_) (a' := ?_) #[true, false, true, false, true, false, false, false, false] rfl rfl (by kernel_rfl) (fun _ _ _ h => h) (Or.inl ⟨by rfl, ?_⟩) ?_ ?_
  rotate_left
  · intro w'
    go_simp
    with_reducible rfl
  rotate_left
  · simp only [Act.put, List.setIfInBounds_toArray, List.set_cons_zero, List.set_cons_succ, i64_w, i32_w]
    rfl
  refine take_ (i := 1) (N := some 10) (v := ?_) (a' := ?_) #[true, true, true, false, true, false, false, false, false] rfl rfl (by kernel_rfl) (fun _ _ _ h => h) (Or.inl ⟨by rfl, ?_⟩) hHeld ?_ ?_
  rotate_left
  · rintro w' ⟨s0, s1, s2, s3, s4⟩
    have cq : w'.cell? ⟨g3, 0, none⟩ = some (.bool false) := (blk_cell s1 0).trans rfl
    go_simp
    with_reducible rfl
  rotate_left
  · simp only [Act.put, List.setIfInBounds_toArray, List.set_cons_zero, List.set_cons_succ, i64_w, i32_w]
    rfl
  refine take_ (i := 3) (N := some 12) (v := ?_) (a' := ?_) #[true, true, true, true, true, false, false, false, false] rfl rfl (by kernel_rfl) (fun _ _ _ h => h) (Or.inl ⟨by rfl, ?_⟩) hHeld ?_ ?_
  rotate_left
  · rintro w' ⟨s0, s1, s2, s3, s4⟩
    refine get_run (x := Operand.tmp 11) ?_ g3 1 197 (bg false (dn (m + p))) (c8 (dn (m + p))) _ ?_ s1 rfl Tryd.underlying195 rfl ?_
    · rfl
    · rfl
    · kernel_rfl
  rotate_left
  · simp only [Act.put, List.setIfInBounds_toArray, List.set_cons_zero, List.set_cons_succ, i64_w, i32_w]
    rfl
  refine take_ (i := 5) (N := some 14) (v := ?_) (a' := ?_) #[true, true, true, true, true, true, false, false, false] rfl rfl (by kernel_rfl) (fun _ _ _ h => h) (Or.inl ⟨by rfl, ?_⟩) hHeld ?_ ?_
  rotate_left
  · rintro w' ⟨s0, s1, s2, s3, s4⟩
    refine get_run (x := Operand.tmp 13) ?_ g2 1 197 (bg true (dn p)) (c8 (dn p)) _ ?_ s0 rfl Tryd.underlying195 rfl ?_
    · rfl
    · rfl
    · kernel_rfl
  rotate_left
  · simp only [Act.put, List.setIfInBounds_toArray, List.set_cons_zero, List.set_cons_succ, i64_w, i32_w]
    rfl
  refine one_ (i := 6) (N := some 15) #[true, true, true, true, true, true, true, false, false] rfl rfl (by kernel_rfl) (by decide) (fun K hK => ?_)
  refine goes_ Tryd.func151 (by kernel_rfl) rfl #[.agg (c8 (dn (m + p))), .agg (c8 (dn p))] (by rfl) rfl rfl (by simp only [List.map_toArray, List.map_cons, List.map_nil]; rfl) ?_
  with_reducible refine (less_calls m p _).mono ?_
  rintro e w3 ⟨rfl, hb3⟩
  refine ⟨_, rfl, ?_⟩
  refine hK.out _ _ ⟨(blk_below hHeld.1 hb3), (blk_below hHeld.2.1 hb3), (blk_below hHeld.2.2.1 hb3), (blk_below hHeld.2.2.2.1 hb3), (hHeld.2.2.2.2.trans (hb3.mono hHeld.2.2.2.2.size))⟩ (fun hHeld => ?_)
  clear hK K
  refine norm_ (a' := ?_) ?_ ?_
  rotate_left
  · show Act.put _ (some 15) _ = _
    simp only [Act.put, List.setIfInBounds_toArray, List.set_cons_zero, List.set_cons_succ, i64_w, i32_w]
    rfl
  refine one_ (i := 7) (N := some 16) #[true, true, true, true, true, true, true, true, false] rfl rfl (by kernel_rfl) (by decide) (fun K hK => ?_)
  refine value_ (w1 := w3) (v := .agg (bg false (dn m))) (by rfl) rfl (build9 (x := Operand.tmp 10) (y := Operand.tmp 15) rfl false (dn m) rfl rfl) ?_
  refine hK.out _ _ ⟨hHeld.1, hHeld.2.1, hHeld.2.2.1, hHeld.2.2.2.1, hHeld.2.2.2.2⟩ (fun hHeld => ?_)
  clear hK K
  refine norm_ (a' := ?_) ?_ ?_
  rotate_left
  · show Act.put _ (some 16) _ = _
    simp only [Act.put, List.setIfInBounds_toArray, List.set_cons_zero, List.set_cons_succ, i64_w, i32_w]
    rfl
  refine last_ (i := 8) (N := none) #[true, true, true, true, true, true, true, true, true] rfl rfl (by kernel_rfl) (by decide) (fun K hK => ?_)
  refine skip_ (w1 := (w3.setCells g5 0 (bg (false) (dn m)).toList)) (by rfl) rfl (rowput_run rfl g5 0 197 (bg true (dn 0)) _ (bg (false) (dn m)).toList rfl rfl rfl hHeld.2.2.1 (by kernel_rfl) (Nat.le_refl 9) (bg_one _ _) rfl) ?_
  have pf9 := put9_facts (w := w3) g5 197 (bg true (dn 0)) (false) (dn m) hHeld.2.2.1 rfl hHeld.2.2.2.2 HL5.out
  generalize (w3.setCells g5 0 (bg (false) (dn m)).toList) = w9 at pf9 ⊢
  obtain ⟨hk9, hfar9, hb9⟩ := pf9
  refine hK.out _ _ ?_
  clear hK K
  refine done_ (by kernel_rfl) ?_
  have HT := Aside0.mk (And.intro hk9 (And.intro ((hfar9 g4 HD.out.2.2).trans hHeld.2.2.2.1) hb9))
  clear hk9 hfar9 hb9 HK
  have hZ : ∀ W, Calls Tryd.prog 132 #[.agg (c8 (dn m))] W fun e w' => e = .returned (.bool z) ∧ Below W.heap.size W w' := fun W => by
    rw [HZ0.out]; exact zero_calls m (by have := HPQ.out; omega) W
  have c5 := (blk_cell HT.out.1 0).trans (bg_neg false (dn m))
  have f5 := blk_frozen HT.out.1 0
  go_upto_region 8 with (fail)
  have HV := HT
  refine name_w (fun W8 hW8 => ?_)
  have h8 : W8.heap[g5]? = some (.cells (bg (false) (dn m)) 197 (0, 0)) := by rw [hW8]; exact blk_put HV.out.1 0 _ (bg_setneg _ _ _)
  have h8r : W8.heap[g4]? = some (.cells (zb false) 197 (0, 0)) := by rw [hW8]; exact (Below.heap_setCell _ ⟨g5, 0, none⟩ _ g4 HD.out.2.2).trans HV.out.2.1
  have h8b : Below w.heap.size w W8 := by rw [hW8]; exact HV.out.2.2.setCell HL5.out _
  have H8 := Aside0.mk (And.intro h8 (And.intro h8r h8b))
  clear hW8 h8 h8r h8b hZ
  go_wp2_with (first | ((with_reducible refine gate_dst (N := 51) rfl ?_); refine get9 rfl rfl g5 197 (false) (dn m) _ rfl H8.out.1 Tryd.underlying197 rfl (by kernel_rfl) ?_) | ((with_reducible refine gate_store (t := 197) (p := 4) rfl ?_); refine put9 rfl rfl rfl g4 197 (zb false) (false) (dn m) rfl rfl H8.out.2.1 (by kernel_rfl) rfl H8.out.2.2 HL4.out ?_; intro wy hz hfar hbz; have HZwy := Aside0.mk hz; have HFwy := Aside0.mk hfar; have HBwy := Aside0.mk hbz; clear hz hfar hbz))
  refine bodyPost_ret (results_single rfl (.cell g4 197 (bg (false) (dn m)) (0, 0) _ rfl HZwy.out Tryd.underlying197 rfl (by kernel_rfl) .nil)) rfl ?_
  exact ⟨by simp, HBwy.out⟩
set_option maxHeartbeats 2000000 in
set_option maxRecDepth 100000 in
theorem add_lt_false (m p : Nat) (hd : 0 < m) (hpq : m + p < P 8) (w : World) : Calls Tryd.prog 152 #[.agg (bg false (dn p)), .agg (bg true (dn (m + p)))] w fun e w' => e = .returned (.agg (bg (true && !(m == 0)) (dn (m)))) ∧ Below w.heap.size w w' := by
  obtain ⟨w1, hw1⟩ : ∃ w1, w1 = (((w.alloc (.cells (bg false (dn p)) 197)).alloc (.cells (bg true (dn (m + p))) 197)).alloc (.cells (zb false) 197)) := ⟨_, rfl⟩
  have k2 : w1.heap[w.heap.size]? = some (.cells (bg false (dn p)) 197 (0, 0)) := by rw [hw1]; exact blk_alloc (blk_alloc (heap_alloc_new w _) _) _
  have k3 : w1.heap[w.heap.size + 1]? = some (.cells (bg true (dn (m + p))) 197 (0, 0)) := by rw [hw1]; exact blk_alloc (new1 w _ _) _
  have k4 : w1.heap[w.heap.size + 1 + 1]? = some (.cells (zb false) 197 (0, 0)) := by rw [hw1]; exact new2 w _ _ _
  have hb1 : Below w.heap.size w w1 := by rw [hw1]; exact (((Below.refl _ w).alloc (Nat.le_refl _) _).alloc (by simp) _).alloc (by simp; omega) _
  have hn1 : w1.heap.size = w.heap.size + 1 + 1 + 1 := by rw [hw1]; simp
  obtain ⟨g2, hg2⟩ : ∃ g, g = w.heap.size := ⟨_, rfl⟩
  obtain ⟨g3, hg3⟩ : ∃ g, g = w.heap.size + 1 := ⟨_, rfl⟩
  obtain ⟨g4, hg4⟩ : ∃ g, g = w.heap.size + 1 + 1 := ⟨_, rfl⟩
  obtain ⟨g5, hg5⟩ : ∃ g, g = w1.heap.size := ⟨_, rfl⟩
  rw [← hg2] at k2
  rw [← hg3] at k3
  rw [← hg4] at k4
  have HX := Aside0.mk (And.intro k2 (And.intro k3 (And.intro k4 hb1)))
  have HL4 := Lib.hid (show w.heap.size ≤ g4 by omega)
  have HL5 := Lib.hid (show w.heap.size ≤ g5 by omega)
  have HD := Lib.hid (show g2 ≠ g5 ∧ g3 ≠ g5 ∧ g4 ≠ g5 by omega)
  have HW := Lib.hid hw1
  have H2 := Lib.hid hg2
  have H3 := Lib.hid hg3
  have H4 := Lib.hid hg4
  have H5 := Lib.hid hg5
  have c2 : w1.cell? ⟨g2, 0, none⟩ = some (.bool false) := (blk_cell k2 0).trans rfl
  have f2 := blk_frozen k2 0
  have HPQ := Lib.hid hpq
  clear hw1 hg2 hg3 hg4 hg5 k2 k3 k4 hb1 hn1 hpq
  obtain ⟨z, hz⟩ : ∃ z, z = (m == 0) := ⟨_, rfl⟩
  rw [← hz]
  have HZ0 := Lib.hid hz
  clear hz
  go_enter Tryd.func152, Tryd.ntmps152
  go_upto_region 1 with (fail)
  rw [← HW.out, ← H4.out, ← H3.out, ← H2.out]
  go_upto_region 3 with (((with_reducible refine gate_store (t := 197) (p := 5) rfl ?_); refine put9z rfl rfl rfl w1.heap.size 197 (zb false) (false) rfl rfl (heap_alloc_new w1 _) (by kernel_rfl) rfl (HX.out.2.2.2.alloc HX.out.2.2.2.size _) HX.out.2.2.2.size ?_; intro wz hz hfar hbz; rw [← H5.out] at hz hfar; have HZwz := Aside0.mk hz; have HFwz := Aside0.mk hfar; have HBwz := Aside0.mk hbz; clear hz hfar hbz))
  rw [← H5.out]
  have kx : wz.heap[g2]? = some (.cells (bg false (dn p)) 197 (0, 0)) := (HFwz.out g2 HD.out.1).trans (blk_alloc HX.out.1 _)
  have ky : wz.heap[g3]? = some (.cells (bg true (dn (m + p))) 197 (0, 0)) := (HFwz.out g3 HD.out.2.1).trans (blk_alloc HX.out.2.1 _)
  have kr : wz.heap[g4]? = some (.cells (zb false) 197 (0, 0)) := (HFwz.out g4 HD.out.2.2).trans (blk_alloc HX.out.2.2.1 _)
  clear c2 f2 HFwz
  have HK := Aside0.mk (And.intro kx (And.intro ky (And.intro HZwz.out (And.intro kr HBwz.out))))
  have cx0 : wz.cell? ⟨g2, 0, none⟩ = some (.bool false) := (blk_cell kx 0).trans rfl
  have cy0 : wz.cell? ⟨g3, 0, none⟩ = some (.bool true) := (blk_cell ky 0).trans rfl
  have fx0 := blk_frozen kx 0
  have fy0 := blk_frozen ky 0
  clear kx ky kr HZwz HBwz HX
  have hS : ∀ W, Calls Tryd.prog 150 #[.agg (c8 (dn p)), .agg (c8 (dn (m + p)))] W fun e w' => e = .returned (.int .i64 (-1)) ∧ Below W.heap.size W w' := fun W => by
    have := size_calls p (m + p) (by have := HPQ.out; omega) HPQ.out W
    rwa [show sg p (m + p) = -1 by unfold sg; rw [if_neg (by omega), if_pos (by omega)]] at this
  go_upto_region 2 with (first | ((with_reducible refine gate_dst (N := 31) rfl ?_); refine get81 rfl rfl g2 197 (false) (dn p) _ rfl HK.out.1 Tryd.underlying195 rfl (by kernel_rfl) ?_) | ((with_reducible refine gate_dst (N := 33) rfl ?_); refine get81 rfl rfl g3 197 (true) (dn (m + p)) _ rfl HK.out.2.1 Tryd.underlying195 rfl (by kernel_rfl) ?_) | (go_at_call 150; (with_reducible refine (hS _).mono ?_); rintro e w2 ⟨rfl, hb2⟩; have HKM := Aside0.mk (And.intro (blk_below HK.out.1 hb2) (And.intro (blk_below HK.out.2.1 hb2) (And.intro (blk_below HK.out.2.2.1 hb2) (And.intro (blk_below HK.out.2.2.2.1 hb2) (HK.out.2.2.2.2.trans (hb2.mono HK.out.2.2.2.2.size)))))); clear hb2))
  clear HK cx0 cy0 fx0 fy0
  have HK := HKM
  clear HKM hS
  refine start_ (n := 9) (S := fun w' => w'.heap[g2]? = some (.cells (bg false (dn p)) 197 (0, 0)) ∧ w'.heap[g3]? = some (.cells (bg true (dn (m + p))) 197 (0, 0)) ∧ w'.heap[g5]? = some (.cells (bg false (dn 0)) 197 (0, 0)) ∧ w'.heap[g4]? = some (.cells (zb false) 197 (0, 0)) ∧ Below w.heap.size w w') (ds := [8]) #[false, false, false, false, false, false, false, false, false] (by kernel_rfl) rfl rfl ⟨HK.out.1, HK.out.2.1, HK.out.2.2.1, HK.out.2.2.2.1, HK.out.2.2.2.2.drew⟩ (fun hHeld => ?_)
  refine pure_ (i := 0) (N := some 9) (v := ?_) (a' := ?_) #[true, false, false, false, false, false, false, false, false] rfl rfl (by kernel_rfl) (fun _ _ _ h => h) (Or.inl ⟨by rfl, ?_⟩) ?_ ?_
  rotate_left
  · intro w'
    go_simp
    with_reducible rfl
  rotate_left
  · simp only [Act.put, List.setIfInBounds_toArray, List.set_cons_zero, List.set_cons_succ, i64_w, i32_w]
    rfl
  refine pure_ (i := 2) (N := some 11) (v := ?_) (a' := ?_) #[true, false, true, false, false, false, false, false, false] rfl rfl (by kernel_rfl) (fun _ _ _ h => h) (Or.inl ⟨by rfl, ?_⟩) ?_ ?_
  rotate_left
  · intro w'
    go_simp
    with_reducible rfl
  rotate_left
  · simp only [Act.put, List.setIfInBounds_toArray, List.set_cons_zero, List.set_cons_succ, i64_w, i32_w]
    rfl
  refine pure_ (i := 4) (N := some 13) (v := ?_) (a' := ?_) #[true, false, true, false, true, false, false, false, false] rfl rfl (by kernel_rfl) (fun _ _ _ h => h) (Or.inl ⟨by rfl, ?_⟩) ?_ ?_
  rotate_left
  · intro w'
    go_simp
    with_reducible rfl
  rotate_left
  · simp only [Act.put, List.setIfInBounds_toArray, List.set_cons_zero, List.set_cons_succ, i64_w, i32_w]
    rfl
  refine take_ (i := 1) (N := some 10) (v := ?_) (a' := ?_) #[true, true, true, false, true, false, false, false, false] rfl rfl (by kernel_rfl) (fun _ _ _ h => h) (Or.inl ⟨by rfl, ?_⟩) hHeld ?_ ?_
  rotate_left
  · rintro w' ⟨s0, s1, s2, s3, s4⟩
    have cq : w'.cell? ⟨g3, 0, none⟩ = some (.bool true) := (blk_cell s1 0).trans rfl
    go_simp
    with_reducible rfl
  rotate_left
  · simp only [Act.put, List.setIfInBounds_toArray, List.set_cons_zero, List.set_cons_succ, i64_w, i32_w]
    rfl
  refine take_ (i := 3) (N := some 12) (v := ?_) (a' := ?_) #[true, true, true, true, true, false, false, false, false] rfl rfl (by kernel_rfl) (fun _ _ _ h => h) (Or.inl ⟨by rfl, ?_⟩) hHeld ?_ ?_
  rotate_left
  · rintro w' ⟨s0, s1, s2, s3, s4⟩
    refine get_run (x := Operand.tmp 11) ?_ g3 1 197 (bg true (dn (m + p))) (c8 (dn (m + p))) _ ?_ s1 rfl Tryd.underlying195 rfl ?_
    · rfl
    · rfl
    · kernel_rfl
  rotate_left
  · simp only [Act.put, List.setIfInBounds_toArray, List.set_cons_zero, List.set_cons_succ, i64_w, i32_w]
    rfl
  refine take_ (i := 5) (N := some 14) (v := ?_) (a' := ?_) #[true, true, true, true, true, true, false, false, false] rfl rfl (by kernel_rfl) (fun _ _ _ h => h) (Or.inl ⟨by rfl, ?_⟩) hHeld ?_ ?_
  rotate_left
  · rintro w' ⟨s0, s1, s2, s3, s4⟩
    refine get_run (x := Operand.tmp 13) ?_ g2 1 197 (bg false (dn p)) (c8 (dn p)) _ ?_ s0 rfl Tryd.underlying195 rfl ?_
    · rfl
    · rfl
    · kernel_rfl
  rotate_left
  · simp only [Act.put, List.setIfInBounds_toArray, List.set_cons_zero, List.set_cons_succ, i64_w, i32_w]
    rfl
  refine one_ (i := 6) (N := some 15) #[true, true, true, true, true, true, true, false, false] rfl rfl (by kernel_rfl) (by decide) (fun K hK => ?_)
  refine goes_ Tryd.func151 (by kernel_rfl) rfl #[.agg (c8 (dn (m + p))), .agg (c8 (dn p))] (by rfl) rfl rfl (by simp only [List.map_toArray, List.map_cons, List.map_nil]; rfl) ?_
  with_reducible refine (less_calls m p _).mono ?_
  rintro e w3 ⟨rfl, hb3⟩
  refine ⟨_, rfl, ?_⟩
  refine hK.out _ _ ⟨(blk_below hHeld.1 hb3), (blk_below hHeld.2.1 hb3), (blk_below hHeld.2.2.1 hb3), (blk_below hHeld.2.2.2.1 hb3), (hHeld.2.2.2.2.trans (hb3.mono hHeld.2.2.2.2.size))⟩ (fun hHeld => ?_)
  clear hK K
  refine norm_ (a' := ?_) ?_ ?_
  rotate_left
  · show Act.put _ (some 15) _ = _
    simp only [Act.put, List.setIfInBounds_toArray, List.set_cons_zero, List.set_cons_succ, i64_w, i32_w]
    rfl
  refine one_ (i := 7) (N := some 16) #[true, true, true, true, true, true, true, true, false] rfl rfl (by kernel_rfl) (by decide) (fun K hK => ?_)
  refine value_ (w1 := w3) (v := .agg (bg true (dn m))) (by rfl) rfl (build9 (x := Operand.tmp 10) (y := Operand.tmp 15) rfl true (dn m) rfl rfl) ?_
  refine hK.out _ _ ⟨hHeld.1, hHeld.2.1, hHeld.2.2.1, hHeld.2.2.2.1, hHeld.2.2.2.2⟩ (fun hHeld => ?_)
  clear hK K
  refine norm_ (a' := ?_) ?_ ?_
  rotate_left
  · show Act.put _ (some 16) _ = _
    simp only [Act.put, List.setIfInBounds_toArray, List.set_cons_zero, List.set_cons_succ, i64_w, i32_w]
    rfl
  refine last_ (i := 8) (N := none) #[true, true, true, true, true, true, true, true, true] rfl rfl (by kernel_rfl) (by decide) (fun K hK => ?_)
  refine skip_ (w1 := (w3.setCells g5 0 (bg (true) (dn m)).toList)) (by rfl) rfl (rowput_run rfl g5 0 197 (bg false (dn 0)) _ (bg (true) (dn m)).toList rfl rfl rfl hHeld.2.2.1 (by kernel_rfl) (Nat.le_refl 9) (bg_one _ _) rfl) ?_
  have pf9 := put9_facts (w := w3) g5 197 (bg false (dn 0)) (true) (dn m) hHeld.2.2.1 rfl hHeld.2.2.2.2 HL5.out
  generalize (w3.setCells g5 0 (bg (true) (dn m)).toList) = w9 at pf9 ⊢
  obtain ⟨hk9, hfar9, hb9⟩ := pf9
  refine hK.out _ _ ?_
  clear hK K
  refine done_ (by kernel_rfl) ?_
  have HT := Aside0.mk (And.intro hk9 (And.intro ((hfar9 g4 HD.out.2.2).trans hHeld.2.2.2.1) hb9))
  clear hk9 hfar9 hb9 HK
  have hZ : ∀ W, Calls Tryd.prog 132 #[.agg (c8 (dn m))] W fun e w' => e = .returned (.bool z) ∧ Below W.heap.size W w' := fun W => by
    rw [HZ0.out]; exact zero_calls m (by have := HPQ.out; omega) W
  have c5 := (blk_cell HT.out.1 0).trans (bg_neg true (dn m))
  have f5 := blk_frozen HT.out.1 0
  go_upto_region 8 with (first | ((with_reducible refine gate_dst (N := 46) rfl ?_); refine gate_guard (by kernel_rfl) ?_; (try dsimp only); refine get81 rfl rfl g5 197 (true) (dn m) _ rfl HT.out.1 Tryd.underlying195 rfl (by kernel_rfl) ?_) | (go_at_call 132; (with_reducible refine (hZ _).mono ?_); rintro e w6 ⟨rfl, hb6⟩; have HU := Aside0.mk (And.intro (blk_below HT.out.1 hb6) (And.intro (blk_below HT.out.2.1 hb6) (HT.out.2.2.trans (hb6.mono HT.out.2.2.size)))); clear hb6 c5 f5; have c6 := (blk_cell HU.out.1 0).trans (bg_neg true (dn m)); have f6 := blk_frozen HU.out.1 0))
  have HV := HU
  refine name_w (fun W8 hW8 => ?_)
  have h8 : W8.heap[g5]? = some (.cells (bg (!z) (dn m)) 197 (0, 0)) := by rw [hW8]; exact blk_put HV.out.1 0 _ (bg_setneg _ _ _)
  have h8r : W8.heap[g4]? = some (.cells (zb false) 197 (0, 0)) := by rw [hW8]; exact (Below.heap_setCell _ ⟨g5, 0, none⟩ _ g4 HD.out.2.2).trans HV.out.2.1
  have h8b : Below w.heap.size w W8 := by rw [hW8]; exact HV.out.2.2.setCell HL5.out _
  have H8 := Aside0.mk (And.intro h8 (And.intro h8r h8b))
  clear hW8 h8 h8r h8b hZ
  go_wp2_with (first | ((with_reducible refine gate_dst (N := 51) rfl ?_); refine get9 rfl rfl g5 197 (!z) (dn m) _ rfl H8.out.1 Tryd.underlying197 rfl (by kernel_rfl) ?_) | ((with_reducible refine gate_store (t := 197) (p := 4) rfl ?_); refine put9 rfl rfl rfl g4 197 (zb false) (!z) (dn m) rfl rfl H8.out.2.1 (by kernel_rfl) rfl H8.out.2.2 HL4.out ?_; intro wy hz hfar hbz; have HZwy := Aside0.mk hz; have HFwy := Aside0.mk hfar; have HBwy := Aside0.mk hbz; clear hz hfar hbz))
  refine bodyPost_ret (results_single rfl (.cell g4 197 (bg (!z) (dn m)) (0, 0) _ rfl HZwy.out Tryd.underlying197 rfl (by kernel_rfl) .nil)) rfl ?_
  exact ⟨by simp, HBwy.out⟩
end Go.Proofs.YtpihgdehgkclmaaDoor.Big
