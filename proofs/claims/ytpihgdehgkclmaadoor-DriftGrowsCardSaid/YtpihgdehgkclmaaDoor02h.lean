/-
  The reference's numbers of 256 bits, walked: Div.
-/
import Derived.Test.YtpihgdehgkclmaaDoor02g
namespace Go.Proofs.YtpihgdehgkclmaaDoor.Big
open Go.RowKit Go.Proofs.YtpihgdehgkclmaaDoorW.PrintWords Go.Proofs.YtpihgdehgkclmaaDoorW.PrintLast Go.Proofs.YtpihgdehgkclmaaDoorW.PrintMore
set_option linter.unusedVariables false
set_option linter.unusedSimpArgs false
theorem bit_nat (y b : Nat) (hb : b < 32) : y % 4294967296 / 2 ^ b % 2 = y / 2 ^ b % 2 := by
  have h := Nat.div_add_mod y 4294967296
  have e : (4294967296 : Nat) = 2 ^ b * (2 * 2 ^ (31 - b)) := by
    rw [← Nat.pow_succ', ← Nat.pow_add, show b + (31 - b).succ = 32 by omega]
  have h2 : y = y % 4294967296 + 2 ^ b * (2 * 2 ^ (31 - b) * (y / 4294967296)) := by
    rw [← Nat.mul_assoc, ← e]; omega
  generalize y % 4294967296 = r at h2 ⊢
  generalize y / 4294967296 = q at h2
  rw [h2, Nat.add_mul_div_left _ _ (Nat.pow_pos (by decide)), Nat.mul_assoc 2]
  omega
theorem bit_eq (x i : Nat) : ((dn x (i / 32) : Int) / 2 ^ (i % 32)).tmod 2 = ((x / 2 ^ i % 2 : Nat) : Int) := by
  have e1 : ((dn x (i / 32) : Int) / 2 ^ (i % 32)) = ((dn x (i / 32) / 2 ^ (i % 32) : Nat) : Int) := by rw [Int.natCast_ediv]; congr 1
  rw [e1, Int.tmod_eq_emod_of_nonneg (Int.natCast_nonneg _)]
  have e2 : dn x (i / 32) / 2 ^ (i % 32) % 2 = x / 2 ^ i % 2 := by
    unfold dn
    rw [bit_nat _ _ (Nat.mod_lt _ (by decide)), Nat.div_div_eq_div_mul]
    congr 2
    unfold P
    rw [show (4294967296 : Nat) = 2 ^ 32 by decide, ← Nat.pow_mul, ← Nat.pow_add, Nat.div_add_mod]
  rw [← e2, Int.natCast_emod]; rfl
set_option maxHeartbeats 2000000 in
set_option maxRecDepth 100000 in
theorem div_false (x d : Nat) (hx : x < P 8) (hd0 : 0 < d) (hdd : d + d ≤ P 8) (w : World) : Calls Tryd.prog 127 #[.agg (bg false (dn x)), .agg (bg false (dn d))] w fun e w' => e = .returned (.tuple #[.agg (bg false (dn (x / d))), .agg (bg false (dn (x % d)))]) ∧ Below w.heap.size w w' := by
  obtain ⟨w1, hw1⟩ : ∃ w1, w1 = ((((w.alloc (.cells (bg false (dn x)) 197)).alloc (.cells (bg false (dn d)) 197)).alloc (.cells (zb false) 197)).alloc (.cells (zb false) 197)) := ⟨_, rfl⟩
  have k2 : w1.heap[w.heap.size]? = some (.cells (bg false (dn x)) 197 (0, 0)) := by rw [hw1]; exact blk_alloc (blk_alloc (blk_alloc (heap_alloc_new w _) _) _) _
  have k3 : w1.heap[w.heap.size + 1]? = some (.cells (bg false (dn d)) 197 (0, 0)) := by rw [hw1]; exact blk_alloc (blk_alloc (new1 w _ _) _) _
  have k4 : w1.heap[w.heap.size + 1 + 1]? = some (.cells (zb false) 197 (0, 0)) := by rw [hw1]; exact blk_alloc (new2 w _ _ _) _
  have k5 : w1.heap[w.heap.size + 1 + 1 + 1]? = some (.cells (zb false) 197 (0, 0)) := by
    rw [hw1]
    have := heap_alloc_new (((w.alloc (.cells (bg false (dn x)) 197)).alloc (.cells (bg false (dn d)) 197)).alloc (.cells (zb false) 197)) (.cells (zb false) 197)
    simpa using this
  have hb1 : Below w.heap.size w w1 := by rw [hw1]; exact ((((Below.refl _ w).alloc (Nat.le_refl _) _).alloc (by simp) _).alloc (by simp; omega) _).alloc (by simp; omega) _
  have hn1 : w1.heap.size = w.heap.size + 1 + 1 + 1 + 1 := by rw [hw1]; simp
  obtain ⟨g2, hg2⟩ : ∃ g, g = w.heap.size := ⟨_, rfl⟩
  obtain ⟨g3, hg3⟩ : ∃ g, g = w.heap.size + 1 := ⟨_, rfl⟩
  obtain ⟨g4, hg4⟩ : ∃ g, g = w.heap.size + 1 + 1 := ⟨_, rfl⟩
  obtain ⟨g5, hg5⟩ : ∃ g, g = w.heap.size + 1 + 1 + 1 := ⟨_, rfl⟩
  obtain ⟨g6, hg6⟩ : ∃ g, g = w1.heap.size := ⟨_, rfl⟩
  obtain ⟨g7, hg7⟩ : ∃ g, g = w1.heap.size + 1 := ⟨_, rfl⟩
  rw [← hg2] at k2
  rw [← hg3] at k3
  rw [← hg4] at k4
  rw [← hg5] at k5
  have HX := Aside0.mk (And.intro k2 (And.intro k3 (And.intro k4 (And.intro k5 hb1))))
  have HL4 := Lib.hid (show w.heap.size ≤ g4 by omega)
  have HL5 := Lib.hid (show w.heap.size ≤ g5 by omega)
  have HL6 := Lib.hid (show w.heap.size ≤ g6 by omega)
  have HL7 := Lib.hid (show w.heap.size ≤ g7 by omega)
  have HD6 := Lib.hid (show g2 ≠ g6 ∧ g3 ≠ g6 ∧ g4 ≠ g6 ∧ g5 ≠ g6 ∧ g7 ≠ g6 by omega)
  have HD7 := Lib.hid (show g2 ≠ g7 ∧ g3 ≠ g7 ∧ g4 ≠ g7 ∧ g5 ≠ g7 ∧ g6 ≠ g7 by omega)
  have HD5 := Lib.hid (show g4 ≠ g5 ∧ g5 ≠ g4 by omega)
  have HW := Lib.hid hw1
  have H2 := Lib.hid hg2
  have H3 := Lib.hid hg3
  have H4 := Lib.hid hg4
  have H5 := Lib.hid hg5
  have H6 := Lib.hid hg6
  have H7 := Lib.hid hg7
  have HP := Lib.hid (And.intro hx (And.intro hd0 hdd))
  clear hw1 hg2 hg3 hg4 hg5 hg6 hg7 k2 k3 k4 k5 hb1 hn1 hx hd0 hdd
  go_enter Tryd.func127, Tryd.ntmps127
  go_upto_region 1 with (fail)
  rw [← HW.out, ← H5.out, ← H4.out, ← H3.out, ← H2.out]
  go_wp2_with (first | ((with_reducible refine gate_store (t := 197) (p := 6) rfl ?_); refine put9z rfl rfl rfl w1.heap.size 197 (zb false) (false) rfl rfl (blk_alloc (heap_alloc_new w1 _) _) (by kernel_rfl) rfl ((HX.out.2.2.2.2.alloc HX.out.2.2.2.2.size _).alloc (by have := HX.out.2.2.2.2.size; simp; omega) _) HX.out.2.2.2.2.size ?_; intro wz hz hfar hbz; rw [← H6.out] at hz hfar; have HZwz := Aside0.mk hz; have HFwz := Aside0.mk hfar; have HBwz := Aside0.mk hbz; clear hz hfar hbz) | ((with_reducible refine gate_store (t := 197) (p := 7) rfl ?_); refine put9z rfl rfl rfl (w1.heap.size + 1) 197 (zb false) (false) rfl rfl ((HFwz.out (w1.heap.size + 1) (by have := H6.out; omega)).trans (new1 w1 _ _)) (by kernel_rfl) rfl HBwz.out (by have := HX.out.2.2.2.2.size; omega) ?_; intro wy hz hfar hbz; rw [← H7.out] at hz hfar; have HZwy := Aside0.mk hz; have HFwy := Aside0.mk hfar; have HBwy := Aside0.mk hbz; clear hz hfar hbz))
  rw [← H7.out, ← H6.out]
  have HK : Aside0 (wy.heap[g6]? = some (.cells (bg false (dn (0))) 197 (0, 0)) ∧ wy.heap[g7]? = some (.cells (bg false (dn (0))) 197 (0, 0)) ∧ wy.heap[g2]? = some (.cells (bg false (dn x)) 197 (0, 0)) ∧ wy.heap[g3]? = some (.cells (bg false (dn d)) 197 (0, 0)) ∧ wy.heap[g4]? = some (.cells (zb false) 197 (0, 0)) ∧ wy.heap[g5]? = some (.cells (zb false) 197 (0, 0)) ∧ Below w.heap.size w wy) := ⟨(HFwy.out g6 HD7.out.2.2.2.2).trans HZwz.out, HZwy.out, ((HFwy.out g2 HD7.out.1).trans ((HFwz.out g2 HD6.out.1).trans (blk_alloc (blk_alloc HX.out.1 _) _))), ((HFwy.out g3 HD7.out.2.1).trans ((HFwz.out g3 HD6.out.2.1).trans (blk_alloc (blk_alloc HX.out.2.1 _) _))), ((HFwy.out g4 HD7.out.2.2.1).trans ((HFwz.out g4 HD6.out.2.2.1).trans (blk_alloc (blk_alloc HX.out.2.2.1 _) _))), ((HFwy.out g5 HD7.out.2.2.2.1).trans ((HFwz.out g5 HD6.out.2.2.2.1).trans (blk_alloc (blk_alloc HX.out.2.2.2.1 _) _))), HBwy.out⟩
  clear HZwz HBwz HFwz HZwy HBwy HFwy HX
  go_loopw [8] (fun v8 wr => ∃ (m : Nat) (q : Int), Aside0 (m ≤ 256 ∧ q = (m : Int) - 1 ∧ wr.heap[g6]? = some (.cells (bg false (dn (x / 2 ^ m / d))) 197 (0, 0)) ∧ wr.heap[g7]? = some (.cells (bg false (dn (x / 2 ^ m % d))) 197 (0, 0)) ∧ wr.heap[g2]? = some (.cells (bg false (dn x)) 197 (0, 0)) ∧ wr.heap[g3]? = some (.cells (bg false (dn d)) 197 (0, 0)) ∧ wr.heap[g4]? = some (.cells (zb false) 197 (0, 0)) ∧ wr.heap[g5]? = some (.cells (zb false) 197 (0, 0)) ∧ Below w.heap.size w wr) ∧ v8 = .int .i64 q) (fun v8 _ => (intOf v8 + 1).toNat)
  case atStart => exact ⟨256, 255, ⟨by omega, by omega, by
      have e : x / 2 ^ 256 = 0 := Nat.div_eq_of_lt (by have := HP.out.1; rwa [show (2 : Nat) ^ 256 = P 8 by decide])
      rw [e, Nat.zero_div, Nat.zero_mod]; exact HK.out⟩, rfl⟩
  case round =>
    obtain ⟨m, q, HI, rfl⟩ := hrel
    clear HK
    cases m with
    | succ i =>
      obtain rfl : q = (i : Int) := by have := HI.out.2.1; omega
      have h0 : (0 : Int) ≤ i := by omega
      have hi : i < 256 := by have := HI.out.1; omega
      have HJ := Aside0.mk HI.out.2.2
      clear HI
      obtain ⟨a, ha⟩ : ∃ a, a = i / 32 := ⟨_, rfl⟩
      obtain ⟨b, hb⟩ : ∃ b, b = i % 32 := ⟨_, rfl⟩
      have hq32 : (i : Int) / 32 = (a : Int) := by omega
      have hr32 : (i : Int) % 32 = (b : Int) := by omega
      have ha8 : a < 8 := by omega
      have hai : (a : Int) < 8 := by omega
      have ha0 : (0 : Int) ≤ a := by omega
      have hb32 : (b : Int) < 32 := by omega
      have hb0 : (0 : Int) ≤ b := by omega
      have cx : wr.cell? ⟨g2, 1 + a, none⟩ = some (.int .u64 (dn x a : Nat)) := by rw [blk_cell HJ.out.2.2.1 (1 + a), bg_get _ _ ha8]
      have fx := blk_frozen HJ.out.2.2.1 (1 + a)
      have HAB := Lib.hid (And.intro ha hb)
      clear ha hb
      obtain ⟨bt, hbt⟩ : ∃ n : Nat, n = x / 2 ^ i % 2 := ⟨_, rfl⟩
      obtain ⟨q0, hq0⟩ : ∃ n : Nat, n = x / 2 ^ (i + 1) / d := ⟨_, rfl⟩
      obtain ⟨r0, hr0⟩ : ∃ n : Nat, n = x / 2 ^ (i + 1) % d := ⟨_, rfl⟩
      obtain ⟨rr, hrr⟩ : ∃ n : Nat, n = r0 + r0 + bt := ⟨_, rfl⟩
      have hJo := HJ.out
      rw [← hq0, ← hr0] at hJo
      have HK := Aside0.mk hJo
      have hbit : ((dn x a : Int) / 2 ^ b).tmod 2 = (bt : Int) := by rw [hbt, HAB.out.1, HAB.out.2]; exact bit_eq x i
      have hdb := div_bit x i d HP.out.2.1
      rw [← hq0, ← hr0, ← hbt] at hdb
      have hbt1 : bt ≤ 1 := by omega
      have hr0d : r0 < d := by rw [hr0]; exact Nat.mod_lt _ HP.out.2.1
      have hrr8 : rr < P 8 := by have := HP.out; omega
      have hT : ∀ W, Calls Tryd.prog 149 #[.agg (c8 (dn r0)), .int .u64 bt] W fun e w' => e = .returned (.agg (c8 (dn rr))) ∧ Below W.heap.size W w' := fun W => by rw [hrr]; exact twice_calls r0 bt hbt1 W
      have hS : ∀ W, Calls Tryd.prog 150 #[.agg (c8 (dn rr)), .agg (c8 (dn d))] W fun e w' => e = .returned (.int .i64 (sg rr d)) ∧ Below W.heap.size W w' := fun W => size_calls rr d hrr8 (by have := HP.out; omega) W
      obtain ⟨sv, hsv⟩ : ∃ v, v = sg rr d := ⟨_, rfl⟩
      rw [← hsv] at hS
      have HR := Lib.hid (And.intro hdb hrr)
      clear hJo HJ hbt hq0 hr0 hdb hrr hrr8 hr0d
      by_cases hge : d ≤ rr
      · have hsg : 0 ≤ sv := by rw [hsv]; unfold sg; split <;> (try split) <;> omega
        obtain ⟨e0, he0⟩ : ∃ n : Nat, rr = n + d := ⟨rr - d, by omega⟩
        have hL : ∀ W, Calls Tryd.prog 151 #[.agg (c8 (dn rr)), .agg (c8 (dn d))] W fun e w' => e = .returned (.agg (c8 (dn e0))) ∧ Below W.heap.size W w' := fun W => by rw [he0]; exact less_calls e0 d W
        have hQ : ∀ W, Calls Tryd.prog 149 #[.agg (c8 (dn q0)), .int .u64 1] W fun e w' => e = .returned (.agg (c8 (dn (q0 + q0 + 1)))) ∧ Below W.heap.size W w' := fun W => twice_calls q0 1 (Nat.le_refl 1) W
        have HE := Lib.hid (And.intro he0 hge)
        clear he0 hge hsv
        go_upto_region 7 with (first | ((with_reducible refine gate_dst (N := 27) rfl ?_); refine get81 rfl rfl g7 197 (false) (dn r0) _ rfl HK.out.2.1 Tryd.underlying195 rfl (by kernel_rfl) ?_) | (go_at_call 149; (with_reducible refine (hT _).mono ?_); rintro e w2 ⟨rfl, hb2⟩; have HA1 := Aside0.mk (And.intro (blk_below HK.out.1 hb2) (And.intro (blk_below HK.out.2.1 hb2) (And.intro (blk_below HK.out.2.2.1 hb2) (And.intro (blk_below HK.out.2.2.2.1 hb2) (And.intro (blk_below HK.out.2.2.2.2.1 hb2) (And.intro (blk_below HK.out.2.2.2.2.2.1 hb2) (HK.out.2.2.2.2.2.2.trans (hb2.mono HK.out.2.2.2.2.2.2.size)))))))); clear hb2) | ((with_reducible refine gate_store (t := 195) (p := 30) rfl ?_); refine put81 rfl rfl rfl g7 197 (false) (dn r0) (dn rr) rfl rfl HA1.out.2.1 (by kernel_rfl) HA1.out.2.2.2.2.2.2 HL7.out ?_; intro wt hz hfar hbz; have HZwt := Aside0.mk hz; have HFwt := Aside0.mk hfar; have HBwt := Aside0.mk hbz; clear hz hfar hbz))
        have HA2 := Aside0.mk (And.intro ((HFwt.out g6 HD7.out.2.2.2.2).trans HA1.out.1) (And.intro HZwt.out (And.intro ((HFwt.out g2 HD7.out.1).trans HA1.out.2.2.1) (And.intro ((HFwt.out g3 HD7.out.2.1).trans HA1.out.2.2.2.1) (And.intro ((HFwt.out g4 HD7.out.2.2.1).trans HA1.out.2.2.2.2.1) (And.intro ((HFwt.out g5 HD7.out.2.2.2.1).trans HA1.out.2.2.2.2.2.1) HBwt.out))))))
        clear HK HA1 HZwt HFwt HBwt cx fx hbit hT
        have HK := HA2
        clear HA2
        go_upto_region 9 with (first | ((with_reducible refine gate_dst (N := 32) rfl ?_); refine get81 rfl rfl g7 197 (false) (dn rr) _ rfl HK.out.2.1 Tryd.underlying195 rfl (by kernel_rfl) ?_) | ((with_reducible refine gate_dst (N := 34) rfl ?_); refine get81 rfl rfl g3 197 (false) (dn d) _ rfl HK.out.2.2.2.1 Tryd.underlying195 rfl (by kernel_rfl) ?_) | (go_at_call 150; (with_reducible refine (hS _).mono ?_); rintro e w2 ⟨rfl, hb2⟩; have HA3 := Aside0.mk (And.intro (blk_below HK.out.1 hb2) (And.intro (blk_below HK.out.2.1 hb2) (And.intro (blk_below HK.out.2.2.1 hb2) (And.intro (blk_below HK.out.2.2.2.1 hb2) (And.intro (blk_below HK.out.2.2.2.2.1 hb2) (And.intro (blk_below HK.out.2.2.2.2.2.1 hb2) (HK.out.2.2.2.2.2.2.trans (hb2.mono HK.out.2.2.2.2.2.2.size)))))))); clear hb2))
        clear HK hS
        have HK := HA3
        clear HA3
        go_upto_region 10 with (first | ((with_reducible refine gate_dst (N := 38) rfl ?_); refine get81 rfl rfl g7 197 (false) (dn rr) _ rfl HK.out.2.1 Tryd.underlying195 rfl (by kernel_rfl) ?_) | ((with_reducible refine gate_dst (N := 40) rfl ?_); refine get81 rfl rfl g3 197 (false) (dn d) _ rfl HK.out.2.2.2.1 Tryd.underlying195 rfl (by kernel_rfl) ?_) | (go_at_call 151; (with_reducible refine (hL _).mono ?_); rintro e w2 ⟨rfl, hb2⟩; have HA1 := Aside0.mk (And.intro (blk_below HK.out.1 hb2) (And.intro (blk_below HK.out.2.1 hb2) (And.intro (blk_below HK.out.2.2.1 hb2) (And.intro (blk_below HK.out.2.2.2.1 hb2) (And.intro (blk_below HK.out.2.2.2.2.1 hb2) (And.intro (blk_below HK.out.2.2.2.2.2.1 hb2) (HK.out.2.2.2.2.2.2.trans (hb2.mono HK.out.2.2.2.2.2.2.size)))))))); clear hb2) | ((with_reducible refine gate_store (t := 195) (p := 42) rfl ?_); refine put81 rfl rfl rfl g7 197 (false) (dn rr) (dn e0) rfl rfl HA1.out.2.1 (by kernel_rfl) HA1.out.2.2.2.2.2.2 HL7.out ?_; intro wt hz hfar hbz; have HZwt := Aside0.mk hz; have HFwt := Aside0.mk hfar; have HBwt := Aside0.mk hbz; clear hz hfar hbz))
        have HA2 := Aside0.mk (And.intro ((HFwt.out g6 HD7.out.2.2.2.2).trans HA1.out.1) (And.intro HZwt.out (And.intro ((HFwt.out g2 HD7.out.1).trans HA1.out.2.2.1) (And.intro ((HFwt.out g3 HD7.out.2.1).trans HA1.out.2.2.2.1) (And.intro ((HFwt.out g4 HD7.out.2.2.1).trans HA1.out.2.2.2.2.1) (And.intro ((HFwt.out g5 HD7.out.2.2.2.1).trans HA1.out.2.2.2.2.2.1) HBwt.out))))))
        clear HK HA1 HZwt HFwt HBwt hL
        have HK := HA2
        clear HA2
        go_wp2_with (first | ((with_reducible refine gate_dst (N := 44) rfl ?_); refine get81 rfl rfl g6 197 (false) (dn q0) _ rfl HK.out.1 Tryd.underlying195 rfl (by kernel_rfl) ?_) | (go_at_call 149; (with_reducible refine (hQ _).mono ?_); rintro e w2 ⟨rfl, hb2⟩; have HA1 := Aside0.mk (And.intro (blk_below HK.out.1 hb2) (And.intro (blk_below HK.out.2.1 hb2) (And.intro (blk_below HK.out.2.2.1 hb2) (And.intro (blk_below HK.out.2.2.2.1 hb2) (And.intro (blk_below HK.out.2.2.2.2.1 hb2) (And.intro (blk_below HK.out.2.2.2.2.2.1 hb2) (HK.out.2.2.2.2.2.2.trans (hb2.mono HK.out.2.2.2.2.2.2.size)))))))); clear hb2) | ((with_reducible refine gate_store (t := 195) (p := 47) rfl ?_); refine put81 rfl rfl rfl g6 197 (false) (dn q0) (dn (q0 + q0 + 1)) rfl rfl HA1.out.1 (by kernel_rfl) HA1.out.2.2.2.2.2.2 HL6.out ?_; intro wt hz hfar hbz; have HZwt := Aside0.mk hz; have HFwt := Aside0.mk hfar; have HBwt := Aside0.mk hbz; clear hz hfar hbz))
        go_roundw
        case rel =>
          have HA2 := Aside0.mk (And.intro HZwt.out (And.intro ((HFwt.out g7 HD6.out.2.2.2.2).trans HA1.out.2.1) (And.intro ((HFwt.out g2 HD6.out.1).trans HA1.out.2.2.1) (And.intro ((HFwt.out g3 HD6.out.2.1).trans HA1.out.2.2.2.1) (And.intro ((HFwt.out g4 HD6.out.2.2.1).trans HA1.out.2.2.2.2.1) (And.intro ((HFwt.out g5 HD6.out.2.2.2.1).trans HA1.out.2.2.2.2.2.1) HBwt.out))))))
          refine ⟨i, _, ⟨by omega, rfl, ?_⟩, rfl⟩
          have h1 := HR.out
          have h2 := HE.out
          rw [if_pos (by omega), if_pos (by omega)] at h1
          rw [show x / 2 ^ i / d = q0 + q0 + 1 by omega, show x / 2 ^ i % d = e0 by omega]
          exact HA2.out
        case measure => simp [intOf]
      · have hsg : ¬ 0 ≤ sv := by rw [hsv]; unfold sg; split <;> (try split) <;> omega
        have hsg' : sv < 0 := by omega
        have hQ : ∀ W, Calls Tryd.prog 149 #[.agg (c8 (dn q0)), .int .u64 0] W fun e w' => e = .returned (.agg (c8 (dn (2 * q0)))) ∧ Below W.heap.size W w' := fun W => twice0 q0 W
        have HE := Lib.hid hge
        clear hge hsv
        go_upto_region 7 with (first | ((with_reducible refine gate_dst (N := 27) rfl ?_); refine get81 rfl rfl g7 197 (false) (dn r0) _ rfl HK.out.2.1 Tryd.underlying195 rfl (by kernel_rfl) ?_) | (go_at_call 149; (with_reducible refine (hT _).mono ?_); rintro e w2 ⟨rfl, hb2⟩; have HA1 := Aside0.mk (And.intro (blk_below HK.out.1 hb2) (And.intro (blk_below HK.out.2.1 hb2) (And.intro (blk_below HK.out.2.2.1 hb2) (And.intro (blk_below HK.out.2.2.2.1 hb2) (And.intro (blk_below HK.out.2.2.2.2.1 hb2) (And.intro (blk_below HK.out.2.2.2.2.2.1 hb2) (HK.out.2.2.2.2.2.2.trans (hb2.mono HK.out.2.2.2.2.2.2.size)))))))); clear hb2) | ((with_reducible refine gate_store (t := 195) (p := 30) rfl ?_); refine put81 rfl rfl rfl g7 197 (false) (dn r0) (dn rr) rfl rfl HA1.out.2.1 (by kernel_rfl) HA1.out.2.2.2.2.2.2 HL7.out ?_; intro wt hz hfar hbz; have HZwt := Aside0.mk hz; have HFwt := Aside0.mk hfar; have HBwt := Aside0.mk hbz; clear hz hfar hbz))
        have HA2 := Aside0.mk (And.intro ((HFwt.out g6 HD7.out.2.2.2.2).trans HA1.out.1) (And.intro HZwt.out (And.intro ((HFwt.out g2 HD7.out.1).trans HA1.out.2.2.1) (And.intro ((HFwt.out g3 HD7.out.2.1).trans HA1.out.2.2.2.1) (And.intro ((HFwt.out g4 HD7.out.2.2.1).trans HA1.out.2.2.2.2.1) (And.intro ((HFwt.out g5 HD7.out.2.2.2.1).trans HA1.out.2.2.2.2.2.1) HBwt.out))))))
        clear HK HA1 HZwt HFwt HBwt cx fx hbit hT
        have HK := HA2
        clear HA2
        go_upto_region 11 with (first | ((with_reducible refine gate_dst (N := 32) rfl ?_); refine get81 rfl rfl g7 197 (false) (dn rr) _ rfl HK.out.2.1 Tryd.underlying195 rfl (by kernel_rfl) ?_) | ((with_reducible refine gate_dst (N := 34) rfl ?_); refine get81 rfl rfl g3 197 (false) (dn d) _ rfl HK.out.2.2.2.1 Tryd.underlying195 rfl (by kernel_rfl) ?_) | (go_at_call 150; (with_reducible refine (hS _).mono ?_); rintro e w2 ⟨rfl, hb2⟩; have HA3 := Aside0.mk (And.intro (blk_below HK.out.1 hb2) (And.intro (blk_below HK.out.2.1 hb2) (And.intro (blk_below HK.out.2.2.1 hb2) (And.intro (blk_below HK.out.2.2.2.1 hb2) (And.intro (blk_below HK.out.2.2.2.2.1 hb2) (And.intro (blk_below HK.out.2.2.2.2.2.1 hb2) (HK.out.2.2.2.2.2.2.trans (hb2.mono HK.out.2.2.2.2.2.2.size)))))))); clear hb2))
        clear HK hS
        have HK := HA3
        clear HA3
        go_wp2_with (first | ((with_reducible refine gate_dst (N := 44) rfl ?_); refine get81 rfl rfl g6 197 (false) (dn q0) _ rfl HK.out.1 Tryd.underlying195 rfl (by kernel_rfl) ?_) | (go_at_call 149; (with_reducible refine (hQ _).mono ?_); rintro e w2 ⟨rfl, hb2⟩; have HA1 := Aside0.mk (And.intro (blk_below HK.out.1 hb2) (And.intro (blk_below HK.out.2.1 hb2) (And.intro (blk_below HK.out.2.2.1 hb2) (And.intro (blk_below HK.out.2.2.2.1 hb2) (And.intro (blk_below HK.out.2.2.2.2.1 hb2) (And.intro (blk_below HK.out.2.2.2.2.2.1 hb2) (HK.out.2.2.2.2.2.2.trans (hb2.mono HK.out.2.2.2.2.2.2.size)))))))); clear hb2) | ((with_reducible refine gate_store (t := 195) (p := 47) rfl ?_); refine put81 rfl rfl rfl g6 197 (false) (dn q0) (dn (2 * q0)) rfl rfl HA1.out.1 (by kernel_rfl) HA1.out.2.2.2.2.2.2 HL6.out ?_; intro wt hz hfar hbz; have HZwt := Aside0.mk hz; have HFwt := Aside0.mk hfar; have HBwt := Aside0.mk hbz; clear hz hfar hbz))
        go_roundw
        case rel =>
          have HA2 := Aside0.mk (And.intro HZwt.out (And.intro ((HFwt.out g7 HD6.out.2.2.2.2).trans HA1.out.2.1) (And.intro ((HFwt.out g2 HD6.out.1).trans HA1.out.2.2.1) (And.intro ((HFwt.out g3 HD6.out.2.1).trans HA1.out.2.2.2.1) (And.intro ((HFwt.out g4 HD6.out.2.2.1).trans HA1.out.2.2.2.2.1) (And.intro ((HFwt.out g5 HD6.out.2.2.2.1).trans HA1.out.2.2.2.2.2.1) HBwt.out))))))
          refine ⟨i, _, ⟨by omega, rfl, ?_⟩, rfl⟩
          have h1 := HR.out
          have h2 := HE.out
          rw [if_neg (by omega), if_neg (by omega)] at h1
          rw [show x / 2 ^ i / d = 2 * q0 by omega, show x / 2 ^ i % d = rr by omega]
          exact HA2.out
        case measure => simp [intOf]
    | zero =>
      obtain rfl : q = -1 := by have := HI.out.2.1; omega
      have hIo := HI.out.2.2
      simp only [Nat.pow_zero, Nat.div_one] at hIo
      have HT := Aside0.mk hIo
      clear hIo HI
      have cn := (blk_cell HT.out.2.2.1 0).trans (bg_neg _ _)
      have fn := blk_frozen HT.out.2.2.1 0
      go_upto_region 17 with (fail)
      clear cn fn
      refine start_ (n := 4) (S := fun w' => w'.heap[g6]? = some (.cells (bg false (dn (x / d))) 197 (0, 0)) ∧ w'.heap[g7]? = some (.cells (bg false (dn (x % d))) 197 (0, 0)) ∧ w'.heap[g5]? = some (.cells (zb false) 197 (0, 0)) ∧ Below w.heap.size w w') (ds := [3]) #[false, false, false, false] (by kernel_rfl) rfl rfl ⟨HT.out.1, HT.out.2.1, HT.out.2.2.2.2.2.1, HT.out.2.2.2.2.2.2.drew⟩ (fun hHeld => ?_)
      refine take_ (i := 0) (N := some 68) (v := ?_) (a' := ?_) #[true, false, false, false] rfl rfl (by kernel_rfl) (fun _ _ _ h => h) (Or.inl ⟨by rfl, ?_⟩) hHeld ?_ ?_
      rotate_left
      · rintro w' ⟨s0, s1, s2, s3⟩
        refine get_run (x := Operand.tmp 6) ?_ g6 0 197 (bg false (dn (x / d))) (bg false (dn (x / d))) _ ?_ s0 rfl Tryd.underlying197 rfl ?_
        · rfl
        · rfl
        · kernel_rfl
      rotate_left
      · simp only [Act.put, List.setIfInBounds_toArray, List.set_cons_zero, List.set_cons_succ, i64_w, i32_w]
        rfl
      refine take_ (i := 1) (N := some 69) (v := ?_) (a' := ?_) #[true, true, false, false] rfl rfl (by kernel_rfl) (fun _ _ _ h => h) (Or.inl ⟨by rfl, ?_⟩) hHeld ?_ ?_
      rotate_left
      · rintro w' ⟨s0, s1, s2, s3⟩
        refine get_run (x := Operand.tmp 7) ?_ g7 0 197 (bg false (dn (x % d))) (bg false (dn (x % d))) _ ?_ s1 rfl Tryd.underlying197 rfl ?_
        · rfl
        · rfl
        · kernel_rfl
      rotate_left
      · simp only [Act.put, List.setIfInBounds_toArray, List.set_cons_zero, List.set_cons_succ, i64_w, i32_w]
        rfl
      refine one_ (i := 2) (N := none) #[true, true, true, false] rfl rfl (by kernel_rfl) (by decide) (fun K hK => ?_)
      refine skip_ (w1 := (wr.drew.setCells g4 0 (bg (false) (dn (x / d))).toList)) (by rfl) rfl (rowput_run (w := wr.drew) rfl g4 0 197 (zb false) _ (bg (false) (dn (x / d))).toList rfl rfl rfl HT.out.2.2.2.2.1 (by kernel_rfl) (Nat.le_refl 9) (bg_one _ _) rfl) ?_
      have pf9 := put9_facts (w := wr.drew) g4 197 (zb false) (false) (dn (x / d)) HT.out.2.2.2.2.1 rfl HT.out.2.2.2.2.2.2.drew HL4.out
      generalize (wr.drew.setCells g4 0 (bg (false) (dn (x / d))).toList) = w8 at pf9 ⊢
      obtain ⟨hk8, hfar8, hb8⟩ := pf9
      refine hK.out _ _ ⟨((hfar8 g6 (by have := HD6.out; omega)).trans hHeld.1), ((hfar8 g7 (by have := HD7.out; omega)).trans hHeld.2.1), ((hfar8 g5 HD5.out.2).trans hHeld.2.2.1), hb8⟩ (fun hHeld => ?_)
      clear hK K
      refine last_ (i := 3) (N := none) #[true, true, true, true] rfl rfl (by kernel_rfl) (by decide) (fun K hK => ?_)
      refine skip_ (w1 := (w8.setCells g5 0 (bg (false) (dn (x % d))).toList)) (by rfl) rfl (rowput_run (w := w8) rfl g5 0 197 (zb false) _ (bg (false) (dn (x % d))).toList rfl rfl rfl hHeld.2.2.1 (by kernel_rfl) (Nat.le_refl 9) (bg_one _ _) rfl) ?_
      have pf9 := put9_facts (w := w8) g5 197 (zb false) (false) (dn (x % d)) hHeld.2.2.1 rfl hHeld.2.2.2 HL5.out
      generalize (w8.setCells g5 0 (bg (false) (dn (x % d))).toList) = w9 at pf9 ⊢
      obtain ⟨hk9, hfar9, hb9⟩ := pf9
      refine hK.out _ _ ?_
      clear hK K
      refine done_ (by kernel_rfl) ?_
      go_wp2_with (fail)
      refine bodyPost_ret (results_list (rs := [.cell 4 197, .cell 5 197]) rfl (by simp) (.cell g4 197 _ (0, 0) _ rfl ((hfar9 g4 HD5.out.1).trans hk8) Tryd.underlying197 rfl (by kernel_rfl) (.cell g5 197 _ (0, 0) _ rfl hk9 Tryd.underlying197 rfl (by kernel_rfl) .nil))) rfl ?_
      exact ⟨rfl, hb9⟩
end Go.Proofs.YtpihgdehgkclmaaDoor.Big
