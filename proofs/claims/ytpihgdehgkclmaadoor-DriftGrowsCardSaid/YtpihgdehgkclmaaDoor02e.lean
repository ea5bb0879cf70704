/-
  The reference's numbers of 256 bits, walked: Power, To, Number.
-/
import Derived.Test.YtpihgdehgkclmaaDoor02d
namespace Go.Proofs.YtpihgdehgkclmaaDoor.Big
open Go.RowKit Go.Proofs.YtpihgdehgkclmaaDoorW.PrintWords Go.Proofs.YtpihgdehgkclmaaDoorW.PrintLast Go.Proofs.YtpihgdehgkclmaaDoorW.PrintMore
set_option linter.unusedVariables false
set_option linter.unusedSimpArgs false
section
variable {ops : Array Oper} {rest : List Oper} {o : Oper} {a : Act} {w : World} {Q : Exit → Act → World → Prop}
theorem build8_event (hgd : o.guard = none) {y : Operand} (ho : o.op = .build 197 #[(1, y)]) (f : Nat → Nat) (hy : a.eval y = .agg (c8 f)) (h : wpList Tryd.prog ops Q rest (a.put o.dst (.agg (bg false f))) w) : wpList Tryd.prog ops Q (o :: rest) a w := by
  refine wpList_plain hgd fun K hK => ?_
  unfold Oper.wp
  rw [build8 ho f hy]
  exact hK _ _ h
end
theorem twice0 (a : Nat) (w : World) : Calls Tryd.prog 149 #[.agg (c8 (dn a)), .int .u64 0] w fun e w' => e = .returned (.agg (c8 (dn (2 * a)))) ∧ Below w.heap.size w w' := by
  have h := twice_calls a 0 (Nat.zero_le 1) w
  rw [show a + a + 0 = 2 * a by omega] at h
  exact h
set_option maxHeartbeats 2000000 in
set_option maxRecDepth 100000 in
theorem power_calls (n : Nat) (hn : n ≤ 200) (w : World) : Calls Tryd.prog 130 #[.int .i64 n] w fun e w' => e = .returned (.agg (bg false (dn (2 ^ n)))) ∧ Below w.heap.size w w' := by
  obtain ⟨w1, hw1⟩ : ∃ w1, w1 = w.alloc (.cells (zb false) 197) := ⟨_, rfl⟩
  have k1 : w1.heap[w.heap.size]? = some (.cells (zb false) 197 (0, 0)) := by rw [hw1]; exact heap_alloc_new w _
  have hb1 : Below w.heap.size w w1 := by rw [hw1]; exact (Below.refl _ w).alloc (Nat.le_refl _) _
  obtain ⟨g2, hg2⟩ : ∃ g, g = w.heap.size := ⟨_, rfl⟩
  rw [← hg2] at k1
  have HX := Aside0.mk (And.intro k1 hb1)
  have HL2 := Lib.hid (show w.heap.size ≤ g2 by omega)
  have HW := Lib.hid hw1
  have H2 := Lib.hid hg2
  have HN := Lib.hid hn
  clear hw1 k1 hb1 hg2 hn
  go_enter Tryd.func130, Tryd.ntmps130
  go_upto_region 1 with (fail)
  rw [← HW.out, ← H2.out]
  go_wp2_with (first | (go_at_call 154; (with_reducible refine (one_calls _).mono ?_); rintro e w2 ⟨rfl, hb2⟩; have HY := Aside0.mk (And.intro (blk_below HX.out.1 hb2) (HX.out.2.trans (hb2.mono HX.out.2.size))); clear hb2; obtain ⟨g3, hg3⟩ : ∃ g, g = w2.heap.size := ⟨_, rfl⟩; have H3 := Lib.hid hg3; clear hg3) | ((with_reducible refine gate_dst (N := 6) rfl ?_); refine build8_event rfl rfl (dn 1) rfl ?_) | ((with_reducible refine gate_store (t := 197) (p := 3) rfl ?_); refine put9 rfl rfl rfl w2.heap.size 197 (zb false) (false) (dn 1) rfl rfl (heap_alloc_new w2 _) (by kernel_rfl) rfl (HY.out.2.alloc HY.out.2.size _) HY.out.2.size ?_; intro wz hz hfar hbz; rw [← H3.out] at hz hfar; have HZwz := Aside0.mk hz; have HFwz := Aside0.mk hfar; have HBwz := Aside0.mk hbz; clear hz hfar hbz))
  rw [← H3.out]
  have hg23 : g2 ≠ g3 := by have := (Array.getElem?_eq_some_iff.1 HY.out.1).1; have := H3.out; omega
  have HK : Aside0 (wz.heap[g3]? = some (.cells (bg false (dn (2 ^ 0))) 197 (0, 0)) ∧ wz.heap[g2]? = some (.cells (zb false) 197 (0, 0)) ∧ Below w.heap.size w wz) := ⟨HZwz.out, (HFwz.out g2 hg23).trans (blk_alloc HY.out.1 _), HBwz.out⟩
  have HD := Lib.hid hg23
  have HL3 := Lib.hid (show w.heap.size ≤ g3 by have := H3.out; have := HY.out.2.size; omega)
  clear hg23 HZwz HFwz HBwz HX HY
  go_loopw [4] (fun v4 wr => ∃ (i : Nat), Aside0 (i ≤ n ∧ wr.heap[g3]? = some (.cells (bg false (dn (2 ^ i))) 197 (0, 0)) ∧ wr.heap[g2]? = some (.cells (zb false) 197 (0, 0)) ∧ Below w.heap.size w wr) ∧ v4 = .int .i64 i) (fun v4 _ => (n - intOf v4).toNat)
  case atStart => exact ⟨0, ⟨Nat.zero_le _, HK.out⟩, rfl⟩
  case round =>
    obtain ⟨i, HI, rfl⟩ := hrel
    clear HK
    have hn2 : (n : Int) ≤ 200 := by have := HN.out; omega
    by_cases hi : i < n
    · have hlt : (i : Int) < n := by omega
      have h0 : (0 : Int) ≤ i := by omega
      go_wp2_with (first | ((with_reducible refine gate_dst (N := 13) rfl ?_); refine get81 rfl rfl g3 197 (false) (dn (2 ^ i)) _ rfl HI.out.2.1 Tryd.underlying195 rfl (by kernel_rfl) ?_) | (go_at_call 149; (with_reducible refine (twice0 (2 ^ i) _).mono ?_); rintro e w5 ⟨rfl, hb5⟩; have HU := Aside0.mk (And.intro (blk_below HI.out.2.1 hb5) (And.intro (blk_below HI.out.2.2.1 hb5) (HI.out.2.2.2.trans (hb5.mono HI.out.2.2.2.size)))); clear hb5) | ((with_reducible refine gate_store (t := 195) (p := 15) rfl ?_); refine put81 rfl rfl rfl g3 197 (false) (dn (2 ^ i)) (dn (2 * 2 ^ i)) rfl rfl HU.out.1 (by kernel_rfl) HU.out.2.2 HL3.out ?_; intro wt hz hfar hbz; have HZwt := Aside0.mk hz; have HFwt := Aside0.mk hfar; have HBwt := Aside0.mk hbz; clear hz hfar hbz))
      go_roundw
      case rel =>
        refine ⟨i + 1, ⟨by omega, ?_, (HFwt.out g2 HD.out).trans HU.out.2.1, HBwt.out⟩, by go_num⟩
        rw [Nat.pow_succ, Nat.mul_comm]; exact HZwt.out
      case measure => simp [intOf]; omega
    · obtain rfl : i = n := by have := HI.out.1; omega
      have HT := Aside0.mk HI.out.2
      clear HI hi
      have hge : ¬ (i : Int) < i := by omega
      go_wp2_with (first | ((with_reducible refine gate_dst (N := 16) rfl ?_); refine get9 rfl rfl g3 197 (false) (dn (2 ^ i)) _ rfl HT.out.1 Tryd.underlying197 rfl (by kernel_rfl) ?_) | ((with_reducible refine gate_store (t := 197) (p := 2) rfl ?_); refine put9 rfl rfl rfl g2 197 (zb false) (false) (dn (2 ^ i)) rfl rfl HT.out.2.1 (by kernel_rfl) rfl HT.out.2.2 HL2.out ?_; intro wy hz hfar hbz; have HZwy := Aside0.mk hz; have HFwy := Aside0.mk hfar; have HBwy := Aside0.mk hbz; clear hz hfar hbz))
      refine bodyPost_ret (results_single rfl (.cell g2 197 (bg false (dn (2 ^ i))) (0, 0) _ rfl HZwy.out Tryd.underlying197 rfl (by kernel_rfl) .nil)) rfl ?_
      exact ⟨rfl, HBwy.out⟩
end Go.Proofs.YtpihgdehgkclmaaDoor.Big
