/-
  The reference's numbers of 256 bits: the contracts by whole numbers; what grows by so many parts.
-/
import Derived.Test.YtpihgdehgkclmaaDoor02i
namespace Go.Proofs.YtpihgdehgkclmaaDoor.Big
open Go.RowKit Go.Proofs.YtpihgdehgkclmaaDoorW.PrintWords Go.Proofs.YtpihgdehgkclmaaDoorW.PrintLast Go.Proofs.YtpihgdehgkclmaaDoorW.PrintMore
set_option linter.unusedVariables false
set_option linter.unusedSimpArgs false
theorem natAbs_P4 {a : Int} (h0 : -9223372036854775808 ≤ a) (h1 : a ≤ 9223372036854775807) : a.natAbs < P 4 := by
  have e4 : P 4 = 340282366920938463463374607431768211456 := by decide
  omega
theorem mul_big (x y : Int) (hx : x.natAbs < P 4) (hy : y.natAbs < P 4) (w : World) : Calls Tryd.prog 128 #[.agg (big x), .agg (big y)] w fun e w' => e = .returned (.agg (big (x * y))) ∧ Below w.heap.size w w' := by
  have e : big (x * y) = bg ((decide (x < 0) != decide (y < 0)) && !(x.natAbs * y.natAbs == 0)) (dn (x.natAbs * y.natAbs)) := by
    unfold big
    rw [Int.natAbs_mul]
    congr 1
    rcases Int.lt_trichotomy x 0 with h | h | h <;> rcases Int.lt_trichotomy y 0 with k | k | k
    · have := Int.mul_pos_of_neg_of_neg h k
      simp [h, k, show ¬ x * y < 0 by omega]
    · subst k; simp
    · have := Int.mul_neg_of_neg_of_pos h k
      simp [h, this, show ¬ y < 0 by omega]
      exact Nat.ne_of_gt (Nat.mul_pos (by omega) (by omega))
    · subst h; simp
    · subst h; simp
    · subst h; simp
    · have := Int.mul_neg_of_pos_of_neg h k
      simp [k, this, show ¬ x < 0 by omega]
      exact Nat.ne_of_gt (Nat.mul_pos (by omega) (by omega))
    · subst k; simp
    · have := Int.mul_pos h k
      simp [show ¬ x * y < 0 by omega, show ¬ x < 0 by omega, show ¬ y < 0 by omega]
  rw [e]
  unfold big
  cases hx0 : decide (x < 0) <;> cases hy0 : decide (y < 0)
  · exact mul_false_false _ _ hx hy w
  · exact mul_false_true _ _ hx hy w
  · exact mul_true_false _ _ hx hy w
  · exact mul_true_true _ _ hx hy w
theorem big_neg (k : Nat) (h : 0 < k) : big (-(k : Int)) = bg true (dn k) := by unfold big; rw [decide_eq_true (show -(k : Int) < 0 by omega), show (-(k : Int)).natAbs = k by omega]
theorem big_pos (k : Nat) : big (k : Int) = bg false (dn k) := by unfold big; rw [decide_eq_false (show ¬ (k : Int) < 0 by omega), show (k : Int).natAbs = k by omega]
theorem div_big (x d : Int) (hx : x.natAbs < P 8) (hd0 : 0 < d) (hdd : d.natAbs + d.natAbs ≤ P 8) (w : World) : Calls Tryd.prog 127 #[.agg (big x), .agg (big d)] w fun e w' => e = .returned (.tuple #[.agg (big (x / d)), .agg (big (x % d))]) ∧ Below w.heap.size w w' := by
  obtain ⟨n, rfl⟩ : ∃ n : Nat, d = n := ⟨d.toNat, by omega⟩
  have en : (n : Int).natAbs = n := by omega
  have bd : big (n : Int) = bg false (dn n) := by unfold big; rw [decide_eq_false (show ¬ (n : Int) < 0 by omega), en]
  rw [en] at hdd
  rw [bd]
  rcases Int.lt_or_le x 0 with h | h
  · obtain ⟨m, hm⟩ : ∃ m : Nat, x = -(m : Int) := ⟨x.natAbs, by omega⟩
    subst hm
    have em : (-(m : Int)).natAbs = m := by omega
    rw [em] at hx
    have bx : big (-(m : Int)) = bg true (dn m) := by unfold big; rw [decide_eq_true h, em]
    rw [bx]
    have hdm := Nat.div_add_mod m n
    have hml := Nat.mod_lt m (show 0 < n by omega)
    have hm0 : 0 < m := by omega
    have hqi : ((n * (m / n) : Nat) : Int) = (n : Int) * ((m / n : Nat) : Int) := Int.natCast_mul _ _
    by_cases hr : m % n = 0
    · have hq := (Int.ediv_emod_unique (a := -(m : Int)) (b := n) (r := 0) (q := -((m / n : Nat) : Int)) hd0).2 ⟨by rw [Int.mul_neg]; omega, by omega, by omega⟩
      rw [hq.1, hq.2]
      have b0 : big 0 = bg false (dn 0) := rfl
      by_cases hz : m / n = 0
      · rw [hz] at hqi hdm; simp at hdm; omega
      · have b1 : big (-((m / n : Nat) : Int)) = bg true (dn (m / n)) := big_neg _ (Nat.pos_of_ne_zero hz)
        have := div_true_n_z m n hx (by omega) hdd hz hr w
        rw [b0, b1]
        rwa [hr] at this
    · have hq := (Int.ediv_emod_unique (a := -(m : Int)) (b := n) (r := n - (m % n : Nat)) (q := -((m / n : Nat) : Int) - 1) hd0).2 ⟨by rw [Int.mul_sub, Int.mul_neg, Int.mul_one]; omega, by omega, by omega⟩
      rw [hq.1, hq.2]
      have b1 : big (-((m / n : Nat) : Int) - 1) = bg true (dn (m / n + 1)) := by rw [show -((m / n : Nat) : Int) - 1 = -((m / n + 1 : Nat) : Int) by rw [Int.natCast_add, Int.neg_add]; rfl]; exact big_neg _ (Nat.succ_pos _)
      have b0 : big ((n : Int) - (m % n : Nat)) = bg false (dn (n - m % n)) := by rw [← Int.natCast_sub (Nat.le_of_lt hml)]; exact big_pos _
      rw [b0, b1]
      by_cases hz : m / n = 0
      · exact div_true_z_n m n hx (by omega) hdd hz hr w
      · exact div_true_n_n m n hx (by omega) hdd hz hr w
  · obtain ⟨m, hm⟩ : ∃ m : Nat, x = (m : Int) := ⟨x.toNat, by omega⟩
    subst hm
    have em : (m : Int).natAbs = m := by omega
    rw [em] at hx
    have bx : ∀ k : Nat, big (k : Int) = bg false (dn k) := fun k => by unfold big; rw [decide_eq_false (show ¬ (k : Int) < 0 by omega), show (k : Int).natAbs = k by omega]
    have h1 : (m : Int) / n = ((m / n : Nat) : Int) := by rw [Int.natCast_ediv]
    have h2 : (m : Int) % n = ((m % n : Nat) : Int) := by rw [Int.natCast_emod]
    rw [h1, h2, bx, bx, bx]
    exact div_false m n hx (by omega) hdd w
theorem power_big (n : Nat) (hn : n ≤ 200) (w : World) : Calls Tryd.prog 130 #[.int .i64 n] w fun e w' => e = .returned (.agg (big ((2 ^ n : Nat) : Int))) ∧ Below w.heap.size w w' := by
  have bx : big ((2 ^ n : Nat) : Int) = bg false (dn (2 ^ n)) := big_pos _
  rw [bx]
  exact power_calls n hn w
theorem prod_bound {a b : Int} (h0 : -9223372036854775808 ≤ a) (h1 : a ≤ 9223372036854775807) (k0 : -9223372036854775808 ≤ b) (k1 : b ≤ 9223372036854775807) : -85070591730234615865843651857942052864 ≤ a * b ∧ a * b ≤ 85070591730234615865843651857942052864 := by
  have h : (a * b).natAbs ≤ 9223372036854775808 * 9223372036854775808 := by
    rw [Int.natAbs_mul]
    exact Nat.mul_le_mul (by omega) (by omega)
  omega
/-- so many parts of so much, by the reference -/
def mdR (a b c : Int) : Int × Bool := if -9223372036854775808 ≤ a * b / c ∧ a * b / c ≤ 9223372036854775807 then (a * b / c, true) else (0, false)
def more17 (a b : Int) : Int := if (mdR a b 1073741824).2 = true then (if a * b % 1073741824 = 0 then (mdR a b 1073741824).1 else wrap64 ((mdR a b 1073741824).1 + 1)) else 9223372036854775807
set_option maxHeartbeats 2000000 in
set_option maxRecDepth 100000 in
theorem more17_true_true (a b n : Int) (a0 : -9223372036854775808 ≤ a) (a1 : a ≤ 9223372036854775807) (b0 : -9223372036854775808 ≤ b) (b1 : b ≤ 9223372036854775807) (hN : ∀ W, Calls Tryd.prog 131 #[.agg (big (a * b / 1073741824))] W fun e w' => e = .returned (.tuple #[.int .i64 n, .bool true]) ∧ Below W.heap.size W w') (hr : a * b % 1073741824 = 0) (w : World) : Calls Tryd.prog 91 #[.int .i64 a, .int .i64 b] w fun e w' => e = .returned (.int .i64 (n)) ∧ Below w.heap.size w w' := by
  have hpb := prod_bound a0 a1 b0 b1
  obtain ⟨p, hp⟩ : ∃ p, p = a * b := ⟨_, rfl⟩
  rw [← hp] at hN hr hpb
  obtain ⟨q, hq⟩ : ∃ q, q = p / 1073741824 := ⟨_, rfl⟩
  rw [← hq] at hN
  obtain ⟨r, hrr⟩ : ∃ r, r = p % 1073741824 := ⟨_, rfl⟩
  rw [← hrr] at hr
  have hI1 := fun W => int_calls a a0 a1 W
  have hI2 := fun W => int_calls b b0 b1 W
  have hM : ∀ W, Calls Tryd.prog 128 #[.agg (big a), .agg (big b)] W fun e w' => e = .returned (.agg (big p)) ∧ Below W.heap.size W w' := fun W => by rw [hp]; exact mul_big a b (natAbs_P4 a0 a1) (natAbs_P4 b0 b1) W
  have hP : ∀ W, Calls Tryd.prog 130 #[.int .i64 30] W fun e w' => e = .returned (.agg (big 1073741824)) ∧ Below W.heap.size W w' := fun W => power_big 30 (by omega) W
  have hD : ∀ W, Calls Tryd.prog 127 #[.agg (big p), .agg (big 1073741824)] W fun e w' => e = .returned (.tuple #[.agg (big q), .agg (big r)]) ∧ Below W.heap.size W w' := fun W => by
    rw [hq, hrr]; exact div_big p 1073741824 (by rw [P8]; omega) (by omega) (by rw [P8]; omega) W
  have hZ : ∀ W, Calls Tryd.prog 132 #[.agg (c8 (dn r.natAbs))] W fun e w' => e = .returned (.bool true) ∧ Below W.heap.size W w' := fun W => by
    have := zero_calls r.natAbs (by rw [P8]; omega) W
    rwa [show (r.natAbs == 0) = true by simp [hr]] at this
  clear hp hpb hq hrr hr a0 a1 b0 b1
  go_enter Tryd.func91, Tryd.ntmps91
  go_upto_region 2 with (first | (go_at_call 129; first | (with_reducible refine (hI1 _).mono ?_); rintro e u1 ⟨rfl, hb⟩; have Bu1 := Aside0.mk hb; clear hb hI1 | (with_reducible refine (hI2 _).mono ?_); rintro e u2 ⟨rfl, hb⟩; have Bu2 := Aside0.mk (Bu1.out.trans (hb.mono Bu1.out.size)); clear hb) | (go_at_call 128; (with_reducible refine (hM _).mono ?_); rintro e u3 ⟨rfl, hb⟩; have Bu3 := Aside0.mk (Bu2.out.trans (hb.mono Bu2.out.size)); clear hb) | (go_at_call 130; (with_reducible refine (hP _).mono ?_); rintro e u4 ⟨rfl, hb⟩; have Bu4 := Aside0.mk (Bu3.out.trans (hb.mono Bu3.out.size)); clear hb) | (go_at_call 127; (with_reducible refine (hD _).mono ?_); rintro e u5 ⟨rfl, hb⟩; have Bu5 := Aside0.mk (Bu4.out.trans (hb.mono Bu4.out.size)); clear hb) | ((with_reducible refine gate_store (t := 197) (p := 5) rfl ?_); refine put9 rfl rfl rfl u5.heap.size 197 (zb false) (decide (q < 0)) (dn q.natAbs) rfl rfl (blk_alloc (heap_alloc_new u5 _) _) (by kernel_rfl) rfl ((Bu5.out.alloc Bu5.out.size _).alloc (by have := Bu5.out.size; simp; omega) _) Bu5.out.size ?_; intro wz hz hfar hbz; have HZwz := Aside0.mk hz; have HFwz := Aside0.mk hfar; have HBwz := Aside0.mk hbz; clear hz hfar hbz) | ((with_reducible refine gate_store (t := 197) (p := 6) rfl ?_); refine put9 rfl rfl rfl (u5.heap.size + 1) 197 (zb false) (decide (r < 0)) (dn r.natAbs) rfl rfl ((HFwz.out (u5.heap.size + 1) (by omega)).trans (new1 u5 _ _)) (by kernel_rfl) rfl HBwz.out (by have := Bu5.out.size; omega) ?_; intro wy hz hfar hbz; have HZwy := Aside0.mk hz; have HFwy := Aside0.mk hfar; have HBwy := Aside0.mk hbz; clear hz hfar hbz))
  have k5 : wy.heap[u5.heap.size]? = some (.cells (big q) 197 (0, 0)) := (HFwy.out _ (by omega)).trans HZwz.out
  obtain ⟨g5, hg5⟩ : ∃ g, g = u5.heap.size := ⟨_, rfl⟩
  obtain ⟨g6, hg6⟩ : ∃ g, g = u5.heap.size + 1 := ⟨_, rfl⟩
  rw [← hg6, ← hg5]
  have k6 := HZwy.out
  rw [← hg5] at k5
  rw [← hg6] at k6
  have HK := Aside0.mk (And.intro k5 (And.intro k6 HBwy.out))
  clear hg5 hg6 k5 k6 HZwz HBwz HFwz HZwy HBwy HFwy hI2 hM hP hD
  have hN' : ∀ W, Calls Tryd.prog 131 #[.agg (bg (decide (q < 0)) (dn q.natAbs))] W fun e w' => e = .returned (.tuple #[.int .i64 n, .bool true]) ∧ Below W.heap.size W w' := hN
  clear hN
  go_wp2_with (first | ((with_reducible refine gate_dst (N := 20) rfl ?_); refine get9 rfl rfl g5 197 (decide (q < 0)) (dn q.natAbs) _ rfl HK.out.1 Tryd.underlying197 rfl (by kernel_rfl) ?_) | ((with_reducible refine gate_dst (N := 27) rfl ?_); refine get81 rfl rfl g6 197 (decide (r < 0)) (dn r.natAbs) _ rfl HK6.out.1 Tryd.underlying195 rfl (by kernel_rfl) ?_) | (go_at_call 131; (with_reducible refine (hN' _).mono ?_); rintro e u6 ⟨rfl, hb⟩; have HK6 := Aside0.mk (And.intro (blk_below HK.out.2.1 hb) (HK.out.2.2.trans (hb.mono HK.out.2.2.size))); clear hb) | (go_at_call 132; (with_reducible refine (hZ _).mono ?_); rintro e u7 ⟨rfl, hb⟩; have B7 := Aside0.mk (HK6.out.2.trans (hb.mono HK6.out.2.size)); clear hb))
  go_ret
  exact ⟨rfl, B7.out⟩
set_option maxHeartbeats 2000000 in
set_option maxRecDepth 100000 in
theorem more17_true_false (a b n : Int) (a0 : -9223372036854775808 ≤ a) (a1 : a ≤ 9223372036854775807) (b0 : -9223372036854775808 ≤ b) (b1 : b ≤ 9223372036854775807) (hN : ∀ W, Calls Tryd.prog 131 #[.agg (big (a * b / 1073741824))] W fun e w' => e = .returned (.tuple #[.int .i64 n, .bool true]) ∧ Below W.heap.size W w') (hr : a * b % 1073741824 ≠ 0) (w : World) : Calls Tryd.prog 91 #[.int .i64 a, .int .i64 b] w fun e w' => e = .returned (.int .i64 (wrap64 (n + 1))) ∧ Below w.heap.size w w' := by
  have hpb := prod_bound a0 a1 b0 b1
  obtain ⟨p, hp⟩ : ∃ p, p = a * b := ⟨_, rfl⟩
  rw [← hp] at hN hr hpb
  obtain ⟨q, hq⟩ : ∃ q, q = p / 1073741824 := ⟨_, rfl⟩
  rw [← hq] at hN
  obtain ⟨r, hrr⟩ : ∃ r, r = p % 1073741824 := ⟨_, rfl⟩
  rw [← hrr] at hr
  have hI1 := fun W => int_calls a a0 a1 W
  have hI2 := fun W => int_calls b b0 b1 W
  have hM : ∀ W, Calls Tryd.prog 128 #[.agg (big a), .agg (big b)] W fun e w' => e = .returned (.agg (big p)) ∧ Below W.heap.size W w' := fun W => by rw [hp]; exact mul_big a b (natAbs_P4 a0 a1) (natAbs_P4 b0 b1) W
  have hP : ∀ W, Calls Tryd.prog 130 #[.int .i64 30] W fun e w' => e = .returned (.agg (big 1073741824)) ∧ Below W.heap.size W w' := fun W => power_big 30 (by omega) W
  have hD : ∀ W, Calls Tryd.prog 127 #[.agg (big p), .agg (big 1073741824)] W fun e w' => e = .returned (.tuple #[.agg (big q), .agg (big r)]) ∧ Below W.heap.size W w' := fun W => by
    rw [hq, hrr]; exact div_big p 1073741824 (by rw [P8]; omega) (by omega) (by rw [P8]; omega) W
  have hZ : ∀ W, Calls Tryd.prog 132 #[.agg (c8 (dn r.natAbs))] W fun e w' => e = .returned (.bool false) ∧ Below W.heap.size W w' := fun W => by
    have := zero_calls r.natAbs (by rw [P8]; omega) W
    rwa [show (r.natAbs == 0) = false by simp [hr]] at this
  clear hp hpb hq hrr hr a0 a1 b0 b1
  go_enter Tryd.func91, Tryd.ntmps91
  go_upto_region 2 with (first | (go_at_call 129; first | (with_reducible refine (hI1 _).mono ?_); rintro e u1 ⟨rfl, hb⟩; have Bu1 := Aside0.mk hb; clear hb hI1 | (with_reducible refine (hI2 _).mono ?_); rintro e u2 ⟨rfl, hb⟩; have Bu2 := Aside0.mk (Bu1.out.trans (hb.mono Bu1.out.size)); clear hb) | (go_at_call 128; (with_reducible refine (hM _).mono ?_); rintro e u3 ⟨rfl, hb⟩; have Bu3 := Aside0.mk (Bu2.out.trans (hb.mono Bu2.out.size)); clear hb) | (go_at_call 130; (with_reducible refine (hP _).mono ?_); rintro e u4 ⟨rfl, hb⟩; have Bu4 := Aside0.mk (Bu3.out.trans (hb.mono Bu3.out.size)); clear hb) | (go_at_call 127; (with_reducible refine (hD _).mono ?_); rintro e u5 ⟨rfl, hb⟩; have Bu5 := Aside0.mk (Bu4.out.trans (hb.mono Bu4.out.size)); clear hb) | ((with_reducible refine gate_store (t := 197) (p := 5) rfl ?_); refine put9 rfl rfl rfl u5.heap.size 197 (zb false) (decide (q < 0)) (dn q.natAbs) rfl rfl (blk_alloc (heap_alloc_new u5 _) _) (by kernel_rfl) rfl ((Bu5.out.alloc Bu5.out.size _).alloc (by have := Bu5.out.size; simp; omega) _) Bu5.out.size ?_; intro wz hz hfar hbz; have HZwz := Aside0.mk hz; have HFwz := Aside0.mk hfar; have HBwz := Aside0.mk hbz; clear hz hfar hbz) | ((with_reducible refine gate_store (t := 197) (p := 6) rfl ?_); refine put9 rfl rfl rfl (u5.heap.size + 1) 197 (zb false) (decide (r < 0)) (dn r.natAbs) rfl rfl ((HFwz.out (u5.heap.size + 1) (by omega)).trans (new1 u5 _ _)) (by kernel_rfl) rfl HBwz.out (by have := Bu5.out.size; omega) ?_; intro wy hz hfar hbz; have HZwy := Aside0.mk hz; have HFwy := Aside0.mk hfar; have HBwy := Aside0.mk hbz; clear hz hfar hbz))
  have k5 : wy.heap[u5.heap.size]? = some (.cells (big q) 197 (0, 0)) := (HFwy.out _ (by omega)).trans HZwz.out
  obtain ⟨g5, hg5⟩ : ∃ g, g = u5.heap.size := ⟨_, rfl⟩
  obtain ⟨g6, hg6⟩ : ∃ g, g = u5.heap.size + 1 := ⟨_, rfl⟩
  rw [← hg6, ← hg5]
  have k6 := HZwy.out
  rw [← hg5] at k5
  rw [← hg6] at k6
  have HK := Aside0.mk (And.intro k5 (And.intro k6 HBwy.out))
  clear hg5 hg6 k5 k6 HZwz HBwz HFwz HZwy HBwy HFwy hI2 hM hP hD
  have hN' : ∀ W, Calls Tryd.prog 131 #[.agg (bg (decide (q < 0)) (dn q.natAbs))] W fun e w' => e = .returned (.tuple #[.int .i64 n, .bool true]) ∧ Below W.heap.size W w' := hN
  clear hN
  go_wp2_with (first | ((with_reducible refine gate_dst (N := 20) rfl ?_); refine get9 rfl rfl g5 197 (decide (q < 0)) (dn q.natAbs) _ rfl HK.out.1 Tryd.underlying197 rfl (by kernel_rfl) ?_) | ((with_reducible refine gate_dst (N := 27) rfl ?_); refine get81 rfl rfl g6 197 (decide (r < 0)) (dn r.natAbs) _ rfl HK6.out.1 Tryd.underlying195 rfl (by kernel_rfl) ?_) | (go_at_call 131; (with_reducible refine (hN' _).mono ?_); rintro e u6 ⟨rfl, hb⟩; have HK6 := Aside0.mk (And.intro (blk_below HK.out.2.1 hb) (HK.out.2.2.trans (hb.mono HK.out.2.2.size))); clear hb) | (go_at_call 132; (with_reducible refine (hZ _).mono ?_); rintro e u7 ⟨rfl, hb⟩; have B7 := Aside0.mk (HK6.out.2.trans (hb.mono HK6.out.2.size)); clear hb))
  go_ret
  exact ⟨rfl, B7.out⟩
set_option maxHeartbeats 2000000 in
set_option maxRecDepth 100000 in
theorem more17_false_true (a b n : Int) (a0 : -9223372036854775808 ≤ a) (a1 : a ≤ 9223372036854775807) (b0 : -9223372036854775808 ≤ b) (b1 : b ≤ 9223372036854775807) (hN : ∀ W, Calls Tryd.prog 131 #[.agg (big (a * b / 1073741824))] W fun e w' => e = .returned (.tuple #[.int .i64 n, .bool false]) ∧ Below W.heap.size W w') (hr : a * b % 1073741824 = 0) (w : World) : Calls Tryd.prog 91 #[.int .i64 a, .int .i64 b] w fun e w' => e = .returned (.int .i64 (9223372036854775807)) ∧ Below w.heap.size w w' := by
  have hpb := prod_bound a0 a1 b0 b1
  obtain ⟨p, hp⟩ : ∃ p, p = a * b := ⟨_, rfl⟩
  rw [← hp] at hN hr hpb
  obtain ⟨q, hq⟩ : ∃ q, q = p / 1073741824 := ⟨_, rfl⟩
  rw [← hq] at hN
  obtain ⟨r, hrr⟩ : ∃ r, r = p % 1073741824 := ⟨_, rfl⟩
  rw [← hrr] at hr
  have hI1 := fun W => int_calls a a0 a1 W
  have hI2 := fun W => int_calls b b0 b1 W
  have hM : ∀ W, Calls Tryd.prog 128 #[.agg (big a), .agg (big b)] W fun e w' => e = .returned (.agg (big p)) ∧ Below W.heap.size W w' := fun W => by rw [hp]; exact mul_big a b (natAbs_P4 a0 a1) (natAbs_P4 b0 b1) W
  have hP : ∀ W, Calls Tryd.prog 130 #[.int .i64 30] W fun e w' => e = .returned (.agg (big 1073741824)) ∧ Below W.heap.size W w' := fun W => power_big 30 (by omega) W
  have hD : ∀ W, Calls Tryd.prog 127 #[.agg (big p), .agg (big 1073741824)] W fun e w' => e = .returned (.tuple #[.agg (big q), .agg (big r)]) ∧ Below W.heap.size W w' := fun W => by
    rw [hq, hrr]; exact div_big p 1073741824 (by rw [P8]; omega) (by omega) (by rw [P8]; omega) W
  have hZ : ∀ W, Calls Tryd.prog 132 #[.agg (c8 (dn r.natAbs))] W fun e w' => e = .returned (.bool true) ∧ Below W.heap.size W w' := fun W => by
    have := zero_calls r.natAbs (by rw [P8]; omega) W
    rwa [show (r.natAbs == 0) = true by simp [hr]] at this
  clear hp hpb hq hrr hr a0 a1 b0 b1
  go_enter Tryd.func91, Tryd.ntmps91
  go_upto_region 2 with (first | (go_at_call 129; first | (with_reducible refine (hI1 _).mono ?_); rintro e u1 ⟨rfl, hb⟩; have Bu1 := Aside0.mk hb; clear hb hI1 | (with_reducible refine (hI2 _).mono ?_); rintro e u2 ⟨rfl, hb⟩; have Bu2 := Aside0.mk (Bu1.out.trans (hb.mono Bu1.out.size)); clear hb) | (go_at_call 128; (with_reducible refine (hM _).mono ?_); rintro e u3 ⟨rfl, hb⟩; have Bu3 := Aside0.mk (Bu2.out.trans (hb.mono Bu2.out.size)); clear hb) | (go_at_call 130; (with_reducible refine (hP _).mono ?_); rintro e u4 ⟨rfl, hb⟩; have Bu4 := Aside0.mk (Bu3.out.trans (hb.mono Bu3.out.size)); clear hb) | (go_at_call 127; (with_reducible refine (hD _).mono ?_); rintro e u5 ⟨rfl, hb⟩; have Bu5 := Aside0.mk (Bu4.out.trans (hb.mono Bu4.out.size)); clear hb) | ((with_reducible refine gate_store (t := 197) (p := 5) rfl ?_); refine put9 rfl rfl rfl u5.heap.size 197 (zb false) (decide (q < 0)) (dn q.natAbs) rfl rfl (blk_alloc (heap_alloc_new u5 _) _) (by kernel_rfl) rfl ((Bu5.out.alloc Bu5.out.size _).alloc (by have := Bu5.out.size; simp; omega) _) Bu5.out.size ?_; intro wz hz hfar hbz; have HZwz := Aside0.mk hz; have HFwz := Aside0.mk hfar; have HBwz := Aside0.mk hbz; clear hz hfar hbz) | ((with_reducible refine gate_store (t := 197) (p := 6) rfl ?_); refine put9 rfl rfl rfl (u5.heap.size + 1) 197 (zb false) (decide (r < 0)) (dn r.natAbs) rfl rfl ((HFwz.out (u5.heap.size + 1) (by omega)).trans (new1 u5 _ _)) (by kernel_rfl) rfl HBwz.out (by have := Bu5.out.size; omega) ?_; intro wy hz hfar hbz; have HZwy := Aside0.mk hz; have HFwy := Aside0.mk hfar; have HBwy := Aside0.mk hbz; clear hz hfar hbz))
  have k5 : wy.heap[u5.heap.size]? = some (.cells (big q) 197 (0, 0)) := (HFwy.out _ (by omega)).trans HZwz.out
  obtain ⟨g5, hg5⟩ : ∃ g, g = u5.heap.size := ⟨_, rfl⟩
  obtain ⟨g6, hg6⟩ : ∃ g, g = u5.heap.size + 1 := ⟨_, rfl⟩
  rw [← hg6, ← hg5]
  have k6 := HZwy.out
  rw [← hg5] at k5
  rw [← hg6] at k6
  have HK := Aside0.mk (And.intro k5 (And.intro k6 HBwy.out))
  clear hg5 hg6 k5 k6 HZwz HBwz HFwz HZwy HBwy HFwy hI2 hM hP hD
  have hN' : ∀ W, Calls Tryd.prog 131 #[.agg (bg (decide (q < 0)) (dn q.natAbs))] W fun e w' => e = .returned (.tuple #[.int .i64 n, .bool false]) ∧ Below W.heap.size W w' := hN
  clear hN
  go_wp2_with (first | ((with_reducible refine gate_dst (N := 20) rfl ?_); refine get9 rfl rfl g5 197 (decide (q < 0)) (dn q.natAbs) _ rfl HK.out.1 Tryd.underlying197 rfl (by kernel_rfl) ?_) | ((with_reducible refine gate_dst (N := 27) rfl ?_); refine get81 rfl rfl g6 197 (decide (r < 0)) (dn r.natAbs) _ rfl HK6.out.1 Tryd.underlying195 rfl (by kernel_rfl) ?_) | (go_at_call 131; (with_reducible refine (hN' _).mono ?_); rintro e u6 ⟨rfl, hb⟩; have HK6 := Aside0.mk (And.intro (blk_below HK.out.2.1 hb) (HK.out.2.2.trans (hb.mono HK.out.2.2.size))); clear hb) | (go_at_call 132; (with_reducible refine (hZ _).mono ?_); rintro e u7 ⟨rfl, hb⟩; have B7 := Aside0.mk (HK6.out.2.trans (hb.mono HK6.out.2.size)); clear hb))
  go_ret
  exact ⟨rfl, HK6.out.2⟩
set_option maxHeartbeats 2000000 in
set_option maxRecDepth 100000 in
theorem more17_false_false (a b n : Int) (a0 : -9223372036854775808 ≤ a) (a1 : a ≤ 9223372036854775807) (b0 : -9223372036854775808 ≤ b) (b1 : b ≤ 9223372036854775807) (hN : ∀ W, Calls Tryd.prog 131 #[.agg (big (a * b / 1073741824))] W fun e w' => e = .returned (.tuple #[.int .i64 n, .bool false]) ∧ Below W.heap.size W w') (hr : a * b % 1073741824 ≠ 0) (w : World) : Calls Tryd.prog 91 #[.int .i64 a, .int .i64 b] w fun e w' => e = .returned (.int .i64 (9223372036854775807)) ∧ Below w.heap.size w w' := by
  have hpb := prod_bound a0 a1 b0 b1
  obtain ⟨p, hp⟩ : ∃ p, p = a * b := ⟨_, rfl⟩
  rw [← hp] at hN hr hpb
  obtain ⟨q, hq⟩ : ∃ q, q = p / 1073741824 := ⟨_, rfl⟩
  rw [← hq] at hN
  obtain ⟨r, hrr⟩ : ∃ r, r = p % 1073741824 := ⟨_, rfl⟩
  rw [← hrr] at hr
  have hI1 := fun W => int_calls a a0 a1 W
  have hI2 := fun W => int_calls b b0 b1 W
  have hM : ∀ W, Calls Tryd.prog 128 #[.agg (big a), .agg (big b)] W fun e w' => e = .returned (.agg (big p)) ∧ Below W.heap.size W w' := fun W => by rw [hp]; exact mul_big a b (natAbs_P4 a0 a1) (natAbs_P4 b0 b1) W
  have hP : ∀ W, Calls Tryd.prog 130 #[.int .i64 30] W fun e w' => e = .returned (.agg (big 1073741824)) ∧ Below W.heap.size W w' := fun W => power_big 30 (by omega) W
  have hD : ∀ W, Calls Tryd.prog 127 #[.agg (big p), .agg (big 1073741824)] W fun e w' => e = .returned (.tuple #[.agg (big q), .agg (big r)]) ∧ Below W.heap.size W w' := fun W => by
    rw [hq, hrr]; exact div_big p 1073741824 (by rw [P8]; omega) (by omega) (by rw [P8]; omega) W
  have hZ : ∀ W, Calls Tryd.prog 132 #[.agg (c8 (dn r.natAbs))] W fun e w' => e = .returned (.bool false) ∧ Below W.heap.size W w' := fun W => by
    have := zero_calls r.natAbs (by rw [P8]; omega) W
    rwa [show (r.natAbs == 0) = false by simp [hr]] at this
  clear hp hpb hq hrr hr a0 a1 b0 b1
  go_enter Tryd.func91, Tryd.ntmps91
  go_upto_region 2 with (first | (go_at_call 129; first | (with_reducible refine (hI1 _).mono ?_); rintro e u1 ⟨rfl, hb⟩; have Bu1 := Aside0.mk hb; clear hb hI1 | (with_reducible refine (hI2 _).mono ?_); rintro e u2 ⟨rfl, hb⟩; have Bu2 := Aside0.mk (Bu1.out.trans (hb.mono Bu1.out.size)); clear hb) | (go_at_call 128; (with_reducible refine (hM _).mono ?_); rintro e u3 ⟨rfl, hb⟩; have Bu3 := Aside0.mk (Bu2.out.trans (hb.mono Bu2.out.size)); clear hb) | (go_at_call 130; (with_reducible refine (hP _).mono ?_); rintro e u4 ⟨rfl, hb⟩; have Bu4 := Aside0.mk (Bu3.out.trans (hb.mono Bu3.out.size)); clear hb) | (go_at_call 127; (with_reducible refine (hD _).mono ?_); rintro e u5 ⟨rfl, hb⟩; have Bu5 := Aside0.mk (Bu4.out.trans (hb.mono Bu4.out.size)); clear hb) | ((with_reducible refine gate_store (t := 197) (p := 5) rfl ?_); refine put9 rfl rfl rfl u5.heap.size 197 (zb false) (decide (q < 0)) (dn q.natAbs) rfl rfl (blk_alloc (heap_alloc_new u5 _) _) (by kernel_rfl) rfl ((Bu5.out.alloc Bu5.out.size _).alloc (by have := Bu5.out.size; simp; omega) _) Bu5.out.size ?_; intro wz hz hfar hbz; have HZwz := Aside0.mk hz; have HFwz := Aside0.mk hfar; have HBwz := Aside0.mk hbz; clear hz hfar hbz) | ((with_reducible refine gate_store (t := 197) (p := 6) rfl ?_); refine put9 rfl rfl rfl (u5.heap.size + 1) 197 (zb false) (decide (r < 0)) (dn r.natAbs) rfl rfl ((HFwz.out (u5.heap.size + 1) (by omega)).trans (new1 u5 _ _)) (by kernel_rfl) rfl HBwz.out (by have := Bu5.out.size; omega) ?_; intro wy hz hfar hbz; have HZwy := Aside0.mk hz; have HFwy := Aside0.mk hfar; have HBwy := Aside0.mk hbz; clear hz hfar hbz))
  have k5 : wy.heap[u5.heap.size]? = some (.cells (big q) 197 (0, 0)) := (HFwy.out _ (by omega)).trans HZwz.out
  obtain ⟨g5, hg5⟩ : ∃ g, g = u5.heap.size := ⟨_, rfl⟩
  obtain ⟨g6, hg6⟩ : ∃ g, g = u5.heap.size + 1 := ⟨_, rfl⟩
  rw [← hg6, ← hg5]
  have k6 := HZwy.out
  rw [← hg5] at k5
  rw [← hg6] at k6
  have HK := Aside0.mk (And.intro k5 (And.intro k6 HBwy.out))
  clear hg5 hg6 k5 k6 HZwz HBwz HFwz HZwy HBwy HFwy hI2 hM hP hD
  have hN' : ∀ W, Calls Tryd.prog 131 #[.agg (bg (decide (q < 0)) (dn q.natAbs))] W fun e w' => e = .returned (.tuple #[.int .i64 n, .bool false]) ∧ Below W.heap.size W w' := hN
  clear hN
  go_wp2_with (first | ((with_reducible refine gate_dst (N := 20) rfl ?_); refine get9 rfl rfl g5 197 (decide (q < 0)) (dn q.natAbs) _ rfl HK.out.1 Tryd.underlying197 rfl (by kernel_rfl) ?_) | ((with_reducible refine gate_dst (N := 27) rfl ?_); refine get81 rfl rfl g6 197 (decide (r < 0)) (dn r.natAbs) _ rfl HK6.out.1 Tryd.underlying195 rfl (by kernel_rfl) ?_) | (go_at_call 131; (with_reducible refine (hN' _).mono ?_); rintro e u6 ⟨rfl, hb⟩; have HK6 := Aside0.mk (And.intro (blk_below HK.out.2.1 hb) (HK.out.2.2.trans (hb.mono HK.out.2.2.size))); clear hb) | (go_at_call 132; (with_reducible refine (hZ _).mono ?_); rintro e u7 ⟨rfl, hb⟩; have B7 := Aside0.mk (HK6.out.2.trans (hb.mono HK6.out.2.size)); clear hb))
  go_ret
  exact ⟨rfl, HK6.out.2⟩
theorem more17_calls (a b : Int) (a0 : -9223372036854775808 ≤ a) (a1 : a ≤ 9223372036854775807) (b0 : -9223372036854775808 ≤ b) (b1 : b ≤ 9223372036854775807) (w : World) : Calls Tryd.prog 91 #[.int .i64 a, .int .i64 b] w fun e w' => e = .returned (.int .i64 (more17 a b)) ∧ Below w.heap.size w w' := by
  have hpb := prod_bound a0 a1 b0 b1
  have hN := fun W => number_calls (a * b / 1073741824) (by omega) (by omega) W
  unfold more17 mdR
  by_cases hin : -9223372036854775808 ≤ a * b / 1073741824 ∧ a * b / 1073741824 ≤ 9223372036854775807
  · simp only [if_pos hin] at hN ⊢
    by_cases hr : a * b % 1073741824 = 0
    · simp only [if_pos hr, if_true]
      exact more17_true_true a b _ a0 a1 b0 b1 hN hr w
    · simp only [if_neg hr, if_true]
      exact more17_true_false a b _ a0 a1 b0 b1 hN hr w
  · simp only [if_neg hin] at hN ⊢
    by_cases hr : a * b % 1073741824 = 0
    · simp only [if_pos hr, Bool.false_eq_true, if_false]
      exact more17_false_true a b _ a0 a1 b0 b1 hN hr w
    · simp only [if_neg hr, Bool.false_eq_true, if_false]
      exact more17_false_false a b _ a0 a1 b0 b1 hN hr w
def more14 (a b : Int) : Int := if a * b % 1073741824 = 0 then (mdR a b 1073741824).1 else wrap64 ((mdR a b 1073741824).1 + 1)
set_option maxHeartbeats 2000000 in
set_option maxRecDepth 100000 in
theorem more14_true_true (a b n : Int) (a0 : -9223372036854775808 ≤ a) (a1 : a ≤ 9223372036854775807) (b0 : -9223372036854775808 ≤ b) (b1 : b ≤ 9223372036854775807) (hN : ∀ W, Calls Tryd.prog 131 #[.agg (big (a * b / 1073741824))] W fun e w' => e = .returned (.tuple #[.int .i64 n, .bool true]) ∧ Below W.heap.size W w') (hr : a * b % 1073741824 = 0) (w : World) : Calls Tryd.prog 98 #[.int .i64 a, .int .i64 b] w fun e w' => e = .returned (.int .i64 (n)) ∧ Below w.heap.size w w' := by
  have hpb := prod_bound a0 a1 b0 b1
  obtain ⟨p, hp⟩ : ∃ p, p = a * b := ⟨_, rfl⟩
  rw [← hp] at hN hr hpb
  obtain ⟨q, hq⟩ : ∃ q, q = p / 1073741824 := ⟨_, rfl⟩
  rw [← hq] at hN
  obtain ⟨r, hrr⟩ : ∃ r, r = p % 1073741824 := ⟨_, rfl⟩
  rw [← hrr] at hr
  have hI1 := fun W => int_calls a a0 a1 W
  have hI2 := fun W => int_calls b b0 b1 W
  have hM : ∀ W, Calls Tryd.prog 128 #[.agg (big a), .agg (big b)] W fun e w' => e = .returned (.agg (big p)) ∧ Below W.heap.size W w' := fun W => by rw [hp]; exact mul_big a b (natAbs_P4 a0 a1) (natAbs_P4 b0 b1) W
  have hP : ∀ W, Calls Tryd.prog 130 #[.int .i64 30] W fun e w' => e = .returned (.agg (big 1073741824)) ∧ Below W.heap.size W w' := fun W => power_big 30 (by omega) W
  have hD : ∀ W, Calls Tryd.prog 127 #[.agg (big p), .agg (big 1073741824)] W fun e w' => e = .returned (.tuple #[.agg (big q), .agg (big r)]) ∧ Below W.heap.size W w' := fun W => by
    rw [hq, hrr]; exact div_big p 1073741824 (by rw [P8]; omega) (by omega) (by rw [P8]; omega) W
  have hZ : ∀ W, Calls Tryd.prog 132 #[.agg (c8 (dn r.natAbs))] W fun e w' => e = .returned (.bool true) ∧ Below W.heap.size W w' := fun W => by
    have := zero_calls r.natAbs (by rw [P8]; omega) W
    rwa [show (r.natAbs == 0) = true by simp [hr]] at this
  clear hp hpb hq hrr hr a0 a1 b0 b1
  go_enter Tryd.func98, Tryd.ntmps98
  go_upto_region 2 with (first | (go_at_call 129; first | (with_reducible refine (hI1 _).mono ?_); rintro e u1 ⟨rfl, hb⟩; have Bu1 := Aside0.mk hb; clear hb hI1 | (with_reducible refine (hI2 _).mono ?_); rintro e u2 ⟨rfl, hb⟩; have Bu2 := Aside0.mk (Bu1.out.trans (hb.mono Bu1.out.size)); clear hb) | (go_at_call 128; (with_reducible refine (hM _).mono ?_); rintro e u3 ⟨rfl, hb⟩; have Bu3 := Aside0.mk (Bu2.out.trans (hb.mono Bu2.out.size)); clear hb) | (go_at_call 130; (with_reducible refine (hP _).mono ?_); rintro e u4 ⟨rfl, hb⟩; have Bu4 := Aside0.mk (Bu3.out.trans (hb.mono Bu3.out.size)); clear hb) | (go_at_call 127; (with_reducible refine (hD _).mono ?_); rintro e u5 ⟨rfl, hb⟩; have Bu5 := Aside0.mk (Bu4.out.trans (hb.mono Bu4.out.size)); clear hb) | ((with_reducible refine gate_store (t := 197) (p := 5) rfl ?_); refine put9 rfl rfl rfl u5.heap.size 197 (zb false) (decide (q < 0)) (dn q.natAbs) rfl rfl (blk_alloc (heap_alloc_new u5 _) _) (by kernel_rfl) rfl ((Bu5.out.alloc Bu5.out.size _).alloc (by have := Bu5.out.size; simp; omega) _) Bu5.out.size ?_; intro wz hz hfar hbz; have HZwz := Aside0.mk hz; have HFwz := Aside0.mk hfar; have HBwz := Aside0.mk hbz; clear hz hfar hbz) | ((with_reducible refine gate_store (t := 197) (p := 6) rfl ?_); refine put9 rfl rfl rfl (u5.heap.size + 1) 197 (zb false) (decide (r < 0)) (dn r.natAbs) rfl rfl ((HFwz.out (u5.heap.size + 1) (by omega)).trans (new1 u5 _ _)) (by kernel_rfl) rfl HBwz.out (by have := Bu5.out.size; omega) ?_; intro wy hz hfar hbz; have HZwy := Aside0.mk hz; have HFwy := Aside0.mk hfar; have HBwy := Aside0.mk hbz; clear hz hfar hbz))
  have k5 : wy.heap[u5.heap.size]? = some (.cells (big q) 197 (0, 0)) := (HFwy.out _ (by omega)).trans HZwz.out
  obtain ⟨g5, hg5⟩ : ∃ g, g = u5.heap.size := ⟨_, rfl⟩
  obtain ⟨g6, hg6⟩ : ∃ g, g = u5.heap.size + 1 := ⟨_, rfl⟩
  rw [← hg6, ← hg5]
  have k6 := HZwy.out
  rw [← hg5] at k5
  rw [← hg6] at k6
  have HK := Aside0.mk (And.intro k5 (And.intro k6 HBwy.out))
  clear hg5 hg6 k5 k6 HZwz HBwz HFwz HZwy HBwy HFwy hI2 hM hP hD
  have hN' : ∀ W, Calls Tryd.prog 131 #[.agg (bg (decide (q < 0)) (dn q.natAbs))] W fun e w' => e = .returned (.tuple #[.int .i64 n, .bool true]) ∧ Below W.heap.size W w' := hN
  clear hN
  go_wp2_with (first | ((with_reducible refine gate_dst (N := 20) rfl ?_); refine get9 rfl rfl g5 197 (decide (q < 0)) (dn q.natAbs) _ rfl HK.out.1 Tryd.underlying197 rfl (by kernel_rfl) ?_) | ((with_reducible refine gate_dst (N := 25) rfl ?_); refine get81 rfl rfl g6 197 (decide (r < 0)) (dn r.natAbs) _ rfl HK6.out.1 Tryd.underlying195 rfl (by kernel_rfl) ?_) | (go_at_call 131; (with_reducible refine (hN' _).mono ?_); rintro e u6 ⟨rfl, hb⟩; have HK6 := Aside0.mk (And.intro (blk_below HK.out.2.1 hb) (HK.out.2.2.trans (hb.mono HK.out.2.2.size))); clear hb) | (go_at_call 132; (with_reducible refine (hZ _).mono ?_); rintro e u7 ⟨rfl, hb⟩; have B7 := Aside0.mk (HK6.out.2.trans (hb.mono HK6.out.2.size)); clear hb))
  go_ret
  exact ⟨rfl, B7.out⟩
set_option maxHeartbeats 2000000 in
set_option maxRecDepth 100000 in
theorem more14_true_false (a b n : Int) (a0 : -9223372036854775808 ≤ a) (a1 : a ≤ 9223372036854775807) (b0 : -9223372036854775808 ≤ b) (b1 : b ≤ 9223372036854775807) (hN : ∀ W, Calls Tryd.prog 131 #[.agg (big (a * b / 1073741824))] W fun e w' => e = .returned (.tuple #[.int .i64 n, .bool true]) ∧ Below W.heap.size W w') (hr : a * b % 1073741824 ≠ 0) (w : World) : Calls Tryd.prog 98 #[.int .i64 a, .int .i64 b] w fun e w' => e = .returned (.int .i64 (wrap64 (n + 1))) ∧ Below w.heap.size w w' := by
  have hpb := prod_bound a0 a1 b0 b1
  obtain ⟨p, hp⟩ : ∃ p, p = a * b := ⟨_, rfl⟩
  rw [← hp] at hN hr hpb
  obtain ⟨q, hq⟩ : ∃ q, q = p / 1073741824 := ⟨_, rfl⟩
  rw [← hq] at hN
  obtain ⟨r, hrr⟩ : ∃ r, r = p % 1073741824 := ⟨_, rfl⟩
  rw [← hrr] at hr
  have hI1 := fun W => int_calls a a0 a1 W
  have hI2 := fun W => int_calls b b0 b1 W
  have hM : ∀ W, Calls Tryd.prog 128 #[.agg (big a), .agg (big b)] W fun e w' => e = .returned (.agg (big p)) ∧ Below W.heap.size W w' := fun W => by rw [hp]; exact mul_big a b (natAbs_P4 a0 a1) (natAbs_P4 b0 b1) W
  have hP : ∀ W, Calls Tryd.prog 130 #[.int .i64 30] W fun e w' => e = .returned (.agg (big 1073741824)) ∧ Below W.heap.size W w' := fun W => power_big 30 (by omega) W
  have hD : ∀ W, Calls Tryd.prog 127 #[.agg (big p), .agg (big 1073741824)] W fun e w' => e = .returned (.tuple #[.agg (big q), .agg (big r)]) ∧ Below W.heap.size W w' := fun W => by
    rw [hq, hrr]; exact div_big p 1073741824 (by rw [P8]; omega) (by omega) (by rw [P8]; omega) W
  have hZ : ∀ W, Calls Tryd.prog 132 #[.agg (c8 (dn r.natAbs))] W fun e w' => e = .returned (.bool false) ∧ Below W.heap.size W w' := fun W => by
    have := zero_calls r.natAbs (by rw [P8]; omega) W
    rwa [show (r.natAbs == 0) = false by simp [hr]] at this
  clear hp hpb hq hrr hr a0 a1 b0 b1
  go_enter Tryd.func98, Tryd.ntmps98
  go_upto_region 2 with (first | (go_at_call 129; first | (with_reducible refine (hI1 _).mono ?_); rintro e u1 ⟨rfl, hb⟩; have Bu1 := Aside0.mk hb; clear hb hI1 | (with_reducible refine (hI2 _).mono ?_); rintro e u2 ⟨rfl, hb⟩; have Bu2 := Aside0.mk (Bu1.out.trans (hb.mono Bu1.out.size)); clear hb) | (go_at_call 128; (with_reducible refine (hM _).mono ?_); rintro e u3 ⟨rfl, hb⟩; have Bu3 := Aside0.mk (Bu2.out.trans (hb.mono Bu2.out.size)); clear hb) | (go_at_call 130; (with_reducible refine (hP _).mono ?_); rintro e u4 ⟨rfl, hb⟩; have Bu4 := Aside0.mk (Bu3.out.trans (hb.mono Bu3.out.size)); clear hb) | (go_at_call 127; (with_reducible refine (hD _).mono ?_); rintro e u5 ⟨rfl, hb⟩; have Bu5 := Aside0.mk (Bu4.out.trans (hb.mono Bu4.out.size)); clear hb) | ((with_reducible refine gate_store (t := 197) (p := 5) rfl ?_); refine put9 rfl rfl rfl u5.heap.size 197 (zb false) (decide (q < 0)) (dn q.natAbs) rfl rfl (blk_alloc (heap_alloc_new u5 _) _) (by kernel_rfl) rfl ((Bu5.out.alloc Bu5.out.size _).alloc (by have := Bu5.out.size; simp; omega) _) Bu5.out.size ?_; intro wz hz hfar hbz; have HZwz := Aside0.mk hz; have HFwz := Aside0.mk hfar; have HBwz := Aside0.mk hbz; clear hz hfar hbz) | ((with_reducible refine gate_store (t := 197) (p := 6) rfl ?_); refine put9 rfl rfl rfl (u5.heap.size + 1) 197 (zb false) (decide (r < 0)) (dn r.natAbs) rfl rfl ((HFwz.out (u5.heap.size + 1) (by omega)).trans (new1 u5 _ _)) (by kernel_rfl) rfl HBwz.out (by have := Bu5.out.size; omega) ?_; intro wy hz hfar hbz; have HZwy := Aside0.mk hz; have HFwy := Aside0.mk hfar; have HBwy := Aside0.mk hbz; clear hz hfar hbz))
  have k5 : wy.heap[u5.heap.size]? = some (.cells (big q) 197 (0, 0)) := (HFwy.out _ (by omega)).trans HZwz.out
  obtain ⟨g5, hg5⟩ : ∃ g, g = u5.heap.size := ⟨_, rfl⟩
  obtain ⟨g6, hg6⟩ : ∃ g, g = u5.heap.size + 1 := ⟨_, rfl⟩
  rw [← hg6, ← hg5]
  have k6 := HZwy.out
  rw [← hg5] at k5
  rw [← hg6] at k6
  have HK := Aside0.mk (And.intro k5 (And.intro k6 HBwy.out))
  clear hg5 hg6 k5 k6 HZwz HBwz HFwz HZwy HBwy HFwy hI2 hM hP hD
  have hN' : ∀ W, Calls Tryd.prog 131 #[.agg (bg (decide (q < 0)) (dn q.natAbs))] W fun e w' => e = .returned (.tuple #[.int .i64 n, .bool true]) ∧ Below W.heap.size W w' := hN
  clear hN
  go_wp2_with (first | ((with_reducible refine gate_dst (N := 20) rfl ?_); refine get9 rfl rfl g5 197 (decide (q < 0)) (dn q.natAbs) _ rfl HK.out.1 Tryd.underlying197 rfl (by kernel_rfl) ?_) | ((with_reducible refine gate_dst (N := 25) rfl ?_); refine get81 rfl rfl g6 197 (decide (r < 0)) (dn r.natAbs) _ rfl HK6.out.1 Tryd.underlying195 rfl (by kernel_rfl) ?_) | (go_at_call 131; (with_reducible refine (hN' _).mono ?_); rintro e u6 ⟨rfl, hb⟩; have HK6 := Aside0.mk (And.intro (blk_below HK.out.2.1 hb) (HK.out.2.2.trans (hb.mono HK.out.2.2.size))); clear hb) | (go_at_call 132; (with_reducible refine (hZ _).mono ?_); rintro e u7 ⟨rfl, hb⟩; have B7 := Aside0.mk (HK6.out.2.trans (hb.mono HK6.out.2.size)); clear hb))
  go_ret
  exact ⟨rfl, B7.out⟩
set_option maxHeartbeats 2000000 in
set_option maxRecDepth 100000 in
theorem more14_false_true (a b n : Int) (a0 : -9223372036854775808 ≤ a) (a1 : a ≤ 9223372036854775807) (b0 : -9223372036854775808 ≤ b) (b1 : b ≤ 9223372036854775807) (hN : ∀ W, Calls Tryd.prog 131 #[.agg (big (a * b / 1073741824))] W fun e w' => e = .returned (.tuple #[.int .i64 n, .bool false]) ∧ Below W.heap.size W w') (hr : a * b % 1073741824 = 0) (w : World) : Calls Tryd.prog 98 #[.int .i64 a, .int .i64 b] w fun e w' => e = .returned (.int .i64 (n)) ∧ Below w.heap.size w w' := by
  have hpb := prod_bound a0 a1 b0 b1
  obtain ⟨p, hp⟩ : ∃ p, p = a * b := ⟨_, rfl⟩
  rw [← hp] at hN hr hpb
  obtain ⟨q, hq⟩ : ∃ q, q = p / 1073741824 := ⟨_, rfl⟩
  rw [← hq] at hN
  obtain ⟨r, hrr⟩ : ∃ r, r = p % 1073741824 := ⟨_, rfl⟩
  rw [← hrr] at hr
  have hI1 := fun W => int_calls a a0 a1 W
  have hI2 := fun W => int_calls b b0 b1 W
  have hM : ∀ W, Calls Tryd.prog 128 #[.agg (big a), .agg (big b)] W fun e w' => e = .returned (.agg (big p)) ∧ Below W.heap.size W w' := fun W => by rw [hp]; exact mul_big a b (natAbs_P4 a0 a1) (natAbs_P4 b0 b1) W
  have hP : ∀ W, Calls Tryd.prog 130 #[.int .i64 30] W fun e w' => e = .returned (.agg (big 1073741824)) ∧ Below W.heap.size W w' := fun W => power_big 30 (by omega) W
  have hD : ∀ W, Calls Tryd.prog 127 #[.agg (big p), .agg (big 1073741824)] W fun e w' => e = .returned (.tuple #[.agg (big q), .agg (big r)]) ∧ Below W.heap.size W w' := fun W => by
    rw [hq, hrr]; exact div_big p 1073741824 (by rw [P8]; omega) (by omega) (by rw [P8]; omega) W
  have hZ : ∀ W, Calls Tryd.prog 132 #[.agg (c8 (dn r.natAbs))] W fun e w' => e = .returned (.bool true) ∧ Below W.heap.size W w' := fun W => by
    have := zero_calls r.natAbs (by rw [P8]; omega) W
    rwa [show (r.natAbs == 0) = true by simp [hr]] at this
  clear hp hpb hq hrr hr a0 a1 b0 b1
  go_enter Tryd.func98, Tryd.ntmps98
  go_upto_region 2 with (first | (go_at_call 129; first | (with_reducible refine (hI1 _).mono ?_); rintro e u1 ⟨rfl, hb⟩; have Bu1 := Aside0.mk hb; clear hb hI1 | (with_reducible refine (hI2 _).mono ?_); rintro e u2 ⟨rfl, hb⟩; have Bu2 := Aside0.mk (Bu1.out.trans (hb.mono Bu1.out.size)); clear hb) | (go_at_call 128; (with_reducible refine (hM _).mono ?_); rintro e u3 ⟨rfl, hb⟩; have Bu3 := Aside0.mk (Bu2.out.trans (hb.mono Bu2.out.size)); clear hb) | (go_at_call 130; (with_reducible refine (hP _).mono ?_); rintro e u4 ⟨rfl, hb⟩; have Bu4 := Aside0.mk (Bu3.out.trans (hb.mono Bu3.out.size)); clear hb) | (go_at_call 127; (with_reducible refine (hD _).mono ?_); rintro e u5 ⟨rfl, hb⟩; have Bu5 := Aside0.mk (Bu4.out.trans (hb.mono Bu4.out.size)); clear hb) | ((with_reducible refine gate_store (t := 197) (p := 5) rfl ?_); refine put9 rfl rfl rfl u5.heap.size 197 (zb false) (decide (q < 0)) (dn q.natAbs) rfl rfl (blk_alloc (heap_alloc_new u5 _) _) (by kernel_rfl) rfl ((Bu5.out.alloc Bu5.out.size _).alloc (by have := Bu5.out.size; simp; omega) _) Bu5.out.size ?_; intro wz hz hfar hbz; have HZwz := Aside0.mk hz; have HFwz := Aside0.mk hfar; have HBwz := Aside0.mk hbz; clear hz hfar hbz) | ((with_reducible refine gate_store (t := 197) (p := 6) rfl ?_); refine put9 rfl rfl rfl (u5.heap.size + 1) 197 (zb false) (decide (r < 0)) (dn r.natAbs) rfl rfl ((HFwz.out (u5.heap.size + 1) (by omega)).trans (new1 u5 _ _)) (by kernel_rfl) rfl HBwz.out (by have := Bu5.out.size; omega) ?_; intro wy hz hfar hbz; have HZwy := Aside0.mk hz; have HFwy := Aside0.mk hfar; have HBwy := Aside0.mk hbz; clear hz hfar hbz))
  have k5 : wy.heap[u5.heap.size]? = some (.cells (big q) 197 (0, 0)) := (HFwy.out _ (by omega)).trans HZwz.out
  obtain ⟨g5, hg5⟩ : ∃ g, g = u5.heap.size := ⟨_, rfl⟩
  obtain ⟨g6, hg6⟩ : ∃ g, g = u5.heap.size + 1 := ⟨_, rfl⟩
  rw [← hg6, ← hg5]
  have k6 := HZwy.out
  rw [← hg5] at k5
  rw [← hg6] at k6
  have HK := Aside0.mk (And.intro k5 (And.intro k6 HBwy.out))
  clear hg5 hg6 k5 k6 HZwz HBwz HFwz HZwy HBwy HFwy hI2 hM hP hD
  have hN' : ∀ W, Calls Tryd.prog 131 #[.agg (bg (decide (q < 0)) (dn q.natAbs))] W fun e w' => e = .returned (.tuple #[.int .i64 n, .bool false]) ∧ Below W.heap.size W w' := hN
  clear hN
  go_wp2_with (first | ((with_reducible refine gate_dst (N := 20) rfl ?_); refine get9 rfl rfl g5 197 (decide (q < 0)) (dn q.natAbs) _ rfl HK.out.1 Tryd.underlying197 rfl (by kernel_rfl) ?_) | ((with_reducible refine gate_dst (N := 25) rfl ?_); refine get81 rfl rfl g6 197 (decide (r < 0)) (dn r.natAbs) _ rfl HK6.out.1 Tryd.underlying195 rfl (by kernel_rfl) ?_) | (go_at_call 131; (with_reducible refine (hN' _).mono ?_); rintro e u6 ⟨rfl, hb⟩; have HK6 := Aside0.mk (And.intro (blk_below HK.out.2.1 hb) (HK.out.2.2.trans (hb.mono HK.out.2.2.size))); clear hb) | (go_at_call 132; (with_reducible refine (hZ _).mono ?_); rintro e u7 ⟨rfl, hb⟩; have B7 := Aside0.mk (HK6.out.2.trans (hb.mono HK6.out.2.size)); clear hb))
  go_ret
  exact ⟨rfl, B7.out⟩
set_option maxHeartbeats 2000000 in
set_option maxRecDepth 100000 in
theorem more14_false_false (a b n : Int) (a0 : -9223372036854775808 ≤ a) (a1 : a ≤ 9223372036854775807) (b0 : -9223372036854775808 ≤ b) (b1 : b ≤ 9223372036854775807) (hN : ∀ W, Calls Tryd.prog 131 #[.agg (big (a * b / 1073741824))] W fun e w' => e = .returned (.tuple #[.int .i64 n, .bool false]) ∧ Below W.heap.size W w') (hr : a * b % 1073741824 ≠ 0) (w : World) : Calls Tryd.prog 98 #[.int .i64 a, .int .i64 b] w fun e w' => e = .returned (.int .i64 (wrap64 (n + 1))) ∧ Below w.heap.size w w' := by
  have hpb := prod_bound a0 a1 b0 b1
  obtain ⟨p, hp⟩ : ∃ p, p = a * b := ⟨_, rfl⟩
  rw [← hp] at hN hr hpb
  obtain ⟨q, hq⟩ : ∃ q, q = p / 1073741824 := ⟨_, rfl⟩
  rw [← hq] at hN
  obtain ⟨r, hrr⟩ : ∃ r, r = p % 1073741824 := ⟨_, rfl⟩
  rw [← hrr] at hr
  have hI1 := fun W => int_calls a a0 a1 W
  have hI2 := fun W => int_calls b b0 b1 W
  have hM : ∀ W, Calls Tryd.prog 128 #[.agg (big a), .agg (big b)] W fun e w' => e = .returned (.agg (big p)) ∧ Below W.heap.size W w' := fun W => by rw [hp]; exact mul_big a b (natAbs_P4 a0 a1) (natAbs_P4 b0 b1) W
  have hP : ∀ W, Calls Tryd.prog 130 #[.int .i64 30] W fun e w' => e = .returned (.agg (big 1073741824)) ∧ Below W.heap.size W w' := fun W => power_big 30 (by omega) W
  have hD : ∀ W, Calls Tryd.prog 127 #[.agg (big p), .agg (big 1073741824)] W fun e w' => e = .returned (.tuple #[.agg (big q), .agg (big r)]) ∧ Below W.heap.size W w' := fun W => by
    rw [hq, hrr]; exact div_big p 1073741824 (by rw [P8]; omega) (by omega) (by rw [P8]; omega) W
  have hZ : ∀ W, Calls Tryd.prog 132 #[.agg (c8 (dn r.natAbs))] W fun e w' => e = .returned (.bool false) ∧ Below W.heap.size W w' := fun W => by
    have := zero_calls r.natAbs (by rw [P8]; omega) W
    rwa [show (r.natAbs == 0) = false by simp [hr]] at this
  clear hp hpb hq hrr hr a0 a1 b0 b1
  go_enter Tryd.func98, Tryd.ntmps98
  go_upto_region 2 with (first | (go_at_call 129; first | (with_reducible refine (hI1 _).mono ?_); rintro e u1 ⟨rfl, hb⟩; have Bu1 := Aside0.mk hb; clear hb hI1 | (with_reducible refine (hI2 _).mono ?_); rintro e u2 ⟨rfl, hb⟩; have Bu2 := Aside0.mk (Bu1.out.trans (hb.mono Bu1.out.size)); clear hb) | (go_at_call 128; (with_reducible refine (hM _).mono ?_); rintro e u3 ⟨rfl, hb⟩; have Bu3 := Aside0.mk (Bu2.out.trans (hb.mono Bu2.out.size)); clear hb) | (go_at_call 130; (with_reducible refine (hP _).mono ?_); rintro e u4 ⟨rfl, hb⟩; have Bu4 := Aside0.mk (Bu3.out.trans (hb.mono Bu3.out.size)); clear hb) | (go_at_call 127; (with_reducible refine (hD _).mono ?_); rintro e u5 ⟨rfl, hb⟩; have Bu5 := Aside0.mk (Bu4.out.trans (hb.mono Bu4.out.size)); clear hb) | ((with_reducible refine gate_store (t := 197) (p := 5) rfl ?_); refine put9 rfl rfl rfl u5.heap.size 197 (zb false) (decide (q < 0)) (dn q.natAbs) rfl rfl (blk_alloc (heap_alloc_new u5 _) _) (by kernel_rfl) rfl ((Bu5.out.alloc Bu5.out.size _).alloc (by have := Bu5.out.size; simp; omega) _) Bu5.out.size ?_; intro wz hz hfar hbz; have HZwz := Aside0.mk hz; have HFwz := Aside0.mk hfar; have HBwz := Aside0.mk hbz; clear hz hfar hbz) | ((with_reducible refine gate_store (t := 197) (p := 6) rfl ?_); refine put9 rfl rfl rfl (u5.heap.size + 1) 197 (zb false) (decide (r < 0)) (dn r.natAbs) rfl rfl ((HFwz.out (u5.heap.size + 1) (by omega)).trans (new1 u5 _ _)) (by kernel_rfl) rfl HBwz.out (by have := Bu5.out.size; omega) ?_; intro wy hz hfar hbz; have HZwy := Aside0.mk hz; have HFwy := Aside0.mk hfar; have HBwy := Aside0.mk hbz; clear hz hfar hbz))
  have k5 : wy.heap[u5.heap.size]? = some (.cells (big q) 197 (0, 0)) := (HFwy.out _ (by omega)).trans HZwz.out
  obtain ⟨g5, hg5⟩ : ∃ g, g = u5.heap.size := ⟨_, rfl⟩
  obtain ⟨g6, hg6⟩ : ∃ g, g = u5.heap.size + 1 := ⟨_, rfl⟩
  rw [← hg6, ← hg5]
  have k6 := HZwy.out
  rw [← hg5] at k5
  rw [← hg6] at k6
  have HK := Aside0.mk (And.intro k5 (And.intro k6 HBwy.out))
  clear hg5 hg6 k5 k6 HZwz HBwz HFwz HZwy HBwy HFwy hI2 hM hP hD
  have hN' : ∀ W, Calls Tryd.prog 131 #[.agg (bg (decide (q < 0)) (dn q.natAbs))] W fun e w' => e = .returned (.tuple #[.int .i64 n, .bool false]) ∧ Below W.heap.size W w' := hN
  clear hN
  go_wp2_with (first | ((with_reducible refine gate_dst (N := 20) rfl ?_); refine get9 rfl rfl g5 197 (decide (q < 0)) (dn q.natAbs) _ rfl HK.out.1 Tryd.underlying197 rfl (by kernel_rfl) ?_) | ((with_reducible refine gate_dst (N := 25) rfl ?_); refine get81 rfl rfl g6 197 (decide (r < 0)) (dn r.natAbs) _ rfl HK6.out.1 Tryd.underlying195 rfl (by kernel_rfl) ?_) | (go_at_call 131; (with_reducible refine (hN' _).mono ?_); rintro e u6 ⟨rfl, hb⟩; have HK6 := Aside0.mk (And.intro (blk_below HK.out.2.1 hb) (HK.out.2.2.trans (hb.mono HK.out.2.2.size))); clear hb) | (go_at_call 132; (with_reducible refine (hZ _).mono ?_); rintro e u7 ⟨rfl, hb⟩; have B7 := Aside0.mk (HK6.out.2.trans (hb.mono HK6.out.2.size)); clear hb))
  go_ret
  exact ⟨rfl, B7.out⟩
theorem more14_calls (a b : Int) (a0 : -9223372036854775808 ≤ a) (a1 : a ≤ 9223372036854775807) (b0 : -9223372036854775808 ≤ b) (b1 : b ≤ 9223372036854775807) (w : World) : Calls Tryd.prog 98 #[.int .i64 a, .int .i64 b] w fun e w' => e = .returned (.int .i64 (more14 a b)) ∧ Below w.heap.size w w' := by
  have hpb := prod_bound a0 a1 b0 b1
  have hN := fun W => number_calls (a * b / 1073741824) (by omega) (by omega) W
  unfold more14 mdR
  by_cases hin : -9223372036854775808 ≤ a * b / 1073741824 ∧ a * b / 1073741824 ≤ 9223372036854775807
  · simp only [if_pos hin] at hN ⊢
    by_cases hr : a * b % 1073741824 = 0
    · simp only [if_pos hr, if_true]
      exact more14_true_true a b _ a0 a1 b0 b1 hN hr w
    · simp only [if_neg hr, if_true]
      exact more14_true_false a b _ a0 a1 b0 b1 hN hr w
  · simp only [if_neg hin] at hN ⊢
    by_cases hr : a * b % 1073741824 = 0
    · simp only [if_pos hr, Bool.false_eq_true, if_false]
      exact more14_false_true a b _ a0 a1 b0 b1 hN hr w
    · simp only [if_neg hr, Bool.false_eq_true, if_false]
      exact more14_false_false a b _ a0 a1 b0 b1 hN hr w
end Go.Proofs.YtpihgdehgkclmaaDoor.Big
