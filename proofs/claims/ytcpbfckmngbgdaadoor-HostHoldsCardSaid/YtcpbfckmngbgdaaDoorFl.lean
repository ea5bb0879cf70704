/-
  Whole numbers as floats: what is small enough comes back exactly.
-/
import Derived.Laws.ComplexArith
import Derived.Laws.FloatBits
namespace Go.Proofs.YtcpbfckmngbgdaaDoor
open Go Ieee
set_option linter.unusedVariables false

/-- a datum stands for a whole number -/
def Val (d : Datum) (n : Int) : Prop := ∃ s m e, d = .number s m e ∧ m * 2 ^ e.toNat = n.natAbs * 2 ^ (-e).toNat ∧ (n < 0 → s = true) ∧ (0 < n → s = false)
theorem Val.of (n : Int) : Val (.number (n < 0) n.natAbs 0) n := ⟨_, _, _, rfl, by simp, by intro h; simpa using h, by intro h; simp; omega⟩
theorem Val.opposite {d : Datum} {n : Int} (h : Val d n) : Val d.opposite (-n) := by
  obtain ⟨s, m, e, rfl, h1, h2, h3⟩ := h
  refine ⟨!s, m, e, rfl, by rw [Int.natAbs_neg]; exact h1, fun h => ?_, fun h => ?_⟩
  · rw [h3 (by omega)]; rfl
  · rw [h2 (by omega)]; rfl
theorem pow_pos' (k : Nat) : 0 < 2 ^ k := Nat.pow_pos (by omega)
theorem Val.product {d1 d2 : Datum} {a b : Int} (h1 : Val d1 a) (h2 : Val d2 b) : ∃ d, d1.product d2 = some d ∧ Val d (a * b) := by
  obtain ⟨s, m, i, rfl, e1, p1, q1⟩ := h1
  obtain ⟨t, n, j, rfl, e2, p2, q2⟩ := h2
  refine ⟨_, rfl, _, _, _, rfl, ?_, ?_, ?_⟩
  · rw [Int.natAbs_mul]
    have e3 : (m * n) * (2 ^ i.toNat * 2 ^ j.toNat) = (a.natAbs * b.natAbs) * (2 ^ (-i).toNat * 2 ^ (-j).toNat) := by
      calc (m * n) * (2 ^ i.toNat * 2 ^ j.toNat) = (m * 2 ^ i.toNat) * (n * 2 ^ j.toNat) := by ac_rfl
        _ = (a.natAbs * 2 ^ (-i).toNat) * (b.natAbs * 2 ^ (-j).toNat) := by rw [e1, e2]
        _ = _ := by ac_rfl
    rw [← Nat.pow_add, ← Nat.pow_add] at e3
    -- both sides times what is common
    obtain ⟨c, c1, c2⟩ : ∃ c, i.toNat + j.toNat = (i + j).toNat + c ∧ (-i).toNat + (-j).toNat = (-(i + j)).toNat + c := ⟨i.toNat + j.toNat - (i + j).toNat, by omega, by omega⟩
    rw [c1, c2, Nat.pow_add, Nat.pow_add, ← Nat.mul_assoc, ← Nat.mul_assoc] at e3
    exact Nat.mul_right_cancel (pow_pos' c) e3
  · intro h
    rcases Int.lt_trichotomy a 0 with ha | ha | ha
    · rcases Int.lt_trichotomy b 0 with hb | hb | hb
      · have := Int.mul_pos_of_neg_of_neg ha hb; omega
      · subst hb; simp at h
      · rw [p1 ha, q2 hb]; rfl
    · subst ha; simp at h
    · rcases Int.lt_trichotomy b 0 with hb | hb | hb
      · rw [q1 ha, p2 hb]; rfl
      · subst hb; simp at h
      · have := Int.mul_pos ha hb; omega
  · intro h
    rcases Int.lt_trichotomy a 0 with ha | ha | ha
    · rcases Int.lt_trichotomy b 0 with hb | hb | hb
      · rw [p1 ha, p2 hb]; rfl
      · subst hb; simp at h
      · have := Int.mul_neg_of_neg_of_pos ha hb; omega
    · subst ha; simp at h
    · rcases Int.lt_trichotomy b 0 with hb | hb | hb
      · have := Int.mul_neg_of_pos_of_neg ha hb; omega
      · subst hb; simp at h
      · rw [q1 ha, q2 hb]; rfl
theorem signed_val {s : Bool} {m : Nat} {i base : Int} {a : Int} (e1 : m * 2 ^ i.toNat = a.natAbs * 2 ^ (-i).toNat) (p1 : a < 0 → s = true) (q1 : 0 < a → s = false) (hb : base ≤ i) (hb0 : base ≤ 0) : signed s m (i - base).toNat = a * 2 ^ (-base).toNat := by
  have e2 : m * 2 ^ (i - base).toNat = a.natAbs * 2 ^ (-base).toNat := by
    rcases Int.le_total 0 i with hi | hi
    · rw [show (-i).toNat = 0 by omega, Nat.pow_zero, Nat.mul_one] at e1
      rw [show (i - base).toNat = i.toNat + (-base).toNat by omega, Nat.pow_add, ← Nat.mul_assoc, e1]
    · rw [show i.toNat = 0 by omega, Nat.pow_zero, Nat.mul_one] at e1
      rw [e1, Nat.mul_assoc, ← Nat.pow_add, show (-i).toNat + (i - base).toNat = (-base).toNat by omega]
  unfold signed
  rw [Nat.shiftLeft_eq, e2]
  have e3 : (((a.natAbs * 2 ^ (-base).toNat : Nat)) : Int) = (a.natAbs : Int) * 2 ^ (-base).toNat := by push_cast; rfl
  rcases Int.lt_trichotomy a 0 with ha | ha | ha
  · rw [p1 ha, if_pos rfl, e3, show (a.natAbs : Int) = -a by omega, Int.neg_mul, Int.neg_neg]
  · subst ha; simp
  · rw [q1 ha, if_neg (by decide), e3, show (a.natAbs : Int) = a by omega]
theorem Val.sum {d1 d2 : Datum} {a b : Int} (h1 : Val d1 a) (h2 : Val d2 b) (hi : ∀ s m e, d1 = .number s m e → e ≤ 0) : ∃ d, d1.sum d2 = some d ∧ Val d (a + b) := by
  obtain ⟨s, m, i, rfl, e1, p1, q1⟩ := h1
  obtain ⟨t, n, j, rfl, e2, p2, q2⟩ := h2
  have hi0 := hi _ _ _ rfl
  have x1 := signed_val e1 p1 q1 (Int.min_le_left i j) (Int.le_trans (Int.min_le_left i j) hi0)
  have x2 := signed_val e2 p2 q2 (Int.min_le_right i j) (Int.le_trans (Int.min_le_left i j) hi0)
  refine ⟨_, rfl, _, _, _, rfl, ?_⟩
  have hb : min i j ≤ 0 := Int.le_trans (Int.min_le_left i j) hi0
  have ht : signed s m (i - min i j).toNat + signed t n (j - min i j).toNat = (a + b) * 2 ^ (-(min i j)).toNat := by rw [x1, x2, Int.add_mul]
  have hp : (0 : Int) < 2 ^ (-(min i j)).toNat := Int.pow_pos (by omega)
  rw [ht]
  refine ⟨?_, ?_, ?_⟩
  · rw [Int.natAbs_mul, show (min i j).toNat = 0 by omega, Nat.pow_zero, Nat.mul_one]
    congr 1
  · intro h
    have hx : (a + b) * 2 ^ (-(min i j)).toNat < 0 := Int.mul_neg_of_neg_of_pos h hp
    rw [if_neg (by omega)]
    exact decide_eq_true hx
  · intro h
    have hx : 0 < (a + b) * 2 ^ (-(min i j)).toNat := Int.mul_pos h hp
    rw [if_neg (by omega)]
    exact decide_eq_false (by omega)
theorem Val.toInt {d : Datum} {n : Int} (h : Val d n) : d.toInt .zero = some n := by
  obtain ⟨s, m, e, rfl, h1, h2, h3⟩ := h
  have hc : Toward.cut .zero s (m <<< e.toNat) (-e).toNat = n.natAbs := by
    rw [Nat.shiftLeft_eq, h1]
    unfold Toward.cut
    simp only [Nat.one_shiftLeft, Bool.toNat_false, Nat.add_zero]
    rcases Nat.eq_zero_or_pos n.natAbs with hz | hz
    · rw [hz]; simp
    · have hl : (-e).toNat ≤ (n.natAbs * 2 ^ (-e).toNat).log2 := by
        rw [Nat.le_log2 (by have := Nat.mul_pos hz (pow_pos' (-e).toNat); omega)]
        exact Nat.le_mul_of_pos_left _ hz
      rw [Nat.min_eq_left (by omega)]
      exact Nat.mul_div_cancel _ (pow_pos' _)
  show (match Datum.integral .zero (.number s m e) with | .number s m _ => some (signed s m 0) | _ => none) = some n
  show some (signed s (Toward.cut .zero s (m <<< e.toNat) (-e).toNat) 0) = some n
  rw [hc]
  unfold signed
  rw [Nat.shiftLeft_zero]
  congr 1
  rcases Int.lt_trichotomy n 0 with ha | ha | ha
  · rw [h2 ha, if_pos rfl]; omega
  · subst ha; simp
  · rw [h3 ha, if_neg (by decide)]; omega
theorem cut_whole (s : Bool) (k drop : Nat) (h : drop ≤ (k * 2 ^ drop).log2 + 2) : Toward.even.cut s (k * 2 ^ drop) drop = k := by
  unfold Toward.cut
  simp only [Nat.one_shiftLeft, Nat.min_eq_left h, Nat.mul_mod_left, Nat.mul_div_cancel _ (pow_pos' drop)]
  have hp := pow_pos' drop
  have : (2 ^ drop == 2 * 0) = false := beq_eq_false_iff_ne.mpr (by omega)
  rw [this]
  simp
theorem rung_min (L K : Nat) (hL : L ≤ 52) (h1 : 4503599627370496 ≤ K) (h2 : K < 9007199254740992) : min ((L + 1022) * 4503599627370496 + K) (2047 * 4503599627370496) = (L + 1022) * 4503599627370496 + K := by
  apply Nat.min_eq_left; omega
theorem rung_lt (L K : Nat) (hL : L ≤ 52) (h1 : 4503599627370496 ≤ K) (h2 : K < 9007199254740992) : (L + 1022) * 4503599627370496 + K < 9223372036854775808 ∧ ¬ ((L + 1022) * 4503599627370496 + K < 4503599627370496) ∧ (L + 1022) * 4503599627370496 + K < 2047 * 4503599627370496 := by omega
theorem rung_mag (L K : Nat) (h1 : 4503599627370496 ≤ K) (h2 : K < 9007199254740992) : 4503599627370496 + ((L + 1022) * 4503599627370496 + K) % 4503599627370496 = K := by omega
theorem rung_place (L K : Nat) (h1 : 4503599627370496 ≤ K) (h2 : K < 9007199254740992) : (-1074 : Int) + ((((L + 1022) * 4503599627370496 + K) / 4503599627370496 - 1 : Nat) : Int) = (L : Int) - 52 := by omega
set_option maxRecDepth 10000 in
/-- a whole number below 2^53 is written and read as it is -/
theorem Val.write {d : Datum} {n : Int} (h : Val d n) (hn : n.natAbs < 9007199254740992) : Val (double.read (double.write d)) n ∧ ∀ s m e, double.read (double.write d) = .number s m e → e ≤ 0 := by
  obtain ⟨s, m, e, rfl, h1, h2, h3⟩ := h
  have fb : double.fractionBits = 52 := rfl
  have lp : double.leastPlace = -1074 := by decide
  have bi : double.binade = 4503599627370496 := by decide
  have ir : double.infRung = 2047 * 4503599627370496 := by decide
  have sw : double.signWeight = 9223372036854775808 := by decide
  have rd_ : ∀ (s : Bool) (r : Nat), r < 9223372036854775808 → double.read (double.word s r) = (if r < 4503599627370496 then .number s r (-1074) else if r < 2047 * 4503599627370496 then .number s (4503599627370496 + r % 4503599627370496) (-1074 + ((r / 4503599627370496 - 1 : Nat) : Int)) else if r = 2047 * 4503599627370496 then .infinity s else .nan s (r - 2047 * 4503599627370496)) := by
    intro s r hr
    unfold Format.read Format.word
    rw [sw, bi, ir, lp]
    cases s with
    | false =>
      simp only [Bool.false_eq_true, if_false]
      rw [show (r / 9223372036854775808 % 2 == 1) = false by rw [Nat.div_eq_of_lt hr]; rfl, Nat.mod_eq_of_lt hr]
    | true =>
      simp only [if_true]
      rw [show ((9223372036854775808 + r) / 9223372036854775808 % 2 == 1) = true by rw [show (9223372036854775808 + r) / 9223372036854775808 = 1 by omega]; rfl, show (9223372036854775808 + r) % 9223372036854775808 = r by omega]
  show Val (double.read (double.nearest s m e)) n ∧ ∀ s' m' e', double.read (double.nearest s m e) = .number s' m' e' → e' ≤ 0
  unfold Format.nearest
  rcases Nat.eq_zero_or_pos m with hm | hm
  · rw [if_pos hm, rd_ s 0 (by omega), if_pos (by omega)]
    subst hm
    have hz : n.natAbs = 0 := by
      rw [Nat.zero_mul] at h1
      rcases Nat.mul_eq_zero.1 h1.symm with h | h
      · exact h
      · have := pow_pos' (-e).toNat; omega
    refine ⟨⟨s, 0, -1074, rfl, by rw [hz, Nat.zero_mul, Nat.zero_mul], h2, h3⟩, ?_⟩
    intro s' m' e' he; cases he; omega
  · rw [if_neg (by omega)]
    have hN : 0 < n.natAbs := by
      rcases Nat.eq_zero_or_pos n.natAbs with h | h
      · rw [h, Nat.zero_mul] at h1
        rcases Nat.mul_eq_zero.1 h1 with h | h
        · omega
        · have := pow_pos' e.toNat; omega
      · exact h
    obtain ⟨N, hNn⟩ : ∃ N, N = n.natAbs := ⟨_, rfl⟩
    rw [← hNn] at h1 hn hN
    obtain ⟨L, hL⟩ : ∃ L, L = N.log2 := ⟨_, rfl⟩
    have hL1 : 2 ^ L ≤ N := by rw [hL]; exact Nat.log2_self_le (by omega)
    have hL2 : N < 2 ^ (L + 1) := by rw [hL]; exact Nat.lt_log2_self
    have hL3 : L ≤ 52 := by
      rcases Nat.lt_or_ge 52 L with h | h
      · have : 2 ^ 53 ≤ 2 ^ L := Nat.pow_le_pow_right (by omega) h
        have e53 : 2 ^ 53 = 9007199254740992 := by decide
        omega
      · exact h
    have hlm : (e : Int) + (m.log2 : Int) = (L : Int) := by
      rcases Int.le_total 0 e with he | he
      · rw [show (-e).toNat = 0 by omega, Nat.pow_zero, Nat.mul_one] at h1
        have a1 : 2 ^ (L - e.toNat) ≤ m ∧ e.toNat ≤ L := by
          have : e.toNat ≤ L := by
            rcases Nat.lt_or_ge L e.toNat with h | h
            · have x : 2 ^ (L + 1) ≤ 2 ^ e.toNat := Nat.pow_le_pow_right (by omega) h
              have y : 2 ^ e.toNat ≤ m * 2 ^ e.toNat := Nat.le_mul_of_pos_left _ hm
              omega
            · exact h
          refine ⟨?_, this⟩
          have x : 2 ^ (L - e.toNat) * 2 ^ e.toNat ≤ m * 2 ^ e.toNat := by rw [← Nat.pow_add, show L - e.toNat + e.toNat = L by omega, h1]; exact hL1
          exact Nat.le_of_mul_le_mul_right x (pow_pos' _)
        have a2 : m < 2 ^ (L - e.toNat + 1) := by
          have x : m * 2 ^ e.toNat < 2 ^ (L - e.toNat + 1) * 2 ^ e.toNat := by rw [← Nat.pow_add, show L - e.toNat + 1 + e.toNat = L + 1 by omega, h1]; exact hL2
          exact Nat.lt_of_mul_lt_mul_right x
        have b1 : L - e.toNat ≤ m.log2 := (Nat.le_log2 (by omega)).2 a1.1
        have b2 : m.log2 < L - e.toNat + 1 := (Nat.log2_lt (by omega)).2 a2
        omega
      · rw [show e.toNat = 0 by omega, Nat.pow_zero, Nat.mul_one] at h1
        have a1 : 2 ^ (L + (-e).toNat) ≤ m := by rw [Nat.pow_add, h1]; exact Nat.mul_le_mul_right _ hL1
        have a2 : m < 2 ^ (L + (-e).toNat + 1) := by rw [show L + (-e).toNat + 1 = L + 1 + (-e).toNat by omega, Nat.pow_add, h1]; exact Nat.mul_lt_mul_of_pos_right hL2 (pow_pos' _)
        have b1 : L + (-e).toNat ≤ m.log2 := (Nat.le_log2 (by omega)).2 a1
        have b2 : m.log2 < L + (-e).toNat + 1 := (Nat.log2_lt (by omega)).2 a2
        omega
    obtain ⟨last, hlast⟩ : ∃ last : Int, last = (L : Int) - 52 := ⟨_, rfl⟩
    have hmax : max (e + (m.log2 : Int) - ((double.fractionBits : Nat) : Int)) (-1074) = last := by
      rw [show ((double.fractionBits : Nat) : Int) = 52 from rfl]; omega
    have hkept : Toward.even.cut s (m <<< (e - last).toNat) (last - e).toNat = N * 2 ^ (52 - L) := by
      rw [Nat.shiftLeft_eq]
      rcases Int.le_total last e with hle | hle
      · rw [show (last - e).toNat = 0 by omega]
        have k1 : m * 2 ^ (e - last).toNat = N * 2 ^ (52 - L) := by
          rcases Int.le_total 0 e with he | he
          · rw [show (-e).toNat = 0 by omega, Nat.pow_zero, Nat.mul_one] at h1
            rw [← h1, Nat.mul_assoc, ← Nat.pow_add]; congr 2; omega
          · rw [show e.toNat = 0 by omega, Nat.pow_zero, Nat.mul_one] at h1
            rw [h1, Nat.mul_assoc, ← Nat.pow_add]; congr 2; omega
        rw [k1]
        have := cut_whole s (N * 2 ^ (52 - L)) 0 (by omega)
        rw [Nat.pow_zero, Nat.mul_one] at this
        exact this
      · rw [show (e - last).toNat = 0 by omega, Nat.pow_zero, Nat.mul_one]
        rw [show e.toNat = 0 by omega, Nat.pow_zero, Nat.mul_one] at h1
        have k1 : m = N * 2 ^ (52 - L) * 2 ^ (last - e).toNat := by
          rw [h1, Nat.mul_assoc, ← Nat.pow_add]; congr 2; omega
        have k2 : (last - e).toNat ≤ m.log2 + 2 := by omega
        rw [k1] at k2 ⊢
        exact cut_whole s _ _ k2
    have hk1 : 4503599627370496 ≤ N * 2 ^ (52 - L) := by
      have : 2 ^ L * 2 ^ (52 - L) ≤ N * 2 ^ (52 - L) := Nat.mul_le_mul_right _ hL1
      rw [← Nat.pow_add, show L + (52 - L) = 52 by omega] at this
      exact this
    have hk2 : N * 2 ^ (52 - L) < 9007199254740992 := by
      have : N * 2 ^ (52 - L) < 2 ^ (L + 1) * 2 ^ (52 - L) := Nat.mul_lt_mul_of_pos_right hL2 (pow_pos' _)
      rw [← Nat.pow_add, show L + 1 + (52 - L) = 53 by omega] at this
      exact this
    simp only [lp, bi, ir]
    rw [hmax, hkept, show (last - -1074).toNat = L + 1022 by omega, rung_min L _ hL3 hk1 hk2, rd_ s _ (rung_lt L _ hL3 hk1 hk2).1, if_neg (rung_lt L _ hL3 hk1 hk2).2.1, if_pos (rung_lt L _ hL3 hk1 hk2).2.2, rung_mag L _ hk1 hk2, rung_place L _ hk1 hk2]
    refine ⟨⟨s, _, _, rfl, ?_, h2, h3⟩, ?_⟩
    · rw [← hNn, show ((L : Int) - 52).toNat = 0 by omega, Nat.pow_zero, Nat.mul_one, show (-((L : Int) - 52)).toNat = 52 - L by omega]
    · intro s' m' e' he; cases he; omega
theorem read_neg (b : Nat) (hb : b < 18446744073709551616) : double.read (Op.negFloat .f64 b) = (double.read b).opposite := by
  have sw : double.signWeight = 9223372036854775808 := by decide
  have hx : Op.negFloat .f64 b = if b < 9223372036854775808 then b + 9223372036854775808 else b - 9223372036854775808 := by
    show b ^^^ 9223372036854775808 = _
    have e : b = 2 ^ 63 * (b / 2 ^ 63) + b % 2 ^ 63 := (Nat.div_add_mod b (2 ^ 63)).symm
    have hd : b / 2 ^ 63 = 0 ∨ b / 2 ^ 63 = 1 := by omega
    have hm : b % 2 ^ 63 < 2 ^ 63 := Nat.mod_lt _ (by decide)
    have h1 : ∀ m, m < 2 ^ 63 → m ^^^ 9223372036854775808 = m + 9223372036854775808 := by
      intro m hm
      apply Nat.eq_of_testBit_eq
      intro i
      have e2 : m + 9223372036854775808 = 2 ^ 63 * 1 + m := by omega
      rw [e2, Nat.testBit_two_pow_mul_add _ hm, Nat.testBit_xor, show (9223372036854775808 : Nat) = 2 ^ 63 from rfl, Nat.testBit_two_pow]
      by_cases h : i < 63
      · rw [if_pos h, show decide (63 = i) = false from decide_eq_false (by omega)]; simp
      · rw [if_neg h, Nat.testBit_lt_two_pow (Nat.lt_of_lt_of_le hm (Nat.pow_le_pow_right (by omega) (by omega)))]
        by_cases h2 : i = 63
        · subst h2; simp
        · rw [show decide (63 = i) = false from decide_eq_false (by omega), Nat.testBit_lt_two_pow (show 1 < 2 ^ (i - 63) from Nat.one_lt_two_pow (by omega))]; rfl
    rcases hd with hd | hd
    · rw [if_pos (by omega)]; exact h1 b (by omega)
    · rw [if_neg (by omega)]
      have h2 := h1 (b - 9223372036854775808) (by omega)
      rw [show b - 9223372036854775808 + 9223372036854775808 = b by omega] at h2
      rw [← h2, Nat.xor_assoc, Nat.xor_self, Nat.xor_zero, h2]
  unfold Format.read
  rw [hx, sw]
  by_cases h : b < 9223372036854775808
  · rw [if_pos h]
    simp only [show (b + 9223372036854775808) / 9223372036854775808 = 1 by omega, show (b + 9223372036854775808) % 9223372036854775808 = b % 9223372036854775808 by omega, show b / 9223372036854775808 = 0 by omega]
    simp only [show ((1 % 2 == 1) = true) from rfl, show ((0 % 2 == 1) = false) from rfl]
    repeat' split
    all_goals rfl
  · rw [if_neg h]
    simp only [show (b - 9223372036854775808) / 9223372036854775808 = 0 by omega, show (b - 9223372036854775808) % 9223372036854775808 = b % 9223372036854775808 by omega, show b / 9223372036854775808 = 1 by omega]
    simp only [show ((1 % 2 == 1) = true) from rfl, show ((0 % 2 == 1) = false) from rfl]
    repeat' split
    all_goals rfl
/-- bits of a whole number -/
def WB (b : Nat) (n : Int) : Prop := Val (double.read b) n ∧ (∀ s m e, double.read b = .number s m e → e ≤ 0) ∧ b < 18446744073709551616
theorem lt_of_write (d : Datum) : double.write d < 18446744073709551616 := double.write_lt d
theorem WB.ofInt (n : Int) (hn : n.natAbs < 9007199254740992) : WB (floatOfInt .f64 n) n := by
  obtain ⟨h1, h2⟩ := (Val.of n).write hn
  exact ⟨h1, h2, lt_of_write (.number (n < 0) n.natAbs 0)⟩
theorem WB.neg {b : Nat} {n : Int} (h : WB b n) : WB (Op.negFloat .f64 b) (-n) := by
  refine ⟨by rw [read_neg b h.2.2]; exact h.1.opposite, ?_, ?_⟩
  · intro s m e he
    rw [read_neg b h.2.2] at he
    obtain ⟨s1, m1, e1, h1, _⟩ := h.1
    rw [h1] at he
    cases he
    exact h.2.1 _ _ _ h1
  · show b ^^^ 9223372036854775808 < _
    exact Nat.xor_lt_two_pow (n := 64) h.2.2 (by decide)
theorem WB.mul {a b : Nat} {m n : Int} (ha : WB a m) (hb : WB b n) (hn : (m * n).natAbs < 9007199254740992) : ∃ r, floatBits .mul .f64 a b = some r ∧ WB r (m * n) := by
  obtain ⟨d, h1, h2⟩ := ha.1.product hb.1
  obtain ⟨h3, h4⟩ := h2.write hn
  refine ⟨double.write d, ?_, h3, h4, lt_of_write _⟩
  show Option.map double.write ((double.read a).product (double.read b)) = _
  rw [h1]; rfl
theorem WB.add {a b : Nat} {m n : Int} (ha : WB a m) (hb : WB b n) (hn : (m + n).natAbs < 9007199254740992) : ∃ r, floatBits .add .f64 a b = some r ∧ WB r (m + n) := by
  obtain ⟨d, h1, h2⟩ := ha.1.sum hb.1 ha.2.1
  obtain ⟨h3, h4⟩ := h2.write hn
  refine ⟨double.write d, ?_, h3, h4, lt_of_write _⟩
  show Option.map double.write ((double.read a).sum (double.read b)) = _
  rw [h1]; rfl
theorem WB.sub {a b : Nat} {m n : Int} (ha : WB a m) (hb : WB b n) (hn : (m - n).natAbs < 9007199254740992) : ∃ r, floatBits .sub .f64 a b = some r ∧ WB r (m - n) := by
  obtain ⟨d, h1, h2⟩ := ha.1.sum hb.1.opposite ha.2.1
  rw [show m + -n = m - n by omega] at h2
  obtain ⟨h3, h4⟩ := h2.write hn
  refine ⟨double.write d, ?_, h3, h4, lt_of_write _⟩
  show Option.map double.write ((double.read a).sum (double.read b).opposite) = _
  rw [h1]; rfl
theorem WB.int {b : Nat} {n : Int} (h : WB b n) (h0 : -9223372036854775808 ≤ n) (h1 : n ≤ 9223372036854775807) : floatToIntVal .f64 b .i64 = some n := by
  unfold floatToIntVal
  rw [show FloatKind.decode .f64 b = double.read b from rfl, h.1.toInt]
  show (if IntKind.i64.min ≤ n ∧ n ≤ IntKind.i64.max then some n else none) = some n
  exact if_pos ⟨h0, h1⟩
/-- a product of two complex numbers of whole parts -/
theorem cmul_whole {a b c d : Nat} {m n p q : Int} (ha : WB a m) (hb : WB b n) (hc : WB c p) (hd : WB d q) (h1 : m.natAbs ≤ 2097152) (h2 : n.natAbs ≤ 2097152) (h3 : p.natAbs ≤ 2097152) (h4 : q.natAbs ≤ 2097152) :
    ∃ re im, cMulBits a b c d = some (re, im) ∧ WB re (m * p - n * q) ∧ WB im (m * q + n * p) := by
  have hb_ : ∀ x y : Int, x.natAbs ≤ 2097152 → y.natAbs ≤ 2097152 → (x * y).natAbs ≤ 4398046511104 := by
    intro x y hx hy
    rw [Int.natAbs_mul]
    exact Nat.mul_le_mul hx hy
  have k1 := hb_ m p h1 h3
  have k2 := hb_ n q h2 h4
  have k3 := hb_ m q h1 h4
  have k4 := hb_ n p h2 h3
  obtain ⟨ac, e1, w1⟩ := ha.mul hc (by omega)
  obtain ⟨bd, e2, w2⟩ := hb.mul hd (by omega)
  obtain ⟨re, e3, w3⟩ := w1.sub w2 (by omega)
  obtain ⟨ad, e4, w4⟩ := ha.mul hd (by omega)
  obtain ⟨bc, e5, w5⟩ := hb.mul hc (by omega)
  obtain ⟨im, e6, w6⟩ := w4.add w5 (by omega)
  refine ⟨re, im, ?_, w3, w6⟩
  unfold cMulBits
  rw [e1, Option.bind_some, e2, Option.bind_some, e3, Option.bind_some, e4, Option.bind_some, e5, Option.bind_some, e6, Option.bind_some]
end Go.Proofs.YtcpbfckmngbgdaaDoor
