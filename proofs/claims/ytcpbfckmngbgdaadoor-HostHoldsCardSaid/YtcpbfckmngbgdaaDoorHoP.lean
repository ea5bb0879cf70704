/-
  Package host in plain numbers.
-/
import Derived.Test.YtcpbfckmngbgdaaDoorK
import Derived.Test.YtcpbfckmngbgdaaDoorMath
import Derived.Test.YtcpbfckmngbgdaaDoorWideM
import Derived.Test.YtcpbfckmngbgdaaDoorAvg
import Derived.Test.YtcpbfckmngbgdaaDoorMHox
namespace Go.Proofs.YtcpbfckmngbgdaaDoor.MHo
open Go.RowKit Go.Proofs.YtcpbfckmngbgdaaDoorW.PrintWords Go.Proofs.YtcpbfckmngbgdaaDoorW.PrintMore
set_option linter.unusedVariables false
set_option linter.unusedSimpArgs false

/-- the printed error is the error as a value -/
theorem errW_errV (o : Option Int) : errW o = errV o := by cases o <;> rfl
theorem pSub (a b : Int) (ha : R64 a) (hb : R64 b) : num_Sub.f a b = some (if R64 (a - b) then (a - b, none) else (0, some 2)) := by
  unfold num_Sub.f
  by_cases h : R64 (a - b)
  · rw [if_pos h, h.wrap, if_neg]
    unfold R64 at *
    by_cases h0 : b < 0 <;> simp [h0] <;> omega
  · rw [if_neg h, if_pos]
    unfold R64 at *
    by_cases h0 : b < 0
    · have : ¬ wrap64 (a - b) > a := by unfold wrap64; omega
      simp [h0]; omega
    · have : wrap64 (a - b) > a := by unfold wrap64; omega
      simp [h0]; omega
theorem pAdd (a b : Int) (ha : R64 a) (hb : R64 b) : num_Add.f a b = some (if R64 (a + b) then (a + b, none) else (0, some 2)) := by
  unfold num_Add.f
  by_cases h : R64 (a + b)
  · rw [if_pos h, h.wrap, if_neg]
    unfold R64 at *
    by_cases h0 : b < 0 <;> simp [h0] <;> omega
  · rw [if_neg h, if_pos]
    unfold R64 at *
    by_cases h0 : b < 0
    · have : ¬ wrap64 (a + b) < a := by unfold wrap64; omega
      simp [h0]; omega
    · have : wrap64 (a + b) < a := by unfold wrap64; omega
      simp [h0]; omega
theorem pSubSat (a b : Int) (ha : R64 a) (hb : R64 b) : num_SubSat.f a b = some (sat (a - b)) := by
  unfold num_SubSat.f num_edge.f
  rw [pSub a b ha hb]
  by_cases h : R64 (a - b)
  · rw [if_pos h, sat_of h]; rfl
  · rw [if_neg h]
    unfold R64 at *
    by_cases h0 : b > 0
    · simp [h0]; unfold sat; rw [if_pos (by omega)]
    · simp [h0]; unfold sat; rw [if_neg (by omega), if_pos (by omega)]
theorem pAddSat (a b : Int) (ha : R64 a) (hb : R64 b) : num_AddSat.f a b = some (sat (a + b)) := by
  unfold num_AddSat.f num_edge.f
  rw [pAdd a b ha hb]
  by_cases h : R64 (a + b)
  · rw [if_pos h, sat_of h]; rfl
  · rw [if_neg h]
    unfold R64 at *
    by_cases h0 : b < 0
    · simp [h0]; unfold sat; rw [if_pos (by omega)]
    · simp [h0]; unfold sat; rw [if_neg (by omega), if_pos (by omega)]
theorem pSize (a : Int) (ha : R64 a) : num_Size.f a = some (if a < 0 then sat (-a) else a) := by
  unfold num_Size.f
  by_cases h : a < 0
  · rw [if_pos h, if_pos h, pSubSat 0 a (by unfold R64; omega) ha, Int.zero_sub]; rfl
  · rw [if_neg h, if_neg h]
theorem pDiv (a b : Int) (ha : R64 a) (hb : R64 b) (h : 1 ≤ b) : num_Div.f a b = some (a / b, a % b, none) := by
  unfold num_Div.f
  have hr0 := Int.emod_nonneg a (show b ≠ 0 by omega)
  have hr1 := Int.emod_lt_of_pos a (show 0 < b by omega)
  have hq := div_bounds ha h
  have ht := (tdiv_range ha h).wrap
  rw [if_neg (by omega), if_neg (by omega), ht]
  rcases Int.lt_or_le a 0 with h0 | h0
  · have e1 := tdiv_neg h0 h
    have e2 := tmod_neg h0 h
    by_cases hz : a % b = 0
    · rw [if_pos hz] at e1 e2
      rw [if_neg (by omega), e1, e2]; simp
    · rw [if_neg hz] at e1 e2
      rw [if_pos (by omega), e1, e2, R64.wrap (by simpa using hq.1), R64.wrap (by unfold R64 at *; omega)]; simp
  · rw [Int.tmod_eq_emod_of_nonneg h0, tdiv_of_nonneg h0, if_neg (by omega)]
theorem pDivBad (a b : Int) (h : b < 1) : num_Div.f a b = some (0, 0, some 1) := by unfold num_Div.f; rw [if_pos h]

theorem len_j0 (k : Nat) (x0 x2 : Int) : bits_Len64.j0 (k + 1) x0 x2 = (if x0 ≥ 65536 then (if (x0 / 65536) ≥ 256 then (if 0 ≤ (((x0 / 65536) / 256) % 256) then (if (((x0 / 65536) / 256) % 256) < 256 then (some (wrap64 ((wrap64 ((wrap64 (x2 + 16)) + 8)) + (wrap64 (bt tab8 (((x0 / 65536) / 256) % 256)))))) else (none)) else (none)) else (if 0 ≤ ((x0 / 65536) % 256) then (if ((x0 / 65536) % 256) < 256 then (some (wrap64 ((wrap64 (x2 + 16)) + (wrap64 (bt tab8 ((x0 / 65536) % 256)))))) else (none)) else (none))) else (if x0 ≥ 256 then (if 0 ≤ ((x0 / 256) % 256) then (if ((x0 / 256) % 256) < 256 then (some (wrap64 ((wrap64 (x2 + 8)) + (wrap64 (bt tab8 ((x0 / 256) % 256)))))) else (none)) else (none)) else (if 0 ≤ ((x0) % 256) then (if ((x0) % 256) < 256 then (some (wrap64 (x2 + (wrap64 (bt tab8 ((x0) % 256)))))) else (none)) else (none)))) := by
  delta bits_Len64.j0
  rfl
theorem wrap_len (a t : Nat) (h : a + t ≤ 64) : wrap64 ((a : Int) + wrap64 (t : Int)) = ((a + t : Nat) : Int) := by unfold wrap64; omega
theorem wrap_a (b : Nat) (h : b ≤ 32) : wrap64 (wrap64 ((b : Int) + 16) + 8) = ((b + 24 : Nat) : Int) := by unfold wrap64; omega
theorem wrap_b (b : Nat) (h : b ≤ 32) : wrap64 ((b : Int) + 16) = ((b + 16 : Nat) : Int) := by unfold wrap64; omega
theorem wrap_c (b : Nat) (h : b ≤ 32) : wrap64 ((b : Int) + 8) = ((b + 8 : Nat) : Int) := by unfold wrap64; omega
theorem pLen64 (k : Nat) (x : Int) (h : U64 x) (h1 : 1 ≤ x) : ∃ L : Nat, bits_Len64.f (k + 1) x = some (L : Int) ∧ 1 ≤ L ∧ L ≤ 64 ∧ x < 2 ^ L ∧ 2 ^ L ≤ 2 * x := by
  have hx := h.2
  have key := tab8_tells
  have hj := len_j0 k
  generalize bt tab8 = T at key hj
  have fin : ∀ (i : Int) (b : Nat), 1 ≤ i → i < 256 → b ≤ 56 → i * 2 ^ b ≤ x → x < (i + 1) * 2 ^ b → ∃ t : Nat, T i = (t : Int) ∧ t ≤ 8 ∧ 1 ≤ b + t ∧ b + t ≤ 64 ∧ x < 2 ^ (b + t) ∧ 2 ^ (b + t) ≤ 2 * x := by
    intro i b g1 g2 g3 g4 g5
    obtain ⟨t, e1, e2, e3, e4⟩ := key i (by omega) g2
    refine ⟨t, e1, e2, ?_, by omega, ?_, ?_⟩
    · rcases Nat.eq_zero_or_pos t with h0 | h0
      · subst h0; simp at e3; omega
      · omega
    · have hp : (0 : Int) < 2 ^ b := Int.pow_pos (by omega)
      have := Int.mul_le_mul_of_nonneg_right (show i + 1 ≤ 2 ^ t by omega) (show (0 : Int) ≤ 2 ^ b by omega)
      rw [Int.pow_add, Int.mul_comm]; omega
    · have hp : (0 : Int) < 2 ^ b := Int.pow_pos (by omega)
      have := Int.mul_le_mul_of_nonneg_right (e4 (by omega)) (show (0 : Int) ≤ 2 ^ b by omega)
      rw [Int.pow_add, Int.mul_comm]
      have e5 : 2 * i * 2 ^ b = 2 * (i * 2 ^ b) := Int.mul_assoc _ _ _
      omega
  have low : ∀ (y : Int) (b : Nat), 1 ≤ y → y < 4294967296 → b ≤ 32 → y * 2 ^ b ≤ x → x < (y + 1) * 2 ^ b → ∃ L : Nat, bits_Len64.j0 (k + 1) y b = some (L : Int) ∧ 1 ≤ L ∧ L ≤ 64 ∧ x < 2 ^ L ∧ 2 ^ L ≤ 2 * x := by
    intro y b g1 g2 g3 g4 g5
    have hp : (0 : Int) < 2 ^ b := Int.pow_pos (by omega)
    have sub : ∀ (c : Nat) (C : Int), C = 2 ^ c → 1 ≤ C → C ≤ y → y / C < 256 → b + c ≤ 56 → ∃ t : Nat, T (y / C) = (t : Int) ∧ t ≤ 8 ∧ 1 ≤ b + c + t ∧ b + c + t ≤ 64 ∧ x < 2 ^ (b + c + t) ∧ 2 ^ (b + c + t) ≤ 2 * x := by
      intro c C hC hC1 hC2 hC3 hb
      have d0 := Int.mul_ediv_add_emod y C
      have d1 := Int.emod_nonneg y (show C ≠ 0 by omega)
      have d2 := Int.emod_lt_of_pos y (show 0 < C by omega)
      have c1 : (y / C) * C ≤ y := by rw [Int.mul_comm]; omega
      have c2 : y + 1 ≤ (y / C + 1) * C := by rw [Int.add_mul, Int.mul_comm]; omega
      have q1 : 1 ≤ y / C := Int.le_ediv_of_mul_le (by omega) (by omega)
      have m1 := Int.mul_le_mul_of_nonneg_right c1 (show (0 : Int) ≤ 2 ^ b by omega)
      have m2 := Int.mul_le_mul_of_nonneg_right c2 (show (0 : Int) ≤ 2 ^ b by omega)
      refine fin (y / C) (b + c) q1 hC3 (by omega) ?_ ?_
      · rw [Int.pow_add, ← hC, Int.mul_comm (2 ^ b) C, ← Int.mul_assoc]; omega
      · rw [Int.pow_add, ← hC, Int.mul_comm (2 ^ b) C, ← Int.mul_assoc]; omega
    rw [hj]
    have done : ∀ (z : Int) (t : Nat) (n : Int) (c : Nat), T z = (t : Int) → t ≤ 8 → n = ((b + c : Nat) : Int) → b + c + t ≤ 64 → some (wrap64 (n + wrap64 (T z))) = some (((b + c + t : Nat)) : Int) := by
      intro z t n c e1 e2 e3 e4
      rw [e1, e3, wrap_len _ _ e4]
    by_cases a1 : y ≥ 65536
    · rw [if_pos a1]
      have a2 : y / 65536 < 65536 := by omega
      by_cases a3 : y / 65536 ≥ 256
      · rw [if_pos a3, show y / 65536 / 256 % 256 = y / 16777216 by omega, if_pos (by omega), if_pos (by omega)]
        obtain ⟨t, t1, t2, t3, t4, t5, t6⟩ := sub 24 16777216 (by decide) (by omega) (by omega) (by omega) (by omega)
        refine ⟨_, done _ t _ 24 t1 t2 ?_ t4, t3, t4, t5, t6⟩
        exact wrap_a b g3
      · rw [if_neg a3, show y / 65536 % 256 = y / 65536 by omega, if_pos (by omega), if_pos (by omega)]
        obtain ⟨t, t1, t2, t3, t4, t5, t6⟩ := sub 16 65536 (by decide) (by omega) (by omega) (by omega) (by omega)
        refine ⟨_, done _ t _ 16 t1 t2 ?_ t4, t3, t4, t5, t6⟩
        exact wrap_b b g3
    · rw [if_neg a1]
      by_cases a3 : y ≥ 256
      · rw [if_pos a3, show y / 256 % 256 = y / 256 by omega, if_pos (by omega), if_pos (by omega)]
        obtain ⟨t, t1, t2, t3, t4, t5, t6⟩ := sub 8 256 (by decide) (by omega) (by omega) (by omega) (by omega)
        refine ⟨_, done _ t _ 8 t1 t2 ?_ t4, t3, t4, t5, t6⟩
        exact wrap_c b g3
      · rw [if_neg a3, show y % 256 = y by omega, if_pos (by omega), if_pos (by omega)]
        obtain ⟨t, t1, t2, t3, t4, t5, t6⟩ := fin y b (by omega) (by omega) (by omega) g4 g5
        exact ⟨_, done _ t _ 0 t1 t2 (by simp) (by omega), by omega, by omega, t5, t6⟩
  unfold bits_Len64.f
  by_cases a0 : x ≥ 4294967296
  · rw [if_pos a0]
    exact low (x / 4294967296) 32 (by omega) (by omega) (by omega) (by omega) (by omega)
  · rw [if_neg a0]
    exact low x 0 h1 (by omega) (by omega) (by simp) (by simp; omega)
/-- the second digit -/
theorem pDig0 (k : Nat) (y1 y0 u1 q r s Q1 U : Int) (h0 : 0 ≤ y0) (h0' : y0 < 4294967296) (h1 : 2147483648 ≤ y1) (h1' : y1 < 4294967296) (hU0 : 0 ≤ U) (hU : U < y1 * 4294967296 + y0) (hu1 : 0 ≤ u1) (hu1' : u1 < 4294967296) (hs : 0 ≤ s)
    (hq : 0 ≤ q) (hq' : q < 18446744073709551616) (hr : r = U - q * y1) (hr0 : 0 ≤ r) (hr1 : r < 4294967296) (hQ : (U * 4294967296 + u1) / (y1 * 4294967296 + y0) ≤ q) :
    bits_Div64.l1 (k + 6) (y1 * 4294967296 + y0) s y1 y0 u1 Q1 r U q = some (IntKind.u64.wrap (IntKind.u64.wrap (Q1 * 4294967296) + (U * 4294967296 + u1) / (y1 * 4294967296 + y0)), shr .u64 ((U * 4294967296 + u1) % (y1 * 4294967296 + y0)) s) := by
  have hQ0 : 0 ≤ (U * 4294967296 + u1) / (y1 * 4294967296 + y0) := Int.ediv_nonneg (by omega) (by omega)
  have hQb := dig_big (q := 4294967296) h0 (show 0 < y1 by omega) hU hu1' (Int.le_refl _)
  have hm := Int.mul_ediv_add_emod (U * 4294967296 + u1) (y1 * 4294967296 + y0)
  have hm0 := Int.emod_nonneg (U * 4294967296 + u1) (show y1 * 4294967296 + y0 ≠ 0 by omega)
  have hm1 := Int.emod_lt_of_pos (U * 4294967296 + u1) (show 0 < y1 * 4294967296 + y0 by omega)
  -- the end
  have fin : ∀ q', q' = (U * 4294967296 + u1) / (y1 * 4294967296 + y0) → (if 0 ≤ s then some (IntKind.u64.wrap (IntKind.u64.wrap (Q1 * 4294967296) + q'), shr .u64 (IntKind.u64.wrap (IntKind.u64.wrap (IntKind.u64.wrap (U * 4294967296) + u1) - IntKind.u64.wrap (q' * (y1 * 4294967296 + y0)))) s) else none) = some (IntKind.u64.wrap (IntKind.u64.wrap (Q1 * 4294967296) + (U * 4294967296 + u1) / (y1 * 4294967296 + y0)), shr .u64 ((U * 4294967296 + u1) % (y1 * 4294967296 + y0)) s) := by
    intro q' e
    have e2 : U * 4294967296 + u1 - q' * (y1 * 4294967296 + y0) = (U * 4294967296 + u1) % (y1 * 4294967296 + y0) := by
      have := Int.mul_comm ((U * 4294967296 + u1) / (y1 * 4294967296 + y0)) (y1 * 4294967296 + y0)
      rw [e]; omega
    rw [if_pos hs, wrap3 (by unfold U64; omega), e2, e]
  -- one round
  have step : ∀ (k : Nat) (q r : Int), 0 ≤ q → q < 18446744073709551616 → r = U - q * y1 → 0 ≤ r → r < 4294967296 →
      bits_Div64.l1 (k + 2) (y1 * 4294967296 + y0) s y1 y0 u1 Q1 r U q = bits_Div64.j4 (k + 1) (y1 * 4294967296 + y0) s y1 y0 u1 Q1 r U q (decide ((U * 4294967296 + u1) / (y1 * 4294967296 + y0) < q)) := by
    intro k q r g1 g2 g3 g4 g5
    simp only [bits_Div64.l1]
    by_cases hb : q ≥ 4294967296
    · rw [if_pos hb, decide_eq_true (dig_big h0 (by omega) hU hu1' hb)]
    · rw [if_neg hb]
      congr 1
      rw [decide_eq_decide, dig_test h0 (by omega) g3]
      have e := Int.mul_le_mul_of_nonneg_right (show q ≤ 4294967295 by omega) h0
      have e' := Int.mul_nonneg g1 h0
      rw [U64.wrap (a := q * y0) (by unfold U64; omega), wrap2 (by unfold U64; omega)]
  have stop : ∀ (k : Nat) (q r : Int), q = (U * 4294967296 + u1) / (y1 * 4294967296 + y0) → 0 ≤ q → q < 18446744073709551616 → r = U - q * y1 → 0 ≤ r → r < 4294967296 →
      bits_Div64.l1 (k + 2) (y1 * 4294967296 + y0) s y1 y0 u1 Q1 r U q = some (IntKind.u64.wrap (IntKind.u64.wrap (Q1 * 4294967296) + (U * 4294967296 + u1) / (y1 * 4294967296 + y0)), shr .u64 ((U * 4294967296 + u1) % (y1 * 4294967296 + y0)) s) := by
    intro k q r g0 g1 g2 g3 g4 g5
    rw [step k q r g1 g2 g3 g4 g5, decide_eq_false (by omega)]
    simp only [bits_Div64.j4]
    rw [if_neg (by simp)]
    exact fin q g0
  -- a guess that is too great
  have more : ∀ (k : Nat) (q r : Int), (U * 4294967296 + u1) / (y1 * 4294967296 + y0) < q → q < 18446744073709551616 → r = U - q * y1 → 0 ≤ r → r < 4294967296 →
      (4294967296 ≤ r + y1 → bits_Div64.l1 (k + 2) (y1 * 4294967296 + y0) s y1 y0 u1 Q1 r U q = some (IntKind.u64.wrap (IntKind.u64.wrap (Q1 * 4294967296) + (U * 4294967296 + u1) / (y1 * 4294967296 + y0)), shr .u64 ((U * 4294967296 + u1) % (y1 * 4294967296 + y0)) s)) ∧
      (r + y1 < 4294967296 → bits_Div64.l1 (k + 2) (y1 * 4294967296 + y0) s y1 y0 u1 Q1 r U q = bits_Div64.l1 k (y1 * 4294967296 + y0) s y1 y0 u1 Q1 (r + y1) U (q - 1)) := by
    intro k q r g1 g2 g3 g4 g5
    have hr' : r + y1 = U - (q - 1) * y1 := by rw [Int.sub_mul]; omega
    constructor
    · intro hB
      have hend := dig_end h0 h0' (show 0 < y1 by omega) hU hu1 (show 0 ≤ q - 1 by omega) hr' hB
      rw [step k q r (by omega) g2 g3 g4 g5, decide_eq_true g1]
      simp only [bits_Div64.j4, if_true]
      rw [U64.wrap (a := r + y1) (by unfold U64; omega), if_pos hB, U64.wrap (a := q - 1) (by unfold U64; omega)]
      exact fin (q - 1) (by omega)
    · intro hB
      rw [step k q r (by omega) g2 g3 g4 g5, decide_eq_true g1]
      simp only [bits_Div64.j4, if_true]
      rw [U64.wrap (a := r + y1) (by unfold U64; omega), if_neg (by omega), U64.wrap (a := q - 1) (by unfold U64; omega)]
  rcases Int.lt_or_le ((U * 4294967296 + u1) / (y1 * 4294967296 + y0)) q with g | g
  · rcases Int.lt_or_le (r + y1) 4294967296 with g2 | g2
    · rw [(more (k + 4) q r g hq' hr hr0 hr1).2 g2]
      have hr' : r + y1 = U - (q - 1) * y1 := by rw [Int.sub_mul]; omega
      rcases Int.lt_or_le ((U * 4294967296 + u1) / (y1 * 4294967296 + y0)) (q - 1) with g3 | g3
      · exact (more (k + 2) (q - 1) (r + y1) g3 (by omega) hr' (by omega) g2).1 (by omega)
      · exact stop (k + 2) (q - 1) (r + y1) (by omega) (by omega) (by omega) hr' (by omega) g2
    · exact (more (k + 4) q r g hq' hr hr0 hr1).1 g2
  · exact stop (k + 4) q r (by omega) hq hq' hr hr0 hr1
/-- the first digit -/
theorem pDig1 (K : Nat) (y1 y0 u1 u0 q r s U : Int) (R : Int × Int) (h0 : 0 ≤ y0) (h0' : y0 < 4294967296) (h1 : 2147483648 ≤ y1) (h1' : y1 < 4294967296) (hU0 : 0 ≤ U) (hU : U < y1 * 4294967296 + y0) (hu1 : 0 ≤ u1) (hu1' : u1 < 4294967296)
    (hj : ∀ k, K ≤ k → bits_Div64.j2 k (y1 * 4294967296 + y0) s y1 y0 U u1 u0 ((U * 4294967296 + u1) / (y1 * 4294967296 + y0)) = some R)
    (hq : 0 ≤ q) (hq' : q < 18446744073709551616) (hr : r = U - q * y1) (hr0 : 0 ≤ r) (hr1 : r < 4294967296) (hQ : (U * 4294967296 + u1) / (y1 * 4294967296 + y0) ≤ q) (k : Nat) (hk : K ≤ k) :
    bits_Div64.l0 (k + 6) (y1 * 4294967296 + y0) s y1 y0 U u1 u0 q r = some R := by
  have hQ0 : 0 ≤ (U * 4294967296 + u1) / (y1 * 4294967296 + y0) := Int.ediv_nonneg (by omega) (by omega)
  have step : ∀ (k : Nat) (q r : Int), 0 ≤ q → q < 18446744073709551616 → r = U - q * y1 → 0 ≤ r → r < 4294967296 →
      bits_Div64.l0 (k + 2) (y1 * 4294967296 + y0) s y1 y0 U u1 u0 q r = bits_Div64.j1 (k + 1) (y1 * 4294967296 + y0) s y1 y0 U u1 u0 q r (decide ((U * 4294967296 + u1) / (y1 * 4294967296 + y0) < q)) := by
    intro k q r g1 g2 g3 g4 g5
    simp only [bits_Div64.l0]
    by_cases hb : q ≥ 4294967296
    · rw [if_pos hb, decide_eq_true (dig_big h0 (by omega) hU hu1' hb)]
    · rw [if_neg hb]
      congr 1
      rw [decide_eq_decide, dig_test h0 (by omega) g3]
      have e := Int.mul_le_mul_of_nonneg_right (show q ≤ 4294967295 by omega) h0
      have e' := Int.mul_nonneg g1 h0
      rw [U64.wrap (a := q * y0) (by unfold U64; omega), wrap2 (by unfold U64; omega)]
  have stop : ∀ (k : Nat) (q r : Int), K ≤ k → q = (U * 4294967296 + u1) / (y1 * 4294967296 + y0) → q < 18446744073709551616 → r = U - q * y1 → 0 ≤ r → r < 4294967296 →
      bits_Div64.l0 (k + 2) (y1 * 4294967296 + y0) s y1 y0 U u1 u0 q r = some R := by
    intro k q r hk g0 g2 g3 g4 g5
    rw [step k q r (by omega) g2 g3 g4 g5, decide_eq_false (by omega)]
    simp only [bits_Div64.j1]
    rw [if_neg (by simp), g0]
    exact hj k hk
  have more : ∀ (k : Nat) (q r : Int), K ≤ k → (U * 4294967296 + u1) / (y1 * 4294967296 + y0) < q → q < 18446744073709551616 → r = U - q * y1 → 0 ≤ r → r < 4294967296 →
      (4294967296 ≤ r + y1 → bits_Div64.l0 (k + 2) (y1 * 4294967296 + y0) s y1 y0 U u1 u0 q r = some R) ∧
      (r + y1 < 4294967296 → bits_Div64.l0 (k + 2) (y1 * 4294967296 + y0) s y1 y0 U u1 u0 q r = bits_Div64.l0 k (y1 * 4294967296 + y0) s y1 y0 U u1 u0 (q - 1) (r + y1)) := by
    intro k q r hk g1 g2 g3 g4 g5
    have hr' : r + y1 = U - (q - 1) * y1 := by rw [Int.sub_mul]; omega
    constructor
    · intro hB
      have hend := dig_end h0 h0' (show 0 < y1 by omega) hU hu1 (show 0 ≤ q - 1 by omega) hr' hB
      rw [step k q r (by omega) g2 g3 g4 g5, decide_eq_true g1]
      simp only [bits_Div64.j1, if_true]
      rw [U64.wrap (a := r + y1) (by unfold U64; omega), if_pos hB, U64.wrap (a := q - 1) (by unfold U64; omega), show q - 1 = (U * 4294967296 + u1) / (y1 * 4294967296 + y0) by omega]
      exact hj k hk
    · intro hB
      rw [step k q r (by omega) g2 g3 g4 g5, decide_eq_true g1]
      simp only [bits_Div64.j1, if_true]
      rw [U64.wrap (a := r + y1) (by unfold U64; omega), if_neg (by omega), U64.wrap (a := q - 1) (by unfold U64; omega)]
  rcases Int.lt_or_le ((U * 4294967296 + u1) / (y1 * 4294967296 + y0)) q with g | g
  · rcases Int.lt_or_le (r + y1) 4294967296 with g2 | g2
    · rw [(more (k + 4) q r (by omega) g hq' hr hr0 hr1).2 g2]
      have hr' : r + y1 = U - (q - 1) * y1 := by rw [Int.sub_mul]; omega
      rcases Int.lt_or_le ((U * 4294967296 + u1) / (y1 * 4294967296 + y0)) (q - 1) with g3 | g3
      · exact (more (k + 2) (q - 1) (r + y1) (by omega) g3 (by omega) hr' (by omega) g2).1 (by omega)
      · exact stop (k + 2) (q - 1) (r + y1) (by omega) (by omega) (by omega) hr' (by omega) g2
    · exact (more (k + 4) q r (by omega) g hq' hr hr0 hr1).1 g2
  · exact stop (k + 4) q r (by omega) (by omega) hq' hr hr0 hr1
theorem pDiv64 (k : Nat) (hi lo y : Int) (h0 : 0 ≤ hi) (h1 : hi < y) (hy : y < 18446744073709551616) (hlo : U64 lo) :
    bits_Div64.f (k + 16) hi lo y = some ((hi * 18446744073709551616 + lo) / y, (hi * 18446744073709551616 + lo) % y) := by
  have hlo0 := hlo.1; have hlo1 := hlo.2
  unfold bits_Div64.f
  rw [if_neg (by omega), if_neg (by omega)]
  by_cases hz : hi = 0
  · subst hz
    rw [if_pos rfl, Int.tdiv_eq_ediv_of_nonneg hlo0, Int.tmod_eq_emod_of_nonneg hlo0, U64.wrap, Int.zero_mul, Int.zero_add]
    have a1 := Int.ediv_nonneg hlo0 (show 0 ≤ y by omega)
    have a2 := Int.ediv_le_self y hlo0
    unfold U64; omega
  rw [if_neg hz]
  obtain ⟨L, eL, L1, L2, L3, L4⟩ := pLen64 (k + 15) y (by unfold U64; omega) (by omega)
  unfold bits_LeadingZeros64.f
  rw [eL]
  simp only [Option.bind_some]
  -- the shift
  obtain ⟨m, hm⟩ : ∃ m : Nat, m + L = 64 := ⟨64 - L, by omega⟩
  have es : wrap64 (64 - (L : Int)) = (m : Int) := by unfold wrap64; omega
  have em : IntKind.u64.wrap (m : Int) = (m : Int) := U64.wrap (by unfold U64; omega)
  have em2 : IntKind.u64.wrap (64 - (m : Int)) = ((64 - m : Nat) : Int) := by rw [U64.wrap (by unfold U64; omega)]; omega
  rw [es, em, em2, if_pos (by omega), if_pos (by omega)]
  have c1 : min ((m : Int).toNat) IntKind.u64.bits = m := by simp [IntKind.bits]; omega
  have c2 : min (((64 - m : Nat) : Int).toNat) IntKind.u64.bits = 64 - m := by simp [IntKind.bits]
  -- the powers
  have hP : (0 : Int) < 2 ^ m := Int.pow_pos (by omega)
  have hD : (0 : Int) < 2 ^ (64 - m) := Int.pow_pos (by omega)
  have hPD : (2 : Int) ^ m * 2 ^ (64 - m) = 18446744073709551616 := by rw [← Int.pow_add, show m + (64 - m) = 64 by omega]; decide
  have hLD : (2 : Int) ^ L = 2 ^ (64 - m) := by rw [show L = 64 - m by omega]
  rw [hLD] at L3 L4
  have y_hi : y * 2 ^ m < 18446744073709551616 := by have := Int.mul_lt_mul_of_pos_right L3 hP; rw [Int.mul_comm (2 ^ (64 - m))] at this; omega
  have y_lo : 9223372036854775808 ≤ y * 2 ^ m := by
    have := Int.mul_le_mul_of_nonneg_right L4 (Int.le_of_lt hP)
    rw [Int.mul_comm (2 ^ (64 - m)), hPD, Int.mul_assoc] at this; omega
  have h_hi : hi * 2 ^ m < y * 2 ^ m := Int.mul_lt_mul_of_pos_right h1 hP
  have h_lo : 0 ≤ hi * 2 ^ m := Int.mul_nonneg h0 (Int.le_of_lt hP)
  have sy : shl .u64 y (m : Int) = y * 2 ^ m := by unfold shl; rw [c1]; exact U64.wrap (by unfold U64; omega)
  have sh : shl .u64 hi (m : Int) = hi * 2 ^ m := by unfold shl; rw [c1]; exact U64.wrap (by unfold U64; omega)
  have sl : shl .u64 lo (m : Int) = (lo * 2 ^ m) % 18446744073709551616 := by unfold shl; rw [c1, IntKind.wrap_u64]
  have sr : shr .u64 lo ((64 - m : Nat) : Int) = lo / 2 ^ (64 - m) := by unfold shr; rw [c2]
  have lq0 : 0 ≤ lo / 2 ^ (64 - m) := Int.ediv_nonneg hlo0 (Int.le_of_lt hD)
  have lq1 : lo / 2 ^ (64 - m) < 2 ^ m := by
    rw [Int.ediv_lt_iff_lt_mul hD, hPD]; exact hlo1
  have eor := or_low h0 lq0 (by omega) lq1 (show m ≤ 64 by omega)
  rw [sy, sh, sl, sr, eor]
  -- the whole, shifted
  have eld : (lo * 2 ^ m) / 18446744073709551616 = lo / 2 ^ (64 - m) := by
    rw [← hPD, Int.mul_comm lo, Int.mul_ediv_mul_of_pos _ _ hP]
  have elm := Int.mul_ediv_add_emod (lo * 2 ^ m) 18446744073709551616
  rw [eld] at elm
  have elm0 := Int.emod_nonneg (lo * 2 ^ m) (show (18446744073709551616 : Int) ≠ 0 by omega)
  have elm1 := Int.emod_lt_of_pos (lo * 2 ^ m) (show (0 : Int) < 18446744073709551616 by omega)
  have eN : (hi * 18446744073709551616 + lo) * 2 ^ m = (hi * 2 ^ m + lo / 2 ^ (64 - m)) * 18446744073709551616 + lo * 2 ^ m % 18446744073709551616 := by
    rw [Int.add_mul]
    have : hi * 18446744073709551616 * 2 ^ m = hi * 2 ^ m * 18446744073709551616 := by ac_rfl
    rw [this]; omega
  have hUy : hi * 2 ^ m + lo / 2 ^ (64 - m) < y * 2 ^ m := by
    have a1 : (hi * 18446744073709551616 + lo) < y * 18446744073709551616 := by omega
    have a2 := Int.mul_lt_mul_of_pos_right a1 hP
    have : y * 18446744073709551616 * 2 ^ m = y * 2 ^ m * 18446744073709551616 := by ac_rfl
    rw [eN, this] at a2
    omega
  have hU0 : 0 ≤ hi * 2 ^ m + lo / 2 ^ (64 - m) := by omega
  rw [and_low (show U64 (y * 2 ^ m) by unfold U64; omega), and_low (show U64 (lo * 2 ^ m % 18446744073709551616) by unfold U64; omega)]
  generalize hi * 2 ^ m + lo / 2 ^ (64 - m) = u at *
  generalize lo * 2 ^ m % 18446744073709551616 = v at *
  have hfin : ∀ (N : Int), N = hi * 18446744073709551616 + lo → N * 2 ^ m = u * 18446744073709551616 + v := by intro N e; rw [e]; exact eN
  have hN := hfin _ rfl
  clear hfin eN elm eld eor lq0 lq1 h_hi h_lo
  generalize hi * 18446744073709551616 + lo = N at *
  -- the divisor's halves
  generalize eY : y * 2 ^ m = Y at y_hi y_lo hUy ⊢
  obtain ⟨y1, ey1⟩ : ∃ a, a = Y / 4294967296 := ⟨_, rfl⟩
  obtain ⟨y0, ey0⟩ : ∃ a, a = Y % 4294967296 := ⟨_, rfl⟩
  obtain ⟨u1, eu1⟩ : ∃ a, a = v / 4294967296 := ⟨_, rfl⟩
  obtain ⟨u0, eu0⟩ : ∃ a, a = v % 4294967296 := ⟨_, rfl⟩
  rw [← ey1, ← ey0, ← eu1, ← eu0, if_neg (show ¬ y1 = 0 by omega)]
  have eYY : Y = y1 * 4294967296 + y0 := by omega
  have dq := Int.mul_ediv_add_emod u y1
  have dq0 := Int.emod_nonneg u (show y1 ≠ 0 by omega)
  have dq1 := Int.emod_lt_of_pos u (show 0 < y1 by omega)
  have hq0 : 0 ≤ u / y1 := Int.ediv_nonneg hU0 (by omega)
  have hqs := Int.ediv_le_self y1 hU0
  have dqn := Int.mul_nonneg (show 0 ≤ y1 by omega) hq0
  have er : u - u / y1 * y1 = u % y1 := by rw [Int.mul_comm]; omega
  rw [Int.tdiv_eq_ediv_of_nonneg hU0, U64.wrap (a := u / y1) (by unfold U64; omega)]
  have hqy : IntKind.u64.wrap (u / y1 * y1) = u / y1 * y1 := by rw [Int.mul_comm]; exact U64.wrap (by unfold U64; omega)
  rw [hqy, er, U64.wrap (a := u % y1) (by unfold U64; omega)]
  rw [eYY]
  -- what comes of it
  have hm0 := Int.emod_nonneg (u * 4294967296 + u1) (show Y ≠ 0 by omega)
  have hm1 := Int.emod_lt_of_pos (u * 4294967296 + u1) (show 0 < Y by omega)
  have hmd := Int.mul_ediv_add_emod (u * 4294967296 + u1) Y
  have hQ10 : 0 ≤ (u * 4294967296 + u1) / Y := Int.ediv_nonneg (by omega) (by omega)
  have hQ1b : (u * 4294967296 + u1) / Y < 4294967296 := by rw [eYY]; exact dig_big (q := 4294967296) (by omega) (by omega) (by omega) (by omega) (Int.le_refl _)
  have gq : ∀ a b : Int, 0 ≤ a → (a * 4294967296 + b) / Y ≤ a / y1 ∨ b < 0 ∨ 4294967296 ≤ b := by
    intro a b ha
    rcases Int.lt_or_le b 0 with hb | hb
    · exact .inr (.inl hb)
    rcases Int.lt_or_le b 4294967296 with hb' | hb'
    · left
      have a0 := Int.mul_ediv_add_emod a y1
      have a1 := Int.emod_nonneg a (show y1 ≠ 0 by omega)
      have a2 := Int.emod_lt_of_pos a (show 0 < y1 by omega)
      have : (a * 4294967296 + b) / Y < a / y1 + 1 := by
        rw [Int.ediv_lt_iff_lt_mul (by omega), eYY]
        have e : (a / y1 + 1) * (y1 * 4294967296 + y0) = (y1 * (a / y1) + y1) * 4294967296 + (a / y1 + 1) * y0 := by
          rw [Int.add_mul, Int.mul_add, Int.one_mul, Int.add_mul, Int.add_mul (a / y1) 1 y0, Int.one_mul, ← Int.mul_assoc, Int.mul_comm (a / y1) y1]; omega
        have := Int.mul_nonneg (show 0 ≤ a / y1 + 1 by have := Int.ediv_nonneg ha (show 0 ≤ y1 by omega); omega) (show 0 ≤ y0 by omega)
        rw [e]; omega
      omega
    · exact .inr (.inr hb')
  have hj : ∀ k, 7 ≤ k → bits_Div64.j2 k (y1 * 4294967296 + y0) (m : Int) y1 y0 u u1 u0 ((u * 4294967296 + u1) / (y1 * 4294967296 + y0)) = some (N / y, N % y) := by
    intro k hk
    obtain ⟨k, rfl⟩ : ∃ n, k = n + 7 := ⟨k - 7, by omega⟩
    simp only [bits_Div64.j2]
    have e2 : u * 4294967296 + u1 - (u * 4294967296 + u1) / (y1 * 4294967296 + y0) * (y1 * 4294967296 + y0) = (u * 4294967296 + u1) % Y := by
      have := Int.mul_comm ((u * 4294967296 + u1) / Y) Y
      rw [← eYY]; omega
    rw [if_neg (by omega), wrap3 (by rw [e2]; unfold U64; omega), e2]
    obtain ⟨U, eU⟩ : ∃ a, a = (u * 4294967296 + u1) % Y := ⟨_, rfl⟩
    rw [← eU] at hm0 hm1 hmd ⊢
    have d0 := Int.mul_ediv_add_emod U y1
    have d1 := Int.emod_nonneg U (show y1 ≠ 0 by omega)
    have d2 := Int.emod_lt_of_pos U (show 0 < y1 by omega)
    have d3 : 0 ≤ U / y1 := Int.ediv_nonneg hm0 (by omega)
    have d4 := Int.ediv_le_self y1 hm0
    have dqn2 := Int.mul_nonneg (show 0 ≤ y1 by omega) d3
    have er2 : U - U / y1 * y1 = U % y1 := by rw [Int.mul_comm]; omega
    have hqy2 : IntKind.u64.wrap (U / y1 * y1) = U / y1 * y1 := by rw [Int.mul_comm]; exact U64.wrap (by unfold U64; omega)
    rw [Int.tdiv_eq_ediv_of_nonneg hm0, U64.wrap (a := U / y1) (by unfold U64; omega), hqy2, er2, U64.wrap (a := U % y1) (by unfold U64; omega)]
    have g0 : (U * 4294967296 + u0) / (y1 * 4294967296 + y0) ≤ U / y1 := by
      rcases gq U u0 hm0 with h | h | h
      · rw [← eYY]; exact h
      · omega
      · omega
    rw [pDig0 k y1 y0 u0 (U / y1) (U % y1) m ((u * 4294967296 + u1) / (y1 * 4294967296 + y0)) U (by omega) (by omega) (by omega) (by omega) hm0 (by omega) (by omega) (by omega) (by omega) d3 (by omega) er2.symm d1 (by omega) g0]
    rw [← eYY]
    have n0 := Int.emod_nonneg (U * 4294967296 + u0) (show Y ≠ 0 by omega)
    have n1 := Int.emod_lt_of_pos (U * 4294967296 + u0) (show 0 < Y by omega)
    have nd := Int.mul_ediv_add_emod (U * 4294967296 + u0) Y
    have nq0 : 0 ≤ (U * 4294967296 + u0) / Y := Int.ediv_nonneg (by omega) (by omega)
    have nq1 : (U * 4294967296 + u0) / Y < 4294967296 := by rw [eYY]; exact dig_big (q := 4294967296) (by omega) (by omega) (by omega) (by omega) (Int.le_refl _)
    have J := div_join (N := N) (y := y) (P := 2 ^ m) (u := u) (u1 := u1) (u0 := u0) (q1 := (u * 4294967296 + u1) / Y) (q0 := (U * 4294967296 + u0) / Y) (r1 := U) (r0 := (U * 4294967296 + u0) % Y) hP (by omega) (by rw [hN]; omega) (by rw [eY]; have := Int.mul_comm ((u * 4294967296 + u1) / Y) Y; omega) (by rw [eY]; have := Int.mul_comm ((U * 4294967296 + u0) / Y) Y; omega) n0 (by rw [eY]; exact n1)
    rw [wrap2 (by unfold U64; omega), J.1]
    unfold shr
    rw [c1, J.2]
  have g1 : (u * 4294967296 + u1) / (y1 * 4294967296 + y0) ≤ u / y1 := by
    rcases gq u u1 hU0 with h | h | h
    · rw [← eYY]; exact h
    · omega
    · omega
  exact pDig1 7 y1 y0 u1 u0 (u / y1) (u % y1) m u (N / y, N % y) (by omega) (by omega) (by omega) (by omega) hU0 (by omega) (by omega) (by omega) hj hq0 (by omega) er.symm dq0 (by omega) g1 (k + 10) (by omega)
/-- a wide number divided -/
theorem pWDiv (k : Nat) (hi lo d : Int) (hh : R64 hi) (hl : U64 lo) (hd : R64 d) :
    wide_Div.f (k + 18) hi lo d = some (if d < 1 then (0, 0, 0, some 1) else ((hi * 18446744073709551616 + lo) / d / 18446744073709551616, (hi * 18446744073709551616 + lo) / d % 18446744073709551616, (hi * 18446744073709551616 + lo) % d, none)) := by
  have pos : ∀ (k : Nat) (hi lo : Int), 0 ≤ hi → hi ≤ 9223372036854775807 → U64 lo → 1 ≤ d → wide_Div.f (k + 17) hi lo d = some ((hi * 18446744073709551616 + lo) / d / 18446744073709551616, (hi * 18446744073709551616 + lo) / d % 18446744073709551616, (hi * 18446744073709551616 + lo) % d, none) := by
    intro k hi lo g0 g1 g2 g3
    simp only [wide_Div.f]
    have hl0 := g2.1; have hl1 := g2.2
    have hd1 : d ≤ 9223372036854775807 := hd.2
    rw [if_neg (by omega), if_neg (by omega), U64.wrap (a := hi) (by unfold U64; omega), U64.wrap (a := d) (by unfold U64; omega)]
    rw [pDiv64 k 0 hi d (by omega) (by omega) (by omega) (by unfold U64; omega)]
    simp only [Option.bind_some, Int.zero_mul, Int.zero_add]
    have r0 := Int.emod_nonneg hi (show d ≠ 0 by omega)
    have r1 := Int.emod_lt_of_pos hi (show 0 < d by omega)
    rw [pDiv64 k (hi % d) lo d r0 r1 (by omega) g2]
    simp only [Option.bind_some]
    have e0 := Int.mul_ediv_add_emod hi d
    have a0 := Int.ediv_nonneg g0 (show 0 ≤ d by omega)
    have a1 := Int.ediv_le_self d g0
    have b0 := Int.emod_nonneg (hi % d * 18446744073709551616 + lo) (show d ≠ 0 by omega)
    have b1 := Int.emod_lt_of_pos (hi % d * 18446744073709551616 + lo) (show 0 < d by omega)
    have b2 := Int.mul_ediv_add_emod (hi % d * 18446744073709551616 + lo) d
    have b3 : 0 ≤ (hi % d * 18446744073709551616 + lo) / d := Int.ediv_nonneg (by omega) (by omega)
    have b4 : (hi % d * 18446744073709551616 + lo) / d < 18446744073709551616 := by rw [Int.ediv_lt_iff_lt_mul (by omega)]; omega
    have eW : hi * 18446744073709551616 + lo = d * (hi / d * 18446744073709551616 + (hi % d * 18446744073709551616 + lo) / d) + (hi % d * 18446744073709551616 + lo) % d := by
      rw [Int.mul_add, ← Int.mul_assoc]; omega
    have eu := (Int.ediv_emod_unique (a := hi * 18446744073709551616 + lo) (b := d) (r := (hi % d * 18446744073709551616 + lo) % d) (q := hi / d * 18446744073709551616 + (hi % d * 18446744073709551616 + lo) / d) (by omega)).2 ⟨by omega, b0, b1⟩
    rw [eu.1, eu.2, R64.wrap (a := hi / d) (by unfold R64; omega), R64.wrap (a := _ % d) (by unfold R64; omega)]
    congr 2
    · omega
    · congr 1; omega
  have hh0 := hh.1; have hh1 := hh.2; have hl0 := hl.1; have hl1 := hl.2
  by_cases hd1 : d < 1
  · rw [if_pos hd1]; simp only [wide_Div.f]; rw [if_pos hd1]
  rw [if_neg hd1]
  rcases Int.lt_or_le hi 0 with hn | hn
  · simp only [wide_Div.f]
    rw [if_neg hd1, if_pos hn, not_i64 hh, not_u64 hl]
    have P := pos k (-1 - hi) (18446744073709551615 - lo) (by omega) (by omega) (by unfold U64; omega) (by omega)
    simp only [wide_Div.f] at P
    have ex : (-1 - hi) * 18446744073709551616 + (18446744073709551615 - lo) = -1 - (hi * 18446744073709551616 + lo) := by omega
    rw [ex] at P
    have hx0 : hi * 18446744073709551616 + lo < 0 := by omega
    have hx1 : -170141183460469231731687303715884105728 ≤ hi * 18446744073709551616 + lo := by omega
    generalize hi * 18446744073709551616 + lo = x at *
    rw [P]
    simp only [Option.bind_some]
    have m0 := Int.mul_ediv_add_emod (-1 - x) d
    have m1 := Int.emod_nonneg (-1 - x) (show d ≠ 0 by omega)
    have m2 := Int.emod_lt_of_pos (-1 - x) (show 0 < d by omega)
    have m3 : 0 ≤ (-1 - x) / d := Int.ediv_nonneg (by omega) (by omega)
    have m4 : (-1 - x) / d ≤ -1 - x := Int.ediv_le_self d (by omega)
    have eu := (Int.ediv_emod_unique (a := x) (b := d) (r := d - 1 - (-1 - x) % d) (q := -1 - (-1 - x) / d) (by omega)).2 ⟨by rw [Int.mul_sub]; omega, by omega, by omega⟩
    rw [eu.1, eu.2]
    have hd2 : d ≤ 9223372036854775807 := hd.2
    generalize (-1 - x) / d = q at *
    generalize (-1 - x) % d = r at *
    rw [not_i64 (by unfold R64; omega), not_u64 (by unfold U64; omega), R64.wrap (a := d - 1) (by unfold R64; omega), R64.wrap (a := d - 1 - r) (by unfold R64; omega)]
    congr 2
    · omega
    · congr 1; omega
  · exact pos (k + 1) hi lo hn hh1 hl (by omega)
theorem pMul64 (a b : Int) (ha : U64 a) (hb : U64 b) : bits_Mul64.f a b = some (a * b / 18446744073709551616, a * b % 18446744073709551616) := by
  obtain ⟨x, rfl⟩ := Int.eq_ofNat_of_zero_le ha.1
  obtain ⟨y, rfl⟩ := Int.eq_ofNat_of_zero_le hb.1
  have hx : x < 18446744073709551616 := by have := ha.2; omega
  have hy : y < 18446744073709551616 := by have := hb.2; omega
  have b1 := Lib.half_mul_le (a := x / 4294967296) (b := y / 4294967296) (by omega) (by omega)
  have b2 := Lib.half_mul_le (a := x / 4294967296) (b := y % 4294967296) (by omega) (by omega)
  have b3 := Lib.half_mul_le (a := x % 4294967296) (b := y / 4294967296) (by omega) (by omega)
  have b4 := Lib.half_mul_le (a := x % 4294967296) (b := y % 4294967296) (by omega) (by omega)
  obtain ⟨c1, c2, c3, c4⟩ := Lib.mul64_hi x y hx hy
  unfold bits_Mul64.f
  rw [and_low ha, and_low hb]
  have e1 : (x : Int) / 4294967296 = ((x / 4294967296 : Nat) : Int) := by omega
  have e2 : (y : Int) / 4294967296 = ((y / 4294967296 : Nat) : Int) := by omega
  have e3 : (x : Int) % 4294967296 = ((x % 4294967296 : Nat) : Int) := by omega
  have e4 : (y : Int) % 4294967296 = ((y % 4294967296 : Nat) : Int) := by omega
  have m1 : (x : Int) * y = ((x * y : Nat) : Int) := (Int.natCast_mul x y).symm
  have m2 : ((x / 4294967296 : Nat) : Int) * ((y / 4294967296 : Nat) : Int) = ((x / 4294967296 * (y / 4294967296) : Nat) : Int) := (Int.natCast_mul _ _).symm
  have m3 : ((x / 4294967296 : Nat) : Int) * ((y % 4294967296 : Nat) : Int) = ((x / 4294967296 * (y % 4294967296) : Nat) : Int) := (Int.natCast_mul _ _).symm
  have m4 : ((x % 4294967296 : Nat) : Int) * ((y / 4294967296 : Nat) : Int) = ((x % 4294967296 * (y / 4294967296) : Nat) : Int) := (Int.natCast_mul _ _).symm
  have m5 : ((x % 4294967296 : Nat) : Int) * ((y % 4294967296 : Nat) : Int) = ((x % 4294967296 * (y % 4294967296) : Nat) : Int) := (Int.natCast_mul _ _).symm
  rw [e1, e2, e3, e4, m1, m2, m3, m4, m5]
  generalize x / 4294967296 * (y / 4294967296) = p1 at *
  generalize x / 4294967296 * (y % 4294967296) = p2 at *
  generalize x % 4294967296 * (y / 4294967296) = p3 at *
  generalize x % 4294967296 * (y % 4294967296) = p4 at *
  generalize x * y = p at *
  have w4 : IntKind.u64.wrap (p4 : Int) = (p4 : Int) := U64.wrap (by unfold U64; omega)
  have w2 : IntKind.u64.wrap (p2 : Int) = (p2 : Int) := U64.wrap (by unfold U64; omega)
  have w1 : IntKind.u64.wrap (p1 : Int) = (p1 : Int) := U64.wrap (by unfold U64; omega)
  have w3 : IntKind.u64.wrap (p3 : Int) = (p3 : Int) := U64.wrap (by unfold U64; omega)
  rw [w4, w2, w1, w3, U64.wrap (a := (p2 : Int) + (p4 : Int) / 4294967296) (by unfold U64; omega), and_low (by unfold U64; omega)]
  rw [IntKind.wrap_u64 (p : Int)]
  congr 2
  rw [U64.wrap (a := (p2 + (p4 : Int) / 4294967296) % 4294967296 + p3) (by unfold U64; omega)]
  rw [U64.wrap (a := (p1 : Int) + (p2 + (p4 : Int) / 4294967296) / 4294967296) (by unfold U64; omega)]
  rw [U64.wrap (by unfold U64; omega)]
  omega
/-- a product of two numbers, as a wide one -/
theorem pWMul (a b : Int) (ha : R64 a) (hb : R64 b) : wide_Mul.f a b = some (a * b / 18446744073709551616, a * b % 18446744073709551616) := by
  unfold R64 at ha hb
  unfold wide_Mul.f
  have ua : IntKind.u64.wrap a = if a < 0 then a + 18446744073709551616 else a := by rw [IntKind.wrap_u64]; split <;> omega
  have ub : IntKind.u64.wrap b = if b < 0 then b + 18446744073709551616 else b := by rw [IntKind.wrap_u64]; split <;> omega
  have rng : -85070591730234615865843651857942052864 ≤ a * b ∧ a * b ≤ 85070591730234615865843651857942052864 := by
    have h1 : (a * b).natAbs = a.natAbs * b.natAbs := Int.natAbs_mul a b
    have h2 : a.natAbs * b.natAbs ≤ 9223372036854775808 * 9223372036854775808 := Nat.mul_le_mul (by omega) (by omega)
    omega
  have hmul : ∀ x y : Int, (x + 18446744073709551616) * y = x * y + 18446744073709551616 * y := fun x y => Int.add_mul _ _ _
  have hmul' : ∀ x y : Int, x * (y + 18446744073709551616) = x * y + x * 18446744073709551616 := fun x y => Int.mul_add _ _ _
  rw [ua, ub]
  by_cases h1 : a < 0 <;> by_cases h2 : b < 0
  · rw [if_pos h1, if_pos h2, pMul64 _ _ (by unfold U64; omega) (by unfold U64; omega)]
    simp only [Option.bind_some]
    rw [if_pos h1, if_pos h2]
    have e : (a + 18446744073709551616) * (b + 18446744073709551616) = a * b + 18446744073709551616 * b + 18446744073709551616 * a + 340282366920938463463374607431768211456 := by rw [hmul, hmul', Int.mul_add]; omega
    rw [e]
    generalize a * b = p at *
    simp only [IntKind.wrap_u64]
    congr 2
    · unfold wrap64; omega
    · omega
  · rw [if_pos h1, if_neg h2, pMul64 _ _ (by unfold U64; omega) (by unfold U64; omega)]
    simp only [Option.bind_some]
    rw [if_pos h1, if_neg h2, hmul]
    generalize a * b = p at *
    simp only [IntKind.wrap_u64]
    congr 2
    · unfold wrap64; omega
    · omega
  · rw [if_neg h1, if_pos h2, pMul64 _ _ (by unfold U64; omega) (by unfold U64; omega)]
    simp only [Option.bind_some]
    rw [if_neg h1, if_pos h2, hmul']
    generalize a * b = p at *
    simp only [IntKind.wrap_u64]
    congr 2
    · unfold wrap64; omega
    · omega
  · rw [if_neg h1, if_neg h2, pMul64 _ _ (by unfold U64; omega) (by unfold U64; omega)]
    simp only [Option.bind_some]
    rw [if_neg h1, if_neg h2]
    congr 2
    generalize a * b = p at *
    unfold wrap64; omega
/-- a wide number as a number -/
theorem pWInt (x : Int) (hx : -170141183460469231731687303715884105728 ≤ x) (hx' : x < 170141183460469231731687303715884105728) : wide_Int.f (x / 18446744073709551616) (x % 18446744073709551616) = some (if R64 x then (x, none) else (0, some 2)) := by
  unfold wide_Int.f wide_Of.f
  simp only [Option.bind_some, IntKind.wrap_u64]
  have e1 : wrap64 (x % 18446744073709551616) % 18446744073709551616 = x % 18446744073709551616 := by unfold wrap64; omega
  rw [e1]
  by_cases h : R64 x
  · have e2 : wrap64 (x % 18446744073709551616) = x := by unfold R64 at h; unfold wrap64; omega
    have e3 : x / 9223372036854775808 = x / 18446744073709551616 := by unfold R64 at h; omega
    rw [if_pos h, e2, e3]; simp
  · have e2 : (wrap64 (x % 18446744073709551616) / 9223372036854775808 == x / 18446744073709551616) = false := by
      rw [beq_eq_false_iff_ne]; unfold R64 at h; unfold wrap64; omega
    rw [if_neg h, e2]; simp
/-- a product, divided, rounded down -/
def mdR (a b c : Int) : Int × Option Int := if c < 1 then (0, some 1) else if R64 (a * b / c) then (a * b / c, none) else (0, some 2)
theorem mul_rng {a b : Int} (ha : R64 a) (hb : R64 b) : -85070591730234615865843651857942052864 ≤ a * b ∧ a * b ≤ 85070591730234615865843651857942052864 := by
  have h1 : (a * b).natAbs = a.natAbs * b.natAbs := Int.natAbs_mul a b
  have h2 : a.natAbs * b.natAbs ≤ 9223372036854775808 * 9223372036854775808 := Nat.mul_le_mul (by unfold R64 at ha; omega) (by unfold R64 at hb; omega)
  omega
theorem div_rng {x c : Int} (hc : 1 ≤ c) (h : -85070591730234615865843651857942052864 ≤ x ∧ x ≤ 85070591730234615865843651857942052864) : -85070591730234615865843651857942052864 ≤ x / c ∧ x / c ≤ 85070591730234615865843651857942052864 := by
  constructor
  · rw [Int.le_ediv_iff_mul_le (by omega)]; omega
  · have : x / c < 85070591730234615865843651857942052864 + 1 := by rw [Int.ediv_lt_iff_lt_mul (by omega)]; omega
    omega
theorem pMulDiv (k : Nat) (a b c : Int) (ha : R64 a) (hb : R64 b) (hc : R64 c) : wide_MulDiv.f (k + 18) a b c = some (mdR a b c) := by
  unfold wide_MulDiv.f mdR
  have hr := mul_rng ha hb
  rw [pWMul a b ha hb]
  simp only [Option.bind_some]
  have ed := Int.mul_ediv_add_emod (a * b) 18446744073709551616
  rw [pWDiv k _ _ c (by unfold R64; omega) (by unfold U64; omega) hc]
  simp only [Option.bind_some]
  have ex : a * b / 18446744073709551616 * 18446744073709551616 + a * b % 18446744073709551616 = a * b := by omega
  rw [ex]
  by_cases h1 : c < 1
  · rw [if_pos h1, if_pos h1]; simp
  · rw [if_neg h1, if_neg h1]
    simp only [Option.isNone_none, if_true]
    have hr2 := div_rng (show 1 ≤ c by omega) hr
    rw [pWInt _ (by omega) (by omega)]
    simp

/-- a quotient rounded up -/
def cd (x c : Int) : Int := -((-x) / c)
theorem drift_wrong_eq (e r n : Int) : drift_wrong.f e r n = some (decide (e < 0 ∨ r < 0 ∨ 2097152 < r ∨ n < 0)) := by
  unfold drift_wrong.f
  repeat' split
  all_goals first
    | rw [decide_eq_true (by omega)]
    | (congr 1; rw [decide_eq_decide]; omega)
theorem grow_eq (k : Nat) (e r n : Int) (he : R64 e) (hr : R64 r) (hn : R64 n) : drift_Grow.f (k + 18) e r n = some (if e < 0 ∨ r < 0 ∨ 2097152 < r ∨ n < 0 then (0, some 1) else (sat (e + cd (n * r) 1073741824), none)) := by
  unfold drift_Grow.f
  rw [drift_wrong_eq]
  simp only [Option.bind_some]
  by_cases h : e < 0 ∨ r < 0 ∨ 2097152 < r ∨ n < 0
  · rw [if_pos h, decide_eq_true h, if_pos rfl]
  · rw [if_neg h, decide_eq_false h, if_neg (by simp)]
    unfold R64 at he hr hn
    have hp : 0 ≤ n * r := Int.mul_nonneg (by omega) (by omega)
    have hp2 : n * r ≤ 9223372036854775807 * 2097152 := Int.mul_le_mul (by omega) (by omega) (by omega) (by omega)
    rw [R64.wrap (a := -n) (by unfold R64; omega), pMulDiv k (-n) r 1073741824 (by unfold R64; omega) (by unfold R64; omega) (by unfold R64; omega)]
    unfold mdR
    rw [if_neg (by omega), Int.neg_mul, if_pos (by unfold R64; omega)]
    simp only [Option.bind_some, Option.isNone_none, if_true]
    rw [pSubSat _ _ (by unfold R64; omega) (by unfold R64; omega)]
    simp only [Option.bind_some]
    rw [show e - -(n * r) / 1073741824 = e + cd (n * r) 1073741824 by unfold cd; omega]
theorem grow_at (k : Nat) (hk : 18 ≤ k) (e r n : Int) (he : R64 e) (hr : R64 r) (hn : R64 n) : drift_Grow.f k e r n = some (if e < 0 ∨ r < 0 ∨ 2097152 < r ∨ n < 0 then (0, some 1) else (sat (e + cd (n * r) 1073741824), none)) := by
  obtain ⟨k, rfl⟩ : ∃ m, k = m + 18 := ⟨k - 18, by omega⟩
  exact grow_eq k e r n he hr hn

def cl (x : Int) : Int := mx (-1048576) (mn x 1048576)
theorem cl_small (x : Int) : -1048576 ≤ cl x ∧ cl x ≤ 1048576 := by unfold cl mx mn; repeat' split
                                                                    all_goals omega
theorem cl_id (x : Int) (h0 : -1048576 ≤ x) (h1 : x ≤ 1048576) : cl x = x := by unfold cl mx mn; repeat' split
                                                                                all_goals omega
/-- a servo's step: how it is pulled, and the sum -/
def stepV (s1 p i limit off : Int) : Int × Int :=
  (mx (-limit) (mn ((p * cl (off / 1024) + i * cl (cl s1 + cl (off / 1024))) / 1024) limit), cl (cl s1 + cl (off / 1024)))
theorem prod_bound (x y a b : Int) (hx : -a ≤ x ∧ x ≤ a) (hy : -b ≤ y ∧ y ≤ b) (ha : 0 ≤ a) (hb : 0 ≤ b) : -(a * b) ≤ x * y ∧ x * y ≤ a * b := by
  have h1 : (x * y).natAbs ≤ (a * b).natAbs := by
    rw [Int.natAbs_mul, Int.natAbs_mul]
    exact Nat.mul_le_mul (by omega) (by omega)
  have h2 : 0 ≤ a * b := Int.mul_nonneg ha hb
  generalize x * y = u at *
  generalize a * b = v at *
  omega
theorem pull_eq (p i n s : Int) (hg : _root_.Go.Proofs.YtcpbfckmngbgdaaDoor.MSv.okGain p i 0) (hn : -1048576 ≤ n ∧ n ≤ 1048576) (hs : -1048576 ≤ s ∧ s ≤ 1048576) :
    ∃ re im, servo_Pull.f p i n s = some ((re, im), none) ∧ floatToIntVal .f64 re .i64 = some (p * n + i * s) ∧ floatToIntVal .f64 im .i64 = some (i * n - p * s) := by
  obtain ⟨g1, g2, g3, g4, _, _⟩ := hg
  obtain ⟨re, im, h1, h2, h3⟩ := cmul_whole (WB.ofInt p (by omega)) (WB.ofInt i (by omega)) (WB.ofInt n (by omega)) ((WB.ofInt s (by omega)).neg) (by omega) (by omega) (by omega) (by omega)
  have b1 := prod_bound p n 1024 1048576 (by omega) (by omega) (by omega) (by omega)
  have b2 := prod_bound i s 1024 1048576 (by omega) (by omega) (by omega) (by omega)
  have b3 := prod_bound p s 1024 1048576 (by omega) (by omega) (by omega) (by omega)
  have b4 := prod_bound i n 1024 1048576 (by omega) (by omega) (by omega) (by omega)
  have e1 : p * n - i * -s = p * n + i * s := by rw [Int.mul_neg]; omega
  have e2 : p * -s + i * n = i * n - p * s := by rw [Int.mul_neg]; omega
  rw [e1] at h2
  rw [e2] at h3
  refine ⟨re, im, ?_, h2.int (by omega) (by omega), h3.int (by omega) (by omega)⟩
  unfold servo_Pull.f _root_.Go.Proofs.YtcpbfckmngbgdaaDoor.MSv.servo_Pull.f
  rw [if_pos ⟨⟨g1, g2, g3, g4, by omega, by omega⟩, hn, hs⟩, h1]
  rfl
theorem check_eq (p i limit : Int) : servo_Check.f p i limit = some (if _root_.Go.Proofs.YtcpbfckmngbgdaaDoor.MSv.okGain p i limit then none else some 1) := rfl
theorem within_eq (x : Int) : servo_within.f x = some (cl x) := rfl
theorem down_eq (x : Int) (hx : R64 x) : servo_down.f x = some (x / 1024) := by
  unfold servo_down.f
  rw [pDiv x 1024 hx (by unfold R64; omega) (by omega)]
  rfl
theorem step_eq (s0 s1 p i limit off : Int) (hs1 : R64 s1) (ho : R64 off) (hg : _root_.Go.Proofs.YtcpbfckmngbgdaaDoor.MSv.okGain p i limit) : servo_Step.f s0 s1 p i limit off = some ((stepV s1 p i limit off).1, (stepV s1 p i limit off).2, none) := by
  have hg' : _root_.Go.Proofs.YtcpbfckmngbgdaaDoor.MSv.okGain p i 0 := ⟨hg.1, hg.2.1, hg.2.2.1, hg.2.2.2.1, by omega, by omega⟩
  have c1 := cl_small (off / 1024)
  have c2 := cl_small s1
  have c3 := cl_small (cl s1 + cl (off / 1024))
  obtain ⟨re, im, h1, h2, _⟩ := pull_eq p i _ _ hg' c1 c3
  have b1 := prod_bound p (cl (off / 1024)) 1024 1048576 (by have := hg.1; have := hg.2.1; omega) (by omega) (by omega) (by omega)
  have b2 := prod_bound i (cl (cl s1 + cl (off / 1024))) 1024 1048576 (by have := hg.2.2.1; have := hg.2.2.2.1; omega) (by omega) (by omega) (by omega)
  have hl := hg.2.2.2.2
  unfold servo_Step.f
  rw [check_eq, if_pos hg]
  simp only [Option.bind_some, Option.isNone_none, if_true]
  rw [down_eq off ho]
  simp only [Option.bind_some, within_eq]
  rw [show wrap64 (cl s1 + cl (off / 1024)) = cl s1 + cl (off / 1024) by unfold wrap64; omega, h1]
  simp only [Option.bind_some, Option.isNone_none, if_true, h2, Option.isSome_some, Option.getD_some]
  unfold stepV
  generalize p * cl (off / 1024) = u at *
  generalize i * cl (cl s1 + cl (off / 1024)) = v at *
  rw [down_eq _ (by unfold R64; omega)]
  simp only [Option.bind_some, num_Clamp.f]
  rw [show wrap64 (-limit) = -limit by unfold wrap64; omega]

theorem mx_eq (a b : Int) : mx a b = max a b := by unfold mx; omega
theorem mn_eq (a b : Int) : mn a b = min a b := by unfold mn; omega
theorem pcheck_eq (a b : Int) : span_Check.f a b = some (if a ≤ b then none else some 1) := by
  unfold span_Check.f
  split
  · rw [if_neg (by omega)]
  · rw [if_pos (by omega)]
/-- what two spans have together -/
def meetR (a b c d : Int) : Int × Int × Bool := if a ≤ b ∧ c ≤ d ∧ max a c ≤ min b d then (max a c, min b d, true) else (0, 0, false)
theorem meet_eq (a b c d : Int) : span_Meet.f a b c d = some (meetR a b c d) := by
  unfold span_Meet.f meetR
  simp only [pcheck_eq, mx_eq, mn_eq, Option.bind_some]
  by_cases h1 : a ≤ b
  · rw [if_pos h1]
    simp only [Option.isNone_none, if_true]
    by_cases h2 : c ≤ d
    · rw [if_pos h2]
      simp only [Option.isNone_none, if_true]
      by_cases h3 : max a c ≤ min b d
      · rw [if_pos h3, if_pos (show a ≤ b ∧ c ≤ d ∧ max a c ≤ min b d from ⟨h1, h2, h3⟩)]; simp
      · rw [if_neg h3, if_neg (show ¬ (a ≤ b ∧ c ≤ d ∧ max a c ≤ min b d) from fun h => h3 h.2.2)]; simp
    · rw [if_neg h2, if_neg (show ¬ (a ≤ b ∧ c ≤ d ∧ max a c ≤ min b d) from fun h => h2 h.2.1)]; simp
  · rw [if_neg h1, if_neg (show ¬ (a ≤ b ∧ c ≤ d ∧ max a c ≤ min b d) from fun h => h1 h.1)]; simp
theorem mid_eq (a b : Int) (ha : R64 a) (hb : R64 b) : span_Mid.f a b = some (if a ≤ b then ((a + b) / 2, sat (b - (a + b) / 2), none) else (0, 0, some 1)) := by
  unfold span_Mid.f
  rw [pcheck_eq]
  simp only [Option.bind_some]
  obtain ⟨m1, m2⟩ := mid_bits ha hb
  have m3 : R64 ((a + b) / 2) := by unfold R64 at *; omega
  rw [m1, m3.wrap]
  by_cases h : a ≤ b
  · rw [if_pos h, if_pos h]
    simp only [Option.isNone_none, if_true]
    rw [pSubSat _ _ hb m3]; simp
  · rw [if_neg h, if_neg h]; simp

/-! ### products, shifted -/
theorem or_comm64 (a b : Int) : Go.bits .or .u64 a b = Go.bits .or .u64 b a := by
  show IntKind.u64.wrap ((BitVec.ofInt 64 a ||| BitVec.ofInt 64 b).toNat : Int) = IntKind.u64.wrap ((BitVec.ofInt 64 b ||| BitVec.ofInt 64 a).toNat : Int)
  rw [BitVec.or_comm]
theorem shr_split (x A B : Int) (hA : 0 < A) (hB : 0 < B) (hAB : A * B = 18446744073709551616) :
    x / A / 18446744073709551616 = x / 18446744073709551616 / A ∧ x / A % 18446744073709551616 = (x / 18446744073709551616 % A) * B + x % 18446744073709551616 / A ∧ 0 ≤ x % 18446744073709551616 / A ∧ x % 18446744073709551616 / A < B ∧ 0 ≤ x / 18446744073709551616 % A ∧ (x / 18446744073709551616 % A) * B ≤ 18446744073709551616 - B := by
  obtain ⟨hi, hhi⟩ : ∃ h, h = x / 18446744073709551616 := ⟨_, rfl⟩
  obtain ⟨lo, hlo⟩ : ∃ h, h = x % 18446744073709551616 := ⟨_, rfl⟩
  rw [← hhi, ← hlo]
  have l0 : 0 ≤ lo ∧ lo < 18446744073709551616 := by omega
  have q0 : 0 ≤ lo / A := Int.ediv_nonneg l0.1 (by omega)
  have q1 : lo / A < B := by rw [Int.ediv_lt_iff_lt_mul hA, Int.mul_comm B A]; omega
  have m0 : 0 ≤ hi % A := Int.emod_nonneg _ (by omega)
  have m1 : hi % A < A := Int.emod_lt_of_pos _ hA
  have hd := Int.mul_ediv_add_emod hi A
  have e1 : x / A = B * hi + lo / A := by
    have : x = A * (B * hi) + lo := by rw [← Int.mul_assoc, hAB]; omega
    rw [this, Int.add_comm, Int.add_mul_ediv_left _ _ (by omega), Int.add_comm]
  have e2 : B * hi = 18446744073709551616 * (hi / A) + hi % A * B := by
    rw [← hAB]
    conv => lhs; rw [← hd]
    rw [Int.mul_add, Int.mul_comm B (hi % A), Int.mul_comm A B, Int.mul_assoc]
  have p0 : 0 ≤ hi % A * B := Int.mul_nonneg m0 (by omega)
  have p1 : hi % A * B ≤ 18446744073709551616 - B := by
    have h := Int.mul_le_mul_of_nonneg_right (show hi % A ≤ A - 1 by omega) (show 0 ≤ B by omega)
    rw [Int.sub_mul, hAB, Int.one_mul] at h
    exact h
  refine ⟨?_, ?_, q0, q1, m0, p1⟩
  · rw [e1, e2]; omega
  · rw [e1, e2]; omega
theorem two_pow_pos (n : Nat) : (0 : Int) < 2 ^ n := Int.pow_pos (by omega)
theorem pow_split (n : Nat) (h : n ≤ 64) : (2 : Int) ^ n * 2 ^ (64 - n) = 18446744073709551616 := by
  rw [← Int.pow_add, show n + (64 - n) = 64 by omega]; rfl
theorem pShr (k n : Nat) (hn : n ≤ 31) (x : Int) (hx : R64 (x / 18446744073709551616)) : wide_Shr.f (k + 1) (x / 18446744073709551616) (x % 18446744073709551616) (n : Int) = some (x / 2 ^ n / 18446744073709551616, x / 2 ^ n % 18446744073709551616, none) := by
  obtain ⟨h1, h2, h3, h4, h5, h6⟩ := shr_split x (2 ^ n) (2 ^ (64 - n)) (two_pow_pos _) (two_pow_pos _) (pow_split n (by omega))
  unfold wide_Shr.f
  rw [if_neg (by omega)]
  simp only [wide_Shr.j0]
  rw [if_neg (by simp; omega), if_neg (by omega), if_pos (by omega), show wrap64 (64 - (n : Int)) = ((64 - n : Nat) : Int) by unfold wrap64; omega, if_pos (by omega)]
  have c1 : min ((n : Int)).toNat IntKind.u64.bits = n := by rw [show IntKind.u64.bits = 64 from rfl]; omega
  have c2 : min (((64 - n : Nat) : Int)).toNat IntKind.u64.bits = 64 - n := by rw [show IntKind.u64.bits = 64 from rfl]; omega
  have c3 : min ((n : Int)).toNat IntKind.i64.bits = n := by rw [show IntKind.i64.bits = 64 from rfl]; omega
  obtain ⟨hi, hhi⟩ : ∃ h, h = x / 18446744073709551616 := ⟨_, rfl⟩
  rw [← hhi] at h1 h2 h5 h6 hx ⊢
  have e1 : shr .i64 hi (n : Int) = hi / 2 ^ n := by unfold shr; rw [c3]
  have e2 : shr .u64 (x % 18446744073709551616) (n : Int) = x % 18446744073709551616 / 2 ^ n := by unfold shr; rw [c1]
  have e3 : shl .u64 (IntKind.u64.wrap hi) ((64 - n : Nat) : Int) = hi % 2 ^ n * 2 ^ (64 - n) := by
    unfold shl
    rw [c2, IntKind.wrap_u64, IntKind.wrap_u64, Int.mul_comm (hi % 18446744073709551616)]
    conv => lhs; rhs; rw [← pow_split n (by omega), Int.mul_comm]
    rw [Int.mul_emod_mul_of_pos _ _ (two_pow_pos _), Int.mul_comm]
    congr 1
    exact Int.emod_emod_of_dvd _ ⟨_, (pow_split n (by omega)).symm⟩
  rw [e1, e2, e3, or_comm64, or_low h5 h3 (by have := two_pow_pos (64 - n); omega) h4 (by omega), h1, h2]
theorem scale_eq (k s : Nat) (hk : 2 ≤ k) (hs : s ≤ 31) (m n : Int) (hm : 1 ≤ m ∧ m < 4294967296) (hn : R64 n) : ratio_Scale.f k m (s : Int) n = some (if R64 (n * m / 2 ^ s) then (n * m / 2 ^ s, none) else (0, some 2)) := by
  obtain ⟨k, rfl⟩ : ∃ q, k = q + 2 := ⟨k - 2, by omega⟩
  have hm' : R64 m := by unfold R64; omega
  have hr := mul_rng hn hm'
  have hP := two_pow_pos s
  have hd := div_rng (x := n * m) (c := 2 ^ s) hP hr
  unfold ratio_Scale.f
  rw [show ratio_Check.f m (s : Int) = some none by unfold ratio_Check.f; rw [if_neg (by omega), if_neg (by omega), if_neg (by omega)]]
  simp only [Option.bind_some, Option.isNone_none, if_true]
  unfold wide_MulShift.f
  rw [if_neg (by omega)]
  simp only [wide_MulShift.j0]
  rw [if_neg (by simp; omega), R64.wrap hm', pWMul n m hn hm']
  simp only [Option.bind_some]
  rw [pShr k s hs (n * m) (by unfold R64; omega)]
  simp only [Option.bind_some, Option.isNone_none, if_true]
  rw [pWInt _ (by omega) (by omega)]
  rfl
theorem rcheck_eq (m s : Int) : ratio_Check.f m s = some (if m = 0 ∨ s < 0 ∨ 31 < s then some 1 else none) := by
  unfold ratio_Check.f
  repeat' split
  all_goals first | rfl | omega
/-- a factor, by so many parts -/
def adjR (m s f : Int) : Int × Int × Option Int := if 1 ≤ m * (1073741824 + f) / 1073741824 ∧ m * (1073741824 + f) / 1073741824 < 4294967296 then (m * (1073741824 + f) / 1073741824, s, none) else (0, 0, some 2)
theorem adjust_eq (k : Nat) (hk : 18 ≤ k) (m s f : Int) (hm : 1 ≤ m ∧ m < 4294967296) (hs : 0 ≤ s ∧ s ≤ 31) (hf : -1073741824 ≤ f ∧ f ≤ 1073741824) : ratio_Adjust.f k m s f = some (adjR m s f) := by
  obtain ⟨k, rfl⟩ : ∃ q, k = q + 18 := ⟨k - 18, by omega⟩
  unfold ratio_Adjust.f adjR
  rw [rcheck_eq, if_neg (by omega)]
  simp only [Option.bind_some, Option.isNone_none, if_true, num_Clamp.f]
  rw [show mx (-1073741824) (mn f 1073741824) = f by unfold mx mn; omega, show wrap64 m = m by unfold wrap64; omega, show wrap64 (1073741824 + f) = 1073741824 + f by unfold wrap64; omega, pMulDiv k m (1073741824 + f) 1073741824 (by unfold R64; omega) (by unfold R64; omega) (by unfold R64; omega)]
  unfold mdR
  have h0 : 0 ≤ m * (1073741824 + f) := Int.mul_nonneg (by omega) (by omega)
  have h1 : m * (1073741824 + f) ≤ 4294967296 * 2147483648 := Int.mul_le_mul (by omega) (by omega) (by omega) (by omega)
  rw [if_neg (by omega), if_pos (by unfold R64; omega)]
  simp only [Option.bind_some, Option.isNone_none, if_true]
  by_cases c : 1 ≤ m * (1073741824 + f) / 1073741824 ∧ m * (1073741824 + f) / 1073741824 < 4294967296
  · rw [if_neg (by omega), if_neg (by omega), if_pos c, Int.emod_eq_of_lt (by omega) c.2]
  · rw [if_neg c]
    by_cases c2 : m * (1073741824 + f) / 1073741824 < 1
    · rw [if_pos c2]
    · rw [if_neg c2, if_pos (by omega)]

end Go.Proofs.YtcpbfckmngbgdaaDoor.MHo
