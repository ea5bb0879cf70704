/-
  Plain facts on whole numbers of 64 bits: sums, products, quotients, and where they leave the range.
-/
import Derived.Test.YtcpbfckmngbgdaaDoorProg
import Derived.WalkKit
import Derived.OpenShut
import Derived.Deep.Draws
namespace Go.Proofs.YtcpbfckmngbgdaaDoor
open Go.RowKit
set_option linter.unusedVariables false
set_option linter.unusedSimpArgs false

/-- nothing but draws -/
def Dr (w w' : World) : Prop := ∃ n, w' = w.drewN n
theorem Dr.refl (w : World) : Dr w w := ⟨0, rfl⟩
theorem Dr.step {w w' : World} (h : Dr w w') (n : Nat) : Dr w (w'.drewN n) := by
  obtain ⟨m, rfl⟩ := h; exact ⟨m + n, by simp [World.drewN, Nat.add_assoc]⟩
theorem Dr.drew {w w' : World} (h : Dr w w') : Dr w w'.drew := h.step 1
/-- within 64 bits -/
def R64 (a : Int) : Prop := -9223372036854775808 ≤ a ∧ a ≤ 9223372036854775807
theorem R64.wrap {a : Int} (h : R64 a) : wrap64 a = a := by unfold R64 at h; unfold wrap64; omega
theorem R64.of_wf {a : Int} (h : (Lit.int .i64 a).wf = true) : R64 a := bounds_i64 h
instance (a : Int) : Decidable (R64 a) := by unfold R64; infer_instance
/-- bounded -/
def sat (a : Int) : Int := if a < -9223372036854775808 then -9223372036854775808 else if a > 9223372036854775807 then 9223372036854775807 else a
theorem sat_of {a : Int} (h : R64 a) : sat a = a := by unfold R64 at h; unfold sat; rw [if_neg (by omega), if_neg (by omega)]
theorem sat_range (a : Int) : R64 (sat a) := by unfold sat R64; split <;> (try split) <;> omega
theorem sat_mono {a b : Int} (h : a ≤ b) : sat a ≤ sat b := by unfold sat; repeat' split <;> omega
theorem sat_cases (a : Int) : (a < -9223372036854775808 ∧ sat a = -9223372036854775808) ∨ (R64 a ∧ sat a = a) ∨ (9223372036854775807 < a ∧ sat a = 9223372036854775807) := by
  unfold sat R64; repeat' split <;> omega
/-- a quotient rounded up -/
def ceilD (a b : Int) : Int := a / b + (if 0 < a % b then 1 else 0)

theorem div_bounds {a b : Int} (ha : R64 a) (hb : 1 ≤ b) : R64 (a / b) ∧ (a < 0 → a ≤ a / b ∧ a / b < 0) ∧ (0 ≤ a → 0 ≤ a / b ∧ a / b ≤ a) := by
  unfold R64 at *
  have e := Int.mul_ediv_add_emod a b
  have r0 := Int.emod_nonneg a (show b ≠ 0 by omega)
  have r1 := Int.emod_lt_of_pos a (show 0 < b by omega)
  have hneg : a < 0 → a ≤ a / b ∧ a / b < 0 := by
    intro h
    have h1 : a / b < 0 := Int.ediv_neg_of_neg_of_pos h (by omega)
    have h2 : b * (a / b) ≤ 1 * (a / b) := Int.mul_le_mul_of_nonpos_right hb (Int.le_of_lt h1)
    refine ⟨?_, h1⟩
    rcases Int.lt_or_le (a / b) a with h3 | h3
    · have : b * (a / b) ≤ b * (a - 1) := Int.mul_le_mul_of_nonneg_left (by omega) (by omega)
      have h5 : b * (a - 1) ≤ a - b := by
        have : b * (a - 1) = b * a - b := by rw [Int.mul_sub, Int.mul_one]
        have h6 : b * a ≤ 1 * a := Int.mul_le_mul_of_nonpos_right hb (Int.le_of_lt h)
        omega
      omega
    · exact h3
  have hpos : 0 ≤ a → 0 ≤ a / b ∧ a / b ≤ a := fun h => ⟨Int.ediv_nonneg h (by omega), Int.ediv_le_self _ h⟩
  refine ⟨?_, hneg, hpos⟩
  rcases Int.lt_or_le a 0 with h | h
  · have := hneg h; omega
  · have := hpos h; omega
theorem ceil_range {a b : Int} (ha : R64 a) (hb : 1 ≤ b) : R64 (ceilD a b) := by
  obtain ⟨h1, h2, h3⟩ := div_bounds ha hb
  have e := Int.mul_ediv_add_emod a b
  unfold ceilD
  split
  · next h =>
    have hb2 : b ≠ 1 := by rintro rfl; simp [Int.emod_one] at h
    unfold R64 at *
    refine ⟨by omega, ?_⟩
    rcases Int.lt_or_le a 0 with h0 | h0
    · have := h2 h0; omega
    · rcases Int.lt_or_le (a / b) 9223372036854775807 with h4 | h4
      · omega
      · have : 2 * (a / b) ≤ b * (a / b) := Int.mul_le_mul_of_nonneg_right (by omega) (by omega)
        omega
  · simpa using h1
theorem tdiv_of_nonneg {a b : Int} (ha : 0 ≤ a) : Int.tdiv a b = a / b := Int.tdiv_eq_ediv_of_nonneg ha
/-- Go's quotient and remainder, below 0 -/
theorem tdiv_neg {a b : Int} (ha : a < 0) (hb : 1 ≤ b) : Int.tdiv a b = a / b + (if a % b = 0 then 0 else 1) := by
  rw [Int.tdiv_eq_ediv]
  by_cases h : a % b = 0
  · rw [if_pos h, if_pos (Or.inr (Int.dvd_of_emod_eq_zero h))]
  · rw [if_neg h, if_neg (by rintro (h1 | h1); · omega
                             · exact h (Int.emod_eq_zero_of_dvd h1)), Int.sign_eq_one_of_pos (by omega)]
theorem tmod_neg {a b : Int} (ha : a < 0) (hb : 1 ≤ b) : Int.tmod a b = a % b - (if a % b = 0 then 0 else b) := by
  have h1 := Int.mul_tdiv_add_tmod a b
  have h2 := Int.mul_ediv_add_emod a b
  rw [tdiv_neg ha hb] at h1
  split at h1
  · next h => rw [if_pos h]; rw [Int.add_zero] at h1; omega
  · next h => rw [if_neg h]; rw [Int.mul_add, Int.mul_one] at h1; omega
theorem tdiv_range {a b : Int} (ha : R64 a) (hb : 1 ≤ b) : R64 (Int.tdiv a b) := by
  rcases Int.lt_or_le a 0 with h | h
  · rw [tdiv_neg h hb]
    have := div_bounds ha hb
    unfold R64 at *
    have := this.2.1 h
    split <;> omega
  · rw [tdiv_of_nonneg h]; exact (div_bounds ha hb).1
/-- a product out of range is seen by dividing it again -/
theorem mul_seen {a b : Int} (ha : R64 a) (hb : R64 b) (hb0 : b ≠ 0) (h1 : ¬ (b = -1 ∧ a = -9223372036854775808)) (h : ¬ R64 (a * b)) : wrap64 (Int.tdiv (wrap64 (a * b)) b) ≠ a := by
  intro e
  generalize hp : wrap64 (a * b) = p at e
  have hpr : R64 p := by rw [← hp]; unfold wrap64 R64; omega
  have hmod : ∃ k, p = a * b + 18446744073709551616 * k := by
    refine ⟨-((a * b + 9223372036854775808) / 18446744073709551616), ?_⟩
    rw [← hp]; unfold wrap64; omega
  obtain ⟨k, hk⟩ := hmod
  have hk0 : k ≠ 0 := by rintro rfl; apply h; have : a * b = p := by omega
                         rw [this]; exact hpr
  have hq : Int.tdiv p b = a := by
    by_cases hs : b = -1 ∧ p = -9223372036854775808
    · obtain ⟨rfl, rfl⟩ := hs
      exfalso; apply h1; refine ⟨rfl, ?_⟩
      rw [← e]; decide +kernel
    · have : R64 (Int.tdiv p b) := by
        have hn : (Int.tdiv p b).natAbs = p.natAbs / b.natAbs := Int.natAbs_tdiv p b
        have hle : p.natAbs / b.natAbs ≤ p.natAbs := Nat.div_le_self _ _
        unfold R64 at *
        by_cases hb1 : b.natAbs = 1
        · have : b = 1 ∨ b = -1 := by omega
          rcases this with rfl | rfl
          · simp; omega
          · simp [Int.tdiv_neg]; simp at hs; omega
        · have : p.natAbs / b.natAbs ≤ p.natAbs / 2 := Nat.div_le_div_left (by omega) (by omega)
          omega
      rw [this.wrap] at e; exact e
  have hd := Int.mul_tdiv_add_tmod p b
  rw [hq] at hd
  have ht : (Int.tmod p b).natAbs < b.natAbs := by
    rw [Int.natAbs_tmod]; exact Nat.mod_lt _ (by omega)
  have hc : b * a = a * b := Int.mul_comm _ _
  unfold R64 at *
  omega
/-- a step that may be -/
def okQ (q : Int) : Prop := 1 ≤ q ∧ q ≤ 68719476736
instance (q : Int) : Decidable (okQ q) := by unfold okQ; infer_instance
theorem mul_div_eq (t q : Int) : t / q * q = t - t % q := by
  have := Int.mul_ediv_add_emod t q; have e : t / q * q = q * (t / q) := Int.mul_comm _ _; omega
theorem ceil_mul_eq (t q : Int) (h : 1 ≤ q) : ceilD t q * q = if t % q = 0 then t else t + (q - t % q) := by
  have := Int.mul_ediv_add_emod t q; have e : t / q * q = q * (t / q) := Int.mul_comm _ _
  have h0 := Int.emod_nonneg t (show q ≠ 0 by omega)
  unfold ceilD
  by_cases hz : t % q = 0
  · rw [if_pos hz, if_neg (by omega), Int.add_zero]; omega
  · rw [if_neg hz, if_pos (by omega), Int.add_mul, Int.one_mul]; omega
/-- a number in range, or on which side it is out of it -/
def rng (x : Int) : Int × Int := if R64 x then (x, 0) else if 0 < x then (0, 1) else (0, -1)
theorem rng_ok {x : Int} (h : R64 x) : rng x = (x, 0) := if_pos h
theorem times_pp {a b : Int} (ha : R64 a) (hb : R64 b) (h1 : 0 < a) (h2 : 0 < b) : decide (a ≤ 9223372036854775807 / b) = decide (R64 (a * b)) := by
  have h3 : a ≤ 9223372036854775807 / b ↔ a * b ≤ 9223372036854775807 := Int.le_ediv_iff_mul_le h2
  have h4 : 0 < a * b := Int.mul_pos h1 h2
  unfold R64
  exact decide_eq_decide.2 ⟨fun h => by have := h3.1 h; omega, fun h => h3.2 (by omega)⟩
theorem times_nn {a b : Int} (ha : R64 a) (hb : R64 b) (h1 : a < 0) (h2 : b < 0) : decide (wrap64 (Int.tdiv 9223372036854775807 b) ≤ a) = decide (R64 (a * b)) := by
  have e : Int.tdiv 9223372036854775807 b = -(9223372036854775807 / (-b)) := by
    rw [← Int.tdiv_eq_ediv_of_nonneg (by omega), Int.tdiv_neg, Int.neg_neg]
  have h0 : 0 ≤ 9223372036854775807 / (-b) := Int.ediv_nonneg (by omega) (by omega)
  have h5 : 9223372036854775807 / (-b) ≤ 9223372036854775807 := Int.ediv_le_self _ (by omega)
  have h3 : -a ≤ 9223372036854775807 / (-b) ↔ (-a) * (-b) ≤ 9223372036854775807 := Int.le_ediv_iff_mul_le (by omega)
  rw [Int.neg_mul_neg] at h3
  have h4 : 0 < a * b := Int.mul_pos_of_neg_of_neg h1 h2
  rw [e, R64.wrap (by unfold R64; omega)]
  unfold R64
  exact decide_eq_decide.2 ⟨fun h => by have := h3.1 (by omega); omega, fun h => by have := h3.2 (by omega); omega⟩
theorem times_pn {a b : Int} (ha : R64 a) (hb : R64 b) (h1 : 0 < a) (h2 : b < 0) : decide (wrap64 (-Int.tdiv 9223372036854775808 a) ≤ b) = decide (R64 (a * b)) := by
  have e : Int.tdiv 9223372036854775808 a = 9223372036854775808 / a := Int.tdiv_eq_ediv_of_nonneg (by omega)
  have h0 : 0 ≤ 9223372036854775808 / a := Int.ediv_nonneg (by omega) (by omega)
  have h5 : 9223372036854775808 / a ≤ 9223372036854775808 := Int.ediv_le_self _ (by omega)
  have h3 : -b ≤ 9223372036854775808 / a ↔ (-b) * a ≤ 9223372036854775808 := Int.le_ediv_iff_mul_le h1
  rw [Int.neg_mul, Int.mul_comm b a] at h3
  have h4 : a * b < 0 := Int.mul_neg_of_pos_of_neg h1 h2
  rw [e, R64.wrap (by unfold R64; omega)]
  unfold R64
  exact decide_eq_decide.2 ⟨fun h => by have := h3.1 (by omega); omega, fun h => by have := h3.2 (by omega); omega⟩
theorem times_np {a b : Int} (ha : R64 a) (hb : R64 b) (h1 : a < 0) (h2 : 0 < b) : decide (wrap64 (-Int.tdiv 9223372036854775808 b) ≤ a) = decide (R64 (a * b)) := by
  rw [Int.mul_comm a b]; exact times_pn hb ha h2 h1
end Go.Proofs.YtcpbfckmngbgdaaDoor
