/-
  The middle of two numbers, by bits: half of what both have together, and of what one of them has alone.
-/
import Derived.Test.YtcpbfckmngbgdaaDoorMath
import Derived.Laws.Bits64b
namespace Go.Proofs.YtcpbfckmngbgdaaDoor
open Go.RowKit
set_option linter.unusedVariables false

theorem add_bits : ∀ (n a b : Nat), a < 2 ^ n → b < 2 ^ n → a + b = 2 * (a &&& b) + (a ^^^ b)
  | 0, a, b, ha, hb => by
    have : a = 0 := by simpa using ha
    have : b = 0 := by simpa using hb
    subst a b; rfl
  | n + 1, a, b, ha, hb => by
    have ih := add_bits n (a / 2) (b / 2) (by rw [Nat.pow_succ] at ha; omega) (by rw [Nat.pow_succ] at hb; omega)
    have d1 : (a &&& b) / 2 = a / 2 &&& b / 2 := by
      have := Nat.shiftRight_and_distrib (a := a) (b := b) (i := 1); simpa [Nat.shiftRight_eq_div_pow] using this
    have d2 : (a ^^^ b) / 2 = a / 2 ^^^ b / 2 := by
      have := Nat.shiftRight_xor_distrib (a := a) (b := b) (i := 1); simpa [Nat.shiftRight_eq_div_pow] using this
    have m1 : (a &&& b) % 2 = a % 2 &&& b % 2 := by have := Nat.and_mod_two_pow (a := a) (b := b) (n := 1); simpa using this
    have m2 : (a ^^^ b) % 2 = a % 2 ^^^ b % 2 := by have := Nat.xor_mod_two_pow (a := a) (b := b) (n := 1); simpa using this
    have s1 := Nat.div_add_mod (a &&& b) 2
    have s2 := Nat.div_add_mod (a ^^^ b) 2
    rw [d1, m1] at s1
    rw [d2, m2] at s2
    have c : (a % 2 = 0 ∨ a % 2 = 1) ∧ (b % 2 = 0 ∨ b % 2 = 1) := by omega
    obtain ⟨h1 | h1, h2 | h2⟩ := c <;> rw [h1, h2] at s1 s2 <;> simp at s1 s2 <;> omega
theorem ofInt64 (a : Int) : (BitVec.ofInt 64 a).toNat = (a % 18446744073709551616).toNat := by rw [BitVec.toNat_ofInt]; rfl
theorem wrap_low (P : Nat) (h : P < 9223372036854775808) : IntKind.i64.wrap (P : Int) = P := by
  rw [IntKind.wrap_i64]; omega
theorem wrap_high (P : Nat) (h : 9223372036854775808 ≤ P) (h2 : P < 18446744073709551616) : IntKind.i64.wrap (P : Int) = P - 18446744073709551616 := by
  rw [IntKind.wrap_i64]; omega
theorem wrap_any (P d q : Nat) (hd : P / 9223372036854775808 = d) (h : d = 0 ∨ d = 1) (hq : P < 18446744073709551616) : IntKind.i64.wrap (P : Int) = P - d * 18446744073709551616 ∧ d * 9223372036854775808 ≤ P ∧ P < d * 9223372036854775808 + 9223372036854775808 := by
  rcases h with h | h
  · subst h; rw [wrap_low P (by omega)]; omega
  · subst h; rw [wrap_high P (by omega) hq]; omega
theorem top_and (A B : Nat) : (A &&& B) / 9223372036854775808 = A / 9223372036854775808 &&& B / 9223372036854775808 := by
  have := Nat.shiftRight_and_distrib (a := A) (b := B) (i := 63)
  rwa [Nat.shiftRight_eq_div_pow, Nat.shiftRight_eq_div_pow, Nat.shiftRight_eq_div_pow] at this
theorem top_xor (A B : Nat) : (A ^^^ B) / 9223372036854775808 = A / 9223372036854775808 ^^^ B / 9223372036854775808 := by
  have := Nat.shiftRight_xor_distrib (a := A) (b := B) (i := 63)
  rwa [Nat.shiftRight_eq_div_pow, Nat.shiftRight_eq_div_pow, Nat.shiftRight_eq_div_pow] at this
theorem num_of (a : Int) (h : R64 a) (A : Nat) (e : A = (a % 18446744073709551616).toNat) : ∃ d : Nat, A / 9223372036854775808 = d ∧ (d = 0 ∨ d = 1) ∧ A < 18446744073709551616 ∧ a = A - d * 18446744073709551616 := by
  unfold R64 at h
  by_cases h0 : a < 0
  · exact ⟨1, by omega⟩
  · exact ⟨0, by omega⟩
theorem fin (a b A B P X w1 w2 : Int) (da db dp dx : Int) (h1 : a = A - da * 18446744073709551616) (h2 : b = B - db * 18446744073709551616)
    (h3 : w1 = P - dp * 18446744073709551616) (h4 : w2 = X - dx * 18446744073709551616) (hs : A + B = 2 * P + X) (hd : da + db = 2 * dp + dx) : w1 + w2 / 2 = (a + b) / 2 := by omega
theorem mid_bits {a b : Int} (ha : R64 a) (hb : R64 b) : Go.bits .and .i64 a b + Go.bits .xor .i64 a b / 2 = (a + b) / 2 ∧ R64 (Go.bits .and .i64 a b) := by
  have e1 : Go.bits .and .i64 a b = IntKind.i64.wrap (((a % 18446744073709551616).toNat &&& (b % 18446744073709551616).toNat : Nat) : Int) := by
    show IntKind.i64.wrap ((BitVec.ofInt 64 a &&& BitVec.ofInt 64 b).toNat : Int) = _
    rw [BitVec.toNat_and, ofInt64, ofInt64]
  have e2 : Go.bits .xor .i64 a b = IntKind.i64.wrap (((a % 18446744073709551616).toNat ^^^ (b % 18446744073709551616).toNat : Nat) : Int) := by
    show IntKind.i64.wrap ((BitVec.ofInt 64 a ^^^ BitVec.ofInt 64 b).toNat : Int) = _
    rw [BitVec.toNat_xor, ofInt64, ofInt64]
  rw [e1, e2]
  obtain ⟨A, eA⟩ : ∃ A, A = (a % 18446744073709551616).toNat := ⟨_, rfl⟩
  obtain ⟨B, eB⟩ : ∃ B, B = (b % 18446744073709551616).toNat := ⟨_, rfl⟩
  rw [← eA, ← eB]
  obtain ⟨da, a1, a2, a3, a4⟩ := num_of a ha A eA
  obtain ⟨db, b1, b2, b3, b4⟩ := num_of b hb B eB
  have hs := add_bits 64 A B a3 b3
  have p1 := top_and A B
  have p2 := top_xor A B
  have q1 : A &&& B < 18446744073709551616 := Nat.and_lt_two_pow (n := 64) _ b3
  have q2 : A ^^^ B < 18446744073709551616 := Nat.xor_lt_two_pow (n := 64) a3 b3
  rw [a1, b1] at p1 p2
  have c1 : da &&& db = 0 ∨ da &&& db = 1 := by rcases a2 with h | h <;> rcases b2 with g | g <;> subst h <;> subst g <;> simp
  have c2 : da ^^^ db = 0 ∨ da ^^^ db = 1 := by rcases a2 with h | h <;> rcases b2 with g | g <;> subst h <;> subst g <;> simp
  have c3 : da + db = 2 * (da &&& db) + (da ^^^ db) := by rcases a2 with h | h <;> rcases b2 with g | g <;> subst h <;> subst g <;> simp
  obtain ⟨w1, w2, w3⟩ := wrap_any (A &&& B) _ 0 p1 c1 q1
  obtain ⟨x1, x2, x3⟩ := wrap_any (A ^^^ B) _ 0 p2 c2 q2
  refine ⟨fin a b A B (A &&& B : Nat) (A ^^^ B : Nat) _ _ da db (da &&& db : Nat) (da ^^^ db : Nat) a4 b4 w1 x1 (by exact_mod_cast hs) (by exact_mod_cast c3), ?_⟩
  unfold R64
  rw [w1]
  rcases c1 with h | h <;> rw [h] at w2 w3 ⊢ <;> omega
end Go.Proofs.YtcpbfckmngbgdaaDoor
