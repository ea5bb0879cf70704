/-
  Numbers of 64 bits without a sign: what wraps, what bits tell, and one digit of a long division.
-/
import Derived.Test.YtcpbfckmngbgdaaDoorMath
import Derived.Laws.Bits64b
import Derived.Lib.Mul64
import Derived.Test.YtcpbfckmngbgdaaDoorWMore
namespace Go.Proofs.YtcpbfckmngbgdaaDoor
open Go.RowKit
set_option linter.unusedVariables false
set_option linter.unusedSimpArgs false

def U64 (a : Int) : Prop := 0 ≤ a ∧ a < 18446744073709551616
theorem U64.wrap {a : Int} (h : U64 a) : IntKind.u64.wrap a = a := by unfold U64 at h; rw [IntKind.wrap_u64]; omega
theorem U64.of_wf {a : Int} (h : (Lit.int .u64 a).wf = true) : U64 a := by have := bounds_u64 h; unfold U64; omega
theorem and_low {a : Int} (h : U64 a) : Go.bits .and .u64 a 4294967295 = a % 4294967296 := by
  obtain ⟨n, rfl⟩ := Int.eq_ofNat_of_zero_le h.1
  unfold U64 at h
  have e := bits_and_u64_nat n 4294967295 (by omega) (by omega)
  have e2 : n &&& 4294967295 = n % 4294967296 := Nat.and_two_pow_sub_one_eq_mod n 32
  rw [e2] at e
  exact e.trans (by omega)
theorem or_low {a b : Int} {m : Nat} (ha : 0 ≤ a) (hb : 0 ≤ b) (h : a * 2 ^ m < 18446744073709551616) (hb' : b < 2 ^ m) (hm : m ≤ 64) : Go.bits .or .u64 (a * 2 ^ m) b = a * 2 ^ m + b := by
  obtain ⟨a, rfl⟩ := Int.eq_ofNat_of_zero_le ha
  obtain ⟨b, rfl⟩ := Int.eq_ofNat_of_zero_le hb
  have e1 : ((a : Int) * 2 ^ m) = ((a * 2 ^ m : Nat) : Int) := by push_cast; rfl
  have hb2 : b < 2 ^ m := by exact_mod_cast hb'
  rw [e1] at h ⊢
  have hp : (2 : Nat) ^ m ≤ 2 ^ 64 := Nat.pow_le_pow_right (by omega) hm
  rw [bits_or_u64_nat _ _ (by omega) (by omega), Nat.mul_comm a, ← Nat.two_pow_add_eq_or_of_lt hb2]
  push_cast; rfl
theorem not_i64 {a : Int} (h : R64 a) : Go.bits .xor .i64 (-1) a = -1 - a := by
  have h0 : BitVec.ofInt 64 (-1) = BitVec.allOnes 64 := by decide
  show IntKind.i64.wrap ((BitVec.ofInt 64 (-1) ^^^ BitVec.ofInt 64 a).toNat : Int) = _
  rw [h0, BitVec.allOnes_xor, BitVec.toNat_not, BitVec.toNat_ofInt]
  unfold R64 at h
  rw [IntKind.wrap_i64]
  omega
theorem not_u64 {a : Int} (h : U64 a) : Go.bits .xor .u64 18446744073709551615 a = 18446744073709551615 - a := by
  have h0 : BitVec.ofInt 64 18446744073709551615 = BitVec.allOnes 64 := by decide
  show IntKind.u64.wrap ((BitVec.ofInt 64 18446744073709551615 ^^^ BitVec.ofInt 64 a).toNat : Int) = _
  rw [h0, BitVec.allOnes_xor, BitVec.toNat_not, BitVec.toNat_ofInt, IntKind.wrap_u64]
  unfold U64 at h
  omega
/-- one digit of a long division: is the guess too great? -/
theorem dig_test {y1 y0 u u1 q r : Int} (h0 : 0 ≤ y0) (h1 : 0 < y1) (hr : r = u - q * y1) : (u * 4294967296 + u1) / (y1 * 4294967296 + y0) < q ↔ q * y0 > 4294967296 * r + u1 := by
  rw [Int.ediv_lt_iff_lt_mul (by omega)]
  have e : q * (y1 * 4294967296 + y0) = (q * y1) * 4294967296 + q * y0 := by rw [Int.mul_add, Int.mul_assoc]
  rw [e]
  subst hr
  generalize q * y1 = m
  generalize q * y0 = n
  omega
theorem dig_big {y1 y0 u u1 q : Int} (h0 : 0 ≤ y0) (h1 : 0 < y1) (huy : u < y1 * 4294967296 + y0) (hu1 : u1 < 4294967296) (hq : 4294967296 ≤ q) : (u * 4294967296 + u1) / (y1 * 4294967296 + y0) < q := by
  rw [Int.ediv_lt_iff_lt_mul (by omega)]
  have e := Int.mul_le_mul_of_nonneg_right hq (show 0 ≤ y1 * 4294967296 + y0 by omega)
  omega
theorem dig_end {y1 y0 u u1 q r : Int} (h0 : 0 ≤ y0) (h0' : y0 < 4294967296) (h1 : 0 < y1) (huy : u < y1 * 4294967296 + y0) (hu1 : 0 ≤ u1) (hq : 0 ≤ q) (hr : r = u - q * y1) (hB : 4294967296 ≤ r) : q ≤ (u * 4294967296 + u1) / (y1 * 4294967296 + y0) := by
  rw [Int.le_ediv_iff_mul_le (by omega)]
  have e : q * (y1 * 4294967296 + y0) = (q * y1) * 4294967296 + q * y0 := by rw [Int.mul_add, Int.mul_assoc]
  have hq' : q < 4294967296 := by
    refine Int.lt_of_mul_lt_mul_right (a := y1) ?_ (by omega)
    omega
  have e2 := Int.mul_le_mul_of_nonneg_right (show q ≤ 4294967296 by omega) h0
  rw [e]
  generalize q * y1 = m at *
  generalize q * y0 = n at *
  omega
/-- both digits: the whole -/
theorem div_join {N y P u u1 u0 q1 q0 r1 r0 : Int} (hP : 0 < P) (hy : 0 < y) (hN : N * P = (u * 4294967296 + u1) * 4294967296 + u0) (h1 : u * 4294967296 + u1 = q1 * (y * P) + r1) (h0 : r1 * 4294967296 + u0 = q0 * (y * P) + r0) (hr0 : 0 ≤ r0) (hr : r0 < y * P) :
    q1 * 4294967296 + q0 = N / y ∧ r0 / P = N % y := by
  have e : N * P = (q1 * 4294967296 + q0) * y * P + r0 := by
    rw [hN, h1, Int.add_mul, Int.add_assoc, h0]
    have : q1 * (y * P) * 4294967296 = q1 * 4294967296 * y * P := by ac_rfl
    rw [this, Int.add_mul, Int.add_mul, Int.mul_assoc q0]
    omega
  have e2 : r0 = (N - (q1 * 4294967296 + q0) * y) * P := by rw [Int.sub_mul]; omega
  generalize q1 * 4294967296 + q0 = q at *
  have p0 : 0 ≤ N - q * y := by
    rcases Int.lt_or_le (N - q * y) 0 with h | h
    · have := Int.mul_neg_of_neg_of_pos h hP; omega
    · exact h
  have p1 : N - q * y < y := by
    refine Int.lt_of_mul_lt_mul_right (a := P) ?_ (by omega)
    omega
  have e3 : r0 / P = N - q * y := by rw [e2]; exact Int.mul_ediv_cancel _ (by omega)
  have e4 := (Int.ediv_emod_unique (a := N) (r := N - q * y) (q := q) hy).2 ⟨by rw [Int.mul_comm y q]; omega, p0, p1⟩
  exact ⟨e4.1.symm, by rw [e3, e4.2]⟩
theorem wrap3 {a b c : Int} (h : U64 (a + b - c)) : IntKind.u64.wrap (IntKind.u64.wrap (IntKind.u64.wrap a + b) - IntKind.u64.wrap c) = a + b - c := by
  unfold U64 at h
  simp only [IntKind.wrap_u64]
  omega
theorem wrap2 {a b : Int} (h : U64 (a + b)) : IntKind.u64.wrap (IntKind.u64.wrap a + b) = a + b := by
  unfold U64 at h
  simp only [IntKind.wrap_u64]
  omega
/-- how many bits a byte needs, by a table -/
def tab8 : ByteArray := ⟨#[0, 1, 2, 2, 3, 3, 3, 3, 4, 4, 4, 4, 4, 4, 4, 4, 5, 5, 5, 5, 5, 5, 5, 5, 5, 5, 5, 5, 5, 5, 5, 5, 6, 6, 6, 6, 6, 6, 6, 6, 6, 6, 6, 6, 6, 6, 6, 6, 6, 6, 6, 6, 6, 6, 6, 6, 6, 6, 6, 6, 6, 6, 6, 6, 7, 7, 7, 7, 7, 7, 7, 7, 7, 7, 7, 7, 7, 7, 7, 7, 7, 7, 7, 7, 7, 7, 7, 7, 7, 7, 7, 7, 7, 7, 7, 7, 7, 7, 7, 7, 7, 7, 7, 7, 7, 7, 7, 7, 7, 7, 7, 7, 7, 7, 7, 7, 7, 7, 7, 7, 7, 7, 7, 7, 7, 7, 7, 7, 8, 8, 8, 8, 8, 8, 8, 8, 8, 8, 8, 8, 8, 8, 8, 8, 8, 8, 8, 8, 8, 8, 8, 8, 8, 8, 8, 8, 8, 8, 8, 8, 8, 8, 8, 8, 8, 8, 8, 8, 8, 8, 8, 8, 8, 8, 8, 8, 8, 8, 8, 8, 8, 8, 8, 8, 8, 8, 8, 8, 8, 8, 8, 8, 8, 8, 8, 8, 8, 8, 8, 8, 8, 8, 8, 8, 8, 8, 8, 8, 8, 8, 8, 8, 8, 8, 8, 8, 8, 8, 8, 8, 8, 8, 8, 8, 8, 8, 8, 8, 8, 8, 8, 8, 8, 8, 8, 8, 8, 8, 8, 8, 8, 8, 8, 8, 8, 8, 8, 8, 8, 8, 8, 8, 8, 8, 8, 8]⟩
theorem tab8_tells (i : Int) (h0 : 0 ≤ i) (h : i < 256) : ∃ t : Nat, Go.Proofs.YtcpbfckmngbgdaaDoorW.PrintWords.bt tab8 i = t ∧ t ≤ 8 ∧ i < 2 ^ t ∧ (0 < i → 2 ^ t ≤ 2 * i) := by
  have key : ∀ n : Fin 256, ((tab8.data.toList.getD n.val 0).toNat ≤ 8 ∧ n.val < 2 ^ (tab8.data.toList.getD n.val 0).toNat ∧ (0 < n.val → 2 ^ (tab8.data.toList.getD n.val 0).toNat ≤ 2 * n.val)) := by decide +kernel
  obtain ⟨n, rfl⟩ := Int.eq_ofNat_of_zero_le h0
  have hn : n < 256 := by omega
  have hs : tab8.size = 256 := by decide +kernel
  obtain ⟨k1, k2, k3⟩ : (tab8.data.toList.getD n 0).toNat ≤ 8 ∧ n < 2 ^ (tab8.data.toList.getD n 0).toNat ∧ (0 < n → 2 ^ (tab8.data.toList.getD n 0).toNat ≤ 2 * n) := key ⟨n, hn⟩
  refine ⟨(tab8.data.toList.getD n 0).toNat, ?_, k1, by exact_mod_cast k2, fun h => by exact_mod_cast k3 (by omega)⟩
  unfold Go.Proofs.YtcpbfckmngbgdaaDoorW.PrintWords.bt
  rw [dif_pos (by rw [hs]; simpa using hn)]
  have : n < tab8.data.toList.length := by have : tab8.data.toList.length = 256 := by decide +kernel
                                           omega
  simp only [List.getD_eq_getElem?_getD, List.getElem?_eq_getElem this, Option.getD_some]
  rfl
end Go.Proofs.YtcpbfckmngbgdaaDoor
