/-
  PrfSums in plain numbers.
-/
import Derived.Test.YtiljnlhmeolhfaaK
import Derived.Test.YtiljnlhmeolhfaaMath
import Derived.Test.YtiljnlhmeolhfaaWideM
import Derived.Test.YtiljnlhmeolhfaaMPrfSumsx
namespace Go.Proofs.Ytiljnlhmeolhfaa.MPrfSums
open Go.RowKit Go.Proofs.YtiljnlhmeolhfaaW.PrintWords Go.Proofs.YtiljnlhmeolhfaaW.PrintMore
set_option linter.unusedVariables false
set_option linter.unusedSimpArgs false

theorem bounds_u8 {n : Int} (h : (Lit.int .u8 n).wf = true) : 0 ≤ n ∧ n ≤ 255 := by
  simp [Lit.wf, IntKind.min, IntKind.max, IntKind.signed, IntKind.bits] at h
  omega
/-- the lowest bytes of a number -/
def bytesN (v : Int) : Nat → List Int
  | 0 => []
  | n + 1 => v % 256 :: bytesN (v / 256) n
theorem bytesN_length : ∀ (n : Nat) (v : Int), (bytesN v n).length = n
  | 0, _ => rfl
  | n + 1, v => by simp [bytesN, bytesN_length n]
theorem bytesN_byte : ∀ (n : Nat) (v : Int), ∀ c ∈ bytesN v n, 0 ≤ c ∧ c < 256
  | 0, _ => fun c hc => by simp [bytesN] at hc
  | n + 1, v => fun c hc => by
    simp only [bytesN, List.mem_cons] at hc
    rcases hc with rfl | hc
    · omega
    · exact bytesN_byte n _ c hc
theorem fnum_at (v : Int) : ∀ (d k : Nat) (l : List Int) (i : Nat), i + d ≤ 8 → d < k → l.length + d ≤ 1000000 → fields_number.l0 k v l ((i + d : Nat) : Int) (i : Int) = some (l ++ bytesN (v / 256 ^ i) d) := by
  intro d
  induction d with
  | zero =>
    intro k l i hi hk hl
    obtain ⟨k, rfl⟩ : ∃ m, k = m + 1 := ⟨k - 1, by omega⟩
    simp only [fields_number.l0]
    rw [if_neg (by omega)]
    simp [bytesN]
  | succ d ih =>
    intro k l i hi hk hl
    obtain ⟨k, rfl⟩ : ∃ m, k = m + 1 := ⟨k - 1, by omega⟩
    have e := ih k (l ++ [v / 256 ^ i % 256]) (i + 1) (by omega) (by omega) (by simp; omega)
    rw [show i + 1 + d = i + (d + 1) by omega] at e
    have e1 : wrap64 (8 * (i : Int)) = ((8 * i : Nat) : Int) := by unfold wrap64; omega
    have e2 : shr .u64 v ((8 * i : Nat) : Int) = v / 256 ^ i := by
      unfold shr
      rw [show min (((8 * i : Nat) : Int)).toNat IntKind.u64.bits = 8 * i by rw [show IntKind.u64.bits = 64 from rfl]; omega]
      have hp : (2 : Int) ^ (8 * i) = 256 ^ i := by
        have hc : i = 0 ∨ i = 1 ∨ i = 2 ∨ i = 3 ∨ i = 4 ∨ i = 5 ∨ i = 6 ∨ i = 7 := by omega
        rcases hc with rfl | rfl | rfl | rfl | rfl | rfl | rfl | rfl <;> rfl
      rw [hp]
    have e3 : v / 256 ^ i / 256 = v / 256 ^ (i + 1) := by
      rw [Int.ediv_ediv_of_nonneg (by exact Int.pow_nonneg (by omega))]
      rfl
    simp only [fields_number.l0]
    rw [if_pos (by omega), e1, if_pos (by omega), if_pos (by omega), e2, show wrap64 ((i : Int) + 1) = ((i + 1 : Nat) : Int) by unfold wrap64; omega, e, List.append_assoc]
    simp only [bytesN, e3, List.cons_append, List.nil_append]
theorem put_at (n : Int) : ∀ (d k : Nat) (v : Int) (l : List Int) (i : Int), 0 ≤ v → v < 18446744073709551616 → n = i + d → 0 ≤ i → i + d ≤ 1000 → d < k → l.length + d ≤ 1000000 → fuseeref05_Put.l0 k v n l i = some (l ++ bytesN v d) := by
  intro d
  induction d with
  | zero =>
    intro k v l i h0 h1 hi hi0 hi1 hk hl
    obtain ⟨k, rfl⟩ : ∃ m, k = m + 1 := ⟨k - 1, by omega⟩
    simp only [fuseeref05_Put.l0]
    rw [if_neg (by omega)]
    simp [bytesN]
  | succ d ih =>
    intro k v l i h0 h1 hi hi0 hi1 hk hl
    obtain ⟨k, rfl⟩ : ∃ m, k = m + 1 := ⟨k - 1, by omega⟩
    have e1 : IntKind.u64.wrap (Int.tdiv v 256) = v / 256 := by rw [Int.tdiv_eq_ediv_of_nonneg h0, IntKind.wrap_u64]; omega
    have e2 : Int.tmod v 256 % 256 = v % 256 := by rw [Int.tmod_eq_emod_of_nonneg h0]; omega
    have e := ih k (v / 256) (l ++ [v % 256]) (i + 1) (by omega) (by omega) (by omega) (by omega) (by omega) (by omega) (by simp; omega)
    simp only [fuseeref05_Put.l0]
    rw [if_pos (by omega), if_pos (by omega), e1, e2, show wrap64 (i + 1) = i + 1 by unfold wrap64; omega, e, List.append_assoc]
    rfl
theorem put_eq (k : Nat) (d : Nat) (hk : d < k) (hd : d ≤ 8) (l : List Int) (v : Int) (h0 : 0 ≤ v) (h1 : v < 18446744073709551616) (hl : l.length ≤ 100000) : fuseeref05_Put.f k l v (d : Int) = some (l ++ bytesN v d) := by
  unfold fuseeref05_Put.f
  rw [if_pos (by simp; omega), List.nil_append, put_at (d : Int) d k v l 0 h0 h1 (by omega) (by omega) (by omega) hk (by omega)]
theorem i64_app (k : Nat) (hk : 8 < k) (l : List Int) (a : Int) (hl : l.length ≤ 100000) : fields_I64.f k l a = some (l ++ bytesN (IntKind.u64.wrap a) 8) := by
  unfold fields_I64.f fields_number.f slices_Clone_byte_byte.f
  simp only [Option.bind_some, List.nil_append, List.length_nil, Nat.zero_add]
  rw [if_pos (by omega)]
  simp only [Option.bind_some]
  have := fnum_at (IntKind.u64.wrap a) 8 k l 0 (by omega) (by omega) (by omega)
  rw [show ((0 + 8 : Nat) : Int) = 8 from rfl, show ((0 : Nat) : Int) = 0 from rfl, show (256 : Int) ^ 0 = 1 from rfl, Int.ediv_one] at this
  rw [this]; rfl
theorem u64_range (a : Int) : 0 ≤ IntKind.u64.wrap a ∧ IntKind.u64.wrap a < 18446744073709551616 := by rw [IntKind.wrap_u64]; omega
theorem endS_range (s : _root_.Go.Proofs.Ytiljnlhmeolhfaa.MPf.St4) : 0 ≤ _root_.Go.Proofs.Ytiljnlhmeolhfaa.MPf.endS s ∧ _root_.Go.Proofs.Ytiljnlhmeolhfaa.MPf.endS s ≤ 18446744073709551615 := by
  unfold _root_.Go.Proofs.Ytiljnlhmeolhfaa.MPf.endS
  exact bounds_u64 (wf_bits .xor .u64 _ _)
theorem sumV_range (kl kh l : List Int) : 0 ≤ _root_.Go.Proofs.Ytiljnlhmeolhfaa.MPf.sumV kl kh l ∧ _root_.Go.Proofs.Ytiljnlhmeolhfaa.MPf.sumV kl kh l ≤ 18446744073709551615 := endS_range _
theorem sum_eq (a0 a1 a2 a3 a4 a5 a6 a7 a8 a9 a10 a11 a12 a13 a14 a15 : Int) (l : List Int) (hl : l.length ≤ 1000) : prf_Sum.f a0 a1 a2 a3 a4 a5 a6 a7 a8 a9 a10 a11 a12 a13 a14 a15 l = some (_root_.Go.Proofs.Ytiljnlhmeolhfaa.MPf.sumV [a0, a1, a2, a3, a4, a5, a6, a7] [a8, a9, a10, a11, a12, a13, a14, a15] l) := by
  unfold prf_Sum.f _root_.Go.Proofs.Ytiljnlhmeolhfaa.MPf.prf_Sum.f
  rw [if_pos (by omega)]
theorem key_byte (a0 a1 a2 a3 a4 a5 a6 a7 a8 a9 a10 a11 a12 a13 a14 a15 : Int) (g0 : (Lit.int .u8 a0).wf = true) (g1 : (Lit.int .u8 a1).wf = true) (g2 : (Lit.int .u8 a2).wf = true) (g3 : (Lit.int .u8 a3).wf = true) (g4 : (Lit.int .u8 a4).wf = true) (g5 : (Lit.int .u8 a5).wf = true) (g6 : (Lit.int .u8 a6).wf = true) (g7 : (Lit.int .u8 a7).wf = true) (g8 : (Lit.int .u8 a8).wf = true) (g9 : (Lit.int .u8 a9).wf = true) (g10 : (Lit.int .u8 a10).wf = true) (g11 : (Lit.int .u8 a11).wf = true) (g12 : (Lit.int .u8 a12).wf = true) (g13 : (Lit.int .u8 a13).wf = true) (g14 : (Lit.int .u8 a14).wf = true) (g15 : (Lit.int .u8 a15).wf = true) : (∀ c ∈ [a0, a1, a2, a3, a4, a5, a6, a7], 0 ≤ c ∧ c < 256) ∧ (∀ c ∈ [a8, a9, a10, a11, a12, a13, a14, a15], 0 ≤ c ∧ c < 256) := by
  have f0 := bounds_u8 g0
  have f1 := bounds_u8 g1
  have f2 := bounds_u8 g2
  have f3 := bounds_u8 g3
  have f4 := bounds_u8 g4
  have f5 := bounds_u8 g5
  have f6 := bounds_u8 g6
  have f7 := bounds_u8 g7
  have f8 := bounds_u8 g8
  have f9 := bounds_u8 g9
  have f10 := bounds_u8 g10
  have f11 := bounds_u8 g11
  have f12 := bounds_u8 g12
  have f13 := bounds_u8 g13
  have f14 := bounds_u8 g14
  have f15 := bounds_u8 g15
  constructor
  · intro c hc
    simp only [List.mem_cons, List.not_mem_nil, or_false] at hc
    rcases hc with rfl | rfl | rfl | rfl | rfl | rfl | rfl | rfl <;> omega
  · intro c hc
    simp only [List.mem_cons, List.not_mem_nil, or_false] at hc
    rcases hc with rfl | rfl | rfl | rfl | rfl | rfl | rfl | rfl <;> omega
/-- the reference's sum, of bytes with a key of bytes -/
def KeyB (a0 a1 a2 a3 a4 a5 a6 a7 a8 a9 a10 a11 a12 a13 a14 a15 : Int) : Prop := (∀ c ∈ [a0, a1, a2, a3, a4, a5, a6, a7], 0 ≤ c ∧ c < 256) ∧ (∀ c ∈ [a8, a9, a10, a11, a12, a13, a14, a15], 0 ≤ c ∧ c < 256)
theorem refsum_eq (a0 a1 a2 a3 a4 a5 a6 a7 a8 a9 a10 a11 a12 a13 a14 a15 : Int) (hk : KeyB a0 a1 a2 a3 a4 a5 a6 a7 a8 a9 a10 a11 a12 a13 a14 a15) (l : List Int) (hb : ∀ c ∈ l, 0 ≤ c ∧ c < 256) (hl : l.length ≤ 1000) : fuseeref23_Sum.f a0 a1 a2 a3 a4 a5 a6 a7 a8 a9 a10 a11 a12 a13 a14 a15 l = some (_root_.Go.Proofs.Ytiljnlhmeolhfaa.MPf.sumV [a0, a1, a2, a3, a4, a5, a6, a7] [a8, a9, a10, a11, a12, a13, a14, a15] l) := by
  unfold fuseeref23_Sum.f _root_.Go.Proofs.Ytiljnlhmeolhfaa.MPf.fuseeref23_Sum.f
  rw [if_pos (by omega), _root_.Go.Proofs.Ytiljnlhmeolhfaa.MPf.refSum_eq _ _ _ rfl rfl hk.1 hk.2 hb]
/-- the number of a place -/
def numV (kl kh : List Int) (place lim : Int) : Int :=
  if lim = 18446744073709551615 then _root_.Go.Proofs.Ytiljnlhmeolhfaa.MPf.sumV kl kh (bytesN (IntKind.u64.wrap place) 8) else _root_.Go.Proofs.Ytiljnlhmeolhfaa.MPf.sumV kl kh (bytesN (IntKind.u64.wrap place) 8) % (lim + 1)
theorem number_eq (k : Nat) (hk : 8 < k) (a0 a1 a2 a3 a4 a5 a6 a7 a8 a9 a10 a11 a12 a13 a14 a15 place lim : Int) (h0 : 0 ≤ lim) (h1 : lim ≤ 18446744073709551615) : prf_Number.f k a0 a1 a2 a3 a4 a5 a6 a7 a8 a9 a10 a11 a12 a13 a14 a15 place lim = some (numV [a0, a1, a2, a3, a4, a5, a6, a7] [a8, a9, a10, a11, a12, a13, a14, a15] place lim) := by
  unfold prf_Number.f
  rw [i64_app k hk [] place (by simp), List.nil_append]
  simp only [Option.bind_some]
  rw [sum_eq _ _ _ _ _ _ _ _ _ _ _ _ _ _ _ _ _ (by rw [bytesN_length]; omega)]
  simp only [Option.bind_some]
  have hr := sumV_range [a0, a1, a2, a3, a4, a5, a6, a7] [a8, a9, a10, a11, a12, a13, a14, a15] (bytesN (IntKind.u64.wrap place) 8)
  unfold numV
  by_cases h : lim = 18446744073709551615
  · rw [if_pos h, h, if_pos (by decide +kernel)]
  · have e2 : IntKind.u64.wrap (lim + 1) = lim + 1 := by rw [IntKind.wrap_u64]; omega
    rw [if_neg h, e2, if_neg (by omega), Int.tmod_eq_emod_of_nonneg hr.1]
theorem refnumber_eq (k : Nat) (hk : 8 < k) (a0 a1 a2 a3 a4 a5 a6 a7 a8 a9 a10 a11 a12 a13 a14 a15 place lim : Int) (hb : KeyB a0 a1 a2 a3 a4 a5 a6 a7 a8 a9 a10 a11 a12 a13 a14 a15) (h0 : 0 ≤ lim) (h1 : lim ≤ 18446744073709551615) : fuseeref23_Number.f k a0 a1 a2 a3 a4 a5 a6 a7 a8 a9 a10 a11 a12 a13 a14 a15 place lim = some (numV [a0, a1, a2, a3, a4, a5, a6, a7] [a8, a9, a10, a11, a12, a13, a14, a15] place lim) := by
  unfold fuseeref23_Number.f
  rw [show (8 : Int) = ((8 : Nat) : Int) from rfl, put_eq k 8 (by omega) (by omega) [] _ (u64_range place).1 (u64_range place).2 (by simp), List.nil_append]
  simp only [Option.bind_some]
  rw [refsum_eq _ _ _ _ _ _ _ _ _ _ _ _ _ _ _ _ hb _ (bytesN_byte _ _) (by rw [bytesN_length]; omega)]
  simp only [Option.bind_some]
  have hr := sumV_range [a0, a1, a2, a3, a4, a5, a6, a7] [a8, a9, a10, a11, a12, a13, a14, a15] (bytesN (IntKind.u64.wrap place) 8)
  unfold numV
  by_cases h : lim = 18446744073709551615
  · rw [if_pos h, if_pos h]
  · have e2 : IntKind.u64.wrap (lim + 1) = lim + 1 := by rw [IntKind.wrap_u64]; omega
    rw [if_neg h, if_neg h, e2, if_neg (by omega), Int.tmod_eq_emod_of_nonneg hr.1]

theorem derive_eq (k : Nat) (hk : 8 < k) (a0 a1 a2 a3 a4 a5 a6 a7 a8 a9 a10 a11 a12 a13 a14 a15 u : Int) (hb : KeyB a0 a1 a2 a3 a4 a5 a6 a7 a8 a9 a10 a11 a12 a13 a14 a15) (h0 : 0 ≤ u) (h1 : u < 256) : ∃ T, prf_Derive.f k a0 a1 a2 a3 a4 a5 a6 a7 a8 a9 a10 a11 a12 a13 a14 a15 u = some T ∧ fuseeref23_Derive.f k a0 a1 a2 a3 a4 a5 a6 a7 a8 a9 a10 a11 a12 a13 a14 a15 u = some T := by
  have r1 := sumV_range [a0, a1, a2, a3, a4, a5, a6, a7] [a8, a9, a10, a11, a12, a13, a14, a15] [u, 0]
  have r2 := sumV_range [a0, a1, a2, a3, a4, a5, a6, a7] [a8, a9, a10, a11, a12, a13, a14, a15] [u, 1]
  have w1 : IntKind.u64.wrap (wrap64 (_root_.Go.Proofs.Ytiljnlhmeolhfaa.MPf.sumV [a0, a1, a2, a3, a4, a5, a6, a7] [a8, a9, a10, a11, a12, a13, a14, a15] [u, 0])) = _root_.Go.Proofs.Ytiljnlhmeolhfaa.MPf.sumV [a0, a1, a2, a3, a4, a5, a6, a7] [a8, a9, a10, a11, a12, a13, a14, a15] [u, 0] := by generalize _root_.Go.Proofs.Ytiljnlhmeolhfaa.MPf.sumV [a0, a1, a2, a3, a4, a5, a6, a7] [a8, a9, a10, a11, a12, a13, a14, a15] [u, 0] = x at *; rw [IntKind.wrap_u64]; unfold wrap64; omega
  have w2 : IntKind.u64.wrap (wrap64 (_root_.Go.Proofs.Ytiljnlhmeolhfaa.MPf.sumV [a0, a1, a2, a3, a4, a5, a6, a7] [a8, a9, a10, a11, a12, a13, a14, a15] [u, 1])) = _root_.Go.Proofs.Ytiljnlhmeolhfaa.MPf.sumV [a0, a1, a2, a3, a4, a5, a6, a7] [a8, a9, a10, a11, a12, a13, a14, a15] [u, 1] := by generalize _root_.Go.Proofs.Ytiljnlhmeolhfaa.MPf.sumV [a0, a1, a2, a3, a4, a5, a6, a7] [a8, a9, a10, a11, a12, a13, a14, a15] [u, 1] = x at *; rw [IntKind.wrap_u64]; unfold wrap64; omega
  have b1 : ∀ c ∈ [u, 0], 0 ≤ c ∧ c < 256 := by intro c hc; simp at hc; omega
  have b2 : ∀ c ∈ [u, 1], 0 ≤ c ∧ c < 256 := by intro c hc; simp at hc; omega
  obtain ⟨t, ht⟩ : ∃ t, t = bytesN (_root_.Go.Proofs.Ytiljnlhmeolhfaa.MPf.sumV [a0, a1, a2, a3, a4, a5, a6, a7] [a8, a9, a10, a11, a12, a13, a14, a15] [u, 0]) 8 ++ bytesN (_root_.Go.Proofs.Ytiljnlhmeolhfaa.MPf.sumV [a0, a1, a2, a3, a4, a5, a6, a7] [a8, a9, a10, a11, a12, a13, a14, a15] [u, 1]) 8 := ⟨_, rfl⟩
  have hlen : (t.length : Int) = 16 := by rw [ht, List.length_append, bytesN_length, bytesN_length]; rfl
  have s1 := sum_eq a0 a1 a2 a3 a4 a5 a6 a7 a8 a9 a10 a11 a12 a13 a14 a15 [u, 0] (by simp)
  have s2 := sum_eq a0 a1 a2 a3 a4 a5 a6 a7 a8 a9 a10 a11 a12 a13 a14 a15 [u, 1] (by simp)
  have q1 := refsum_eq a0 a1 a2 a3 a4 a5 a6 a7 a8 a9 a10 a11 a12 a13 a14 a15 hb [u, 0] b1 (by simp)
  have q2 := refsum_eq a0 a1 a2 a3 a4 a5 a6 a7 a8 a9 a10 a11 a12 a13 a14 a15 hb [u, 1] b2 (by simp)
  have p1 := put_eq k 8 (by omega) (by omega) [] _ r1.1 (by have := r1.2; omega) (by simp)
  have p2 := put_eq k 8 (by omega) (by omega) (bytesN (_root_.Go.Proofs.Ytiljnlhmeolhfaa.MPf.sumV [a0, a1, a2, a3, a4, a5, a6, a7] [a8, a9, a10, a11, a12, a13, a14, a15] [u, 0]) 8) _ r2.1 (by have := r2.2; omega) (by rw [bytesN_length]; omega)
  have i1 := i64_app k hk [] (wrap64 (_root_.Go.Proofs.Ytiljnlhmeolhfaa.MPf.sumV [a0, a1, a2, a3, a4, a5, a6, a7] [a8, a9, a10, a11, a12, a13, a14, a15] [u, 0])) (by simp)
  have i2 := i64_app k hk (bytesN (_root_.Go.Proofs.Ytiljnlhmeolhfaa.MPf.sumV [a0, a1, a2, a3, a4, a5, a6, a7] [a8, a9, a10, a11, a12, a13, a14, a15] [u, 0]) 8) (wrap64 (_root_.Go.Proofs.Ytiljnlhmeolhfaa.MPf.sumV [a0, a1, a2, a3, a4, a5, a6, a7] [a8, a9, a10, a11, a12, a13, a14, a15] [u, 1])) (by rw [bytesN_length]; omega)
  rw [w1, List.nil_append] at i1
  rw [w2, ← ht] at i2
  rw [List.nil_append] at p1
  rw [← ht] at p2
  generalize _root_.Go.Proofs.Ytiljnlhmeolhfaa.MPf.sumV [a0, a1, a2, a3, a4, a5, a6, a7] [a8, a9, a10, a11, a12, a13, a14, a15] [u, 0] = x at *
  generalize _root_.Go.Proofs.Ytiljnlhmeolhfaa.MPf.sumV [a0, a1, a2, a3, a4, a5, a6, a7] [a8, a9, a10, a11, a12, a13, a14, a15] [u, 1] = y at *
  clear w1 w2 ht r1 r2 b1 b2
  change fuseeref05_Put.f k [] x 8 = _ at p1
  change fuseeref05_Put.f k _ y 8 = _ at p2
  refine ⟨(rd t 0, rd t 1, rd t 2, rd t 3, rd t 4, rd t 5, rd t 6, rd t 7, rd t 8, rd t 9, rd t 10, rd t 11, rd t 12, rd t 13, rd t 14, rd t 15), ?_, ?_⟩
  · unfold prf_Derive.f
    rw [s1, Option.bind_some, i1, Option.bind_some, s2, Option.bind_some, i2, Option.bind_some, if_pos (by omega)]
  · unfold fuseeref23_Derive.f
    rw [q1, Option.bind_some, p1, Option.bind_some, q2, Option.bind_some, p2, Option.bind_some, hlen]
    repeat rw [if_pos (by decide)]
theorem sure_at (k : Nat) (hk : 30 ≤ k) : fuseelaw23_sure.f k = some true :=
  at_rounds (g := fuseelaw23_sure.f) (fun k => fuseelaw23_sure.mono k) hk (by decide +kernel)
theorem done (a0 a1 a2 a3 a4 a5 a6 a7 a8 a9 a10 a11 a12 a13 a14 a15 : Int) (l : List Int) (lim : Int) (g0 : (Lit.int .u8 a0).wf = true) (g1 : (Lit.int .u8 a1).wf = true) (g2 : (Lit.int .u8 a2).wf = true) (g3 : (Lit.int .u8 a3).wf = true) (g4 : (Lit.int .u8 a4).wf = true) (g5 : (Lit.int .u8 a5).wf = true) (g6 : (Lit.int .u8 a6).wf = true) (g7 : (Lit.int .u8 a7).wf = true) (g8 : (Lit.int .u8 a8).wf = true) (g9 : (Lit.int .u8 a9).wf = true) (g10 : (Lit.int .u8 a10).wf = true) (g11 : (Lit.int .u8 a11).wf = true) (g12 : (Lit.int .u8 a12).wf = true) (g13 : (Lit.int .u8 a13).wf = true) (g14 : (Lit.int .u8 a14).wf = true) (g15 : (Lit.int .u8 a15).wf = true) (hm : l.length ≤ maxLen) (wl : ∀ x ∈ l, (Lit.int .u8 x).wf = true) (wlim : (Lit.int .u64 lim).wf = true) : ∃ k, fuseelaw23_PrfSums.f k a0 a1 a2 a3 a4 a5 a6 a7 a8 a9 a10 a11 a12 a13 a14 a15 l lim = some true := by
  have hb := bounds_u64 wlim
  have hk : KeyB a0 a1 a2 a3 a4 a5 a6 a7 a8 a9 a10 a11 a12 a13 a14 a15 := key_byte a0 a1 a2 a3 a4 a5 a6 a7 a8 a9 a10 a11 a12 a13 a14 a15 g0 g1 g2 g3 g4 g5 g6 g7 g8 g9 g10 g11 g12 g13 g14 g15
  refine ⟨40, ?_⟩
  unfold fuseelaw23_PrfSums.f
  by_cases h : (l.length : Int) > 300
  · rw [if_pos h, sure_at 40 (by omega)]; rfl
  · rw [if_neg h]
    have hbl : ∀ c ∈ l, 0 ≤ c ∧ c < 256 := fun c hc => by have := bounds_u8 (wl c hc); omega
    obtain ⟨T, hT1, hT2⟩ := derive_eq 40 (by omega) a0 a1 a2 a3 a4 a5 a6 a7 a8 a9 a10 a11 a12 a13 a14 a15 (lim % 256) hk (by omega) (by omega)
    have s1 := sum_eq a0 a1 a2 a3 a4 a5 a6 a7 a8 a9 a10 a11 a12 a13 a14 a15 l (by omega)
    have q1 := refsum_eq a0 a1 a2 a3 a4 a5 a6 a7 a8 a9 a10 a11 a12 a13 a14 a15 hk l hbl (by omega)
    have n1 := number_eq 40 (by omega) a0 a1 a2 a3 a4 a5 a6 a7 a8 a9 a10 a11 a12 a13 a14 a15 (wrap64 ((l.length : Int) - 20)) lim hb.1 hb.2
    have n2 := refnumber_eq 40 (by omega) a0 a1 a2 a3 a4 a5 a6 a7 a8 a9 a10 a11 a12 a13 a14 a15 (wrap64 ((l.length : Int) - 20)) lim hk hb.1 hb.2
    generalize _root_.Go.Proofs.Ytiljnlhmeolhfaa.MPf.sumV [a0, a1, a2, a3, a4, a5, a6, a7] [a8, a9, a10, a11, a12, a13, a14, a15] l = x at s1 q1
    generalize numV [a0, a1, a2, a3, a4, a5, a6, a7] [a8, a9, a10, a11, a12, a13, a14, a15] (wrap64 ((l.length : Int) - 20)) lim = y at n1 n2
    rw [s1, Option.bind_some, q1, Option.bind_some, if_pos rfl, n1, Option.bind_some, n2, Option.bind_some, if_pos rfl, hT1, Option.bind_some, hT2, Option.bind_some, sure_at 40 (by omega)]
    clear s1 q1 n1 n2 hT1 hT2
    simp only [beq_self_eq_true, Bool.and_self, if_true, Option.bind_some]
end Go.Proofs.Ytiljnlhmeolhfaa.MPrfSums
