/-
  FuzzTells in plain numbers.
-/
import Derived.Test.YtpihgdehgkclmaaDoorK
import Derived.Test.YtpihgdehgkclmaaDoorMath
import Derived.Test.YtpihgdehgkclmaaDoorWideM
import Derived.Test.YtpihgdehgkclmaaDoorMFuzzTellsx
namespace Go.Proofs.YtpihgdehgkclmaaDoor.MFuzzTells
open Go.RowKit Go.Proofs.YtpihgdehgkclmaaDoorW.PrintWords Go.Proofs.YtpihgdehgkclmaaDoorW.PrintMore
set_option linter.unusedVariables false
set_option linter.unusedSimpArgs false

/-- the printed error is the error as a value -/
theorem errW_errV (o : Option Int) : errW o = errV o := by cases o <;> rfl
theorem pSub (a b : Int) (ha : R64 a) (hb : R64 b) : num_Sub.f a b = some (if R64 (a - b) then (a - b, none) else (0, some 2)) := by
  unfold num_Sub.f
  by_cases h : R64 (a - b)
  · rw [if_pos h, h.wrap, if_neg]
    unfold R64 at *
    by_cases h0 : b < 0 <;> simp [h0] <;> omega
  · rw [if_neg h, if_pos]
    unfold R64 at *
    by_cases h0 : b < 0
    · have : ¬ wrap64 (a - b) > a := by unfold wrap64; omega
      simp [h0]; omega
    · have : wrap64 (a - b) > a := by unfold wrap64; omega
      simp [h0]; omega
theorem prLess (k : Nat) (a b : Int) (ha : R64 a) (hb : R64 b) : fuseeref01_Less.f (k + 1) a b = some (rng (a - b)) := by
  unfold fuseeref01_Less.f rng
  have w1 : b < 0 → wrap64 (9223372036854775807 + b) = 9223372036854775807 + b := fun h => R64.wrap (by unfold R64 at *; omega)
  have w2 : 0 < b → wrap64 (-9223372036854775808 + b) = -9223372036854775808 + b := fun h => R64.wrap (by unfold R64 at *; omega)
  by_cases hr : R64 (a - b)
  · rw [if_pos hr]
    by_cases h0 : b < 0
    · rw [if_pos h0, w1 h0]
      simp only [fuseeref01_Less.j0]
      rw [if_neg (by unfold R64 at *; simp; omega), if_neg (by omega), hr.wrap]
    · rw [if_neg h0]
      simp only [fuseeref01_Less.j0]
      by_cases h1 : b > 0
      · rw [if_neg (by simp), if_pos h1, w2 h1, if_neg (by unfold R64 at *; omega), hr.wrap]
      · rw [if_neg (by simp), if_neg h1, hr.wrap]
  · rw [if_neg hr]
    by_cases h0 : b < 0
    · rw [if_pos h0, w1 h0, if_pos (by unfold R64 at *; omega)]
      simp only [fuseeref01_Less.j0]
      rw [if_pos (by unfold R64 at *; simp; omega)]
    · rw [if_neg h0, if_neg (by unfold R64 at *; omega)]
      simp only [fuseeref01_Less.j0]
      have h1 : b > 0 := by unfold R64 at *; omega
      rw [if_neg (by simp), if_pos h1, w2 h1, if_pos (by unfold R64 at *; omega)]
theorem pDiv (a b : Int) (ha : R64 a) (hb : R64 b) (h : 1 ≤ b) : num_Div.f a b = some (a / b, a % b, none) := by
  unfold num_Div.f
  have hr0 := Int.emod_nonneg a (show b ≠ 0 by omega)
  have hr1 := Int.emod_lt_of_pos a (show 0 < b by omega)
  have hq := div_bounds ha h
  have ht := (tdiv_range ha h).wrap
  rw [if_neg (by omega), if_neg (by omega), ht]
  rcases Int.lt_or_le a 0 with h0 | h0
  · have e1 := tdiv_neg h0 h
    have e2 := tmod_neg h0 h
    by_cases hz : a % b = 0
    · rw [if_pos hz] at e1 e2
      rw [if_neg (by omega), e1, e2]; simp
    · rw [if_neg hz] at e1 e2
      rw [if_pos (by omega), e1, e2, R64.wrap (by simpa using hq.1), R64.wrap (by unfold R64 at *; omega)]; simp
  · rw [Int.tmod_eq_emod_of_nonneg h0, tdiv_of_nonneg h0, if_neg (by omega)]
theorem pDivBad (a b : Int) (h : b < 1) : num_Div.f a b = some (0, 0, some 1) := by unfold num_Div.f; rw [if_pos h]
theorem prDiv (a b : Int) (ha : R64 a) (hb : R64 b) (h : 1 ≤ b) : fuseeref01_Div.f a b = some (a / b, a % b) := by
  unfold fuseeref01_Div.f
  have hr0 := Int.emod_nonneg a (show b ≠ 0 by omega)
  have hr1 := Int.emod_lt_of_pos a (show 0 < b by omega)
  have hq := div_bounds ha h
  have ht := (tdiv_range ha h).wrap
  have hd := Int.mul_ediv_add_emod a b
  have hcomm : a / b * b = b * (a / b) := Int.mul_comm _ _
  have hlast : wrap64 (a - wrap64 (a / b * b)) = a % b := by rw [hcomm]; unfold R64 at *; unfold wrap64; omega
  rw [if_neg (by omega), ht]
  rcases Int.lt_or_le a 0 with h0 | h0
  · have e1 := tdiv_neg h0 h
    rw [if_pos h0]
    by_cases hz : a % b = 0
    · rw [if_pos hz, Int.add_zero] at e1
      have e5 : wrap64 (a / b * b) = a := by rw [hcomm, show b * (a / b) = a by omega]; exact ha.wrap
      rw [e1, if_pos e5, hlast]
    · rw [if_neg hz] at e1
      have e5 : ¬ wrap64 ((a / b + 1) * b) = a := by
        have : (a / b + 1) * b = b * (a / b) + b := by rw [Int.add_mul, hcomm, Int.one_mul]
        rw [this]; unfold R64 at *; unfold wrap64; omega
      have e6 : a / b + 1 - 1 = a / b := by omega
      rw [e1, if_neg e5, e6, hq.1.wrap, hlast]
  · rw [if_neg (by omega), tdiv_of_nonneg h0, hlast]

theorem bounds_u8 {n : Int} (h : (Lit.int .u8 n).wf = true) : 0 ≤ n ∧ n ≤ 255 := by
  simp [Lit.wf, IntKind.min, IntKind.max, IntKind.signed, IntKind.bits] at h
  omega
/-- the lowest bytes of a number -/
def bytesN (v : Int) : Nat → List Int
  | 0 => []
  | n + 1 => v % 256 :: bytesN (v / 256) n
theorem bytesN_length : ∀ (n : Nat) (v : Int), (bytesN v n).length = n
  | 0, _ => rfl
  | n + 1, v => by simp [bytesN, bytesN_length n]
theorem bytesN_byte : ∀ (n : Nat) (v : Int), ∀ c ∈ bytesN v n, 0 ≤ c ∧ c < 256
  | 0, _ => fun c hc => by simp [bytesN] at hc
  | n + 1, v => fun c hc => by
    simp only [bytesN, List.mem_cons] at hc
    rcases hc with rfl | hc
    · omega
    · exact bytesN_byte n _ c hc
theorem fnum_at (v : Int) : ∀ (d k : Nat) (l : List Int) (i : Nat), i + d ≤ 8 → d < k → l.length + d ≤ 1000000 → fields_number.l0 k v l ((i + d : Nat) : Int) (i : Int) = some (l ++ bytesN (v / 256 ^ i) d) := by
  intro d
  induction d with
  | zero =>
    intro k l i hi hk hl
    obtain ⟨k, rfl⟩ : ∃ m, k = m + 1 := ⟨k - 1, by omega⟩
    simp only [fields_number.l0]
    rw [if_neg (by omega)]
    simp [bytesN]
  | succ d ih =>
    intro k l i hi hk hl
    obtain ⟨k, rfl⟩ : ∃ m, k = m + 1 := ⟨k - 1, by omega⟩
    have e := ih k (l ++ [v / 256 ^ i % 256]) (i + 1) (by omega) (by omega) (by simp; omega)
    rw [show i + 1 + d = i + (d + 1) by omega] at e
    have e1 : wrap64 (8 * (i : Int)) = ((8 * i : Nat) : Int) := by unfold wrap64; omega
    have e2 : shr .u64 v ((8 * i : Nat) : Int) = v / 256 ^ i := by
      unfold shr
      rw [show min (((8 * i : Nat) : Int)).toNat IntKind.u64.bits = 8 * i by rw [show IntKind.u64.bits = 64 from rfl]; omega]
      have hp : (2 : Int) ^ (8 * i) = 256 ^ i := by
        have hc : i = 0 ∨ i = 1 ∨ i = 2 ∨ i = 3 ∨ i = 4 ∨ i = 5 ∨ i = 6 ∨ i = 7 := by omega
        rcases hc with rfl | rfl | rfl | rfl | rfl | rfl | rfl | rfl <;> rfl
      rw [hp]
    have e3 : v / 256 ^ i / 256 = v / 256 ^ (i + 1) := by
      rw [Int.ediv_ediv_of_nonneg (by exact Int.pow_nonneg (by omega))]
      rfl
    simp only [fields_number.l0]
    rw [if_pos (by omega), e1, if_pos (by omega), if_pos (by omega), e2, show wrap64 ((i : Int) + 1) = ((i + 1 : Nat) : Int) by unfold wrap64; omega, e, List.append_assoc]
    simp only [bytesN, e3, List.cons_append, List.nil_append]
theorem put_at (n : Int) : ∀ (d k : Nat) (v : Int) (l : List Int) (i : Int), 0 ≤ v → v < 18446744073709551616 → n = i + d → 0 ≤ i → i + d ≤ 1000 → d < k → l.length + d ≤ 1000000 → fuseeref05_Put.l0 k v n l i = some (l ++ bytesN v d) := by
  intro d
  induction d with
  | zero =>
    intro k v l i h0 h1 hi hi0 hi1 hk hl
    obtain ⟨k, rfl⟩ : ∃ m, k = m + 1 := ⟨k - 1, by omega⟩
    simp only [fuseeref05_Put.l0]
    rw [if_neg (by omega)]
    simp [bytesN]
  | succ d ih =>
    intro k v l i h0 h1 hi hi0 hi1 hk hl
    obtain ⟨k, rfl⟩ : ∃ m, k = m + 1 := ⟨k - 1, by omega⟩
    have e1 : IntKind.u64.wrap (Int.tdiv v 256) = v / 256 := by rw [Int.tdiv_eq_ediv_of_nonneg h0, IntKind.wrap_u64]; omega
    have e2 : Int.tmod v 256 % 256 = v % 256 := by rw [Int.tmod_eq_emod_of_nonneg h0]; omega
    have e := ih k (v / 256) (l ++ [v % 256]) (i + 1) (by omega) (by omega) (by omega) (by omega) (by omega) (by omega) (by simp; omega)
    simp only [fuseeref05_Put.l0]
    rw [if_pos (by omega), if_pos (by omega), e1, e2, show wrap64 (i + 1) = i + 1 by unfold wrap64; omega, e, List.append_assoc]
    rfl
theorem put_eq (k : Nat) (d : Nat) (hk : d < k) (hd : d ≤ 8) (l : List Int) (v : Int) (h0 : 0 ≤ v) (h1 : v < 18446744073709551616) (hl : l.length ≤ 100000) : fuseeref05_Put.f k l v (d : Int) = some (l ++ bytesN v d) := by
  unfold fuseeref05_Put.f
  rw [if_pos (by simp; omega), List.nil_append, put_at (d : Int) d k v l 0 h0 h1 (by omega) (by omega) (by omega) hk (by omega)]
theorem i64_app (k : Nat) (hk : 8 < k) (l : List Int) (a : Int) (hl : l.length ≤ 100000) : fields_I64.f k l a = some (l ++ bytesN (IntKind.u64.wrap a) 8) := by
  unfold fields_I64.f fields_number.f slices_Clone_byte_byte.f
  simp only [Option.bind_some, List.nil_append, List.length_nil, Nat.zero_add]
  rw [if_pos (by omega)]
  simp only [Option.bind_some]
  have := fnum_at (IntKind.u64.wrap a) 8 k l 0 (by omega) (by omega) (by omega)
  rw [show ((0 + 8 : Nat) : Int) = 8 from rfl, show ((0 : Nat) : Int) = 0 from rfl, show (256 : Int) ^ 0 = 1 from rfl, Int.ediv_one] at this
  rw [this]; rfl
theorem u64_range (a : Int) : 0 ≤ IntKind.u64.wrap a ∧ IntKind.u64.wrap a < 18446744073709551616 := by rw [IntKind.wrap_u64]; omega
theorem endS_range (s : _root_.Go.Proofs.YtpihgdehgkclmaaDoor.MPf.St4) : 0 ≤ _root_.Go.Proofs.YtpihgdehgkclmaaDoor.MPf.endS s ∧ _root_.Go.Proofs.YtpihgdehgkclmaaDoor.MPf.endS s ≤ 18446744073709551615 := by
  unfold _root_.Go.Proofs.YtpihgdehgkclmaaDoor.MPf.endS
  exact bounds_u64 (wf_bits .xor .u64 _ _)
theorem sumV_range (kl kh l : List Int) : 0 ≤ _root_.Go.Proofs.YtpihgdehgkclmaaDoor.MPf.sumV kl kh l ∧ _root_.Go.Proofs.YtpihgdehgkclmaaDoor.MPf.sumV kl kh l ≤ 18446744073709551615 := endS_range _
theorem sum_eq (a0 a1 a2 a3 a4 a5 a6 a7 a8 a9 a10 a11 a12 a13 a14 a15 : Int) (l : List Int) (hl : l.length ≤ 1000) : prf_Sum.f a0 a1 a2 a3 a4 a5 a6 a7 a8 a9 a10 a11 a12 a13 a14 a15 l = some (_root_.Go.Proofs.YtpihgdehgkclmaaDoor.MPf.sumV [a0, a1, a2, a3, a4, a5, a6, a7] [a8, a9, a10, a11, a12, a13, a14, a15] l) := by
  unfold prf_Sum.f _root_.Go.Proofs.YtpihgdehgkclmaaDoor.MPf.prf_Sum.f
  rw [if_pos (by omega)]
theorem key_byte (a0 a1 a2 a3 a4 a5 a6 a7 a8 a9 a10 a11 a12 a13 a14 a15 : Int) (g0 : (Lit.int .u8 a0).wf = true) (g1 : (Lit.int .u8 a1).wf = true) (g2 : (Lit.int .u8 a2).wf = true) (g3 : (Lit.int .u8 a3).wf = true) (g4 : (Lit.int .u8 a4).wf = true) (g5 : (Lit.int .u8 a5).wf = true) (g6 : (Lit.int .u8 a6).wf = true) (g7 : (Lit.int .u8 a7).wf = true) (g8 : (Lit.int .u8 a8).wf = true) (g9 : (Lit.int .u8 a9).wf = true) (g10 : (Lit.int .u8 a10).wf = true) (g11 : (Lit.int .u8 a11).wf = true) (g12 : (Lit.int .u8 a12).wf = true) (g13 : (Lit.int .u8 a13).wf = true) (g14 : (Lit.int .u8 a14).wf = true) (g15 : (Lit.int .u8 a15).wf = true) : (∀ c ∈ [a0, a1, a2, a3, a4, a5, a6, a7], 0 ≤ c ∧ c < 256) ∧ (∀ c ∈ [a8, a9, a10, a11, a12, a13, a14, a15], 0 ≤ c ∧ c < 256) := by
  have f0 := bounds_u8 g0
  have f1 := bounds_u8 g1
  have f2 := bounds_u8 g2
  have f3 := bounds_u8 g3
  have f4 := bounds_u8 g4
  have f5 := bounds_u8 g5
  have f6 := bounds_u8 g6
  have f7 := bounds_u8 g7
  have f8 := bounds_u8 g8
  have f9 := bounds_u8 g9
  have f10 := bounds_u8 g10
  have f11 := bounds_u8 g11
  have f12 := bounds_u8 g12
  have f13 := bounds_u8 g13
  have f14 := bounds_u8 g14
  have f15 := bounds_u8 g15
  constructor
  · intro c hc
    simp only [List.mem_cons, List.not_mem_nil, or_false] at hc
    rcases hc with rfl | rfl | rfl | rfl | rfl | rfl | rfl | rfl <;> omega
  · intro c hc
    simp only [List.mem_cons, List.not_mem_nil, or_false] at hc
    rcases hc with rfl | rfl | rfl | rfl | rfl | rfl | rfl | rfl <;> omega
/-- the reference's sum, of bytes with a key of bytes -/
def KeyB (a0 a1 a2 a3 a4 a5 a6 a7 a8 a9 a10 a11 a12 a13 a14 a15 : Int) : Prop := (∀ c ∈ [a0, a1, a2, a3, a4, a5, a6, a7], 0 ≤ c ∧ c < 256) ∧ (∀ c ∈ [a8, a9, a10, a11, a12, a13, a14, a15], 0 ≤ c ∧ c < 256)
theorem refsum_eq (a0 a1 a2 a3 a4 a5 a6 a7 a8 a9 a10 a11 a12 a13 a14 a15 : Int) (hk : KeyB a0 a1 a2 a3 a4 a5 a6 a7 a8 a9 a10 a11 a12 a13 a14 a15) (l : List Int) (hb : ∀ c ∈ l, 0 ≤ c ∧ c < 256) (hl : l.length ≤ 1000) : fuseeref23_Sum.f a0 a1 a2 a3 a4 a5 a6 a7 a8 a9 a10 a11 a12 a13 a14 a15 l = some (_root_.Go.Proofs.YtpihgdehgkclmaaDoor.MPf.sumV [a0, a1, a2, a3, a4, a5, a6, a7] [a8, a9, a10, a11, a12, a13, a14, a15] l) := by
  unfold fuseeref23_Sum.f _root_.Go.Proofs.YtpihgdehgkclmaaDoor.MPf.fuseeref23_Sum.f
  rw [if_pos (by omega), _root_.Go.Proofs.YtpihgdehgkclmaaDoor.MPf.refSum_eq _ _ _ rfl rfl hk.1 hk.2 hb]
/-- the number of a place -/
def numV (kl kh : List Int) (place lim : Int) : Int :=
  if lim = 18446744073709551615 then _root_.Go.Proofs.YtpihgdehgkclmaaDoor.MPf.sumV kl kh (bytesN (IntKind.u64.wrap place) 8) else _root_.Go.Proofs.YtpihgdehgkclmaaDoor.MPf.sumV kl kh (bytesN (IntKind.u64.wrap place) 8) % (lim + 1)
theorem number_eq (k : Nat) (hk : 8 < k) (a0 a1 a2 a3 a4 a5 a6 a7 a8 a9 a10 a11 a12 a13 a14 a15 place lim : Int) (h0 : 0 ≤ lim) (h1 : lim ≤ 18446744073709551615) : prf_Number.f k a0 a1 a2 a3 a4 a5 a6 a7 a8 a9 a10 a11 a12 a13 a14 a15 place lim = some (numV [a0, a1, a2, a3, a4, a5, a6, a7] [a8, a9, a10, a11, a12, a13, a14, a15] place lim) := by
  unfold prf_Number.f
  rw [i64_app k hk [] place (by simp), List.nil_append]
  simp only [Option.bind_some]
  rw [sum_eq _ _ _ _ _ _ _ _ _ _ _ _ _ _ _ _ _ (by rw [bytesN_length]; omega)]
  simp only [Option.bind_some]
  have hr := sumV_range [a0, a1, a2, a3, a4, a5, a6, a7] [a8, a9, a10, a11, a12, a13, a14, a15] (bytesN (IntKind.u64.wrap place) 8)
  unfold numV
  by_cases h : lim = 18446744073709551615
  · rw [if_pos h, h, if_pos (by decide +kernel)]
  · have e2 : IntKind.u64.wrap (lim + 1) = lim + 1 := by rw [IntKind.wrap_u64]; omega
    rw [if_neg h, e2, if_neg (by omega), Int.tmod_eq_emod_of_nonneg hr.1]
theorem refnumber_eq (k : Nat) (hk : 8 < k) (a0 a1 a2 a3 a4 a5 a6 a7 a8 a9 a10 a11 a12 a13 a14 a15 place lim : Int) (hb : KeyB a0 a1 a2 a3 a4 a5 a6 a7 a8 a9 a10 a11 a12 a13 a14 a15) (h0 : 0 ≤ lim) (h1 : lim ≤ 18446744073709551615) : fuseeref23_Number.f k a0 a1 a2 a3 a4 a5 a6 a7 a8 a9 a10 a11 a12 a13 a14 a15 place lim = some (numV [a0, a1, a2, a3, a4, a5, a6, a7] [a8, a9, a10, a11, a12, a13, a14, a15] place lim) := by
  unfold fuseeref23_Number.f
  rw [show (8 : Int) = ((8 : Nat) : Int) from rfl, put_eq k 8 (by omega) (by omega) [] _ (u64_range place).1 (u64_range place).2 (by simp), List.nil_append]
  simp only [Option.bind_some]
  rw [refsum_eq _ _ _ _ _ _ _ _ _ _ _ _ _ _ _ _ hb _ (bytesN_byte _ _) (by rw [bytesN_length]; omega)]
  simp only [Option.bind_some]
  have hr := sumV_range [a0, a1, a2, a3, a4, a5, a6, a7] [a8, a9, a10, a11, a12, a13, a14, a15] (bytesN (IntKind.u64.wrap place) 8)
  unfold numV
  by_cases h : lim = 18446744073709551615
  · rw [if_pos h, if_pos h]
  · have e2 : IntKind.u64.wrap (lim + 1) = lim + 1 := by rw [IntKind.wrap_u64]; omega
    rw [if_neg h, if_neg h, e2, if_neg (by omega), Int.tmod_eq_emod_of_nonneg hr.1]

theorem check_eq (w c : Int) : fuzz_Check.f w c = some (if 0 ≤ w ∧ w ≤ 1099511627776 ∧ 1 ≤ c ∧ c ≤ 1125899906842624 then none else some 1) := by
  unfold fuzz_Check.f
  by_cases h : 0 ≤ w ∧ w ≤ 1099511627776 ∧ 1 ≤ c ∧ c ≤ 1125899906842624
  · rw [if_pos h, if_neg (by omega), if_neg (by omega), if_neg (by omega), if_neg (by omega)]
  · rw [if_neg h]; repeat' split
    all_goals first | rfl | (exfalso; omega)
theorem may_eq (w c : Int) : fuseeref25_May.f w c = some (decide (0 ≤ w ∧ w ≤ 1099511627776 ∧ 1 ≤ c ∧ c ≤ 1125899906842624)) := by
  unfold fuseeref25_May.f
  by_cases h : 0 ≤ w ∧ w ≤ 1099511627776 ∧ 1 ≤ c ∧ c ≤ 1125899906842624
  · rw [decide_eq_true h, if_pos (by omega), if_pos (by omega), if_pos (by omega), decide_eq_true (by omega)]
  · rw [decide_eq_false h]; repeat' split
    all_goals first | rfl | (exfalso; omega) | (rw [decide_eq_false (by omega)])
theorem sure_at (k : Nat) (hk : 20 ≤ k) : fuseelaw25_sure.f k = some true :=
  at_rounds (g := fuseelaw25_sure.f) (fun k => fuseelaw25_sure.mono k) hk (by decide +kernel)
theorem numV_le (kl kh : List Int) (place lim : Int) (h0 : 0 ≤ lim) (h1 : lim < 18446744073709551615) : 0 ≤ numV kl kh place lim ∧ numV kl kh place lim ≤ lim := by
  unfold numV
  rw [if_neg (by omega)]
  have hr := sumV_range kl kh (bytesN (IntKind.u64.wrap place) 8)
  generalize _root_.Go.Proofs.YtpihgdehgkclmaaDoor.MPf.sumV kl kh (bytesN (IntKind.u64.wrap place) 8) = x at *
  have := Int.emod_lt_of_pos x (show 0 < lim + 1 by omega)
  have := Int.emod_nonneg x (show lim + 1 ≠ 0 by omega)
  omega
theorem done (w c a0 a1 a2 a3 a4 a5 a6 a7 a8 a9 a10 a11 a12 a13 a14 a15 t : Int) (hw' : (Lit.int .i64 w).wf = true) (hc' : (Lit.int .i64 c).wf = true) (g0 : (Lit.int .u8 a0).wf = true) (g1 : (Lit.int .u8 a1).wf = true) (g2 : (Lit.int .u8 a2).wf = true) (g3 : (Lit.int .u8 a3).wf = true) (g4 : (Lit.int .u8 a4).wf = true) (g5 : (Lit.int .u8 a5).wf = true) (g6 : (Lit.int .u8 a6).wf = true) (g7 : (Lit.int .u8 a7).wf = true) (g8 : (Lit.int .u8 a8).wf = true) (g9 : (Lit.int .u8 a9).wf = true) (g10 : (Lit.int .u8 a10).wf = true) (g11 : (Lit.int .u8 a11).wf = true) (g12 : (Lit.int .u8 a12).wf = true) (g13 : (Lit.int .u8 a13).wf = true) (g14 : (Lit.int .u8 a14).wf = true) (g15 : (Lit.int .u8 a15).wf = true) (ht' : (Lit.int .i64 t).wf = true) : ∃ k, fuseelaw25_FuzzTells.f k w c a0 a1 a2 a3 a4 a5 a6 a7 a8 a9 a10 a11 a12 a13 a14 a15 t = some true := by
  have hw := R64.of_wf hw'
  have hc := R64.of_wf hc'
  have ht := R64.of_wf ht'
  have hk : KeyB a0 a1 a2 a3 a4 a5 a6 a7 a8 a9 a10 a11 a12 a13 a14 a15 := key_byte a0 a1 a2 a3 a4 a5 a6 a7 a8 a9 a10 a11 a12 a13 a14 a15 g0 g1 g2 g3 g4 g5 g6 g7 g8 g9 g10 g11 g12 g13 g14 g15
  refine ⟨40, ?_⟩
  unfold fuseelaw25_FuzzTells.f
  by_cases hf : 0 ≤ w ∧ w ≤ 1099511627776 ∧ 1 ≤ c ∧ c ≤ 1125899906842624
  · have hwr : IntKind.u64.wrap w = w := by rw [IntKind.wrap_u64]; omega
    have hn := numV_le [a0, a1, a2, a3, a4, a5, a6, a7] [a8, a9, a10, a11, a12, a13, a14, a15] (t / c) w hf.1 (by omega)
    have n1 := number_eq 40 (by omega) a0 a1 a2 a3 a4 a5 a6 a7 a8 a9 a10 a11 a12 a13 a14 a15 (t / c) w hf.1 (by omega)
    have n2 := refnumber_eq 40 (by omega) a0 a1 a2 a3 a4 a5 a6 a7 a8 a9 a10 a11 a12 a13 a14 a15 (t / c) w hk hf.1 (by omega)
    generalize numV [a0, a1, a2, a3, a4, a5, a6, a7] [a8, a9, a10, a11, a12, a13, a14, a15] (t / c) w = n at n1 n2 hn
    have hnr : R64 n := by unfold R64; omega
    have b1 : fuzz_By.f 40 w c a0 a1 a2 a3 a4 a5 a6 a7 a8 a9 a10 a11 a12 a13 a14 a15 t = some (n, none) := by
      unfold fuzz_By.f
      rw [check_eq, if_pos hf]
      simp only [Option.bind_some, Option.isNone_none, if_true]
      rw [pDiv t c ht hc hf.2.2.1]
      simp only [Option.bind_some, Option.isNone_none, if_true]
      rw [hwr, n1, Option.bind_some, R64.wrap hnr]
    have b2 : fuseeref25_By.f 40 w c a0 a1 a2 a3 a4 a5 a6 a7 a8 a9 a10 a11 a12 a13 a14 a15 t = some (n, 0) := by
      unfold fuseeref25_By.f
      rw [may_eq, decide_eq_true hf]
      simp only [Option.bind_some, if_true]
      rw [prDiv t c ht hc hf.2.2.1]
      simp only [Option.bind_some]
      rw [hwr, n2, Option.bind_some, R64.wrap hnr]
    have e1 : fuzz_At.f 40 w c a0 a1 a2 a3 a4 a5 a6 a7 a8 a9 a10 a11 a12 a13 a14 a15 t = some (if R64 (t - n) then (t - n, none) else (0, some 2)) := by
      unfold fuzz_At.f
      rw [b1]
      simp only [Option.bind_some, Option.isNone_none, if_true]
      rw [pSub t n ht hnr]
      rfl
    have e2 : fuseeref25_At.f 40 w c a0 a1 a2 a3 a4 a5 a6 a7 a8 a9 a10 a11 a12 a13 a14 a15 t = some (if R64 (t - n) then (t - n, 0) else (0, 2)) := by
      unfold fuseeref25_At.f
      rw [b2]
      simp only [Option.bind_some, if_true]
      rw [prLess 39 t n ht hnr]
      simp only [Option.bind_some]
      by_cases h : R64 (t - n)
      · rw [if_pos h, rng_ok h]; simp
      · unfold rng
        rw [if_neg h, if_neg h]
        split <;> simp
    rw [b1, b2, e1, e2]
    simp only [Option.bind_some, if_true, fuseelaw25_num.f]
    rw [check_eq, may_eq, if_pos hf, decide_eq_true hf, sure_at 40 (by omega)]
    by_cases h : R64 (t - n)
    · rw [if_pos h, if_pos h]; simp [numE]
    · rw [if_neg h, if_neg h]; simp [numE]
  · have b1 : fuzz_By.f 40 w c a0 a1 a2 a3 a4 a5 a6 a7 a8 a9 a10 a11 a12 a13 a14 a15 t = some (0, some 1) := by
      unfold fuzz_By.f
      rw [check_eq, if_neg hf]
      rfl
    have b2 : fuseeref25_By.f 40 w c a0 a1 a2 a3 a4 a5 a6 a7 a8 a9 a10 a11 a12 a13 a14 a15 t = some (0, 1) := by
      unfold fuseeref25_By.f
      rw [may_eq, decide_eq_false hf]
      rfl
    have e1 : fuzz_At.f 40 w c a0 a1 a2 a3 a4 a5 a6 a7 a8 a9 a10 a11 a12 a13 a14 a15 t = some (0, some 1) := by
      unfold fuzz_At.f
      rw [b1]; rfl
    have e2 : fuseeref25_At.f 40 w c a0 a1 a2 a3 a4 a5 a6 a7 a8 a9 a10 a11 a12 a13 a14 a15 t = some (0, 1) := by
      unfold fuseeref25_At.f
      rw [b2]; rfl
    rw [b1, b2, e1, e2]
    simp only [Option.bind_some, if_true, fuseelaw25_num.f]
    rw [check_eq, may_eq, if_neg hf, decide_eq_false hf, sure_at 40 (by omega)]
    simp [numE]
end Go.Proofs.YtpihgdehgkclmaaDoor.MFuzzTells
