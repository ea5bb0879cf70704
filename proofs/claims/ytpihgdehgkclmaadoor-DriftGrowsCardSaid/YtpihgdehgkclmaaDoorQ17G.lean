/-
  DriftGrows in plain numbers.
-/
import Derived.Test.YtpihgdehgkclmaaDoorK
import Derived.Test.YtpihgdehgkclmaaDoorMath
import Derived.Test.YtpihgdehgkclmaaDoorWideM
import Derived.Test.YtpihgdehgkclmaaDoorQ17V
namespace Go.Proofs.YtpihgdehgkclmaaDoor.MDriftGrows
open Go.RowKit Go.Proofs.YtpihgdehgkclmaaDoorW.PrintWords Go.Proofs.YtpihgdehgkclmaaDoorW.PrintMore
set_option linter.unusedVariables false
set_option linter.unusedSimpArgs false

/-- a quotient rounded up -/
def cd (x c : Int) : Int := -((-x) / c)
theorem drift_wrong_eq (e r n : Int) : drift_wrong.f e r n = some (decide (e < 0 ∨ r < 0 ∨ 2097152 < r ∨ n < 0)) := by
  unfold drift_wrong.f
  repeat' split
  all_goals first
    | rw [decide_eq_true (by omega)]
    | (congr 1; rw [decide_eq_decide]; omega)
theorem grow_eq (k : Nat) (e r n : Int) (he : R64 e) (hr : R64 r) (hn : R64 n) : drift_Grow.f (k + 18) e r n = some (if e < 0 ∨ r < 0 ∨ 2097152 < r ∨ n < 0 then (0, some 1) else (sat (e + cd (n * r) 1073741824), none)) := by
  unfold drift_Grow.f
  rw [drift_wrong_eq]
  simp only [Option.bind_some]
  by_cases h : e < 0 ∨ r < 0 ∨ 2097152 < r ∨ n < 0
  · rw [if_pos h, decide_eq_true h, if_pos rfl]
  · rw [if_neg h, decide_eq_false h, if_neg (by simp)]
    unfold R64 at he hr hn
    have hp : 0 ≤ n * r := Int.mul_nonneg (by omega) (by omega)
    have hp2 : n * r ≤ 9223372036854775807 * 2097152 := Int.mul_le_mul (by omega) (by omega) (by omega) (by omega)
    rw [R64.wrap (a := -n) (by unfold R64; omega), pMulDiv k (-n) r 1073741824 (by unfold R64; omega) (by unfold R64; omega) (by unfold R64; omega)]
    unfold mdR
    rw [if_neg (by omega), Int.neg_mul, if_pos (by unfold R64; omega)]
    simp only [Option.bind_some, Option.isNone_none, if_true]
    rw [pSubSat _ _ (by unfold R64; omega) (by unfold R64; omega)]
    simp only [Option.bind_some]
    rw [show e - -(n * r) / 1073741824 = e + cd (n * r) 1073741824 by unfold cd; omega]
/-- for how long an error stays at most so much -/
def untilR (e r l : Int) : Int × Option Int :=
  if e < 0 ∨ r < 0 ∨ 2097152 < r ∨ l < 0 then (0, some 1) else if l < e then (0, some 10) else if r = 0 ∨ l = 9223372036854775807 then (9223372036854775807, none) else (min 9223372036854775807 ((l - e) * 1073741824 / r), none)
theorem until_eq (k : Nat) (e r l : Int) (he : R64 e) (hr : R64 r) (hl : R64 l) : drift_Until.f (k + 19) e r l = some (untilR e r l) := by
  unfold drift_Until.f untilR
  rw [drift_wrong_eq]
  simp only [Option.bind_some]
  by_cases h : e < 0 ∨ r < 0 ∨ 2097152 < r ∨ l < 0
  · rw [if_pos h, decide_eq_true h, if_pos rfl]
  · rw [if_neg h, decide_eq_false h, if_neg (by simp)]
    by_cases h2 : e > l
    · rw [if_pos h2, if_pos (show l < e by omega)]
    rw [if_neg h2, if_neg (show ¬ l < e by omega)]
    by_cases h3 : r = 0
    · rw [if_pos h3, if_pos (.inl h3)]; simp [drift_Until.j0]
    rw [if_neg h3]
    by_cases h4 : l = 9223372036854775807
    · rw [if_pos (.inr h4), h4]; simp [drift_Until.j0]
    have hb : (l == 9223372036854775807) = false := beq_eq_false_iff_ne.mpr h4
    rw [if_neg (show ¬ (r = 0 ∨ l = 9223372036854775807) by omega), hb]
    simp only [drift_Until.j0]
    unfold R64 at he hr hl
    rw [if_neg (by simp), R64.wrap (a := l - e) (by unfold R64; omega), pMulDiv k _ 1073741824 r (by unfold R64; omega) (by unfold R64; omega) (by unfold R64; omega)]
    unfold mdR
    have hp : 0 ≤ (l - e) * 1073741824 / r := Int.ediv_nonneg (by omega) (by omega)
    rw [if_neg (by omega)]
    by_cases h5 : R64 ((l - e) * 1073741824 / r)
    · rw [if_pos h5]; unfold R64 at h5; simp; omega
    · rw [if_neg h5]; unfold R64 at h5; simp; omega
theorem both_eq (a b : Int) (ha : R64 a) (hb : R64 b) : drift_Both.f a b = some (if a < 0 ∨ 1048576 < a ∨ b < 0 ∨ 1048576 < b then (0, some 1) else (a + b, none)) := by
  unfold drift_Both.f
  by_cases h : a < 0 ∨ 1048576 < a ∨ b < 0 ∨ 1048576 < b
  · rw [if_pos h]
    repeat' split
    all_goals first | rfl | (exfalso; omega)
  · rw [if_neg h, if_neg (by omega), if_neg (by omega), if_neg (by omega), if_neg (by omega), R64.wrap (by unfold R64; omega)]
theorem grow_at (k : Nat) (hk : 18 ≤ k) (e r n : Int) (he : R64 e) (hr : R64 r) (hn : R64 n) : drift_Grow.f k e r n = some (if e < 0 ∨ r < 0 ∨ 2097152 < r ∨ n < 0 then (0, some 1) else (sat (e + cd (n * r) 1073741824), none)) := by
  obtain ⟨k, rfl⟩ : ∃ m, k = m + 18 := ⟨k - 18, by omega⟩
  exact grow_eq k e r n he hr hn
theorem until_at (k : Nat) (hk : 19 ≤ k) (e r l : Int) (he : R64 e) (hr : R64 r) (hl : R64 l) : drift_Until.f k e r l = some (untilR e r l) := by
  obtain ⟨k, rfl⟩ : ∃ m, k = m + 19 := ⟨k - 19, by omega⟩
  exact until_eq k e r l he hr hl
theorem sure_at (k : Nat) (hk : 20 ≤ k) : fuseelaw17_sure.f k = some true := by
  unfold fuseelaw17_sure.f
  rw [grow_at k (by omega) 5 1048576 1000000 (by unfold R64; omega) (by unfold R64; omega) (by unfold R64; omega)]
  simp only [Option.bind_some]
  rw [until_at k (by omega) 5 1048576 982 (by unfold R64; omega) (by unfold R64; omega) (by unfold R64; omega)]
  simp only [Option.bind_some]
  rw [until_at k (by omega) 5 1 4 (by unfold R64; omega) (by unfold R64; omega) (by unfold R64; omega)]
  simp only [Option.bind_some]
  rw [both_eq 3 4 (by unfold R64; omega) (by unfold R64; omega)]
  decide +kernel

theorem more_eq (r n : Int) (hr0 : 0 ≤ r) (hr1 : r ≤ 2097152) (hn0 : 0 ≤ n) (hn1 : n ≤ 9223372036854775807) : fuseeref17_More.f r n = some (cd (n * r) 1073741824) := by
  unfold fuseeref17_More.f
  rw [if_pos (by omega)]
  unfold _root_.Go.Proofs.YtpihgdehgkclmaaDoor.Big.more17 _root_.Go.Proofs.YtpihgdehgkclmaaDoor.Big.mdR cd
  have hp : 0 ≤ r * n := Int.mul_nonneg hr0 hn0
  have hp2 : r * n ≤ 2097152 * 9223372036854775807 := Int.mul_le_mul (by omega) (by omega) (by omega) (by omega)
  rw [Int.mul_comm n r]
  generalize r * n = p at hp hp2 ⊢
  have hin : -9223372036854775808 ≤ p / 1073741824 ∧ p / 1073741824 ≤ 9223372036854775807 := by omega
  simp only [if_pos hin, if_true]
  congr 1
  split
  · omega
  · rw [R64.wrap (by unfold R64; omega)]; omega
theorem rgrow_at (k : Nat) (hk : 3 ≤ k) (e r n : Int) (he : R64 e) (hr : R64 r) (hn : R64 n) : fuseeref17_Grow.f k e r n = some (if e < 0 ∨ r < 0 ∨ 2097152 < r ∨ n < 0 then (0, 1) else (sat (e + cd (n * r) 1073741824), 0)) := by
  obtain ⟨k, rfl⟩ : ∃ m, k = m + 3 := ⟨k - 3, by omega⟩
  unfold fuseeref17_Grow.f
  have hj : fuseeref17_Grow.j0 (k + 3) e r n true = some (0, 1) := by simp only [fuseeref17_Grow.j0, if_true]
  by_cases c1 : e < 0
  · rw [if_pos c1, if_pos (.inl c1), hj]
  by_cases c2 : r < 0
  · rw [if_neg c1, if_pos c2, if_pos (.inr (.inl c2)), hj]
  by_cases c3 : r > 2097152
  · rw [if_neg c1, if_neg c2, if_pos c3, if_pos (.inr (.inr (.inl c3))), hj]
  by_cases c4 : n < 0
  · rw [if_neg c1, if_neg c2, if_neg c3, decide_eq_true c4, if_pos (.inr (.inr (.inr c4))), hj]
  rw [if_neg c1, if_neg c2, if_neg c3, decide_eq_false c4, if_neg (by omega)]
  unfold R64 at he hr hn
  have hm := more_eq r n (by omega) (by omega) (by omega) (by omega)
  have hp : 0 ≤ n * r := Int.mul_nonneg (by omega) (by omega)
  have hp2 : n * r ≤ 9223372036854775807 * 2097152 := Int.mul_le_mul (by omega) (by omega) (by omega) (by omega)
  have hc : 0 ≤ cd (n * r) 1073741824 ∧ cd (n * r) 1073741824 ≤ 18014398509481984 := by unfold cd; omega
  simp only [fuseeref17_Grow.j0, Bool.false_eq_true, if_false, hm, Option.bind_some]
  generalize cd (n * r) 1073741824 = c at hc ⊢
  unfold fuseeref01_Sum.f fuseeref01_Bounded.f
  have hs : sat (e + c) = if e + c ≤ 9223372036854775807 then e + c else 9223372036854775807 := by
    split
    · exact sat_of (by unfold R64; omega)
    · unfold sat; rw [if_neg (by omega), if_pos (by omega)]
  rw [hs]
  by_cases hz : c > 0
  · rw [if_pos hz, R64.wrap (a := 9223372036854775807 - c) (by unfold R64; omega)]
    by_cases hq : e > 9223372036854775807 - c
    · rw [decide_eq_true hq, if_neg (by omega)]
      simp [fuseeref01_Sum.j0]
    · rw [decide_eq_false hq, if_pos (by omega)]
      simp only [fuseeref01_Sum.j0, Bool.false_eq_true, if_false]
      rw [if_neg (by omega), R64.wrap (a := e + c) (by unfold R64; omega)]
      simp
  · obtain rfl : c = 0 := by omega
    rw [if_neg hz, if_pos (by omega)]
    simp only [fuseeref01_Sum.j0, Bool.false_eq_true, if_false]
    rw [if_neg (by omega), R64.wrap (a := e + 0) (by unfold R64; omega)]
    simp
/-- so long it stays at most so much -/
theorem until_char (e r l : Int) (he0 : 0 ≤ e) (hr0 : 0 ≤ r) (hr1 : r ≤ 2097152) (hel : e ≤ l) (hl : l ≤ 9223372036854775807) : ∃ T, untilR e r l = (T, none) ∧ 0 ≤ T ∧ T ≤ 9223372036854775807 ∧ sat (e + cd (T * r) 1073741824) ≤ l ∧ (T < 9223372036854775807 → l < sat (e + cd ((T + 1) * r) 1073741824)) := by
  unfold untilR
  rw [if_neg (by omega), if_neg (by omega)]
  by_cases d3 : r = 0 ∨ l = 9223372036854775807
  · rw [if_pos d3]
    refine ⟨_, rfl, by omega, by omega, ?_, fun h => absurd h (by omega)⟩
    rcases d3 with d3 | d3
    · subst d3; rw [Int.mul_zero, sat_of (by unfold R64 cd; omega)]; unfold cd; omega
    · have := sat_range (e + cd (9223372036854775807 * r) 1073741824); unfold R64 at this; omega
  rw [if_neg d3]
  have rp : 0 < r := by omega
  have m0 := Int.mul_ediv_add_emod ((l - e) * 1073741824) r
  have m1 := Int.emod_nonneg ((l - e) * 1073741824) (show r ≠ 0 by omega)
  have m2 := Int.emod_lt_of_pos ((l - e) * 1073741824) rp
  have m3 : 0 ≤ (l - e) * 1073741824 / r := Int.ediv_nonneg (by omega) (by omega)
  generalize (l - e) * 1073741824 % r = rest at m0 m1 m2
  generalize (l - e) * 1073741824 / r = q at m0 m3 ⊢
  refine ⟨_, rfl, by omega, by omega, ?_, ?_⟩
  · have a1 : min 9223372036854775807 q * r ≤ q * r := Int.mul_le_mul_of_nonneg_right (by omega) (by omega)
    have a2 := Int.mul_comm q r
    have a3 : cd (min 9223372036854775807 q * r) 1073741824 ≤ l - e := by unfold cd; omega
    have := sat_mono (show e + cd (min 9223372036854775807 q * r) 1073741824 ≤ l by omega)
    rw [sat_of (a := l) (by unfold R64; omega)] at this
    exact this
  · intro hlt
    have a1 : min 9223372036854775807 q = q := by omega
    rw [a1, Int.add_mul, Int.one_mul, Int.mul_comm q r]
    have a3 : l - e + 1 ≤ cd (r * q + r) 1073741824 := by unfold cd; omega
    have := sat_mono (show l + 1 ≤ e + cd (r * q + r) 1073741824 by omega)
    by_cases hl1 : l < 9223372036854775807
    · rw [sat_of (a := l + 1) (by unfold R64; omega)] at this
      omega
    · omega
theorem g_mono (e r : Int) (hr0 : 0 ≤ r) {a b : Int} (h : a ≤ b) : sat (e + cd (a * r) 1073741824) ≤ sat (e + cd (b * r) 1073741824) := by
  have := Int.mul_le_mul_of_nonneg_right h hr0
  exact sat_mono (by unfold cd; omega)
theorem halves (e r l T : Int) (he0 : 0 ≤ e) (he1 : e ≤ 9223372036854775807) (hr0 : 0 ≤ r) (hr1 : r ≤ 2097152) (hT : sat (e + cd (T * r) 1073741824) ≤ l) (hT2 : T < 9223372036854775807 → l < sat (e + cd ((T + 1) * r) 1073741824)) :
    ∀ (d k : Nat) (low high : Int), d + 4 ≤ k → 0 ≤ low → low < high → high ≤ 9223372036854775807 → high - low ≤ 2 ^ d → sat (e + cd (low * r) 1073741824) ≤ l → l < sat (e + cd (high * r) 1073741824) → fuseeref17_Until.l0 k e r l low high = some (T, 0) := by
  have done_ : ∀ (k : Nat) (low high : Int), 0 ≤ low → low < high → high ≤ 9223372036854775807 → high - low ≤ 1 → sat (e + cd (low * r) 1073741824) ≤ l → l < sat (e + cd (high * r) 1073741824) → fuseeref17_Until.l0 (k + 1) e r l low high = some (T, 0) := by
    intro k low high h0 h1 h2 h3 g0 g1
    have hh : high = low + 1 := by omega
    subst hh
    simp only [fuseeref17_Until.l0]
    rw [R64.wrap (a := low + 1 - low) (by unfold R64; omega), if_neg (by omega)]
    have e1 : low = T := by
      rcases Int.lt_trichotomy low T with h | h | h
      · have := g_mono e r hr0 (show low + 1 ≤ T by omega); omega
      · exact h
      · have := g_mono e r hr0 (show T + 1 ≤ low by omega); have := hT2 (by omega); omega
    rw [e1]
  intro d
  induction d with
  | zero =>
    intro k low high hk h0 h1 h2 h3 g0 g1
    obtain ⟨k, rfl⟩ : ∃ m, k = m + 1 := ⟨k - 1, by omega⟩
    exact done_ k low high h0 h1 h2 (by simpa using h3) g0 g1
  | succ d ih =>
    intro k low high hk h0 h1 h2 h3 g0 g1
    obtain ⟨k, rfl⟩ : ∃ m, k = m + 1 := ⟨k - 1, by omega⟩
    by_cases hd : high - low ≤ 1
    · exact done_ k low high h0 h1 h2 hd g0 g1
    have hpw : (2 : Int) ^ (d + 1) = 2 * 2 ^ d := by rw [Int.pow_succ]; omega
    rw [hpw] at h3
    generalize (2 : Int) ^ d = pw at h3 ih
    simp only [fuseeref17_Until.l0]
    rw [R64.wrap (a := high - low) (by unfold R64; omega), if_pos (by omega), Int.tdiv_eq_ediv_of_nonneg (by omega), R64.wrap (a := (high - low) / 2) (by unfold R64; omega), R64.wrap (a := low + (high - low) / 2) (by unfold R64; omega)]
    obtain ⟨mid, hm⟩ : ∃ m, m = low + (high - low) / 2 := ⟨_, rfl⟩
    rw [← hm, rgrow_at k (by omega) e r mid (by unfold R64; omega) (by unfold R64; omega) (by unfold R64; omega), if_neg (by omega)]
    simp only [Option.bind_some]
    by_cases hg : sat (e + cd (mid * r) 1073741824) ≤ l
    · rw [if_pos hg]
      exact ih k mid high (by omega) (by omega) (by omega) h2 (by omega) hg g1
    · rw [if_neg hg]
      exact ih k low mid (by omega) h0 (by omega) (by omega) (by omega) g0 (by omega)
theorem runtil_at (k : Nat) (hk : 70 ≤ k) (e r l : Int) (he : R64 e) (hr : R64 r) (hl : R64 l) : fuseeref17_Until.f k e r l = some ((untilR e r l).1, numE (untilR e r l).2) := by
  obtain ⟨k, rfl⟩ : ∃ m, k = m + 70 := ⟨k - 70, by omega⟩
  unfold fuseeref17_Until.f
  have hj : fuseeref17_Until.j0 (k + 70) e r l true = some (0, 1) := by simp only [fuseeref17_Until.j0, if_true]
  unfold R64 at he hr hl
  by_cases hbad : e < 0 ∨ r < 0 ∨ 2097152 < r ∨ l < 0
  · have hu : untilR e r l = (0, some 1) := by unfold untilR; rw [if_pos hbad]
    rw [hu]
    show _ = some ((0 : Int), (1 : Int))
    by_cases c1 : e < 0
    · rw [if_pos c1, hj]
    by_cases c2 : r < 0
    · rw [if_neg c1, if_pos c2, hj]
    by_cases c3 : r > 2097152
    · rw [if_neg c1, if_neg c2, if_pos c3, hj]
    rw [if_neg c1, if_neg c2, if_neg c3, decide_eq_true (show l < 0 by omega), hj]
  rw [if_neg (by omega), if_neg (by omega), if_neg (by omega), decide_eq_false (show ¬ l < 0 by omega)]
  simp only [fuseeref17_Until.j0, Bool.false_eq_true, if_false]
  by_cases hp : l < e
  · have hu : untilR e r l = (0, some 10) := by unfold untilR; rw [if_neg hbad, if_pos hp]
    rw [hu, if_pos (by omega)]; rfl
  rw [if_neg (by omega)]
  obtain ⟨T, hu, t0, t1, t2, t3⟩ := until_char e r l (by omega) (by omega) (by omega) (by omega) (by omega)
  rw [hu, rgrow_at (k + 69) (by omega) e r 9223372036854775807 (by unfold R64; omega) (by unfold R64; omega) (by unfold R64; omega), if_neg (by omega)]
  simp only [Option.bind_some]
  show _ = some (T, (0 : Int))
  by_cases hg : sat (e + cd (9223372036854775807 * r) 1073741824) ≤ l
  · rw [if_pos hg]
    have : T = 9223372036854775807 := by
      by_cases h : T < 9223372036854775807
      · have := t3 h
        have := g_mono e r (by omega) (show T + 1 ≤ 9223372036854775807 by omega)
        omega
      · omega
    rw [this]
  · rw [if_neg hg]
    refine halves e r l T (by omega) (by omega) (by omega) (by omega) t2 t3 63 (k + 69) 0 9223372036854775807 (by omega) (by omega) (by omega) (by omega) (by decide) ?_ (by omega)
    rw [Int.zero_mul, show cd 0 1073741824 = 0 from rfl, Int.add_zero, sat_of (by unfold R64; omega)]; omega
theorem grows (k : Nat) (hk : 80 ≤ k) (e r n l : Int) (he : R64 e) (hr : R64 r) (hn : R64 n) (hl : R64 l) : fuseelaw17_DriftGrows.f k e r n l = some true := by
  obtain ⟨k, rfl⟩ : ∃ m, k = m + 2 := ⟨k - 2, by omega⟩
  have hS := sure_at k (by omega)
  unfold fuseelaw17_DriftGrows.f
  rw [grow_at _ (by omega) e r n he hr hn, rgrow_at _ (by omega) e r n he hr hn, until_at _ (by omega) e r l he hr hl, runtil_at _ (by omega) e r l he hr hl, both_eq e r he hr]
  obtain ⟨g1, g2, hg⟩ : ∃ (g1 : Int) (g2 : Option Int), (if e < 0 ∨ r < 0 ∨ 2097152 < r ∨ n < 0 then ((0 : Int), some (1 : Int)) else (sat (e + cd (n * r) 1073741824), none)) = (g1, g2) ∧ (if e < 0 ∨ r < 0 ∨ 2097152 < r ∨ n < 0 then ((0 : Int), (1 : Int)) else (sat (e + cd (n * r) 1073741824), 0)) = (g1, numE g2) := by
    split
    · exact ⟨_, _, rfl, rfl⟩
    · exact ⟨_, _, rfl, rfl⟩
  obtain ⟨u1, u2, hu⟩ : ∃ u1 u2, untilR e r l = (u1, u2) := ⟨_, _, rfl⟩
  rw [hg.1, hg.2, hu]
  simp only [Option.bind_some]
  have j1 : ∀ b, b = false → fuseelaw17_DriftGrows.j1 (k + 1) g1 g2 g1 (numE g2) u1 u2 u1 (numE u2) b = some true := by
    intro b hb
    subst hb
    simp only [fuseelaw17_DriftGrows.j1, Bool.false_eq_true, if_false, if_true, fuseelaw17_num.f, Option.bind_some, hS]
  have j2 : ∀ b, b = false → fuseelaw17_DriftGrows.j2 (k + 1) g1 g2 g1 (numE g2) u1 u2 u1 (numE u2) b = some true := by
    intro b hb
    subst hb
    simp only [fuseelaw17_DriftGrows.j2, Bool.false_eq_true, if_false, if_true, fuseelaw17_num.f, Option.bind_some, hS]
  by_cases hb : e < 0 ∨ 1048576 < e ∨ r < 0 ∨ 1048576 < r
  · rw [if_pos hb]
    have hj : fuseelaw17_DriftGrows.j0 (k + 2) e r g1 g2 g1 (numE g2) u1 u2 u1 (numE u2) 0 (some 1) true = some true := by
      simp only [fuseelaw17_DriftGrows.j0, if_true, fuseelaw17_num.f, numE, Option.bind_some]
      exact j1 _ rfl
    by_cases c1 : e < 0
    · rw [if_pos c1]; exact hj
    by_cases c2 : e > 1048576
    · rw [if_neg c1, if_pos c2]; exact hj
    by_cases c3 : r < 0
    · rw [if_neg c1, if_neg c2, if_pos c3]; exact hj
    rw [if_neg c1, if_neg c2, if_neg c3, decide_eq_true (show r > 1048576 by omega)]; exact hj
  · rw [if_neg hb, if_neg (by omega), if_neg (by omega), if_neg (by omega), decide_eq_false (by omega)]
    simp only [fuseelaw17_DriftGrows.j0, Bool.false_eq_true, if_false, Option.isNone_none, if_true]
    exact j2 _ (by rw [R64.wrap (a := e + r) (by unfold R64; omega)]; simp)
theorem done (e r n l : Int) (he : (Lit.int .i64 e).wf = true) (hr : (Lit.int .i64 r).wf = true) (hn : (Lit.int .i64 n).wf = true) (hl : (Lit.int .i64 l).wf = true) : ∃ k, fuseelaw17_DriftGrows.f k e r n l = some true :=
  ⟨80, grows 80 (by omega) e r n l (R64.of_wf he) (R64.of_wf hr) (R64.of_wf hn) (R64.of_wf hl)⟩
end Go.Proofs.YtpihgdehgkclmaaDoor.MDriftGrows
