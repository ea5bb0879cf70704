/-
  Chapter 14: the reference answers as the program.
-/
import Derived.Test.YtpihgdehgkclmaaDoorQ14A
namespace Go.Proofs.YtpihgdehgkclmaaDoor.MSa
open Go.RowKit Go.Proofs.YtpihgdehgkclmaaDoorW.PrintWords Go.Proofs.YtpihgdehgkclmaaDoorW.PrintMore
set_option linter.unusedVariables false
set_option linter.unusedSimpArgs false

/-- a quotient rounded up -/
def cd (x c : Int) : Int := -((-x) / c)

/-- a sample that may be -/
def mayS (a c s g e : Int) : Prop := (-4611686018427387904 < a ∧ a < 4611686018427387904) ∧ (-4611686018427387904 < c ∧ c < 4611686018427387904) ∧ (-4611686018427387904 < s ∧ s < 4611686018427387904) ∧ (-4611686018427387904 < g ∧ g < 4611686018427387904) ∧ (0 ≤ e ∧ e ≤ 1099511627776) ∧ a ≤ g ∧ c ≤ s ∧ g - a ≤ 1099511627776 ∧ s - c ≤ g - a
instance (a c s g e : Int) : Decidable (mayS a c s g e) := by unfold mayS; infer_instance
theorem near_eq (a : Int) : sample_near.f a = some (decide (-4611686018427387904 < a ∧ a < 4611686018427387904)) := by
  unfold sample_near.f
  split
  · congr 1; rw [decide_eq_decide]; omega
  · rw [decide_eq_false (by omega)]
theorem scheck_at (k : Nat) (hk : 1 ≤ k) (a c s g e : Int) : sample_Check.f k a c s g e = some (if mayS a c s g e then none else some 1) := by
  obtain ⟨k, rfl⟩ : ∃ m, k = m + 1 := ⟨k - 1, by omega⟩
  unfold sample_Check.f
  have bad : ∀ (h : ¬ mayS a c s g e), sample_Check.j0 (k + 1) true a c s g e = some (if mayS a c s g e then none else some 1) := by
    intro h; rw [if_neg h]; simp [sample_Check.j0]
  simp only [near_eq, Option.bind_some, decide_eq_true_eq]
  by_cases h1 : -4611686018427387904 < a ∧ a < 4611686018427387904
  · rw [if_pos h1]
    by_cases h2 : -4611686018427387904 < c ∧ c < 4611686018427387904
    · rw [if_pos h2]
      by_cases h3 : -4611686018427387904 < s ∧ s < 4611686018427387904
      · rw [if_pos h3]
        by_cases h4 : -4611686018427387904 < g ∧ g < 4611686018427387904
        · rw [if_pos h4]
          by_cases h5 : e < 0
          · rw [if_pos h5]; exact bad (by unfold mayS; omega)
          · rw [if_neg h5]
            by_cases h6 : e > 1099511627776
            · rw [decide_eq_true h6]; exact bad (by unfold mayS; omega)
            · rw [decide_eq_false h6]
              simp only [sample_Check.j0]
              rw [if_neg (by simp), R64.wrap (a := g - a) (by unfold R64; omega), R64.wrap (a := s - c) (by unfold R64; omega)]
              by_cases h7 : a > g
              · rw [if_pos h7, if_neg (show ¬ mayS a c s g e by unfold mayS; omega)]
              rw [if_neg h7]
              by_cases h8 : c > s
              · rw [if_pos h8, if_neg (show ¬ mayS a c s g e by unfold mayS; omega)]
              rw [if_neg h8]
              by_cases h9 : g - a > 1099511627776
              · rw [if_pos h9, if_neg (show ¬ mayS a c s g e by unfold mayS; omega)]
              rw [if_neg h9]
              by_cases h10 : g - a < s - c
              · rw [if_pos h10, if_neg (show ¬ mayS a c s g e by unfold mayS; omega)]
              rw [if_neg h10, if_pos (show mayS a c s g e by unfold mayS; omega)]
        · rw [if_neg h4]; exact bad (by unfold mayS; omega)
      · rw [if_neg h3]; exact bad (by unfold mayS; omega)
    · rw [if_neg h2]; exact bad (by unfold mayS; omega)
  · rw [if_neg h1]; exact bad (by unfold mayS; omega)
theorem cd_rng {n r : Int} (h0 : 0 ≤ n) (h1 : n ≤ 9223372036854775807) (h2 : 0 ≤ r) (h3 : r ≤ 2097152) : 0 ≤ cd (n * r) 1073741824 ∧ cd (n * r) 1073741824 ≤ 18014398509481984 := by
  have p0 : 0 ≤ n * r := Int.mul_nonneg h0 h2
  have p1 : n * r ≤ 9223372036854775807 * 2097152 := Int.mul_le_mul h1 h3 h2 (by omega)
  unfold cd; omega
theorem grown_at (k : Nat) (hk : 19 ≤ k) (r n : Int) (hr : R64 r) (hn : 0 ≤ n) (hn' : n ≤ 9223372036854775807) : sample_grown.f k r n = some (if r < 0 ∨ 1048576 < r then (0, some 1) else (cd (n * r) 1073741824, none)) := by
  obtain ⟨k, rfl⟩ : ∃ m, k = m + 19 := ⟨k - 19, by omega⟩
  unfold sample_grown.f
  by_cases h0 : r < 0
  · rw [if_pos h0, if_pos (.inl h0)]; simp [sample_grown.j0]
  rw [if_neg h0]
  by_cases h1 : r > 1048576
  · rw [decide_eq_true h1, if_pos (.inr h1)]; simp [sample_grown.j0]
  rw [decide_eq_false h1, if_neg (by omega)]
  simp only [sample_grown.j0]
  have p0 : 0 ≤ n * r := Int.mul_nonneg (by omega) (by omega)
  have p1 : n * r ≤ 9223372036854775807 * 1048576 := Int.mul_le_mul (by omega) (by omega) (by omega) (by omega)
  rw [if_neg (by simp), R64.wrap (a := -n) (by unfold R64; omega), pMulDiv k (-n) r 1073741824 (by unfold R64; omega) hr (by unfold R64; omega)]
  unfold mdR
  rw [if_neg (by omega), Int.neg_mul, if_pos (by unfold R64; omega)]
  simp only [Option.bind_some]
  rw [pSubSat _ _ (by unfold R64; omega) (by unfold R64; omega), sat_of (by unfold R64; omega)]
  simp only [Option.bind_some]
  rw [show 0 - -(n * r) / 1073741824 = cd (n * r) 1073741824 by unfold cd; omega]
theorem pcheck_eq (a b : Int) : span_Check.f a b = some (if a ≤ b then none else some 1) := by
  unfold span_Check.f
  split
  · rw [if_neg (by omega)]
  · rw [if_pos (by omega)]
theorem pgrow_at (k : Nat) (hk : 1 ≤ k) (a b n : Int) (ha : R64 a) (hb : R64 b) (hn : R64 n) : span_Grow.f k a b n = some (if a ≤ b ∧ 0 ≤ n then (sat (a - n), sat (b + n), none) else (0, 0, some 1)) := by
  obtain ⟨k, rfl⟩ : ∃ m, k = m + 1 := ⟨k - 1, by omega⟩
  unfold span_Grow.f
  rw [pcheck_eq]
  simp only [Option.bind_some]
  by_cases h : a ≤ b
  · rw [if_pos h]
    simp only [Option.isNone_none, if_true]
    by_cases h0 : n < 0
    · rw [decide_eq_true h0, if_neg (show ¬ (a ≤ b ∧ 0 ≤ n) by omega)]; simp [span_Grow.j0]
    · rw [decide_eq_false h0, if_pos (show a ≤ b ∧ 0 ≤ n by omega)]
      simp only [span_Grow.j0]
      rw [if_neg (by simp), pSubSat _ _ ha hn]
      simp only [Option.bind_some]
      rw [pAddSat _ _ hb hn]
      simp
  · rw [if_neg h, if_neg (show ¬ (a ≤ b ∧ 0 ≤ n) by omega)]
    simp [span_Grow.j0]
/-- by how much the other clock is ahead -/
def ofR (a c s g e r : Int) : Int × Int × Option Int := if mayS a c s g e ∧ 0 ≤ r ∧ r ≤ 1048576 then (sat (s - g - (e + cd ((g - a) * r) 1073741824)), sat (c - a + (e + cd ((g - a) * r) 1073741824)), none) else (0, 0, some 1)
theorem of_at (k : Nat) (hk : 19 ≤ k) (a c s g e r : Int) (hr : R64 r) : sample_Of.f k a c s g e r = some (ofR a c s g e r) := by
  unfold sample_Of.f ofR
  rw [scheck_at k (by omega)]
  simp only [Option.bind_some]
  by_cases h : mayS a c s g e
  · rw [if_pos h]
    simp only [Option.isNone_none, if_true]
    have hm := h
    unfold mayS at hm
    rw [R64.wrap (a := g - a) (by unfold R64; omega), grown_at k hk r (g - a) hr (by omega) (by omega)]
    simp only [Option.bind_some]
    by_cases h2 : r < 0 ∨ 1048576 < r
    · rw [if_pos h2, if_neg (show ¬ (mayS a c s g e ∧ 0 ≤ r ∧ r ≤ 1048576) by omega)]; simp
    · have hc := cd_rng (n := g - a) (r := r) (by omega) (by omega) (by omega) (by omega)
      rw [if_neg h2, if_pos (show mayS a c s g e ∧ 0 ≤ r ∧ r ≤ 1048576 from ⟨h, by omega, by omega⟩)]
      simp only [Option.isNone_none, if_true]
      rw [R64.wrap (a := s - g) (by unfold R64; omega), R64.wrap (a := c - a) (by unfold R64; omega), R64.wrap (a := e + cd ((g - a) * r) 1073741824) (by unfold R64; omega)]
      rw [pgrow_at k (by omega) _ _ _ (by unfold R64; omega) (by unfold R64; omega) (by unfold R64; omega), if_pos (by omega)]
      simp
  · rw [if_neg h, if_neg (show ¬ (mayS a c s g e ∧ 0 ≤ r ∧ r ≤ 1048576) from fun x => h x.1)]; simp
/-- a time as a span of the other clock's -/
def toldR (a c s g e r n : Int) : Int × Int × Option Int :=
  if mayS a c s g e ∧ 0 ≤ r ∧ r ≤ 1048576 then (if 4611686018427387904 ≤ n then (0, 0, some 1) else if n < g then (0, 0, some 10) else
    (sat (sat (sat (s - g - (e + cd ((g - a) * r) 1073741824)) + n) - cd ((n - g) * r) 1073741824), sat (sat (sat (c - a + (e + cd ((g - a) * r) 1073741824)) + n) + cd ((n - g) * r) 1073741824), none)) else (0, 0, some 1)
theorem told_at (k : Nat) (hk : 19 ≤ k) (a c s g e r n : Int) (hr : R64 r) (hn : R64 n) : sample_Told.f k a c s g e r n = some (toldR a c s g e r n) := by
  unfold sample_Told.f toldR
  rw [of_at k hk a c s g e r hr]
  unfold ofR
  simp only [Option.bind_some]
  by_cases h : mayS a c s g e ∧ 0 ≤ r ∧ r ≤ 1048576
  · have hm := h.1
    unfold mayS at hm
    have h0 := h.2
    rw [if_pos h, if_pos h]
    simp only [Option.isNone_none, if_true]
    have hc := cd_rng (n := g - a) (r := r) (by omega) (by omega) (by omega) (by omega)
    by_cases h1 : n ≥ 4611686018427387904
    · rw [if_pos h1, if_pos h1]
    rw [if_neg h1, if_neg (show ¬ 4611686018427387904 ≤ n by omega)]
    by_cases h2 : n < g
    · rw [if_pos h2, if_pos h2]
    rw [if_neg h2, if_neg h2]
    have hc2 := cd_rng (n := n - g) (r := r) (by omega) (by omega) (by omega) (by omega)
    rw [R64.wrap (a := n - g) (by unfold R64; omega), grown_at k hk r (n - g) hr (by omega) (by omega), if_neg (by omega)]
    simp only [Option.bind_some, Option.isNone_none, if_true]
    rw [pAddSat _ _ (sat_range _) hn]
    simp only [Option.bind_some]
    rw [pAddSat _ _ (sat_range _) hn]
    simp only [Option.bind_some]
    have hs0 := sat_mono (show s - g - (e + cd ((g - a) * r) 1073741824) ≤ c - a + (e + cd ((g - a) * r) 1073741824) by omega)
    have hs := sat_mono (show sat (s - g - (e + cd ((g - a) * r) 1073741824)) + n ≤ sat (c - a + (e + cd ((g - a) * r) 1073741824)) + n by omega)
    rw [pgrow_at k (by omega) _ _ _ (sat_range _) (sat_range _) (by unfold R64; omega), if_pos ⟨hs, by omega⟩]
    simp
  · rw [if_neg h, if_neg h]; simp
theorem delay_at (k : Nat) (hk : 1 ≤ k) (a c s g e : Int) : sample_Delay.f k a c s g e = some (if mayS a c s g e then (g - a - (s - c), none) else (0, some 1)) := by
  unfold sample_Delay.f
  rw [scheck_at k hk]
  simp only [Option.bind_some]
  by_cases h : mayS a c s g e
  · rw [if_pos h, if_pos h]
    unfold mayS at h
    simp only [Option.isNone_none, if_true]
    rw [R64.wrap (a := g - a) (by unfold R64; omega), R64.wrap (a := s - c) (by unfold R64; omega), R64.wrap (by unfold R64; omega)]
  · rw [if_neg h, if_neg h]; simp
theorem sure_at (k : Nat) (hk : 19 ≤ k) : fuseelaw14_sure.f k = some true := by
  unfold fuseelaw14_sure.f
  rw [of_at k hk 0 15 16 11 0 0 (by unfold R64; omega)]
  simp only [Option.bind_some]
  rw [delay_at k (by omega) 0 15 16 11 0]
  simp only [Option.bind_some]
  rw [told_at k hk 0 15 16 11 0 0 20 (by unfold R64; omega) (by unfold R64; omega)]
  simp only [Option.bind_some]
  rw [told_at k hk 0 15 16 11 0 0 10 (by unfold R64; omega) (by unfold R64; omega)]
  decide +kernel

def bndR (x : Int) : Int × Int := if 9223372036854775807 < x then (0, 1) else if x < -9223372036854775808 then (0, -1) else (x, 0)
theorem rsum_at (k : Nat) (hk : 1 ≤ k) (a b : Int) (ha : R64 a) (hb : R64 b) : fuseeref01_Sum.f k a b = some (bndR (a + b)) := by
  obtain ⟨k, rfl⟩ : ∃ m, k = m + 1 := ⟨k - 1, by omega⟩
  unfold R64 at ha hb
  unfold fuseeref01_Sum.f bndR
  by_cases hz : b > 0
  · rw [if_pos hz, R64.wrap (a := 9223372036854775807 - b) (by unfold R64; omega)]
    by_cases hq : a > 9223372036854775807 - b
    · rw [decide_eq_true hq, if_pos (by omega)]
      simp [fuseeref01_Sum.j0]
    · rw [decide_eq_false hq, if_neg (by omega), if_neg (by omega)]
      simp only [fuseeref01_Sum.j0, Bool.false_eq_true, if_false]
      rw [if_neg (by omega), R64.wrap (a := a + b) (by unfold R64; omega)]
  · rw [if_neg hz, if_neg (by omega)]
    simp only [fuseeref01_Sum.j0, Bool.false_eq_true, if_false]
    by_cases hn : b < 0
    · rw [if_pos hn, R64.wrap (a := -9223372036854775808 - b) (by unfold R64; omega)]
      by_cases hq : a < -9223372036854775808 - b
      · rw [if_pos hq, if_pos (by omega)]
      · rw [if_neg hq, if_neg (by omega), R64.wrap (a := a + b) (by unfold R64; omega)]
    · rw [if_neg hn, if_neg (by omega), R64.wrap (a := a + b) (by unfold R64; omega)]
theorem rless_at (k : Nat) (hk : 1 ≤ k) (a b : Int) (ha : R64 a) (hb : R64 b) : fuseeref01_Less.f k a b = some (bndR (a - b)) := by
  obtain ⟨k, rfl⟩ : ∃ m, k = m + 1 := ⟨k - 1, by omega⟩
  unfold R64 at ha hb
  unfold fuseeref01_Less.f bndR
  by_cases hz : b < 0
  · rw [if_pos hz, R64.wrap (a := 9223372036854775807 + b) (by unfold R64; omega)]
    by_cases hq : a > 9223372036854775807 + b
    · rw [decide_eq_true hq, if_pos (by omega)]
      simp [fuseeref01_Less.j0]
    · rw [decide_eq_false hq, if_neg (by omega), if_neg (by omega)]
      simp only [fuseeref01_Less.j0, Bool.false_eq_true, if_false]
      rw [if_neg (by omega), R64.wrap (a := a - b) (by unfold R64; omega)]
  · rw [if_neg hz, if_neg (by omega)]
    simp only [fuseeref01_Less.j0, Bool.false_eq_true, if_false]
    by_cases hn : b > 0
    · rw [if_pos hn, R64.wrap (a := -9223372036854775808 + b) (by unfold R64; omega)]
      by_cases hq : a < -9223372036854775808 + b
      · rw [if_pos hq, if_pos (by omega)]
      · rw [if_neg hq, if_neg (by omega), R64.wrap (a := a - b) (by unfold R64; omega)]
    · rw [if_neg hn, if_neg (by omega), R64.wrap (a := a - b) (by unfold R64; omega)]
theorem rbounded_eq (x : Int) : fuseeref01_Bounded.f (bndR x).1 (bndR x).2 = some (sat x) := by
  unfold fuseeref01_Bounded.f bndR sat
  by_cases h1 : 9223372036854775807 < x
  · rw [if_pos h1, if_neg (show ¬ x < -9223372036854775808 by omega), if_pos (show x > 9223372036854775807 by omega)]; rfl
  · rw [if_neg h1]
    by_cases h2 : x < -9223372036854775808
    · rw [if_pos h2, if_pos h2]; rfl
    · rw [if_neg h2, if_neg h2, if_neg (show ¬ x > 9223372036854775807 by omega)]; rfl
theorem rpgrow_at (k : Nat) (hk : 1 ≤ k) (a b n : Int) (ha : R64 a) (hb : R64 b) (hn : R64 n) : fuseeref13_Grow.f k a b n = some (sat (a - n), sat (b + n)) := by
  unfold fuseeref13_Grow.f
  rw [rless_at k hk a n ha hn, rsum_at k hk b n hb hn]
  simp only [Option.bind_some, rbounded_eq]

theorem rtime_eq (a : Int) : fuseeref14_time.f a = some (decide (-4611686018427387904 < a ∧ a < 4611686018427387904)) := by
  unfold fuseeref14_time.f
  split
  · congr 1; rw [decide_eq_decide]; omega
  · rw [decide_eq_false (by omega)]
theorem rmay_eq (a c s g e : Int) : fuseeref14_May.f a c s g e = some (decide (mayS a c s g e)) := by
  unfold fuseeref14_May.f
  simp only [rtime_eq, Option.bind_some, decide_eq_true_eq]
  by_cases h1 : -4611686018427387904 < a ∧ a < 4611686018427387904
  case neg => rw [if_neg h1, decide_eq_false (show ¬ mayS a c s g e by unfold mayS; omega)]
  rw [if_pos h1]
  by_cases h2 : -4611686018427387904 < c ∧ c < 4611686018427387904
  case neg => rw [if_neg h2, decide_eq_false (show ¬ mayS a c s g e by unfold mayS; omega)]
  rw [if_pos h2]
  by_cases h3 : -4611686018427387904 < s ∧ s < 4611686018427387904
  case neg => rw [if_neg h3, decide_eq_false (show ¬ mayS a c s g e by unfold mayS; omega)]
  rw [if_pos h3]
  by_cases h4 : -4611686018427387904 < g ∧ g < 4611686018427387904
  case neg => rw [if_neg h4, decide_eq_false (show ¬ mayS a c s g e by unfold mayS; omega)]
  rw [if_pos h4]
  by_cases h5 : e < 0
  · rw [if_pos h5, decide_eq_false (show ¬ mayS a c s g e by unfold mayS; omega)]
  rw [if_neg h5]
  by_cases h6 : e > 1099511627776
  · rw [if_pos h6, decide_eq_false (show ¬ mayS a c s g e by unfold mayS; omega)]
  rw [if_neg h6, R64.wrap (a := g - a) (by unfold R64; omega), R64.wrap (a := s - c) (by unfold R64; omega)]
  by_cases h7 : g - a ≥ 0
  case neg => rw [if_neg h7, decide_eq_false (show ¬ mayS a c s g e by unfold mayS; omega)]
  rw [if_pos h7]
  by_cases h8 : s - c ≥ 0
  case neg => rw [if_neg h8, decide_eq_false (show ¬ mayS a c s g e by unfold mayS; omega)]
  rw [if_pos h8]
  by_cases h9 : g - a ≤ 1099511627776
  case neg => rw [if_neg h9, decide_eq_false (show ¬ mayS a c s g e by unfold mayS; omega)]
  rw [if_pos h9]
  congr 1; rw [decide_eq_decide]; unfold mayS; omega
theorem rmore_eq (r n : Int) (hr0 : 0 ≤ r) (hr1 : r ≤ 2097152) (hn0 : 0 ≤ n) (hn1 : n ≤ 9223372036854775807) : fuseeref14_More.f r n = some (cd (n * r) 1073741824) := by
  unfold fuseeref14_More.f
  rw [if_pos (by omega)]
  unfold _root_.Go.Proofs.YtpihgdehgkclmaaDoor.Bign.more14 cd
  rw [Int.mul_comm n r]
  congr 1
  omega
theorem rof_at (k : Nat) (hk : 19 ≤ k) (a c s g e r : Int) (hr : R64 r) : fuseeref14_Of.f k a c s g e r = some ((ofR a c s g e r).1, (ofR a c s g e r).2.1, numE (ofR a c s g e r).2.2) := by
  obtain ⟨k, rfl⟩ : ∃ m, k = m + 2 := ⟨k - 2, by omega⟩
  have hj : fuseeref14_Of.j0 (k + 2) r true a c s g e = some (0, 0, 1) := by simp only [fuseeref14_Of.j0, if_true]
  unfold fuseeref14_Of.f ofR
  rw [rmay_eq]
  simp only [Option.bind_some, decide_eq_true_eq]
  by_cases h : mayS a c s g e
  case neg => rw [if_neg h, hj, if_neg (show ¬ (mayS a c s g e ∧ 0 ≤ r ∧ r ≤ 1048576) from fun x => h x.1)]; rfl
  rw [if_pos h]
  by_cases h1 : r < 0
  · rw [if_pos h1, hj, if_neg (by omega)]; rfl
  rw [if_neg h1]
  by_cases h2 : r > 1048576
  · rw [decide_eq_true h2, hj, if_neg (by omega)]; rfl
  rw [decide_eq_false h2, if_pos (show mayS a c s g e ∧ 0 ≤ r ∧ r ≤ 1048576 from ⟨h, by omega, by omega⟩)]
  have hm := h
  unfold mayS at hm
  have hc := cd_rng (n := g - a) (r := r) (by omega) (by omega) (by omega) (by omega)
  simp only [fuseeref14_Of.j0, Bool.false_eq_true, if_false]
  rw [R64.wrap (a := g - a) (by unfold R64; omega), rmore_eq r (g - a) (by omega) (by omega) (by omega) (by omega)]
  simp only [Option.bind_some]
  rw [R64.wrap (a := s - g) (by unfold R64; omega), R64.wrap (a := c - a) (by unfold R64; omega), R64.wrap (a := e + cd ((g - a) * r) 1073741824) (by unfold R64; omega), rpgrow_at _ (by omega) _ _ _ (by unfold R64; omega) (by unfold R64; omega) (by unfold R64; omega)]
  rfl
theorem rtold_at (k : Nat) (hk : 19 ≤ k) (a c s g e r n : Int) (hr : R64 r) (hn : R64 n) : fuseeref14_Told.f k a c s g e r n = some ((toldR a c s g e r n).1, (toldR a c s g e r n).2.1, numE (toldR a c s g e r n).2.2) := by
  unfold fuseeref14_Told.f toldR
  rw [rof_at k hk a c s g e r hr]
  unfold ofR
  simp only [Option.bind_some]
  unfold R64 at hn
  by_cases h : mayS a c s g e ∧ 0 ≤ r ∧ r ≤ 1048576
  case neg => rw [if_neg h, if_neg h]; rfl
  have hm := h.1
  unfold mayS at hm
  have h0 := h.2
  rw [if_pos h, if_pos h]
  rw [if_pos (show numE none = 0 from rfl)]
  have hc := cd_rng (n := g - a) (r := r) (by omega) (by omega) (by omega) (by omega)
  by_cases h1 : n ≥ 4611686018427387904
  · rw [if_pos h1, if_pos h1]; rfl
  rw [if_neg h1, if_neg (show ¬ 4611686018427387904 ≤ n by omega)]
  by_cases h2 : n < g
  · rw [if_pos h2, if_pos h2]; rfl
  rw [if_neg h2, if_neg h2]
  have hc2 := cd_rng (n := n - g) (r := r) (by omega) (by omega) (by omega) (by omega)
  rw [rsum_at k (by omega) _ _ (sat_range _) hn, rsum_at k (by omega) _ _ (sat_range _) hn]
  simp only [Option.bind_some, rbounded_eq]
  rw [R64.wrap (a := n - g) (by unfold R64; omega), rmore_eq r (n - g) (by omega) (by omega) (by omega) (by omega)]
  simp only [Option.bind_some]
  rw [rpgrow_at _ (by omega) _ _ _ (sat_range _) (sat_range _) (by unfold R64; omega)]
  rfl
end Go.Proofs.YtpihgdehgkclmaaDoor.MSa
