/-
  SpanSteps in plain numbers.
-/
import Derived.Test.YtfipgpfmlkfkfaaDoorK
import Derived.Test.YtfipgpfmlkfkfaaDoorAvg
import Derived.Test.YtfipgpfmlkfkfaaDoorMSpanStepsx
namespace Go.Proofs.YtfipgpfmlkfkfaaDoor.MSpanSteps
open Go.RowKit Go.Proofs.YtfipgpfmlkfkfaaDoorW.PrintWords Go.Proofs.YtfipgpfmlkfkfaaDoorW.PrintMore
set_option linter.unusedVariables false
set_option linter.unusedSimpArgs false

/-- the printed error is the error as a value -/
theorem errW_errV (o : Option Int) : errW o = errV o := by cases o <;> rfl
theorem pSub (a b : Int) (ha : R64 a) (hb : R64 b) : num_Sub.f a b = some (if R64 (a - b) then (a - b, none) else (0, some 2)) := by
  unfold num_Sub.f
  by_cases h : R64 (a - b)
  · rw [if_pos h, h.wrap, if_neg]
    unfold R64 at *
    by_cases h0 : b < 0 <;> simp [h0] <;> omega
  · rw [if_neg h, if_pos]
    unfold R64 at *
    by_cases h0 : b < 0
    · have : ¬ wrap64 (a - b) > a := by unfold wrap64; omega
      simp [h0]; omega
    · have : wrap64 (a - b) > a := by unfold wrap64; omega
      simp [h0]; omega
theorem pAdd (a b : Int) (ha : R64 a) (hb : R64 b) : num_Add.f a b = some (if R64 (a + b) then (a + b, none) else (0, some 2)) := by
  unfold num_Add.f
  by_cases h : R64 (a + b)
  · rw [if_pos h, h.wrap, if_neg]
    unfold R64 at *
    by_cases h0 : b < 0 <;> simp [h0] <;> omega
  · rw [if_neg h, if_pos]
    unfold R64 at *
    by_cases h0 : b < 0
    · have : ¬ wrap64 (a + b) < a := by unfold wrap64; omega
      simp [h0]; omega
    · have : wrap64 (a + b) < a := by unfold wrap64; omega
      simp [h0]; omega
theorem pSubSat (a b : Int) (ha : R64 a) (hb : R64 b) : num_SubSat.f a b = some (sat (a - b)) := by
  unfold num_SubSat.f num_edge.f
  rw [pSub a b ha hb]
  by_cases h : R64 (a - b)
  · rw [if_pos h, sat_of h]; rfl
  · rw [if_neg h]
    unfold R64 at *
    by_cases h0 : b > 0
    · simp [h0]; unfold sat; rw [if_pos (by omega)]
    · simp [h0]; unfold sat; rw [if_neg (by omega), if_pos (by omega)]
theorem pAddSat (a b : Int) (ha : R64 a) (hb : R64 b) : num_AddSat.f a b = some (sat (a + b)) := by
  unfold num_AddSat.f num_edge.f
  rw [pAdd a b ha hb]
  by_cases h : R64 (a + b)
  · rw [if_pos h, sat_of h]; rfl
  · rw [if_neg h]
    unfold R64 at *
    by_cases h0 : b < 0
    · simp [h0]; unfold sat; rw [if_pos (by omega)]
    · simp [h0]; unfold sat; rw [if_neg (by omega), if_pos (by omega)]
theorem prSum (k : Nat) (a b : Int) (ha : R64 a) (hb : R64 b) : fuseeref01_Sum.f (k + 1) a b = some (rng (a + b)) := by
  unfold fuseeref01_Sum.f rng
  have w1 : 0 < b → wrap64 (9223372036854775807 - b) = 9223372036854775807 - b := fun h => R64.wrap (by unfold R64 at *; omega)
  have w2 : b < 0 → wrap64 (-9223372036854775808 - b) = -9223372036854775808 - b := fun h => R64.wrap (by unfold R64 at *; omega)
  by_cases hr : R64 (a + b)
  · rw [if_pos hr]
    by_cases h0 : b > 0
    · rw [if_pos h0, w1 h0]
      simp only [fuseeref01_Sum.j0]
      rw [if_neg (by unfold R64 at *; simp; omega), if_neg (by omega), hr.wrap]
    · rw [if_neg h0]
      simp only [fuseeref01_Sum.j0]
      by_cases h1 : b < 0
      · rw [if_neg (by simp), if_pos h1, w2 h1, if_neg (by unfold R64 at *; omega), hr.wrap]
      · rw [if_neg (by simp), if_neg h1, hr.wrap]
  · rw [if_neg hr]
    by_cases h0 : b > 0
    · rw [if_pos h0, w1 h0, if_pos (by unfold R64 at *; omega)]
      simp only [fuseeref01_Sum.j0]
      rw [if_pos (by unfold R64 at *; simp; omega)]
    · rw [if_neg h0, if_neg (by unfold R64 at *; omega)]
      simp only [fuseeref01_Sum.j0]
      have h1 : b < 0 := by unfold R64 at *; omega
      rw [if_neg (by simp), if_pos h1, w2 h1, if_pos (by unfold R64 at *; omega)]
theorem prLess (k : Nat) (a b : Int) (ha : R64 a) (hb : R64 b) : fuseeref01_Less.f (k + 1) a b = some (rng (a - b)) := by
  unfold fuseeref01_Less.f rng
  have w1 : b < 0 → wrap64 (9223372036854775807 + b) = 9223372036854775807 + b := fun h => R64.wrap (by unfold R64 at *; omega)
  have w2 : 0 < b → wrap64 (-9223372036854775808 + b) = -9223372036854775808 + b := fun h => R64.wrap (by unfold R64 at *; omega)
  by_cases hr : R64 (a - b)
  · rw [if_pos hr]
    by_cases h0 : b < 0
    · rw [if_pos h0, w1 h0]
      simp only [fuseeref01_Less.j0]
      rw [if_neg (by unfold R64 at *; simp; omega), if_neg (by omega), hr.wrap]
    · rw [if_neg h0]
      simp only [fuseeref01_Less.j0]
      by_cases h1 : b > 0
      · rw [if_neg (by simp), if_pos h1, w2 h1, if_neg (by unfold R64 at *; omega), hr.wrap]
      · rw [if_neg (by simp), if_neg h1, hr.wrap]
  · rw [if_neg hr]
    by_cases h0 : b < 0
    · rw [if_pos h0, w1 h0, if_pos (by unfold R64 at *; omega)]
      simp only [fuseeref01_Less.j0]
      rw [if_pos (by unfold R64 at *; simp; omega)]
    · rw [if_neg h0, if_neg (by unfold R64 at *; omega)]
      simp only [fuseeref01_Less.j0]
      have h1 : b > 0 := by unfold R64 at *; omega
      rw [if_neg (by simp), if_pos h1, w2 h1, if_pos (by unfold R64 at *; omega)]
theorem prBnd (x : Int) : fuseeref01_Bounded.f (rng x).1 (rng x).2 = some (sat x) := by
  unfold fuseeref01_Bounded.f rng
  by_cases h : R64 x
  · rw [if_pos h, sat_of h]; simp
  · rw [if_neg h]
    unfold R64 at h
    by_cases h0 : 0 < x
    · rw [if_pos h0]; simp; unfold sat; rw [if_neg (by omega), if_pos (by omega)]
    · rw [if_neg h0]; simp; unfold sat; rw [if_pos (by omega)]
theorem prDiv (a b : Int) (ha : R64 a) (hb : R64 b) (h : 1 ≤ b) : fuseeref01_Div.f a b = some (a / b, a % b) := by
  unfold fuseeref01_Div.f
  have hr0 := Int.emod_nonneg a (show b ≠ 0 by omega)
  have hr1 := Int.emod_lt_of_pos a (show 0 < b by omega)
  have hq := div_bounds ha h
  have ht := (tdiv_range ha h).wrap
  have hd := Int.mul_ediv_add_emod a b
  have hcomm : a / b * b = b * (a / b) := Int.mul_comm _ _
  have hlast : wrap64 (a - wrap64 (a / b * b)) = a % b := by rw [hcomm]; unfold R64 at *; unfold wrap64; omega
  rw [if_neg (by omega), ht]
  rcases Int.lt_or_le a 0 with h0 | h0
  · have e1 := tdiv_neg h0 h
    rw [if_pos h0]
    by_cases hz : a % b = 0
    · rw [if_pos hz, Int.add_zero] at e1
      have e5 : wrap64 (a / b * b) = a := by rw [hcomm, show b * (a / b) = a by omega]; exact ha.wrap
      rw [e1, if_pos e5, hlast]
    · rw [if_neg hz] at e1
      have e5 : ¬ wrap64 ((a / b + 1) * b) = a := by
        have : (a / b + 1) * b = b * (a / b) + b := by rw [Int.add_mul, hcomm, Int.one_mul]
        rw [this]; unfold R64 at *; unfold wrap64; omega
      have e6 : a / b + 1 - 1 = a / b := by omega
      rw [e1, if_neg e5, e6, hq.1.wrap, hlast]
  · rw [if_neg (by omega), tdiv_of_nonneg h0, hlast]

theorem mx_eq (a b : Int) : mx a b = max a b := by unfold mx; omega
theorem mn_eq (a b : Int) : mn a b = min a b := by unfold mn; omega
theorem has_eq (a b n : Int) : span_Has.f a b n = some (decide (a ≤ n ∧ n ≤ b)) := by
  unfold span_Has.f
  split
  · congr 1; rw [decide_eq_decide]; omega
  · rw [decide_eq_false (by omega)]
theorem pcheck_eq (a b : Int) : span_Check.f a b = some (if a ≤ b then none else some 1) := by
  unfold span_Check.f
  split
  · rw [if_neg (by omega)]
  · rw [if_pos (by omega)]
/-- what two spans have together -/
def meetR (a b c d : Int) : Int × Int × Bool := if a ≤ b ∧ c ≤ d ∧ max a c ≤ min b d then (max a c, min b d, true) else (0, 0, false)
theorem meet_eq (a b c d : Int) : span_Meet.f a b c d = some (meetR a b c d) := by
  unfold span_Meet.f meetR
  simp only [pcheck_eq, mx_eq, mn_eq, Option.bind_some]
  by_cases h1 : a ≤ b
  · rw [if_pos h1]
    simp only [Option.isNone_none, if_true]
    by_cases h2 : c ≤ d
    · rw [if_pos h2]
      simp only [Option.isNone_none, if_true]
      by_cases h3 : max a c ≤ min b d
      · rw [if_pos h3, if_pos (show a ≤ b ∧ c ≤ d ∧ max a c ≤ min b d from ⟨h1, h2, h3⟩)]; simp
      · rw [if_neg h3, if_neg (show ¬ (a ≤ b ∧ c ≤ d ∧ max a c ≤ min b d) from fun h => h3 h.2.2)]; simp
    · rw [if_neg h2, if_neg (show ¬ (a ≤ b ∧ c ≤ d ∧ max a c ≤ min b d) from fun h => h2 h.2.1)]; simp
  · rw [if_neg h1, if_neg (show ¬ (a ≤ b ∧ c ≤ d ∧ max a c ≤ min b d) from fun h => h1 h.1)]; simp
theorem mid_eq (a b : Int) (ha : R64 a) (hb : R64 b) : span_Mid.f a b = some (if a ≤ b then ((a + b) / 2, sat (b - (a + b) / 2), none) else (0, 0, some 1)) := by
  unfold span_Mid.f
  rw [pcheck_eq]
  simp only [Option.bind_some]
  obtain ⟨m1, m2⟩ := mid_bits ha hb
  have m3 : R64 ((a + b) / 2) := by unfold R64 at *; omega
  rw [m1, m3.wrap]
  by_cases h : a ≤ b
  · rw [if_pos h, if_pos h]
    simp only [Option.isNone_none, if_true]
    rw [pSubSat _ _ hb m3]; simp
  · rw [if_neg h, if_neg h]; simp
theorem pgrow_at (k : Nat) (hk : 1 ≤ k) (a b n : Int) (ha : R64 a) (hb : R64 b) (hn : R64 n) : span_Grow.f k a b n = some (if a ≤ b ∧ 0 ≤ n then (sat (a - n), sat (b + n), none) else (0, 0, some 1)) := by
  obtain ⟨k, rfl⟩ : ∃ m, k = m + 1 := ⟨k - 1, by omega⟩
  unfold span_Grow.f
  rw [pcheck_eq]
  simp only [Option.bind_some]
  by_cases h : a ≤ b
  · rw [if_pos h]
    simp only [Option.isNone_none, if_true]
    by_cases h0 : n < 0
    · rw [decide_eq_true h0, if_neg (show ¬ (a ≤ b ∧ 0 ≤ n) by omega)]; simp [span_Grow.j0]
    · rw [decide_eq_false h0, if_pos (show a ≤ b ∧ 0 ≤ n by omega)]
      simp only [span_Grow.j0]
      rw [if_neg (by simp), pSubSat _ _ ha hn]
      simp only [Option.bind_some]
      rw [pAddSat _ _ hb hn]
      simp
  · rw [if_neg h, if_neg (show ¬ (a ≤ b ∧ 0 ≤ n) by omega)]
    simp [span_Grow.j0]

theorem sure_at (k : Nat) (hk : 30 ≤ k) : fuseelaw13_sure.f k = some true :=
  at_rounds (g := fuseelaw13_sure.f) (fun k => fuseelaw13_sure.mono k) hk (by decide +kernel)

theorem rmid_at (k : Nat) (hk : 1 ≤ k) (a b : Int) (ha : R64 a) (hb : R64 b) : fuseeref13_Mid.f k a b = some ((a + b) / 2, sat (b - (a + b) / 2)) := by
  obtain ⟨k, rfl⟩ : ∃ m, k = m + 1 := ⟨k - 1, by omega⟩
  unfold fuseeref13_Mid.f
  rw [prDiv a 2 ha (by unfold R64; omega) (by omega)]
  simp only [Option.bind_some]
  rw [prDiv b 2 hb (by unfold R64; omega) (by omega)]
  simp only [Option.bind_some]
  rw [R64.wrap (a := a / 2 + b / 2) (by unfold R64 at *; omega), R64.wrap (a := a % 2 + b % 2) (by unfold R64; omega), Int.tdiv_eq_ediv_of_nonneg (show 0 ≤ a % 2 + b % 2 by omega), R64.wrap (a := (a % 2 + b % 2) / 2) (by unfold R64; omega), R64.wrap (a := a / 2 + b / 2 + (a % 2 + b % 2) / 2) (by unfold R64 at *; omega)]
  rw [show a / 2 + b / 2 + (a % 2 + b % 2) / 2 = (a + b) / 2 by omega]
  rw [prLess k b _ hb (by unfold R64 at *; omega)]
  simp only [Option.bind_some]
  rw [prBnd]; simp
theorem rgrow_at (k : Nat) (hk : 1 ≤ k) (a b n : Int) (ha : R64 a) (hb : R64 b) (hn : R64 n) : fuseeref13_Grow.f k a b n = some (sat (a - n), sat (b + n)) := by
  obtain ⟨k, rfl⟩ : ∃ m, k = m + 1 := ⟨k - 1, by omega⟩
  unfold fuseeref13_Grow.f
  rw [prLess k a n ha hn]
  simp only [Option.bind_some]
  rw [prSum k b n hb hn]
  simp only [Option.bind_some]
  rw [prBnd]
  simp only [Option.bind_some]
  rw [prBnd]; simp

theorem steps (k : Nat) (hk : 40 ≤ k) (a b c d n : Int) (ha : R64 a) (hb : R64 b) (hc : R64 c) (hd : R64 d) (hn : R64 n) : fuseelaw13_SpanSteps.f k a b c d n = some true := by
  obtain ⟨k, rfl⟩ : ∃ m, k = m + 4 := ⟨k - 4, by omega⟩
  -- the end
  have E3 : a ≤ b → fuseelaw13_SpanSteps.j3 (k + 1) n (if a ≤ b ∧ 0 ≤ n then (sat (a - n), sat (b + n), none) else (0, 0, some 1) : Int × Int × Option Int).2.2 false a b (if a ≤ b ∧ 0 ≤ n then (sat (a - n), sat (b + n), none) else (0, 0, some 1) : Int × Int × Option Int).1 (if a ≤ b ∧ 0 ≤ n then (sat (a - n), sat (b + n), none) else (0, 0, some 1) : Int × Int × Option Int).2.1 = some true := by
    intro h
    simp only [fuseelaw13_SpanSteps.j3]
    rw [if_neg (by simp)]
    by_cases h0 : n < 0
    · rw [if_pos h0, if_neg (show ¬ (a ≤ b ∧ 0 ≤ n) by omega)]
      simp only [fuseelaw13_num.f, numE, Option.bind_some, if_true, BEq.rfl, Bool.and_self]
      rw [sure_at _ (by omega)]; rfl
    · rw [if_neg h0, if_pos (show a ≤ b ∧ 0 ≤ n by omega)]
      simp only [Option.isNone_none, if_true]
      rw [rgrow_at k (by omega) a b n ha hb hn]
      simp only [Option.bind_some, BEq.rfl, Bool.and_self, if_true]
      rw [sure_at _ (by omega)]; rfl
  have E2 : fuseelaw13_SpanSteps.j2 (k + 2) n (if a ≤ b ∧ 0 ≤ n then (sat (a - n), sat (b + n), none) else (0, 0, some 1) : Int × Int × Option Int).2.2
      (if a ≤ b then ((a + b) / 2, sat (b - (a + b) / 2), none) else (0, 0, some 1) : Int × Int × Option Int).1 (if a ≤ b then ((a + b) / 2, sat (b - (a + b) / 2), none) else (0, 0, some 1) : Int × Int × Option Int).2.1 (if a ≤ b then ((a + b) / 2, sat (b - (a + b) / 2), none) else (0, 0, some 1) : Int × Int × Option Int).2.2
      false a b (if a ≤ b ∧ 0 ≤ n then (sat (a - n), sat (b + n), none) else (0, 0, some 1) : Int × Int × Option Int).1 (if a ≤ b ∧ 0 ≤ n then (sat (a - n), sat (b + n), none) else (0, 0, some 1) : Int × Int × Option Int).2.1 = some true := by
    simp only [fuseelaw13_SpanSteps.j2]
    rw [if_neg (by simp)]
    by_cases h : a > b
    · rw [if_pos h, if_neg (show ¬ (a ≤ b ∧ 0 ≤ n) by omega), if_neg (show ¬ (a ≤ b) by omega)]
      simp only [fuseelaw13_num.f, numE, Option.bind_some, if_true, BEq.rfl, Bool.and_self]
      rw [sure_at _ (by omega)]; rfl
    · rw [if_neg h, rmid_at (k + 1) (by omega) a b ha hb, if_pos (show a ≤ b by omega)]
      simp only [Option.bind_some, Option.isNone_none, if_true, bne_self_eq_false]
      exact E3 (by omega)
  have E1 : fuseelaw13_SpanSteps.j1 (k + 3) n (meetR a b c d).2.2 (if a ≤ b ∧ 0 ≤ n then (sat (a - n), sat (b + n), none) else (0, 0, some 1) : Int × Int × Option Int).2.2
      (if a ≤ b then ((a + b) / 2, sat (b - (a + b) / 2), none) else (0, 0, some 1) : Int × Int × Option Int).1 (if a ≤ b then ((a + b) / 2, sat (b - (a + b) / 2), none) else (0, 0, some 1) : Int × Int × Option Int).2.1 (if a ≤ b then ((a + b) / 2, sat (b - (a + b) / 2), none) else (0, 0, some 1) : Int × Int × Option Int).2.2
      (decide (a ≤ b ∧ c ≤ d ∧ a ≤ d ∧ c ≤ b)) a b c d (meetR a b c d).1 (meetR a b c d).2.1 (if a ≤ b ∧ 0 ≤ n then (sat (a - n), sat (b + n), none) else (0, 0, some 1) : Int × Int × Option Int).1 (if a ≤ b ∧ 0 ≤ n then (sat (a - n), sat (b + n), none) else (0, 0, some 1) : Int × Int × Option Int).2.1 = some true := by
    simp only [fuseelaw13_SpanSteps.j1, mx_eq, mn_eq]
    unfold meetR
    by_cases h : a ≤ b ∧ c ≤ d ∧ max a c ≤ min b d
    · rw [if_pos h, decide_eq_true (show a ≤ b ∧ c ≤ d ∧ a ≤ d ∧ c ≤ b by omega)]
      simp only [bne_self_eq_false, Bool.false_eq_true, if_false, if_true, BEq.rfl, Bool.not_true, Bool.or_self]
      exact E2
    · rw [if_neg h, decide_eq_false (show ¬ (a ≤ b ∧ c ≤ d ∧ a ≤ d ∧ c ≤ b) by omega)]
      simp only [bne_self_eq_false, Bool.false_eq_true, if_false, BEq.rfl, Bool.not_true, Bool.or_self]
      exact E2
  have E0 : fuseelaw13_SpanSteps.j0 (k + 4) n (meetR a b c d).2.2 (if a ≤ b ∧ 0 ≤ n then (sat (a - n), sat (b + n), none) else (0, 0, some 1) : Int × Int × Option Int).2.2
      (if a ≤ b then ((a + b) / 2, sat (b - (a + b) / 2), none) else (0, 0, some 1) : Int × Int × Option Int).1 (if a ≤ b then ((a + b) / 2, sat (b - (a + b) / 2), none) else (0, 0, some 1) : Int × Int × Option Int).2.1 (if a ≤ b then ((a + b) / 2, sat (b - (a + b) / 2), none) else (0, 0, some 1) : Int × Int × Option Int).2.2
      false a b c d (meetR a b c d).1 (meetR a b c d).2.1 (if a ≤ b ∧ 0 ≤ n then (sat (a - n), sat (b + n), none) else (0, 0, some 1) : Int × Int × Option Int).1 (if a ≤ b ∧ 0 ≤ n then (sat (a - n), sat (b + n), none) else (0, 0, some 1) : Int × Int × Option Int).2.1 = some true := by
    simp only [fuseelaw13_SpanSteps.j0]
    rw [if_neg (show ¬ (false = true) by simp)]
    by_cases h1 : a ≤ b
    · rw [if_pos h1]
      by_cases h2 : c ≤ d
      · rw [if_pos h2]
        by_cases h3 : a ≤ d
        · rw [if_pos h3, show decide (c ≤ b) = decide (a ≤ b ∧ c ≤ d ∧ a ≤ d ∧ c ≤ b) by rw [decide_eq_decide]; omega]; exact E1
        · rw [if_neg h3, show false = decide (a ≤ b ∧ c ≤ d ∧ a ≤ d ∧ c ≤ b) from (decide_eq_false (by omega)).symm]; exact E1
      · rw [if_neg h2, show false = decide (a ≤ b ∧ c ≤ d ∧ a ≤ d ∧ c ≤ b) from (decide_eq_false (by omega)).symm]; exact E1
    · rw [if_neg h1, show false = decide (a ≤ b ∧ c ≤ d ∧ a ≤ d ∧ c ≤ b) from (decide_eq_false (by omega)).symm]; exact E1
  unfold fuseelaw13_SpanSteps.f
  rw [meet_eq]
  simp only [Option.bind_some]
  rw [pgrow_at _ (by omega) a b n ha hb hn]
  simp only [Option.bind_some]
  rw [mid_eq a b ha hb]
  simp only [Option.bind_some, has_eq]
  rw [pcheck_eq]
  simp only [Option.bind_some]
  by_cases h0 : a ≤ n
  · rw [if_pos h0, show decide (a ≤ n ∧ n ≤ b) = decide (n ≤ b) by rw [decide_eq_decide]; omega]
    rw [if_neg (show ¬ ((decide (n ≤ b) != decide (n ≤ b)) = true) by simp)]
    by_cases h : a ≤ b
    · rw [if_pos (show (if a ≤ b then none else some 1 : Option Int).isNone = true by rw [if_pos h]; rfl), decide_eq_true h]; exact E0
    · rw [if_neg (show ¬ ((if a ≤ b then none else some 1 : Option Int).isNone = true) by rw [if_neg h]; simp), decide_eq_false h]; exact E0
  · rw [if_neg h0, if_neg (show ¬ (decide (a ≤ n ∧ n ≤ b) = true) by simp; omega)]
    by_cases h : a ≤ b
    · rw [if_pos (show (if a ≤ b then none else some 1 : Option Int).isNone = true by rw [if_pos h]; rfl), decide_eq_true h]; exact E0
    · rw [if_neg (show ¬ ((if a ≤ b then none else some 1 : Option Int).isNone = true) by rw [if_neg h]; simp), decide_eq_false h]; exact E0
theorem done (a b c d n : Int) (ha : (Lit.int .i64 a).wf = true) (hb : (Lit.int .i64 b).wf = true) (hc : (Lit.int .i64 c).wf = true) (hd : (Lit.int .i64 d).wf = true) (hn : (Lit.int .i64 n).wf = true) : ∃ k, fuseelaw13_SpanSteps.f k a b c d n = some true :=
  ⟨40, steps 40 (by omega) a b c d n (R64.of_wf ha) (R64.of_wf hb) (R64.of_wf hc) (R64.of_wf hd) (R64.of_wf hn)⟩
end Go.Proofs.YtfipgpfmlkfkfaaDoor.MSpanSteps
