/-
  SpanMeets in plain numbers.
-/
import Derived.Test.YtfipgpfmlkfkfaaDoorK
import Derived.Test.YtfipgpfmlkfkfaaDoorAvg
import Derived.Test.YtfipgpfmlkfkfaaDoorMSpanMeetsx
namespace Go.Proofs.YtfipgpfmlkfkfaaDoor.MSpanMeets
open Go.RowKit Go.Proofs.YtfipgpfmlkfkfaaDoorW.PrintWords Go.Proofs.YtfipgpfmlkfkfaaDoorW.PrintMore
set_option linter.unusedVariables false
set_option linter.unusedSimpArgs false

/-- the printed error is the error as a value -/
theorem errW_errV (o : Option Int) : errW o = errV o := by cases o <;> rfl
theorem pSub (a b : Int) (ha : R64 a) (hb : R64 b) : num_Sub.f a b = some (if R64 (a - b) then (a - b, none) else (0, some 2)) := by
  unfold num_Sub.f
  by_cases h : R64 (a - b)
  · rw [if_pos h, h.wrap, if_neg]
    unfold R64 at *
    by_cases h0 : b < 0 <;> simp [h0] <;> omega
  · rw [if_neg h, if_pos]
    unfold R64 at *
    by_cases h0 : b < 0
    · have : ¬ wrap64 (a - b) > a := by unfold wrap64; omega
      simp [h0]; omega
    · have : wrap64 (a - b) > a := by unfold wrap64; omega
      simp [h0]; omega
theorem pAdd (a b : Int) (ha : R64 a) (hb : R64 b) : num_Add.f a b = some (if R64 (a + b) then (a + b, none) else (0, some 2)) := by
  unfold num_Add.f
  by_cases h : R64 (a + b)
  · rw [if_pos h, h.wrap, if_neg]
    unfold R64 at *
    by_cases h0 : b < 0 <;> simp [h0] <;> omega
  · rw [if_neg h, if_pos]
    unfold R64 at *
    by_cases h0 : b < 0
    · have : ¬ wrap64 (a + b) < a := by unfold wrap64; omega
      simp [h0]; omega
    · have : wrap64 (a + b) < a := by unfold wrap64; omega
      simp [h0]; omega
theorem pSubSat (a b : Int) (ha : R64 a) (hb : R64 b) : num_SubSat.f a b = some (sat (a - b)) := by
  unfold num_SubSat.f num_edge.f
  rw [pSub a b ha hb]
  by_cases h : R64 (a - b)
  · rw [if_pos h, sat_of h]; rfl
  · rw [if_neg h]
    unfold R64 at *
    by_cases h0 : b > 0
    · simp [h0]; unfold sat; rw [if_pos (by omega)]
    · simp [h0]; unfold sat; rw [if_neg (by omega), if_pos (by omega)]
theorem pAddSat (a b : Int) (ha : R64 a) (hb : R64 b) : num_AddSat.f a b = some (sat (a + b)) := by
  unfold num_AddSat.f num_edge.f
  rw [pAdd a b ha hb]
  by_cases h : R64 (a + b)
  · rw [if_pos h, sat_of h]; rfl
  · rw [if_neg h]
    unfold R64 at *
    by_cases h0 : b < 0
    · simp [h0]; unfold sat; rw [if_pos (by omega)]
    · simp [h0]; unfold sat; rw [if_neg (by omega), if_pos (by omega)]

theorem mx_eq (a b : Int) : mx a b = max a b := by unfold mx; omega
theorem mn_eq (a b : Int) : mn a b = min a b := by unfold mn; omega
theorem has_eq (a b n : Int) : span_Has.f a b n = some (decide (a ≤ n ∧ n ≤ b)) := by
  unfold span_Has.f
  split
  · congr 1; rw [decide_eq_decide]; omega
  · rw [decide_eq_false (by omega)]
theorem pcheck_eq (a b : Int) : span_Check.f a b = some (if a ≤ b then none else some 1) := by
  unfold span_Check.f
  split
  · rw [if_neg (by omega)]
  · rw [if_pos (by omega)]
/-- what two spans have together -/
def meetR (a b c d : Int) : Int × Int × Bool := if a ≤ b ∧ c ≤ d ∧ max a c ≤ min b d then (max a c, min b d, true) else (0, 0, false)
theorem meet_eq (a b c d : Int) : span_Meet.f a b c d = some (meetR a b c d) := by
  unfold span_Meet.f meetR
  simp only [pcheck_eq, mx_eq, mn_eq, Option.bind_some]
  by_cases h1 : a ≤ b
  · rw [if_pos h1]
    simp only [Option.isNone_none, if_true]
    by_cases h2 : c ≤ d
    · rw [if_pos h2]
      simp only [Option.isNone_none, if_true]
      by_cases h3 : max a c ≤ min b d
      · rw [if_pos h3, if_pos (show a ≤ b ∧ c ≤ d ∧ max a c ≤ min b d from ⟨h1, h2, h3⟩)]; simp
      · rw [if_neg h3, if_neg (show ¬ (a ≤ b ∧ c ≤ d ∧ max a c ≤ min b d) from fun h => h3 h.2.2)]; simp
    · rw [if_neg h2, if_neg (show ¬ (a ≤ b ∧ c ≤ d ∧ max a c ≤ min b d) from fun h => h2 h.2.1)]; simp
  · rw [if_neg h1, if_neg (show ¬ (a ≤ b ∧ c ≤ d ∧ max a c ≤ min b d) from fun h => h1 h.1)]; simp
theorem mid_eq (a b : Int) (ha : R64 a) (hb : R64 b) : span_Mid.f a b = some (if a ≤ b then ((a + b) / 2, sat (b - (a + b) / 2), none) else (0, 0, some 1)) := by
  unfold span_Mid.f
  rw [pcheck_eq]
  simp only [Option.bind_some]
  obtain ⟨m1, m2⟩ := mid_bits ha hb
  have m3 : R64 ((a + b) / 2) := by unfold R64 at *; omega
  rw [m1, m3.wrap]
  by_cases h : a ≤ b
  · rw [if_pos h, if_pos h]
    simp only [Option.isNone_none, if_true]
    rw [pSubSat _ _ hb m3]; simp
  · rw [if_neg h, if_neg h]; simp
theorem pgrow_at (k : Nat) (hk : 1 ≤ k) (a b n : Int) (ha : R64 a) (hb : R64 b) (hn : R64 n) : span_Grow.f k a b n = some (if a ≤ b ∧ 0 ≤ n then (sat (a - n), sat (b + n), none) else (0, 0, some 1)) := by
  obtain ⟨k, rfl⟩ : ∃ m, k = m + 1 := ⟨k - 1, by omega⟩
  unfold span_Grow.f
  rw [pcheck_eq]
  simp only [Option.bind_some]
  by_cases h : a ≤ b
  · rw [if_pos h]
    simp only [Option.isNone_none, if_true]
    by_cases h0 : n < 0
    · rw [decide_eq_true h0, if_neg (show ¬ (a ≤ b ∧ 0 ≤ n) by omega)]; simp [span_Grow.j0]
    · rw [decide_eq_false h0, if_pos (show a ≤ b ∧ 0 ≤ n by omega)]
      simp only [span_Grow.j0]
      rw [if_neg (by simp), pSubSat _ _ ha hn]
      simp only [Option.bind_some]
      rw [pAddSat _ _ hb hn]
      simp
  · rw [if_neg h, if_neg (show ¬ (a ≤ b ∧ 0 ≤ n) by omega)]
    simp [span_Grow.j0]

theorem sure_at (k : Nat) (hk : 30 ≤ k) : fuseelaw13_sure.f k = some true :=
  at_rounds (g := fuseelaw13_sure.f) (fun k => fuseelaw13_sure.mono k) hk (by decide +kernel)

theorem tail (k : Nat) (hk : 40 ≤ k) (a b c d o0 o1 : Int) (ha : R64 a) (hb : R64 b) (hc : R64 c) (hd : R64 d) (ho : -2147483648 ≤ o1 ∧ o1 ≤ 2147483647) : fuseelaw13_SpanMeets.j1 k false a b o0 o1 a b = some true := by
  obtain ⟨k, rfl⟩ : ∃ m, k = m + 2 := ⟨k - 2, by omega⟩
  simp only [fuseelaw13_SpanMeets.j1]
  rw [if_neg (by simp), R64.wrap (a := o1) (by unfold R64; omega), pgrow_at _ (by omega) a b o1 ha hb (by unfold R64; omega), pcheck_eq]
  simp only [Option.bind_some]
  by_cases h : a ≤ b
  · rw [if_pos h]
    simp only [Option.isNone_none, if_true]
    by_cases h0 : o1 < 0
    · rw [decide_eq_true h0, if_neg (show ¬ (a ≤ b ∧ 0 ≤ o1) by omega)]
      simp only [fuseelaw13_SpanMeets.j2, if_true, fuseelaw13_num.f, numE, Option.bind_some]
      rw [sure_at _ (by omega)]; rfl
    · rw [decide_eq_false h0, if_pos (show a ≤ b ∧ 0 ≤ o1 by omega)]
      simp only [fuseelaw13_SpanMeets.j2]
      rw [if_neg (by simp), mid_eq a b ha hb, if_pos h]
      simp only [Option.bind_some, Option.isNone_none, if_true]
      have s1 : sat (a - o1) ≤ a ∧ a ≤ sat (b + o1) ∧ sat (a - o1) ≤ b ∧ b ≤ sat (b + o1) := by
        have x1 := sat_mono (show a - o1 ≤ a by omega); have x2 := sat_mono (show b ≤ b + o1 by omega)
        rw [sat_of ha] at x1; rw [sat_of hb] at x2; omega
      have s2 : R64 (b - (a + b) / 2) ∨ 9223372036854775807 < b - (a + b) / 2 := by unfold R64 at *; omega
      have s3 : 0 ≤ sat (b - (a + b) / 2) := by
        have := sat_mono (show 0 ≤ b - (a + b) / 2 by omega); rw [sat_of (a := 0) (by unfold R64; omega)] at this; exact this
      simp only [has_eq, Option.bind_some, decide_eq_true_eq]
      rw [if_pos (by omega), if_pos (by omega), if_pos (by omega), if_pos (by omega)]
      by_cases g1 : a < -2305843009213693952
      · rw [if_pos g1, sure_at _ (by omega)]; rfl
      rw [if_neg g1]
      by_cases g2 : b > 2305843009213693952
      · rw [if_pos g2, sure_at _ (by omega)]; rfl
      rw [if_neg g2, sat_of (by unfold R64; omega), R64.wrap (by unfold R64; omega), if_pos (by omega), R64.wrap (by unfold R64; omega), if_pos (by omega), sure_at _ (by omega)]
      rfl
  · rw [if_neg h, if_neg (show ¬ (a ≤ b ∧ 0 ≤ o1) by omega)]
    simp only [Option.isNone_some, Bool.false_eq_true, if_false]
    simp only [fuseelaw13_SpanMeets.j2, if_true, fuseelaw13_num.f, numE, Option.bind_some]
    rw [sure_at _ (by omega)]; rfl
theorem meets (k : Nat) (hk : 44 ≤ k) (a b c d o0 o1 : Int) (ha : R64 a) (hb : R64 b) (hc : R64 c) (hd : R64 d) (h0 : -2147483648 ≤ o0 ∧ o0 ≤ 2147483647) (ho : -2147483648 ≤ o1 ∧ o1 ≤ 2147483647) : fuseelaw13_SpanMeets.f k a b c d o0 o1 = some true := by
  obtain ⟨k, rfl⟩ : ∃ m, k = m + 1 := ⟨k - 1, by omega⟩
  have T := tail k (by omega) a b c d o0 o1 ha hb hc hd ho
  have sym : meetR c d a b = meetR a b c d := by
    unfold meetR
    rw [show max c a = max a c by omega, show min d b = min b d by omega]
    by_cases h : a ≤ b ∧ c ≤ d ∧ max a c ≤ min b d
    · rw [if_pos h, if_pos (by omega)]
    · rw [if_neg h, if_neg (by omega)]
  have J : ∀ both : Bool, (both = true ↔ a ≤ b ∧ c ≤ d ∧ (a ≤ o0 ∧ o0 ≤ b) ∧ (c ≤ o0 ∧ o0 ≤ d)) →
      fuseelaw13_SpanMeets.j0 (k + 1) (meetR a b c d).2.2 (meetR c d a b).2.2 o0 both a b o0 o1 a b (meetR a b c d).1 (meetR a b c d).2.1 (meetR c d a b).1 (meetR c d a b).2.1 = some true := by
    intro both hb2
    rw [sym]
    simp only [fuseelaw13_SpanMeets.j0]
    rw [if_neg (by simp), if_neg (by simp)]
    unfold meetR
    cases both with
    | true =>
      have hx := hb2.1 rfl
      rw [if_pos (show a ≤ b ∧ c ≤ d ∧ max a c ≤ min b d by omega)]
      simp only [if_true, has_eq, Option.bind_some]
      rw [decide_eq_true (show max a c ≤ o0 ∧ o0 ≤ min b d by omega), if_pos rfl]; exact T
    | false =>
      have hx : ¬ (a ≤ b ∧ c ≤ d ∧ (a ≤ o0 ∧ o0 ≤ b) ∧ (c ≤ o0 ∧ o0 ≤ d)) := fun h => by have := hb2.2 h; cases this
      rw [if_neg (by simp)]
      by_cases h : a ≤ b ∧ c ≤ d ∧ max a c ≤ min b d
      · rw [if_pos h]
        simp only [if_true, has_eq, Option.bind_some]
        rw [decide_eq_false (show ¬ (max a c ≤ o0 ∧ o0 ≤ min b d) by omega)]; exact T
      · rw [if_neg h, if_neg (by simp)]; exact T
  unfold fuseelaw13_SpanMeets.f
  simp only [meet_eq, pcheck_eq, has_eq, Option.bind_some]
  rw [R64.wrap (a := o0) (by unfold R64; omega)]
  by_cases g1 : a ≤ b
  · rw [if_pos g1]
    simp only [Option.isNone_none, if_true]
    by_cases g2 : c ≤ d
    · rw [if_pos g2]
      simp only [Option.isNone_none, if_true, decide_eq_true_eq]
      by_cases g3 : a ≤ o0 ∧ o0 ≤ b
      · rw [if_pos g3]; exact J _ (by simp; omega)
      · rw [if_neg g3]; exact J _ (by simp; omega)
    · rw [if_neg g2]; simp only [Option.isNone_some, Bool.false_eq_true, if_false]; exact J _ (by simp; omega)
  · rw [if_neg g1]; simp only [Option.isNone_some, Bool.false_eq_true, if_false]; exact J _ (by simp; omega)
theorem done (a b c d o0 o1 : Int) (ha : (Lit.int .i64 a).wf = true) (hb : (Lit.int .i64 b).wf = true) (hc : (Lit.int .i64 c).wf = true) (hd : (Lit.int .i64 d).wf = true) (h0 : (Lit.int .i32 o0).wf = true) (h1 : (Lit.int .i32 o1).wf = true) : ∃ k, fuseelaw13_SpanMeets.f k a b c d o0 o1 = some true :=
  ⟨44, meets 44 (by omega) a b c d o0 o1 (R64.of_wf ha) (R64.of_wf hb) (R64.of_wf hc) (R64.of_wf hd) (bounds_i32 h0) (bounds_i32 h1)⟩
end Go.Proofs.YtfipgpfmlkfkfaaDoor.MSpanMeets
