/-
  DriftParts in plain numbers.
-/
import Derived.Test.YtpihgdehgkclmaaDoorK
import Derived.Test.YtpihgdehgkclmaaDoorMath
import Derived.Test.YtpihgdehgkclmaaDoorWideM
import Derived.Test.YtpihgdehgkclmaaDoorQ17W
namespace Go.Proofs.YtpihgdehgkclmaaDoor.MDriftParts
open Go.RowKit Go.Proofs.YtpihgdehgkclmaaDoorW.PrintWords Go.Proofs.YtpihgdehgkclmaaDoorW.PrintMore
set_option linter.unusedVariables false
set_option linter.unusedSimpArgs false

/-- a quotient rounded up -/
def cd (x c : Int) : Int := -((-x) / c)
theorem drift_wrong_eq (e r n : Int) : drift_wrong.f e r n = some (decide (e < 0 ∨ r < 0 ∨ 2097152 < r ∨ n < 0)) := by
  unfold drift_wrong.f
  repeat' split
  all_goals first
    | rw [decide_eq_true (by omega)]
    | (congr 1; rw [decide_eq_decide]; omega)
theorem grow_eq (k : Nat) (e r n : Int) (he : R64 e) (hr : R64 r) (hn : R64 n) : drift_Grow.f (k + 18) e r n = some (if e < 0 ∨ r < 0 ∨ 2097152 < r ∨ n < 0 then (0, some 1) else (sat (e + cd (n * r) 1073741824), none)) := by
  unfold drift_Grow.f
  rw [drift_wrong_eq]
  simp only [Option.bind_some]
  by_cases h : e < 0 ∨ r < 0 ∨ 2097152 < r ∨ n < 0
  · rw [if_pos h, decide_eq_true h, if_pos rfl]
  · rw [if_neg h, decide_eq_false h, if_neg (by simp)]
    unfold R64 at he hr hn
    have hp : 0 ≤ n * r := Int.mul_nonneg (by omega) (by omega)
    have hp2 : n * r ≤ 9223372036854775807 * 2097152 := Int.mul_le_mul (by omega) (by omega) (by omega) (by omega)
    rw [R64.wrap (a := -n) (by unfold R64; omega), pMulDiv k (-n) r 1073741824 (by unfold R64; omega) (by unfold R64; omega) (by unfold R64; omega)]
    unfold mdR
    rw [if_neg (by omega), Int.neg_mul, if_pos (by unfold R64; omega)]
    simp only [Option.bind_some, Option.isNone_none, if_true]
    rw [pSubSat _ _ (by unfold R64; omega) (by unfold R64; omega)]
    simp only [Option.bind_some]
    rw [show e - -(n * r) / 1073741824 = e + cd (n * r) 1073741824 by unfold cd; omega]
/-- for how long an error stays at most so much -/
def untilR (e r l : Int) : Int × Option Int :=
  if e < 0 ∨ r < 0 ∨ 2097152 < r ∨ l < 0 then (0, some 1) else if l < e then (0, some 10) else if r = 0 ∨ l = 9223372036854775807 then (9223372036854775807, none) else (min 9223372036854775807 ((l - e) * 1073741824 / r), none)
theorem until_eq (k : Nat) (e r l : Int) (he : R64 e) (hr : R64 r) (hl : R64 l) : drift_Until.f (k + 19) e r l = some (untilR e r l) := by
  unfold drift_Until.f untilR
  rw [drift_wrong_eq]
  simp only [Option.bind_some]
  by_cases h : e < 0 ∨ r < 0 ∨ 2097152 < r ∨ l < 0
  · rw [if_pos h, decide_eq_true h, if_pos rfl]
  · rw [if_neg h, decide_eq_false h, if_neg (by simp)]
    by_cases h2 : e > l
    · rw [if_pos h2, if_pos (show l < e by omega)]
    rw [if_neg h2, if_neg (show ¬ l < e by omega)]
    by_cases h3 : r = 0
    · rw [if_pos h3, if_pos (.inl h3)]; simp [drift_Until.j0]
    rw [if_neg h3]
    by_cases h4 : l = 9223372036854775807
    · rw [if_pos (.inr h4), h4]; simp [drift_Until.j0]
    have hb : (l == 9223372036854775807) = false := beq_eq_false_iff_ne.mpr h4
    rw [if_neg (show ¬ (r = 0 ∨ l = 9223372036854775807) by omega), hb]
    simp only [drift_Until.j0]
    unfold R64 at he hr hl
    rw [if_neg (by simp), R64.wrap (a := l - e) (by unfold R64; omega), pMulDiv k _ 1073741824 r (by unfold R64; omega) (by unfold R64; omega) (by unfold R64; omega)]
    unfold mdR
    have hp : 0 ≤ (l - e) * 1073741824 / r := Int.ediv_nonneg (by omega) (by omega)
    rw [if_neg (by omega)]
    by_cases h5 : R64 ((l - e) * 1073741824 / r)
    · rw [if_pos h5]; unfold R64 at h5; simp; omega
    · rw [if_neg h5]; unfold R64 at h5; simp; omega
theorem both_eq (a b : Int) (ha : R64 a) (hb : R64 b) : drift_Both.f a b = some (if a < 0 ∨ 1048576 < a ∨ b < 0 ∨ 1048576 < b then (0, some 1) else (a + b, none)) := by
  unfold drift_Both.f
  by_cases h : a < 0 ∨ 1048576 < a ∨ b < 0 ∨ 1048576 < b
  · rw [if_pos h]
    repeat' split
    all_goals first | rfl | (exfalso; omega)
  · rw [if_neg h, if_neg (by omega), if_neg (by omega), if_neg (by omega), if_neg (by omega), R64.wrap (by unfold R64; omega)]
theorem grow_at (k : Nat) (hk : 18 ≤ k) (e r n : Int) (he : R64 e) (hr : R64 r) (hn : R64 n) : drift_Grow.f k e r n = some (if e < 0 ∨ r < 0 ∨ 2097152 < r ∨ n < 0 then (0, some 1) else (sat (e + cd (n * r) 1073741824), none)) := by
  obtain ⟨k, rfl⟩ : ∃ m, k = m + 18 := ⟨k - 18, by omega⟩
  exact grow_eq k e r n he hr hn
theorem until_at (k : Nat) (hk : 19 ≤ k) (e r l : Int) (he : R64 e) (hr : R64 r) (hl : R64 l) : drift_Until.f k e r l = some (untilR e r l) := by
  obtain ⟨k, rfl⟩ : ∃ m, k = m + 19 := ⟨k - 19, by omega⟩
  exact until_eq k e r l he hr hl
theorem sure_at (k : Nat) (hk : 20 ≤ k) : fuseelaw17_sure.f k = some true := by
  unfold fuseelaw17_sure.f
  rw [grow_at k (by omega) 5 1048576 1000000 (by unfold R64; omega) (by unfold R64; omega) (by unfold R64; omega)]
  simp only [Option.bind_some]
  rw [until_at k (by omega) 5 1048576 982 (by unfold R64; omega) (by unfold R64; omega) (by unfold R64; omega)]
  simp only [Option.bind_some]
  rw [until_at k (by omega) 5 1 4 (by unfold R64; omega) (by unfold R64; omega) (by unfold R64; omega)]
  simp only [Option.bind_some]
  rw [both_eq 3 4 (by unfold R64; omega) (by unfold R64; omega)]
  decide +kernel

theorem parts (k : Nat) (hk : 24 ≤ k) (e r g0 g1 l : Int) (he : R64 e) (hr : R64 r) (h0 : R64 g0) (h1 : R64 g1) (hl : R64 l) : fuseelaw17_DriftParts.f k e r g0 g1 l = some true := by
  have hsure : ∀ (k : Nat), 21 ≤ k → fuseelaw17_DriftParts.j0 k e r true g0 g1 l = some true := by
    intro k hk
    obtain ⟨k, rfl⟩ : ∃ m, k = m + 1 := ⟨k - 1, by omega⟩
    simp only [fuseelaw17_DriftParts.j0, if_true]
    rw [sure_at k (by omega)]; rfl
  unfold fuseelaw17_DriftParts.f
  unfold R64 at he hr h0 h1 hl
  by_cases c1 : e < 0
  · rw [if_pos c1]; exact hsure k (by omega)
  rw [if_neg c1]
  by_cases c2 : e > 1099511627776
  · rw [if_pos c2]; exact hsure k (by omega)
  rw [if_neg c2]
  by_cases c3 : r < 0
  · rw [if_pos c3]; exact hsure k (by omega)
  rw [if_neg c3]
  by_cases c4 : r > 1048576
  · rw [if_pos c4]; exact hsure k (by omega)
  rw [if_neg c4]
  by_cases c5 : g0 < 0
  · rw [if_pos c5]; exact hsure k (by omega)
  rw [if_neg c5]
  by_cases c6 : g0 > 1152921504606846976
  · rw [if_pos c6]; exact hsure k (by omega)
  rw [if_neg c6]
  by_cases c7 : g1 < 0
  · rw [if_pos c7]; exact hsure k (by omega)
  rw [if_neg c7]
  by_cases c8 : g1 > 1152921504606846976
  · rw [decide_eq_true c8]; exact hsure k (by omega)
  rw [decide_eq_false c8]
  obtain ⟨k, rfl⟩ : ∃ m, k = m + 3 := ⟨k - 3, by omega⟩
  simp only [fuseelaw17_DriftParts.j0]
  rw [if_neg (by simp)]
  have p0 : 0 ≤ g0 * r := Int.mul_nonneg (by omega) (by omega)
  have p1 : 0 ≤ g1 * r := Int.mul_nonneg (by omega) (by omega)
  have q0 : g0 * r ≤ 1152921504606846976 * 1048576 := Int.mul_le_mul (by omega) (by omega) (by omega) (by omega)
  have q1 : g1 * r ≤ 1152921504606846976 * 1048576 := Int.mul_le_mul (by omega) (by omega) (by omega) (by omega)
  have e1 : (g0 + g1) * r = g0 * r + g1 * r := Int.add_mul _ _ _
  have e2 : g0 * (r + 1) = g0 * r + g0 := by rw [Int.mul_add, Int.mul_one]
  rw [grow_at _ (by omega) e r g0 (by unfold R64; omega) (by unfold R64; omega) (by unfold R64; omega), if_neg (by omega)]
  simp only [Option.bind_some]
  have cz : ∀ x, 0 ≤ x → x ≤ 1152921504606846976 * 1048576 → 0 ≤ cd x 1073741824 ∧ cd x 1073741824 ≤ 1125899906842624 := by intro x a1 a2; unfold cd; omega
  have z0 := cz _ p0 q0
  have z1 := cz _ p1 q1
  rw [sat_of (a := e + cd (g0 * r) 1073741824) (by unfold R64; omega)]
  rw [grow_at _ (by omega) _ r g1 (by unfold R64; omega) (by unfold R64; omega) (by unfold R64; omega), if_neg (by omega)]
  simp only [Option.bind_some]
  rw [sat_of (a := e + cd (g0 * r) 1073741824 + cd (g1 * r) 1073741824) (by unfold R64; omega)]
  rw [R64.wrap (a := g0 + g1) (by unfold R64; omega), grow_at _ (by omega) e r (g0 + g1) (by unfold R64; omega) (by unfold R64; omega) (by unfold R64; omega), if_neg (by omega)]
  simp only [Option.bind_some]
  have z2 : cd ((g0 + g1) * r) 1073741824 ≤ cd (g0 * r) 1073741824 + cd (g1 * r) 1073741824 ∧ cd (g0 * r) 1073741824 + cd (g1 * r) 1073741824 ≤ cd ((g0 + g1) * r) 1073741824 + 1 ∧ cd (g0 * r) 1073741824 ≤ cd ((g0 + g1) * r) 1073741824 := by
    rw [e1]; unfold cd; omega
  rw [sat_of (a := e + cd ((g0 + g1) * r) 1073741824) (by unfold R64; omega)]
  rw [R64.wrap (a := r + 1) (by unfold R64; omega), grow_at _ (by omega) e (r + 1) g0 (by unfold R64; omega) (by unfold R64; omega) (by unfold R64; omega), if_neg (by omega)]
  simp only [Option.bind_some]
  have z3 : cd (g0 * r) 1073741824 ≤ cd (g0 * (r + 1)) 1073741824 ∧ cd (g0 * (r + 1)) 1073741824 ≤ 2251799813685248 := by
    rw [e2]; unfold cd; omega
  rw [sat_of (a := e + cd (g0 * (r + 1)) 1073741824) (by unfold R64; omega)]
  simp only [Option.isNone_none, if_true]
  rw [if_neg (by omega), if_neg (by omega), R64.wrap (by unfold R64; omega), if_neg (by omega), if_neg (by omega), decide_eq_false (by omega)]
  simp only [fuseelaw17_DriftParts.j1]
  rw [if_neg (by simp), until_at _ (by omega) e r l (by unfold R64; omega) (by unfold R64; omega) (by unfold R64; omega)]
  simp only [Option.bind_some]
  clear z0 z1 z2 z3 cz p0 p1 q0 q1 e1 e2
  -- behind the end
  have fin : ∀ (n : Int) (b : Bool), b = false → 0 ≤ n → n ≤ 9223372036854775807 → (n < 9223372036854775807 → l < sat (e + cd ((n + 1) * r) 1073741824)) → fuseelaw17_DriftParts.j2 (k + 1) e r n b g0 g1 l = some true := by
    intro n b hb a0 a1 a2
    subst hb
    simp only [fuseelaw17_DriftParts.j2]
    rw [if_neg (by simp)]
    by_cases hm : n = 9223372036854775807
    · rw [if_pos hm, sure_at _ (by omega)]; rfl
    · rw [if_neg hm, R64.wrap (a := n + 1) (by unfold R64; omega), grow_at _ (by omega) e r (n + 1) (by unfold R64; omega) (by unfold R64; omega) (by unfold R64; omega), if_neg (by omega)]
      simp only [Option.bind_some, Option.isNone_none, if_true]
      rw [if_pos (by have := a2 (by omega); omega), sure_at _ (by omega)]; rfl
  unfold untilR
  by_cases d1 : l < 0
  · rw [if_pos (show e < 0 ∨ r < 0 ∨ 2097152 < r ∨ l < 0 by omega)]
    simp only [Option.isNone_some, Bool.false_eq_true, if_false, Option.getD_some, fuseelaw17_num.f, numE, Option.bind_some]
    rw [if_neg (show ¬ (1 : Int) = 10 by omega), decide_eq_true (show l < e by omega), decide_eq_true d1]
    simp only [BEq.rfl, if_true]
    rw [sure_at _ (by omega)]; rfl
  rw [if_neg (show ¬ (e < 0 ∨ r < 0 ∨ 2097152 < r ∨ l < 0) by omega)]
  by_cases d2 : l < e
  · rw [if_pos d2]
    simp only [Option.isNone_some, Bool.false_eq_true, if_false, Option.getD_some, fuseelaw17_num.f, numE, Option.bind_some, if_true]
    rw [decide_eq_true d2]
    simp only [BEq.rfl, if_true]
    rw [sure_at _ (by omega)]; rfl
  rw [if_neg d2]
  have grown : ∀ n, 0 ≤ n → n ≤ 9223372036854775807 → sat (e + cd (n * r) 1073741824) ≤ l → (n < 9223372036854775807 → l < sat (e + cd ((n + 1) * r) 1073741824)) →
      ((drift_Grow.f (k + 1) e r n).bind fun bt173 => (if bt173.2.isNone = true then (fuseelaw17_DriftParts.j2 (k + 1) e r n (decide (bt173.1 > l)) g0 g1 l) else (fuseelaw17_DriftParts.j2 (k + 1) e r n true g0 g1 l))) = some true := by
    intro n a0 a1 a2 a3
    rw [grow_at _ (by omega) e r n (by unfold R64; omega) (by unfold R64; omega) (by unfold R64; omega), if_neg (by omega)]
    simp only [Option.bind_some, Option.isNone_none, if_true]
    exact fin n _ (decide_eq_false (by omega)) a0 a1 a3
  by_cases d3 : r = 0 ∨ l = 9223372036854775807
  · rw [if_pos d3]
    simp only [Option.isNone_none, if_true]
    refine grown _ (by omega) (by omega) ?_ (fun h => absurd h (by omega))
    rcases d3 with d3 | d3
    · subst d3; rw [Int.mul_zero, sat_of (by unfold R64 cd; omega)]; unfold cd; omega
    · have := sat_range (e + cd (9223372036854775807 * r) 1073741824); unfold R64 at this; omega
  rw [if_neg d3]
  simp only [Option.isNone_none, if_true]
  have rp : 0 < r := by omega
  have m0 := Int.mul_ediv_add_emod ((l - e) * 1073741824) r
  have m1 := Int.emod_nonneg ((l - e) * 1073741824) (show r ≠ 0 by omega)
  have m2 := Int.emod_lt_of_pos ((l - e) * 1073741824) rp
  have m3 : 0 ≤ (l - e) * 1073741824 / r := Int.ediv_nonneg (by omega) (by omega)
  generalize (l - e) * 1073741824 % r = rest at m0 m1 m2
  generalize (l - e) * 1073741824 / r = q at m0 m3 ⊢
  refine grown _ (by omega) (by omega) ?_ ?_
  · have a1 : min 9223372036854775807 q * r ≤ q * r := Int.mul_le_mul_of_nonneg_right (by omega) (by omega)
    have a2 := Int.mul_comm q r
    have a3 : cd (min 9223372036854775807 q * r) 1073741824 ≤ l - e := by unfold cd; omega
    have := sat_mono (show e + cd (min 9223372036854775807 q * r) 1073741824 ≤ l by omega)
    rw [sat_of (a := l) (by unfold R64; omega)] at this
    exact this
  · intro hlt
    have a1 : min 9223372036854775807 q = q := by omega
    rw [a1, Int.add_mul, Int.one_mul, Int.mul_comm q r]
    have a3 : l - e + 1 ≤ cd (r * q + r) 1073741824 := by unfold cd; omega
    have := sat_mono (show l + 1 ≤ e + cd (r * q + r) 1073741824 by omega)
    rw [sat_of (a := l + 1) (by unfold R64; omega)] at this
    omega
theorem done (e r g0 g1 l : Int) (he : (Lit.int .i64 e).wf = true) (hr : (Lit.int .i64 r).wf = true) (h0 : (Lit.int .i64 g0).wf = true) (h1 : (Lit.int .i64 g1).wf = true) (hl : (Lit.int .i64 l).wf = true) : ∃ k, fuseelaw17_DriftParts.f k e r g0 g1 l = some true :=
  ⟨24, parts 24 (by omega) e r g0 g1 l (R64.of_wf he) (R64.of_wf hr) (R64.of_wf h0) (R64.of_wf h1) (R64.of_wf hl)⟩
end Go.Proofs.YtpihgdehgkclmaaDoor.MDriftParts
