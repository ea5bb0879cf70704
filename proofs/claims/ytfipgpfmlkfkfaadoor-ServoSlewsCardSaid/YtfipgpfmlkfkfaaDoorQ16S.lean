/-
  ServoSlews in plain numbers.
-/
import Derived.Test.YtfipgpfmlkfkfaaDoorK
import Derived.Test.YtfipgpfmlkfkfaaDoorMath
import Derived.Test.YtfipgpfmlkfkfaaDoorMServoSlewsx
namespace Go.Proofs.YtfipgpfmlkfkfaaDoor.MServoSlews
open Go.RowKit Go.Proofs.YtfipgpfmlkfkfaaDoorW.PrintWords Go.Proofs.YtfipgpfmlkfkfaaDoorW.PrintMore
set_option linter.unusedVariables false
set_option linter.unusedSimpArgs false

/-- the printed error is the error as a value -/
theorem errW_errV (o : Option Int) : errW o = errV o := by cases o <;> rfl
theorem pSub (a b : Int) (ha : R64 a) (hb : R64 b) : num_Sub.f a b = some (if R64 (a - b) then (a - b, none) else (0, some 2)) := by
  unfold num_Sub.f
  by_cases h : R64 (a - b)
  · rw [if_pos h, h.wrap, if_neg]
    unfold R64 at *
    by_cases h0 : b < 0 <;> simp [h0] <;> omega
  · rw [if_neg h, if_pos]
    unfold R64 at *
    by_cases h0 : b < 0
    · have : ¬ wrap64 (a - b) > a := by unfold wrap64; omega
      simp [h0]; omega
    · have : wrap64 (a - b) > a := by unfold wrap64; omega
      simp [h0]; omega
theorem pSubSat (a b : Int) (ha : R64 a) (hb : R64 b) : num_SubSat.f a b = some (sat (a - b)) := by
  unfold num_SubSat.f num_edge.f
  rw [pSub a b ha hb]
  by_cases h : R64 (a - b)
  · rw [if_pos h, sat_of h]; rfl
  · rw [if_neg h]
    unfold R64 at *
    by_cases h0 : b > 0
    · simp [h0]; unfold sat; rw [if_pos (by omega)]
    · simp [h0]; unfold sat; rw [if_neg (by omega), if_pos (by omega)]
theorem pDiv (a b : Int) (ha : R64 a) (hb : R64 b) (h : 1 ≤ b) : num_Div.f a b = some (a / b, a % b, none) := by
  unfold num_Div.f
  have hr0 := Int.emod_nonneg a (show b ≠ 0 by omega)
  have hr1 := Int.emod_lt_of_pos a (show 0 < b by omega)
  have hq := div_bounds ha h
  have ht := (tdiv_range ha h).wrap
  rw [if_neg (by omega), if_neg (by omega), ht]
  rcases Int.lt_or_le a 0 with h0 | h0
  · have e1 := tdiv_neg h0 h
    have e2 := tmod_neg h0 h
    by_cases hz : a % b = 0
    · rw [if_pos hz] at e1 e2
      rw [if_neg (by omega), e1, e2]; simp
    · rw [if_neg hz] at e1 e2
      rw [if_pos (by omega), e1, e2, R64.wrap (by simpa using hq.1), R64.wrap (by unfold R64 at *; omega)]; simp
  · rw [Int.tmod_eq_emod_of_nonneg h0, tdiv_of_nonneg h0, if_neg (by omega)]
theorem pDivBad (a b : Int) (h : b < 1) : num_Div.f a b = some (0, 0, some 1) := by unfold num_Div.f; rw [if_pos h]

theorem sure_ok : fuseelaw16_sure.f = some true := by decide +kernel
theorem slew_eq (a m : Int) (ha : -9007199254740992 ≤ a) (ha' : a ≤ 9007199254740992) (hm : 0 ≤ m) (hm' : m ≤ 9007199254740992) : servo_Slew.f a m = some (mx (-m) (mn a m), a - mx (-m) (mn a m), none) := by
  unfold servo_Slew.f num_Clamp.f
  rw [if_neg (by omega), show wrap64 (-m) = -m by unfold wrap64; omega]
  simp only [Option.bind_some]
  have hn : -9007199254740992 ≤ mx (-m) (mn a m) ∧ mx (-m) (mn a m) ≤ 9007199254740992 := by unfold mx mn; repeat' split
                                                                                             all_goals omega
  rw [pSubSat a _ (by unfold R64; omega) (by unfold R64; omega)]
  simp only [Option.bind_some]
  rw [sat_of (by unfold R64; omega)]
theorem slews (off most : Int) (h0 : -2147483648 ≤ off) (h1 : off ≤ 2147483647) (h2 : 0 ≤ most) (h3 : most ≤ 65535) : ∀ (d k : Nat) (x5 x6 x7 : Int), x7 = 100 - d → d ≤ 100 → 2 * d + 3 ≤ k → x6 + x5 = off → (off < 0 → x5 ≤ 0) → (0 ≤ off → 0 ≤ x5) → -2147483648 ≤ x5 → x5 ≤ 2147483647 → fuseelaw16_ServoSlews.l0 k off most x5 x6 x7 = some true := by
  intro d
  have hend : ∀ (k : Nat) (x5 x6 x7 : Int), x6 + x5 = off → fuseelaw16_ServoSlews.j1 (k + 1) off most x5 x6 x7 false = some true := by
    intro k x5 x6 x7 h
    simp only [fuseelaw16_ServoSlews.j1]
    rw [if_neg (by simp), sure_ok]
    by_cases c : x5 = 0
    · rw [if_pos c, if_pos (by unfold wrap64; omega)]; rfl
    · rw [if_neg c]; rfl
  induction d with
  | zero =>
    intro k x5 x6 x7 e1 e2 e3 e4 e5 e6 e7 e8
    obtain ⟨k, rfl⟩ : ∃ m, k = m + 2 := ⟨k - 2, by omega⟩
    simp only [fuseelaw16_ServoSlews.l0]
    rw [if_neg (by omega)]
    exact hend k x5 x6 x7 e4
  | succ d ih =>
    intro k x5 x6 x7 e1 e2 e3 e4 e5 e6 e7 e8
    obtain ⟨k, rfl⟩ : ∃ m, k = m + 2 := ⟨k - 2, by omega⟩
    simp only [fuseelaw16_ServoSlews.l0]
    rw [if_pos (by omega)]
    by_cases c : x5 = 0
    · have : (x5 != 0) = false := by simp [c]
      rw [this]; exact hend k x5 x6 x7 e4
    · have : (x5 != 0) = true := by simp [c]
      rw [this]
      simp only [fuseelaw16_ServoSlews.j1]
      have hM : wrap64 (1 + (wrap64 ((wrap64 most) * 65536))) = 1 + most * 65536 := by unfold wrap64; omega
      rw [if_pos trivial, hM, slew_eq x5 (1 + most * 65536) (by omega) (by omega) (by omega) (by omega)]
      simp only [Option.bind_some, Option.isNone_none, if_true]
      have hn : mx (-(1 + most * 65536)) (mn x5 (1 + most * 65536)) ≠ 0 ∧ (mx (-(1 + most * 65536)) (mn x5 (1 + most * 65536)) < 0 ↔ x5 < 0) ∧ mx (-(1 + most * 65536)) (mn x5 (1 + most * 65536)) ≤ 1 + most * 65536 ∧ -(1 + most * 65536) ≤ mx (-(1 + most * 65536)) (mn x5 (1 + most * 65536)) ∧ (x5 < 0 → x5 ≤ mx (-(1 + most * 65536)) (mn x5 (1 + most * 65536))) ∧ (0 < x5 → mx (-(1 + most * 65536)) (mn x5 (1 + most * 65536)) ≤ x5) := by
        unfold mx mn; repeat' split
        all_goals omega
      generalize mx (-(1 + most * 65536)) (mn x5 (1 + most * 65536)) = n at hn
      obtain ⟨n1, n2, n3, n4, n5, n6⟩ := hn
      have hs : (decide (n < 0) != decide (off < 0)) = false := by
        by_cases ho : off < 0
        · rw [decide_eq_true ho, decide_eq_true (n2.2 (by have := e5 ho; omega))]; rfl
        · rw [decide_eq_false ho, decide_eq_false (fun h => by have := n2.1 h; have := e6 (by omega); omega)]; rfl
      rw [if_neg n1, hs, if_neg (by simp), if_neg (by omega), show wrap64 (-n) = -n by unfold wrap64; omega, if_neg (by omega), show wrap64 (n + (x5 - n)) = x5 by unfold wrap64; omega, if_pos rfl]
      have hx6 : wrap64 (x6 + n) = x6 + n := by unfold wrap64; omega
      rw [hx6, show wrap64 (x7 + 1) = x7 + 1 by unfold wrap64; omega]
      exact ih k (x5 - n) (x6 + n) (x7 + 1) (by omega) (by omega) (by omega) (by omega) (fun h => by have := e5 h; have := n5 (by omega); omega) (fun h => by have := e6 h; have := n6 (by omega); omega) (by omega) (by omega)
theorem done (off most : Int) (h0 : (Lit.int .i32 off).wf = true) (h1 : (Lit.int .u16 most).wf = true) : ∃ k, fuseelaw16_ServoSlews.f k off most = some true := by
  have b0 : -2147483648 ≤ off ∧ off ≤ 2147483647 := by
    simp [Lit.wf, IntKind.min, IntKind.max, IntKind.signed, IntKind.bits] at h0
    omega
  have b1 : 0 ≤ most ∧ most ≤ 65535 := by
    simp [Lit.wf, IntKind.min, IntKind.max, IntKind.signed, IntKind.bits] at h1
    omega
  refine ⟨300, ?_⟩
  unfold fuseelaw16_ServoSlews.f
  rw [show wrap64 off = off by unfold wrap64; omega]
  exact slews off most b0.1 b0.2 b1.1 b1.2 100 300 off 0 0 (by omega) (by omega) (by omega) (by omega) (by omega) (by omega) (by omega) (by omega)
end Go.Proofs.YtfipgpfmlkfkfaaDoor.MServoSlews
