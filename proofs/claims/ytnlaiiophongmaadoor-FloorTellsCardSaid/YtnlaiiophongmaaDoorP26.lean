/-
  What the functions of package floor, and those of its reference, tell, in plain numbers.
-/
import Derived.Test.YtnlaiiophongmaaDoorK
import Derived.Test.YtnlaiiophongmaaDoorMath
import Derived.Test.YtnlaiiophongmaaDoorPFloorTellsx
namespace Go.Proofs.YtnlaiiophongmaaDoor.PFloorTells
open Go.RowKit Go.Proofs.YtnlaiiophongmaaDoorW.PrintWords Go.Proofs.YtnlaiiophongmaaDoorW.PrintMore
set_option linter.unusedVariables false
set_option linter.unusedSimpArgs false

/-- the printed error is the error as a value -/
theorem errW_errV (o : Option Int) : errW o = errV o := by cases o <;> rfl
theorem pSub (a b : Int) (ha : R64 a) (hb : R64 b) : num_Sub.f a b = some (if R64 (a - b) then (a - b, none) else (0, some 2)) := by
  unfold num_Sub.f
  by_cases h : R64 (a - b)
  · rw [if_pos h, h.wrap, if_neg]
    unfold R64 at *
    by_cases h0 : b < 0 <;> simp [h0] <;> omega
  · rw [if_neg h, if_pos]
    unfold R64 at *
    by_cases h0 : b < 0
    · have : ¬ wrap64 (a - b) > a := by unfold wrap64; omega
      simp [h0]; omega
    · have : wrap64 (a - b) > a := by unfold wrap64; omega
      simp [h0]; omega
theorem pAdd (a b : Int) (ha : R64 a) (hb : R64 b) : num_Add.f a b = some (if R64 (a + b) then (a + b, none) else (0, some 2)) := by
  unfold num_Add.f
  by_cases h : R64 (a + b)
  · rw [if_pos h, h.wrap, if_neg]
    unfold R64 at *
    by_cases h0 : b < 0 <;> simp [h0] <;> omega
  · rw [if_neg h, if_pos]
    unfold R64 at *
    by_cases h0 : b < 0
    · have : ¬ wrap64 (a + b) < a := by unfold wrap64; omega
      simp [h0]; omega
    · have : wrap64 (a + b) < a := by unfold wrap64; omega
      simp [h0]; omega
theorem pSubSat (a b : Int) (ha : R64 a) (hb : R64 b) : num_SubSat.f a b = some (sat (a - b)) := by
  unfold num_SubSat.f num_edge.f
  rw [pSub a b ha hb]
  by_cases h : R64 (a - b)
  · rw [if_pos h, sat_of h]; rfl
  · rw [if_neg h]
    unfold R64 at *
    by_cases h0 : b > 0
    · simp [h0]; unfold sat; rw [if_pos (by omega)]
    · simp [h0]; unfold sat; rw [if_neg (by omega), if_pos (by omega)]
theorem pAddSat (a b : Int) (ha : R64 a) (hb : R64 b) : num_AddSat.f a b = some (sat (a + b)) := by
  unfold num_AddSat.f num_edge.f
  rw [pAdd a b ha hb]
  by_cases h : R64 (a + b)
  · rw [if_pos h, sat_of h]; rfl
  · rw [if_neg h]
    unfold R64 at *
    by_cases h0 : b < 0
    · simp [h0]; unfold sat; rw [if_pos (by omega)]
    · simp [h0]; unfold sat; rw [if_neg (by omega), if_pos (by omega)]
theorem prSum (k : Nat) (a b : Int) (ha : R64 a) (hb : R64 b) : fuseeref01_Sum.f (k + 1) a b = some (rng (a + b)) := by
  unfold fuseeref01_Sum.f rng
  have w1 : 0 < b → wrap64 (9223372036854775807 - b) = 9223372036854775807 - b := fun h => R64.wrap (by unfold R64 at *; omega)
  have w2 : b < 0 → wrap64 (-9223372036854775808 - b) = -9223372036854775808 - b := fun h => R64.wrap (by unfold R64 at *; omega)
  by_cases hr : R64 (a + b)
  · rw [if_pos hr]
    by_cases h0 : b > 0
    · rw [if_pos h0, w1 h0]
      simp only [fuseeref01_Sum.j0]
      rw [if_neg (by unfold R64 at *; simp; omega), if_neg (by omega), hr.wrap]
    · rw [if_neg h0]
      simp only [fuseeref01_Sum.j0]
      by_cases h1 : b < 0
      · rw [if_neg (by simp), if_pos h1, w2 h1, if_neg (by unfold R64 at *; omega), hr.wrap]
      · rw [if_neg (by simp), if_neg h1, hr.wrap]
  · rw [if_neg hr]
    by_cases h0 : b > 0
    · rw [if_pos h0, w1 h0, if_pos (by unfold R64 at *; omega)]
      simp only [fuseeref01_Sum.j0]
      rw [if_pos (by unfold R64 at *; simp; omega)]
    · rw [if_neg h0, if_neg (by unfold R64 at *; omega)]
      simp only [fuseeref01_Sum.j0]
      have h1 : b < 0 := by unfold R64 at *; omega
      rw [if_neg (by simp), if_pos h1, w2 h1, if_pos (by unfold R64 at *; omega)]
theorem prLess (k : Nat) (a b : Int) (ha : R64 a) (hb : R64 b) : fuseeref01_Less.f (k + 1) a b = some (rng (a - b)) := by
  unfold fuseeref01_Less.f rng
  have w1 : b < 0 → wrap64 (9223372036854775807 + b) = 9223372036854775807 + b := fun h => R64.wrap (by unfold R64 at *; omega)
  have w2 : 0 < b → wrap64 (-9223372036854775808 + b) = -9223372036854775808 + b := fun h => R64.wrap (by unfold R64 at *; omega)
  by_cases hr : R64 (a - b)
  · rw [if_pos hr]
    by_cases h0 : b < 0
    · rw [if_pos h0, w1 h0]
      simp only [fuseeref01_Less.j0]
      rw [if_neg (by unfold R64 at *; simp; omega), if_neg (by omega), hr.wrap]
    · rw [if_neg h0]
      simp only [fuseeref01_Less.j0]
      by_cases h1 : b > 0
      · rw [if_neg (by simp), if_pos h1, w2 h1, if_neg (by unfold R64 at *; omega), hr.wrap]
      · rw [if_neg (by simp), if_neg h1, hr.wrap]
  · rw [if_neg hr]
    by_cases h0 : b < 0
    · rw [if_pos h0, w1 h0, if_pos (by unfold R64 at *; omega)]
      simp only [fuseeref01_Less.j0]
      rw [if_pos (by unfold R64 at *; simp; omega)]
    · rw [if_neg h0, if_neg (by unfold R64 at *; omega)]
      simp only [fuseeref01_Less.j0]
      have h1 : b > 0 := by unfold R64 at *; omega
      rw [if_neg (by simp), if_pos h1, w2 h1, if_pos (by unfold R64 at *; omega)]
theorem prBnd (x : Int) : fuseeref01_Bounded.f (rng x).1 (rng x).2 = some (sat x) := by
  unfold fuseeref01_Bounded.f rng
  by_cases h : R64 x
  · rw [if_pos h, sat_of h]; simp
  · rw [if_neg h]
    unfold R64 at h
    by_cases h0 : 0 < x
    · rw [if_pos h0]; simp; unfold sat; rw [if_neg (by omega), if_pos (by omega)]
    · rw [if_neg h0]; simp; unfold sat; rw [if_pos (by omega)]
theorem pDiv (a b : Int) (ha : R64 a) (hb : R64 b) (h : 1 ≤ b) : num_Div.f a b = some (a / b, a % b, none) := by
  unfold num_Div.f
  have hr0 := Int.emod_nonneg a (show b ≠ 0 by omega)
  have hr1 := Int.emod_lt_of_pos a (show 0 < b by omega)
  have hq := div_bounds ha h
  have ht := (tdiv_range ha h).wrap
  rw [if_neg (by omega), if_neg (by omega), ht]
  rcases Int.lt_or_le a 0 with h0 | h0
  · have e1 := tdiv_neg h0 h
    have e2 := tmod_neg h0 h
    by_cases hz : a % b = 0
    · rw [if_pos hz] at e1 e2
      rw [if_neg (by omega), e1, e2]; simp
    · rw [if_neg hz] at e1 e2
      rw [if_pos (by omega), e1, e2, R64.wrap (by simpa using hq.1), R64.wrap (by unfold R64 at *; omega)]; simp
  · rw [Int.tmod_eq_emod_of_nonneg h0, tdiv_of_nonneg h0, if_neg (by omega)]
theorem pDivBad (a b : Int) (h : b < 1) : num_Div.f a b = some (0, 0, some 1) := by unfold num_Div.f; rw [if_pos h]
theorem pCeil (a b : Int) (ha : R64 a) (hb : R64 b) (h : 1 ≤ b) : num_Ceil.f a b = some (ceilD a b, none) := by
  unfold num_Ceil.f
  rw [pDiv a b ha hb h]
  have hr := ceil_range ha h
  unfold ceilD at *
  by_cases hz : 0 < a % b
  · rw [if_pos hz] at *; simp [hz, hr.wrap]
  · rw [if_neg hz] at *; simp [hz]
theorem prDiv (a b : Int) (ha : R64 a) (hb : R64 b) (h : 1 ≤ b) : fuseeref01_Div.f a b = some (a / b, a % b) := by
  unfold fuseeref01_Div.f
  have hr0 := Int.emod_nonneg a (show b ≠ 0 by omega)
  have hr1 := Int.emod_lt_of_pos a (show 0 < b by omega)
  have hq := div_bounds ha h
  have ht := (tdiv_range ha h).wrap
  have hd := Int.mul_ediv_add_emod a b
  have hcomm : a / b * b = b * (a / b) := Int.mul_comm _ _
  have hlast : wrap64 (a - wrap64 (a / b * b)) = a % b := by rw [hcomm]; unfold R64 at *; unfold wrap64; omega
  rw [if_neg (by omega), ht]
  rcases Int.lt_or_le a 0 with h0 | h0
  · have e1 := tdiv_neg h0 h
    rw [if_pos h0]
    by_cases hz : a % b = 0
    · rw [if_pos hz, Int.add_zero] at e1
      have e5 : wrap64 (a / b * b) = a := by rw [hcomm, show b * (a / b) = a by omega]; exact ha.wrap
      rw [e1, if_pos e5, hlast]
    · rw [if_neg hz] at e1
      have e5 : ¬ wrap64 ((a / b + 1) * b) = a := by
        have : (a / b + 1) * b = b * (a / b) + b := by rw [Int.add_mul, hcomm, Int.one_mul]
        rw [this]; unfold R64 at *; unfold wrap64; omega
      have e6 : a / b + 1 - 1 = a / b := by omega
      rw [e1, if_neg e5, e6, hq.1.wrap, hlast]
  · rw [if_neg (by omega), tdiv_of_nonneg h0, hlast]
theorem pMul (k : Nat) (a b : Int) (ha : R64 a) (hb : R64 b) : num_Mul.f (k + 1) a b = some (if R64 (a * b) then (a * b, none) else (0, some 2)) := by
  unfold num_Mul.f
  by_cases ha0 : a = 0
  · rw [if_pos ha0, ha0, Int.zero_mul, if_pos (by unfold R64; omega)]; simp [num_Mul.j0]
  rw [if_neg ha0]
  by_cases hb0 : b = 0
  · rw [hb0, Int.mul_zero, if_pos (by unfold R64; omega)]; simp [num_Mul.j0]
  have hz : (b == 0) = false := beq_eq_false_iff_ne.mpr hb0
  rw [hz]
  simp only [num_Mul.j0]
  rw [if_neg (show ¬ (false = true) by decide)]
  by_cases hr : R64 (a * b)
  · have q1 : ¬ (a = -1 ∧ b = -9223372036854775808) := by intro ⟨h1, h2⟩; rw [h1, h2] at hr; revert hr; decide +kernel
    have q2 : ¬ (b = -1 ∧ a = -9223372036854775808) := by intro ⟨h1, h2⟩; rw [h1, h2] at hr; revert hr; decide +kernel
    have e2 : wrap64 (Int.tdiv (a * b) b) = a := by rw [Int.mul_tdiv_cancel a hb0]; exact ha.wrap
    rw [if_pos hr, hr.wrap]
    by_cases y1 : a = -1
    · have x2 : ¬ b = -9223372036854775808 := fun h => q1 ⟨y1, h⟩
      by_cases y3 : b = -1
      · have x4 : ¬ a = -9223372036854775808 := fun h => q2 ⟨y3, h⟩
        rw [if_pos y1, if_neg x2, if_pos y3, if_neg x4, if_neg hb0, if_pos e2]
      · rw [if_pos y1, if_neg x2, if_neg y3, if_neg hb0, if_pos e2]
    · by_cases y3 : b = -1
      · have x4 : ¬ a = -9223372036854775808 := fun h => q2 ⟨y3, h⟩
        rw [if_neg y1, if_pos y3, if_neg x4, if_neg hb0, if_pos e2]
      · rw [if_neg y1, if_neg y3, if_neg hb0, if_pos e2]
  · rw [if_neg hr]
    by_cases s1 : b = -1 ∧ a = -9223372036854775808
    · obtain ⟨h1, h2⟩ := s1
      subst h1 h2
      decide +kernel
    · have e5 := mul_seen ha hb hb0 s1 hr
      rw [if_neg hb0, if_neg e5]
      simp
theorem pQCheck (q : Int) : quant_Check.f q = some (if okQ q then none else some 1) := by
  unfold quant_Check.f
  by_cases h : q < 1
  · rw [if_pos h, if_neg (by unfold okQ; omega)]
  · rw [if_neg h]
    by_cases h2 : q > 68719476736
    · rw [if_pos h2, if_neg (by unfold okQ; omega)]
    · rw [if_neg h2, if_pos (by unfold okQ; omega)]
theorem prQMay (q : Int) : fuseeref24_May.f q = some (decide (okQ q)) := by
  unfold fuseeref24_May.f
  by_cases h : q ≥ 1
  · rw [if_pos h]
    by_cases h2 : q ≤ 68719476736
    · rw [decide_eq_true h2, decide_eq_true (show okQ q by unfold okQ; omega)]
    · rw [decide_eq_false h2, decide_eq_false (show ¬ okQ q by unfold okQ; omega)]
  · rw [if_neg h, decide_eq_false (show ¬ okQ q by unfold okQ; omega)]
/-- the least multiple that is not below, or the error -/
def upR (t q : Int) : Int × Option Int := if okQ q then (if R64 (ceilD t q * q) then (ceilD t q * q, none) else (0, some 2)) else (0, some 1)
theorem pUp (k : Nat) (t q : Int) (ht : R64 t) (hq : R64 q) : quant_Up.f (k + 1) t q = some (upR t q) := by
  unfold quant_Up.f upR
  rw [pQCheck q]
  by_cases h : okQ q
  · rw [if_pos h, if_pos h]
    simp only [Option.bind_some, Option.isNone_none, if_true]
    rw [pCeil t q ht hq h.1]
    simp only [Option.bind_some, Option.isNone_none, if_true]
    rw [pMul k _ _ (ceil_range ht h.1) hq]
    split <;> simp
  · rw [if_neg h, if_neg h]; simp
theorem prUp (k : Nat) (t q : Int) (ht : R64 t) (hq : R64 q) : fuseeref24_Up.f (k + 1) t q = some ((upR t q).1, numE (upR t q).2) := by
  unfold fuseeref24_Up.f upR
  rw [prQMay q]
  by_cases h : okQ q
  · have h1 := h.1
    have hr0 := Int.emod_nonneg t (show q ≠ 0 by omega)
    have hr1 := Int.emod_lt_of_pos t (show 0 < q by omega)
    rw [if_pos h, decide_eq_true h]
    simp only [Option.bind_some, if_true]
    rw [prDiv t q ht hq h1]
    simp only [Option.bind_some]
    rw [ceil_mul_eq t q h1]
    by_cases hz : t % q = 0
    · rw [if_pos hz, if_pos hz, if_pos ht]; rfl
    · rw [if_neg hz, if_neg hz]
      have hx : R64 (q - t % q) := by unfold R64 at *; omega
      rw [hx.wrap, prSum k t _ ht hx]
      unfold rng
      by_cases hR : R64 (t + (q - t % q))
      · rw [if_pos hR, if_pos hR]; simp [numE]
      · rw [if_neg hR, if_neg hR]
        split <;> simp [numE]
  · rw [if_neg h, decide_eq_false h]; simp [numE]

theorem mx_eq (a b : Int) : mx a b = max a b := by unfold mx; omega
/-- a floor raised -/
def raiseR (s : Bool) (a t : Int) : Int := if s = true then max t a else t
theorem raise_eq (s : Bool) (a t : Int) : floor_Raise.f s a t = some (true, raiseR s a t) := by
  unfold floor_Raise.f raiseR; cases s <;> simp [mx_eq]
theorem rraise_eq (s : Bool) (a t : Int) : fuseeref26_Raise.f s a t = some (true, raiseR s a t) := by
  unfold fuseeref26_Raise.f raiseR
  cases s
  · simp
  · simp only [if_true]
    split
    · congr 2; omega
    · congr 2; omega
theorem take_eq (s : Bool) (a t : Int) (ha : R64 a) (ht : R64 t) : floor_Take.f s a t = some (raiseR s a t, sat (raiseR s a t - t), true, raiseR s a t) := by
  unfold floor_Take.f
  rw [raise_eq]
  simp only [Option.bind_some]
  rw [pSubSat _ t (by unfold raiseR; split; · (unfold R64 at *; omega)
                      · exact ht) ht]
  simp
theorem rtake_eq (k : Nat) (s : Bool) (a t : Int) (ha : R64 a) (ht : R64 t) : fuseeref26_Take.f (k + 2) s a t = some (raiseR s a t, sat (raiseR s a t - t), true, raiseR s a t) := by
  unfold fuseeref26_Take.f raiseR
  cases s
  · simp only [Bool.false_eq_true, if_false]
    simp only [fuseeref26_Take.j0]
    rw [if_neg (by simp), Int.sub_self, sat_of (by unfold R64; omega)]
  · simp only [if_true]
    simp only [fuseeref26_Take.j0]
    by_cases h : a > t
    · rw [if_pos (by simpa using h), prLess k a t ha ht]
      simp only [Option.bind_some]
      rw [prBnd]
      simp only [Option.bind_some]
      rw [show max t a = a by omega]
    · rw [if_neg (by simpa using h), show max t a = t by omega, Int.sub_self, sat_of (by unfold R64; omega)]
/-- a floor with a margin -/
def marginR (s : Bool) (a by_ q : Int) : Bool × Int × Option Int :=
  if 0 ≤ by_ ∧ okQ q then (if s = true then (match upR (sat (a + by_)) q with | (u, none) => (true, u, none) | (_, some c) => (false, 0, some c)) else (false, a, none)) else (false, 0, some 1)
theorem margin_eq (k : Nat) (s : Bool) (a b q : Int) (ha : R64 a) (hb : R64 b) (hq : R64 q) : floor_Margin.f (k + 2) s a b q = some (marginR s a b q) := by
  unfold floor_Margin.f marginR
  by_cases h0 : b < 0
  · rw [if_pos h0, if_neg (by omega)]; simp [floor_Margin.j0]
  rw [if_neg h0, pQCheck]
  by_cases h : okQ q
  · rw [if_pos h, if_pos ⟨by omega, h⟩]
    simp only [Option.bind_some, Option.isNone_none, if_true]
    simp only [floor_Margin.j0]
    rw [if_neg (by simp)]
    cases s
    · simp
    · simp only [if_true]
      rw [pAddSat a b ha hb]
      simp only [Option.bind_some]
      rw [pUp k _ q (sat_range _) hq]
      rcases upR (sat (a + b)) q with ⟨u, _ | c⟩ <;> simp
  · rw [if_neg h, if_neg (fun x => h x.2)]; simp [floor_Margin.j0]
theorem rmargin_eq (k : Nat) (s : Bool) (a b q : Int) (ha : R64 a) (hb : R64 b) (hq : R64 q) : fuseeref26_Margin.f (k + 2) s a b q = some ((marginR s a b q).1, (marginR s a b q).2.1, numE (marginR s a b q).2.2) := by
  unfold fuseeref26_Margin.f marginR
  by_cases h0 : b < 0
  · rw [if_pos h0, if_neg (by omega)]; simp [fuseeref26_Margin.j0, numE]
  rw [if_neg h0, prQMay]
  by_cases h : okQ q
  · rw [if_pos ⟨by omega, h⟩, decide_eq_true h]
    simp only [Option.bind_some, Bool.not_true]
    simp only [fuseeref26_Margin.j0]
    rw [if_neg (by simp)]
    cases s
    · simp [numE]
    · simp only [if_true]
      rw [prSum k a b ha hb]
      simp only [Option.bind_some]
      rw [prBnd]
      simp only [Option.bind_some]
      rw [prUp k _ q (sat_range _) hq]
      have hc : ∀ c, (upR (sat (a + b)) q).2 = some c → c ≠ 0 := by
        intro c hc; unfold upR at hc; rw [if_pos h] at hc; split at hc <;> simp at hc; omega
      rcases hU : upR (sat (a + b)) q with ⟨u, _ | c⟩
      · simp [numE]
      · rw [hU] at hc; have := hc c rfl; simp [numE, this]
  · rw [if_neg (fun x => h x.2), decide_eq_false h]; simp [fuseeref26_Margin.j0, numE]
end Go.Proofs.YtnlaiiophongmaaDoor.PFloorTells
