/-
  What the functions of package pause, and those of its reference, tell, in plain numbers.
-/
import Derived.Test.YtfipgpfmlkfkfaaDoorK
import Derived.Test.YtfipgpfmlkfkfaaDoorMath
import Derived.Test.YtfipgpfmlkfkfaaDoorPPauseTellsx
namespace Go.Proofs.YtfipgpfmlkfkfaaDoor.PPauseTells
open Go.RowKit
set_option linter.unusedVariables false
set_option linter.unusedSimpArgs false

/-- the printed error is the error as a value -/
theorem errW_errV (o : Option Int) : errW o = errV o := by cases o <;> rfl
theorem pSub (a b : Int) (ha : R64 a) (hb : R64 b) : num_Sub.f a b = some (if R64 (a - b) then (a - b, none) else (0, some 2)) := by
  unfold num_Sub.f
  by_cases h : R64 (a - b)
  · rw [if_pos h, h.wrap, if_neg]
    unfold R64 at *
    by_cases h0 : b < 0 <;> simp [h0] <;> omega
  · rw [if_neg h, if_pos]
    unfold R64 at *
    by_cases h0 : b < 0
    · have : ¬ wrap64 (a - b) > a := by unfold wrap64; omega
      simp [h0]; omega
    · have : wrap64 (a - b) > a := by unfold wrap64; omega
      simp [h0]; omega
theorem pAdd (a b : Int) (ha : R64 a) (hb : R64 b) : num_Add.f a b = some (if R64 (a + b) then (a + b, none) else (0, some 2)) := by
  unfold num_Add.f
  by_cases h : R64 (a + b)
  · rw [if_pos h, h.wrap, if_neg]
    unfold R64 at *
    by_cases h0 : b < 0 <;> simp [h0] <;> omega
  · rw [if_neg h, if_pos]
    unfold R64 at *
    by_cases h0 : b < 0
    · have : ¬ wrap64 (a + b) < a := by unfold wrap64; omega
      simp [h0]; omega
    · have : wrap64 (a + b) < a := by unfold wrap64; omega
      simp [h0]; omega
theorem pSubSat (a b : Int) (ha : R64 a) (hb : R64 b) : num_SubSat.f a b = some (sat (a - b)) := by
  unfold num_SubSat.f num_edge.f
  rw [pSub a b ha hb]
  by_cases h : R64 (a - b)
  · rw [if_pos h, sat_of h]; rfl
  · rw [if_neg h]
    unfold R64 at *
    by_cases h0 : b > 0
    · simp [h0]; unfold sat; rw [if_pos (by omega)]
    · simp [h0]; unfold sat; rw [if_neg (by omega), if_pos (by omega)]
theorem pAddSat (a b : Int) (ha : R64 a) (hb : R64 b) : num_AddSat.f a b = some (sat (a + b)) := by
  unfold num_AddSat.f num_edge.f
  rw [pAdd a b ha hb]
  by_cases h : R64 (a + b)
  · rw [if_pos h, sat_of h]; rfl
  · rw [if_neg h]
    unfold R64 at *
    by_cases h0 : b < 0
    · simp [h0]; unfold sat; rw [if_pos (by omega)]
    · simp [h0]; unfold sat; rw [if_neg (by omega), if_pos (by omega)]
theorem pSize (a : Int) (ha : R64 a) : num_Size.f a = some (if a < 0 then sat (-a) else a) := by
  unfold num_Size.f
  by_cases h : a < 0
  · rw [if_pos h, if_pos h, pSubSat 0 a (by unfold R64; omega) ha, Int.zero_sub]; rfl
  · rw [if_neg h, if_neg h]

/-- a time that may be -/
def tB (t : Int) : Bool := decide (-4611686018427387904 < t ∧ t < 4611686018427387904)
/-- a pause that may be -/
def okB (p0 : Bool) (p1 p2 : Int) : Bool := tB p1 && (p0 || decide (p1 = 0)) && decide (0 ≤ p2 ∧ p2 ≤ 2305843009213693952)
theorem time_eq (t : Int) (h : R64 t) : pause_time.f t = some (tB t) := by
  unfold pause_time.f
  rw [pSize t h]
  simp only [Option.bind_some, Option.some.injEq, tB, decide_eq_decide]
  unfold R64 at h
  split
  · unfold sat; split <;> (try split) <;> omega
  · omega
theorem rtime_eq (t : Int) : fuseeref27_Time.f t = some (tB t) := by
  unfold fuseeref27_Time.f tB
  split
  · simp only [Option.some.injEq, decide_eq_decide]; omega
  · simp only [Option.some.injEq]; exact (decide_eq_false (by omega)).symm
theorem check_eq (p0 : Bool) (p1 p2 : Int) (h1 : R64 p1) : pause_Check.f p0 p1 p2 = some (if okB p0 p1 p2 = true then none else some 1) := by
  unfold pause_Check.f okB
  rw [time_eq p1 h1]
  simp only [Option.bind_some]
  cases tB p1 <;> cases p0 <;> simp
  · by_cases h : p1 = 0 <;> by_cases h2 : p2 < 0 <;> by_cases h3 : p2 > 2305843009213693952 <;> simp [h, h2, h3] <;> omega
  · by_cases h2 : p2 < 0 <;> by_cases h3 : p2 > 2305843009213693952 <;> simp [h2, h3] <;> omega
theorem rmay_eq (p0 : Bool) (p1 p2 : Int) : fuseeref27_May.f p0 p1 p2 = some (okB p0 p1 p2) := by
  unfold fuseeref27_May.f okB
  rw [rtime_eq p1]
  simp only [Option.bind_some]
  cases tB p1 <;> cases p0 <;> simp
  · by_cases h : p1 = 0 <;> by_cases h2 : 0 ≤ p2 <;> simp [h, h2]
  · by_cases h2 : 0 ≤ p2 <;> simp [h2]
theorem may_eq (p0 : Bool) (p1 p2 t : Int) (h1 : R64 p1) (ht : R64 t) : pause_may.f p0 p1 p2 t = some (if okB p0 p1 p2 && tB t then none else some 1) := by
  unfold pause_may.f
  rw [time_eq t ht, check_eq p0 p1 p2 h1]
  cases tB t <;> cases okB p0 p1 p2 <;> simp
/-- what stopping comes to -/
def stopR (p0 : Bool) (p1 p2 t : Int) : Bool × Int × Int × Option Int :=
  if okB p0 p1 p2 && tB t then (if p0 = true then (false, 0, 0, some 19) else (true, t, p2, none)) else (false, 0, 0, some 1)
theorem stop_eq (p0 : Bool) (p1 p2 t : Int) (h1 : R64 p1) (ht : R64 t) : pause_Stop.f p0 p1 p2 t = some (stopR p0 p1 p2 t) := by
  unfold pause_Stop.f stopR
  rw [may_eq p0 p1 p2 t h1 ht]
  cases tB t <;> cases okB p0 p1 p2 <;> cases p0 <;> simp
theorem rstop_eq (p0 : Bool) (p1 p2 t : Int) : fuseeref27_Stop.f 1 p0 p1 p2 t = some ((stopR p0 p1 p2 t).1, (stopR p0 p1 p2 t).2.1, (stopR p0 p1 p2 t).2.2.1, numE (stopR p0 p1 p2 t).2.2.2) := by
  unfold fuseeref27_Stop.f stopR
  rw [rmay_eq, rtime_eq]
  cases tB t <;> cases okB p0 p1 p2 <;> cases p0 <;> simp [fuseeref27_Stop.j0, numE]
/-- what going on comes to -/
def goR (p0 : Bool) (p1 p2 t : Int) (j : Bool) : Bool × Int × Int × Option Int :=
  if okB p0 p1 p2 && tB t then (if p0 = true then (if t < p1 then (false, 0, 0, some 10) else if j = true then (false, 0, p2, none) else if p2 + (t - p1) > 2305843009213693952 then (false, 0, 0, some 2) else (false, 0, p2 + (t - p1), none)) else (false, 0, 0, some 19)) else (false, 0, 0, some 1)
theorem okB_of {p0 : Bool} {p1 p2 : Int} (h : okB p0 p1 p2 = true) : (-4611686018427387904 < p1 ∧ p1 < 4611686018427387904) ∧ (0 ≤ p2 ∧ p2 ≤ 2305843009213693952) := by
  unfold okB tB at h; simp at h; omega
theorem tB_of {t : Int} (h : tB t = true) : -4611686018427387904 < t ∧ t < 4611686018427387904 := by unfold tB at h; simpa using h
theorem go_eq (p0 : Bool) (p1 p2 t : Int) (j : Bool) (h1 : R64 p1) (ht : R64 t) : pause_Go.f p0 p1 p2 t j = some (goR p0 p1 p2 t j) := by
  unfold pause_Go.f goR
  rw [may_eq p0 p1 p2 t h1 ht]
  cases hT : tB t <;> cases hO : okB p0 p1 p2 <;> cases p0 <;> simp
  have a1 := okB_of hO
  have a2 := tB_of hT
  by_cases hlt : t < p1
  · simp [hlt]
  · have r1 : R64 (t - p1) := by unfold R64; omega
    have r2 : R64 p2 := by unfold R64; omega
    rw [pSubSat t p1 ht h1, sat_of r1]
    simp only [Option.bind_some]
    rw [pAddSat p2 (t - p1) r2 r1]
    cases j
    · by_cases h3 : p2 + (t - p1) > 2305843009213693952
      · have h4 : sat (p2 + (t - p1)) > 2305843009213693952 := by
          rcases sat_cases (p2 + (t - p1)) with ⟨h, hs⟩ | ⟨h, hs⟩ | ⟨h, hs⟩ <;> omega
        simp [hlt, h3, h4]
      · rw [sat_of (by unfold R64; omega)]
        simp [hlt, h3]
    · have : ¬ p2 > 2305843009213693952 := by omega
      simp [hlt, this]
theorem rgo_eq (p0 : Bool) (p1 p2 t : Int) (j : Bool) : fuseeref27_Go.f 1 p0 p1 p2 t j = some ((goR p0 p1 p2 t j).1, (goR p0 p1 p2 t j).2.1, (goR p0 p1 p2 t j).2.2.1, numE (goR p0 p1 p2 t j).2.2.2) := by
  unfold fuseeref27_Go.f goR
  rw [rmay_eq, rtime_eq]
  cases hT : tB t <;> cases hO : okB p0 p1 p2 <;> cases p0 <;> simp [fuseeref27_Go.j0, numE]
  have a1 := okB_of hO
  have a2 := tB_of hT
  by_cases hlt : t < p1
  · simp [hlt]
  · have w1 : wrap64 (t - p1) = t - p1 := R64.wrap (by unfold R64; omega)
    have w2 : wrap64 (2305843009213693952 - p2) = 2305843009213693952 - p2 := R64.wrap (by unfold R64; omega)
    rw [w1, w2]
    cases j
    · by_cases h3 : p2 + (t - p1) > 2305843009213693952
      · have : 2305843009213693952 - p2 < t - p1 := by omega
        simp [hlt, h3, this]
      · have : ¬ 2305843009213693952 - p2 < t - p1 := by omega
        have w3 : wrap64 (wrap64 (p2 + t) - p1) = p2 + (t - p1) := by unfold wrap64; omega
        simp [hlt, h3, this, w3]
    · simp [hlt]
/-- what the view comes to -/
def viewR (p0 : Bool) (p1 p2 t : Int) : Int × Option Int :=
  if okB p0 p1 p2 && tB t then (if tB ((if p0 = true then p1 else t) - p2) = true then ((if p0 = true then p1 else t) - p2, none) else (0, some 2)) else (0, some 1)
theorem view_eq (p0 : Bool) (p1 p2 t : Int) (h1 : R64 p1) (ht : R64 t) : pause_View.f 1 p0 p1 p2 t = some (viewR p0 p1 p2 t) := by
  unfold pause_View.f viewR
  rw [may_eq p0 p1 p2 t h1 ht]
  cases hT : tB t <;> cases hO : okB p0 p1 p2 <;> cases p0 <;> simp [pause_View.j0]
  all_goals
    have a1 := okB_of hO
    have a2 := tB_of hT
    rw [pSubSat _ p2 (by assumption) (by unfold R64; omega), sat_of (by unfold R64; omega)]
    simp only [Option.bind_some]
    rw [time_eq _ (by unfold R64; omega)]
    simp only [Option.bind_some]
    split <;> simp_all
theorem rview_eq (p0 : Bool) (p1 p2 t : Int) : fuseeref27_View.f 1 p0 p1 p2 t = some ((viewR p0 p1 p2 t).1, numE (viewR p0 p1 p2 t).2) := by
  unfold fuseeref27_View.f viewR
  rw [rmay_eq, rtime_eq]
  cases hT : tB t <;> cases hO : okB p0 p1 p2 <;> cases p0 <;> simp [fuseeref27_View.j0, numE]
  all_goals
    have a1 := okB_of hO
    have a2 := tB_of hT
    rw [R64.wrap (by unfold R64; omega), rtime_eq]
    simp only [Option.bind_some]
    split <;> simp_all
end Go.Proofs.YtfipgpfmlkfkfaaDoor.PPauseTells
