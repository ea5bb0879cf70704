/-
  ServoSteps in plain numbers.
-/
import Derived.Test.YtfipgpfmlkfkfaaDoorK
import Derived.Test.YtfipgpfmlkfkfaaDoorMath
import Derived.Test.YtfipgpfmlkfkfaaDoorMServoStepsx
namespace Go.Proofs.YtfipgpfmlkfkfaaDoor.MServoSteps
open Go.RowKit Go.Proofs.YtfipgpfmlkfkfaaDoorW.PrintWords Go.Proofs.YtfipgpfmlkfkfaaDoorW.PrintMore
set_option linter.unusedVariables false
set_option linter.unusedSimpArgs false

/-- the printed error is the error as a value -/
theorem errW_errV (o : Option Int) : errW o = errV o := by cases o <;> rfl
theorem pSub (a b : Int) (ha : R64 a) (hb : R64 b) : num_Sub.f a b = some (if R64 (a - b) then (a - b, none) else (0, some 2)) := by
  unfold num_Sub.f
  by_cases h : R64 (a - b)
  · rw [if_pos h, h.wrap, if_neg]
    unfold R64 at *
    by_cases h0 : b < 0 <;> simp [h0] <;> omega
  · rw [if_neg h, if_pos]
    unfold R64 at *
    by_cases h0 : b < 0
    · have : ¬ wrap64 (a - b) > a := by unfold wrap64; omega
      simp [h0]; omega
    · have : wrap64 (a - b) > a := by unfold wrap64; omega
      simp [h0]; omega
theorem pSubSat (a b : Int) (ha : R64 a) (hb : R64 b) : num_SubSat.f a b = some (sat (a - b)) := by
  unfold num_SubSat.f num_edge.f
  rw [pSub a b ha hb]
  by_cases h : R64 (a - b)
  · rw [if_pos h, sat_of h]; rfl
  · rw [if_neg h]
    unfold R64 at *
    by_cases h0 : b > 0
    · simp [h0]; unfold sat; rw [if_pos (by omega)]
    · simp [h0]; unfold sat; rw [if_neg (by omega), if_pos (by omega)]
theorem prLess (k : Nat) (a b : Int) (ha : R64 a) (hb : R64 b) : fuseeref01_Less.f (k + 1) a b = some (rng (a - b)) := by
  unfold fuseeref01_Less.f rng
  have w1 : b < 0 → wrap64 (9223372036854775807 + b) = 9223372036854775807 + b := fun h => R64.wrap (by unfold R64 at *; omega)
  have w2 : 0 < b → wrap64 (-9223372036854775808 + b) = -9223372036854775808 + b := fun h => R64.wrap (by unfold R64 at *; omega)
  by_cases hr : R64 (a - b)
  · rw [if_pos hr]
    by_cases h0 : b < 0
    · rw [if_pos h0, w1 h0]
      simp only [fuseeref01_Less.j0]
      rw [if_neg (by unfold R64 at *; simp; omega), if_neg (by omega), hr.wrap]
    · rw [if_neg h0]
      simp only [fuseeref01_Less.j0]
      by_cases h1 : b > 0
      · rw [if_neg (by simp), if_pos h1, w2 h1, if_neg (by unfold R64 at *; omega), hr.wrap]
      · rw [if_neg (by simp), if_neg h1, hr.wrap]
  · rw [if_neg hr]
    by_cases h0 : b < 0
    · rw [if_pos h0, w1 h0, if_pos (by unfold R64 at *; omega)]
      simp only [fuseeref01_Less.j0]
      rw [if_pos (by unfold R64 at *; simp; omega)]
    · rw [if_neg h0, if_neg (by unfold R64 at *; omega)]
      simp only [fuseeref01_Less.j0]
      have h1 : b > 0 := by unfold R64 at *; omega
      rw [if_neg (by simp), if_pos h1, w2 h1, if_pos (by unfold R64 at *; omega)]
theorem prBnd (x : Int) : fuseeref01_Bounded.f (rng x).1 (rng x).2 = some (sat x) := by
  unfold fuseeref01_Bounded.f rng
  by_cases h : R64 x
  · rw [if_pos h, sat_of h]; simp
  · rw [if_neg h]
    unfold R64 at h
    by_cases h0 : 0 < x
    · rw [if_pos h0]; simp; unfold sat; rw [if_neg (by omega), if_pos (by omega)]
    · rw [if_neg h0]; simp; unfold sat; rw [if_pos (by omega)]
theorem pDiv (a b : Int) (ha : R64 a) (hb : R64 b) (h : 1 ≤ b) : num_Div.f a b = some (a / b, a % b, none) := by
  unfold num_Div.f
  have hr0 := Int.emod_nonneg a (show b ≠ 0 by omega)
  have hr1 := Int.emod_lt_of_pos a (show 0 < b by omega)
  have hq := div_bounds ha h
  have ht := (tdiv_range ha h).wrap
  rw [if_neg (by omega), if_neg (by omega), ht]
  rcases Int.lt_or_le a 0 with h0 | h0
  · have e1 := tdiv_neg h0 h
    have e2 := tmod_neg h0 h
    by_cases hz : a % b = 0
    · rw [if_pos hz] at e1 e2
      rw [if_neg (by omega), e1, e2]; simp
    · rw [if_neg hz] at e1 e2
      rw [if_pos (by omega), e1, e2, R64.wrap (by simpa using hq.1), R64.wrap (by unfold R64 at *; omega)]; simp
  · rw [Int.tmod_eq_emod_of_nonneg h0, tdiv_of_nonneg h0, if_neg (by omega)]
theorem pDivBad (a b : Int) (h : b < 1) : num_Div.f a b = some (0, 0, some 1) := by unfold num_Div.f; rw [if_pos h]
theorem prDiv (a b : Int) (ha : R64 a) (hb : R64 b) (h : 1 ≤ b) : fuseeref01_Div.f a b = some (a / b, a % b) := by
  unfold fuseeref01_Div.f
  have hr0 := Int.emod_nonneg a (show b ≠ 0 by omega)
  have hr1 := Int.emod_lt_of_pos a (show 0 < b by omega)
  have hq := div_bounds ha h
  have ht := (tdiv_range ha h).wrap
  have hd := Int.mul_ediv_add_emod a b
  have hcomm : a / b * b = b * (a / b) := Int.mul_comm _ _
  have hlast : wrap64 (a - wrap64 (a / b * b)) = a % b := by rw [hcomm]; unfold R64 at *; unfold wrap64; omega
  rw [if_neg (by omega), ht]
  rcases Int.lt_or_le a 0 with h0 | h0
  · have e1 := tdiv_neg h0 h
    rw [if_pos h0]
    by_cases hz : a % b = 0
    · rw [if_pos hz, Int.add_zero] at e1
      have e5 : wrap64 (a / b * b) = a := by rw [hcomm, show b * (a / b) = a by omega]; exact ha.wrap
      rw [e1, if_pos e5, hlast]
    · rw [if_neg hz] at e1
      have e5 : ¬ wrap64 ((a / b + 1) * b) = a := by
        have : (a / b + 1) * b = b * (a / b) + b := by rw [Int.add_mul, hcomm, Int.one_mul]
        rw [this]; unfold R64 at *; unfold wrap64; omega
      have e6 : a / b + 1 - 1 = a / b := by omega
      rw [e1, if_neg e5, e6, hq.1.wrap, hlast]
  · rw [if_neg (by omega), tdiv_of_nonneg h0, hlast]

def cl (x : Int) : Int := mx (-1048576) (mn x 1048576)
theorem cl_small (x : Int) : -1048576 ≤ cl x ∧ cl x ≤ 1048576 := by unfold cl mx mn; repeat' split
                                                                    all_goals omega
theorem cl_id (x : Int) (h0 : -1048576 ≤ x) (h1 : x ≤ 1048576) : cl x = x := by unfold cl mx mn; repeat' split
                                                                                all_goals omega
/-- a servo's step: how it is pulled, and the sum -/
def stepV (s1 p i limit off : Int) : Int × Int :=
  (mx (-limit) (mn ((p * cl (off / 1024) + i * cl (cl s1 + cl (off / 1024))) / 1024) limit), cl (cl s1 + cl (off / 1024)))
theorem prod_bound (x y a b : Int) (hx : -a ≤ x ∧ x ≤ a) (hy : -b ≤ y ∧ y ≤ b) (ha : 0 ≤ a) (hb : 0 ≤ b) : -(a * b) ≤ x * y ∧ x * y ≤ a * b := by
  have h1 : (x * y).natAbs ≤ (a * b).natAbs := by
    rw [Int.natAbs_mul, Int.natAbs_mul]
    exact Nat.mul_le_mul (by omega) (by omega)
  have h2 : 0 ≤ a * b := Int.mul_nonneg ha hb
  generalize x * y = u at *
  generalize a * b = v at *
  omega
theorem pull_eq (p i n s : Int) (hg : _root_.Go.Proofs.YtfipgpfmlkfkfaaDoor.MSv.okGain p i 0) (hn : -1048576 ≤ n ∧ n ≤ 1048576) (hs : -1048576 ≤ s ∧ s ≤ 1048576) :
    ∃ re im, servo_Pull.f p i n s = some ((re, im), none) ∧ floatToIntVal .f64 re .i64 = some (p * n + i * s) ∧ floatToIntVal .f64 im .i64 = some (i * n - p * s) := by
  obtain ⟨g1, g2, g3, g4, _, _⟩ := hg
  obtain ⟨re, im, h1, h2, h3⟩ := cmul_whole (WB.ofInt p (by omega)) (WB.ofInt i (by omega)) (WB.ofInt n (by omega)) ((WB.ofInt s (by omega)).neg) (by omega) (by omega) (by omega) (by omega)
  have b1 := prod_bound p n 1024 1048576 (by omega) (by omega) (by omega) (by omega)
  have b2 := prod_bound i s 1024 1048576 (by omega) (by omega) (by omega) (by omega)
  have b3 := prod_bound p s 1024 1048576 (by omega) (by omega) (by omega) (by omega)
  have b4 := prod_bound i n 1024 1048576 (by omega) (by omega) (by omega) (by omega)
  have e1 : p * n - i * -s = p * n + i * s := by rw [Int.mul_neg]; omega
  have e2 : p * -s + i * n = i * n - p * s := by rw [Int.mul_neg]; omega
  rw [e1] at h2
  rw [e2] at h3
  refine ⟨re, im, ?_, h2.int (by omega) (by omega), h3.int (by omega) (by omega)⟩
  unfold servo_Pull.f _root_.Go.Proofs.YtfipgpfmlkfkfaaDoor.MSv.servo_Pull.f
  rw [if_pos ⟨⟨g1, g2, g3, g4, by omega, by omega⟩, hn, hs⟩, h1]
  rfl
theorem check_eq (p i limit : Int) : servo_Check.f p i limit = some (if _root_.Go.Proofs.YtfipgpfmlkfkfaaDoor.MSv.okGain p i limit then none else some 1) := rfl
theorem within_eq (x : Int) : servo_within.f x = some (cl x) := rfl
theorem down_eq (x : Int) (hx : R64 x) : servo_down.f x = some (x / 1024) := by
  unfold servo_down.f
  rw [pDiv x 1024 hx (by unfold R64; omega) (by omega)]
  rfl
theorem step_eq (s0 s1 p i limit off : Int) (hs1 : R64 s1) (ho : R64 off) (hg : _root_.Go.Proofs.YtfipgpfmlkfkfaaDoor.MSv.okGain p i limit) : servo_Step.f s0 s1 p i limit off = some ((stepV s1 p i limit off).1, (stepV s1 p i limit off).2, none) := by
  have hg' : _root_.Go.Proofs.YtfipgpfmlkfkfaaDoor.MSv.okGain p i 0 := ⟨hg.1, hg.2.1, hg.2.2.1, hg.2.2.2.1, by omega, by omega⟩
  have c1 := cl_small (off / 1024)
  have c2 := cl_small s1
  have c3 := cl_small (cl s1 + cl (off / 1024))
  obtain ⟨re, im, h1, h2, _⟩ := pull_eq p i _ _ hg' c1 c3
  have b1 := prod_bound p (cl (off / 1024)) 1024 1048576 (by have := hg.1; have := hg.2.1; omega) (by omega) (by omega) (by omega)
  have b2 := prod_bound i (cl (cl s1 + cl (off / 1024))) 1024 1048576 (by have := hg.2.2.1; have := hg.2.2.2.1; omega) (by omega) (by omega) (by omega)
  have hl := hg.2.2.2.2
  unfold servo_Step.f
  rw [check_eq, if_pos hg]
  simp only [Option.bind_some, Option.isNone_none, if_true]
  rw [down_eq off ho]
  simp only [Option.bind_some, within_eq]
  rw [show wrap64 (cl s1 + cl (off / 1024)) = cl s1 + cl (off / 1024) by unfold wrap64; omega, h1]
  simp only [Option.bind_some, Option.isNone_none, if_true, h2, Option.isSome_some, Option.getD_some]
  unfold stepV
  generalize p * cl (off / 1024) = u at *
  generalize i * cl (cl s1 + cl (off / 1024)) = v at *
  rw [down_eq _ (by unfold R64; omega)]
  simp only [Option.bind_some, num_Clamp.f]
  rw [show wrap64 (-limit) = -limit by unfold wrap64; omega]
theorem sure_ok : fuseelaw16_sure.f = some true := by decide +kernel

theorem prClamp (k : Nat) (x a b : Int) : fuseeref01_Clamp.f (k + 1) x a b = some (mx a (mn x b)) := by
  have hj : ∀ c : Bool, fuseeref01_Clamp.j0 (k + 1) x a b c = if c = true then some a else if x > b then some b else some x := fun c => rfl
  unfold fuseeref01_Clamp.f
  rw [hj, hj, if_pos rfl]
  unfold mx mn
  by_cases h1 : x < a
  · rw [if_pos h1]; congr 1
    repeat' split
    all_goals omega
  · rw [if_neg h1]
    by_cases h2 : b < a
    · rw [decide_eq_true h2, if_pos rfl]; congr 1
      repeat' split
      all_goals omega
    · rw [decide_eq_false h2, if_neg (by simp)]
      by_cases h3 : x > b
      · rw [if_pos h3]; congr 1
        repeat' split
        all_goals omega
      · rw [if_neg h3]; congr 1
        repeat' split
        all_goals omega
theorem may_eq (p i limit : Int) : fuseeref16_May.f p i limit = some (decide (_root_.Go.Proofs.YtfipgpfmlkfkfaaDoor.MSv.okGain p i limit)) := by
  unfold fuseeref16_May.f
  by_cases h : _root_.Go.Proofs.YtfipgpfmlkfkfaaDoor.MSv.okGain p i limit
  · rw [decide_eq_true h]
    obtain ⟨h1, h2, h3, h4, h5, h6⟩ := h
    rw [if_pos (by omega), if_pos (by omega), if_pos (by omega), if_pos (by omega), if_pos (by omega), decide_eq_true (by omega)]
  · rw [decide_eq_false h]
    unfold _root_.Go.Proofs.YtfipgpfmlkfkfaaDoor.MSv.okGain at h
    repeat' split
    all_goals first | rfl | (rw [decide_eq_false (by omega)]) | (exfalso; omega)
theorem rpull_eq (p i n s : Int) (hg : _root_.Go.Proofs.YtfipgpfmlkfkfaaDoor.MSv.okGain p i 0) (hn : -1048576 ≤ n ∧ n ≤ 1048576) (hs : -1048576 ≤ s ∧ s ≤ 1048576) : fuseeref16_Pull.f p i n s = some (p * n + i * s, i * n - p * s, 0) := by
  obtain ⟨g1, g2, g3, g4, _, _⟩ := hg
  have b1 := prod_bound p n 1024 1048576 (by omega) (by omega) (by omega) (by omega)
  have b2 := prod_bound i s 1024 1048576 (by omega) (by omega) (by omega) (by omega)
  have b3 := prod_bound p s 1024 1048576 (by omega) (by omega) (by omega) (by omega)
  have b4 := prod_bound i n 1024 1048576 (by omega) (by omega) (by omega) (by omega)
  unfold fuseeref16_Pull.f
  rw [may_eq, decide_eq_true (show _root_.Go.Proofs.YtfipgpfmlkfkfaaDoor.MSv.okGain p i 0 from ⟨g1, g2, g3, g4, by omega, by omega⟩)]
  simp only [Option.bind_some, if_true]
  rw [if_neg (by omega), if_neg (by omega), if_neg (by omega), if_neg (by omega)]
  generalize p * n = u1 at *
  generalize i * s = u2 at *
  generalize p * s = u3 at *
  generalize i * n = u4 at *
  rw [show wrap64 u1 = u1 by unfold wrap64; omega, show wrap64 u2 = u2 by unfold wrap64; omega, show wrap64 u3 = u3 by unfold wrap64; omega, show wrap64 u4 = u4 by unfold wrap64; omega, show wrap64 (u1 + u2) = u1 + u2 by unfold wrap64; omega, show wrap64 (u4 - u3) = u4 - u3 by unfold wrap64; omega]
theorem rpull_bad (p i n s : Int) (h : ¬ (_root_.Go.Proofs.YtfipgpfmlkfkfaaDoor.MSv.okGain p i 0 ∧ _root_.Go.Proofs.YtfipgpfmlkfkfaaDoor.MSv.small n ∧ _root_.Go.Proofs.YtfipgpfmlkfkfaaDoor.MSv.small s)) : fuseeref16_Pull.f p i n s = some (0, 0, 1) := by
  unfold fuseeref16_Pull.f
  rw [may_eq]
  simp only [Option.bind_some]
  by_cases hg : _root_.Go.Proofs.YtfipgpfmlkfkfaaDoor.MSv.okGain p i 0
  · rw [decide_eq_true hg, if_pos rfl]
    unfold _root_.Go.Proofs.YtfipgpfmlkfkfaaDoor.MSv.small at h
    repeat' split
    all_goals first | rfl | (exfalso; exact h ⟨hg, by omega, by omega⟩)
  · rw [decide_eq_false hg, if_neg (by simp)]
theorem ppull_bad (p i n s : Int) (h : ¬ (_root_.Go.Proofs.YtfipgpfmlkfkfaaDoor.MSv.okGain p i 0 ∧ _root_.Go.Proofs.YtfipgpfmlkfkfaaDoor.MSv.small n ∧ _root_.Go.Proofs.YtfipgpfmlkfkfaaDoor.MSv.small s)) : servo_Pull.f p i n s = some ((0, 0), some 1) := by
  unfold servo_Pull.f _root_.Go.Proofs.YtfipgpfmlkfkfaaDoor.MSv.servo_Pull.f
  rw [if_neg h]
theorem rstep_eq (k : Nat) (s0 s1 p i limit off : Int) (hs1 : R64 s1) (ho : R64 off) (hg : _root_.Go.Proofs.YtfipgpfmlkfkfaaDoor.MSv.okGain p i limit) : fuseeref16_Step.f (k + 1) s0 s1 p i limit off = some ((stepV s1 p i limit off).1, (stepV s1 p i limit off).2, 0) := by
  have hg' : _root_.Go.Proofs.YtfipgpfmlkfkfaaDoor.MSv.okGain p i 0 := ⟨hg.1, hg.2.1, hg.2.2.1, hg.2.2.2.1, by omega, by omega⟩
  have c1 := cl_small (off / 1024)
  have c2 := cl_small s1
  have c3 := cl_small (cl s1 + cl (off / 1024))
  have h1 := rpull_eq p i _ _ hg' c1 c3
  have b1 := prod_bound p (cl (off / 1024)) 1024 1048576 (by have := hg.1; have := hg.2.1; omega) (by omega) (by omega) (by omega)
  have b2 := prod_bound i (cl (cl s1 + cl (off / 1024))) 1024 1048576 (by have := hg.2.2.1; have := hg.2.2.2.1; omega) (by omega) (by omega) (by omega)
  have hl := hg.2.2.2.2
  unfold fuseeref16_Step.f
  rw [may_eq, decide_eq_true hg]
  simp only [Option.bind_some, if_true]
  rw [prDiv off 1024 ho (by unfold R64; omega) (by omega)]
  simp only [Option.bind_some, prClamp]
  have e1 : ∀ x, mx (-1048576) (mn x 1048576) = cl x := fun x => rfl
  simp only [e1]
  rw [show wrap64 (cl s1 + cl (off / 1024)) = cl s1 + cl (off / 1024) by unfold wrap64; omega, h1]
  simp only [Option.bind_some]
  unfold stepV
  generalize p * cl (off / 1024) = u at *
  generalize i * cl (cl s1 + cl (off / 1024)) = v at *
  rw [prDiv _ 1024 (by unfold R64; omega) (by unfold R64; omega) (by omega)]
  simp only [Option.bind_some, prClamp]
  rw [show wrap64 (-limit) = -limit by unfold wrap64; omega]
theorem step_bad (s0 s1 p i limit off : Int) (hg : ¬ _root_.Go.Proofs.YtfipgpfmlkfkfaaDoor.MSv.okGain p i limit) : servo_Step.f s0 s1 p i limit off = some (0, 0, some 1) := by
  unfold servo_Step.f
  rw [check_eq, if_neg hg]
  rfl
theorem rstep_bad (k : Nat) (s0 s1 p i limit off : Int) (hg : ¬ _root_.Go.Proofs.YtfipgpfmlkfkfaaDoor.MSv.okGain p i limit) : fuseeref16_Step.f k s0 s1 p i limit off = some (0, 0, 1) := by
  unfold fuseeref16_Step.f
  rw [may_eq, decide_eq_false hg]
  rfl
theorem slews (k : Nat) (a m : Int) (ha : R64 a) (hm : R64 m) : ∃ x y e, servo_Slew.f a m = some (x, y, e) ∧ fuseeref16_Slew.f (k + 1) a m = some (x, y, numE e) := by
  unfold servo_Slew.f fuseeref16_Slew.f
  by_cases h : m < 0
  · rw [if_pos h, if_pos h]; exact ⟨0, 0, some 1, rfl, rfl⟩
  · rw [if_neg h, if_neg h, prClamp]
    have hw : wrap64 (-m) = -m := by unfold R64 at hm; unfold wrap64; omega
    have hn : R64 (mx (-m) (mn a m)) := by unfold R64 at *; unfold mx mn; repeat' split
                                           all_goals omega
    simp only [Option.bind_some, num_Clamp.f, hw]
    rw [pSubSat a _ ha hn, prLess k a _ ha hn]
    simp only [Option.bind_some]
    rw [prBnd]
    exact ⟨_, _, none, rfl, rfl⟩
theorem done (s0 s1 p i x y z : Int) (g0 : (Lit.int .i64 s0).wf = true) (g1 : (Lit.int .i64 s1).wf = true) (g2 : (Lit.int .i64 p).wf = true) (g3 : (Lit.int .i64 i).wf = true) (g4 : (Lit.int .i64 x).wf = true) (g5 : (Lit.int .i64 y).wf = true) (g6 : (Lit.int .i64 z).wf = true) : ∃ k, fuseelaw16_ServoSteps.f k s0 s1 p i x y z = some true := by
  have hs1 := R64.of_wf g1
  have hx := R64.of_wf g4
  have hy := R64.of_wf g5
  have hz := R64.of_wf g6
  refine ⟨10, ?_⟩
  obtain ⟨u, v, e, q1, q2⟩ := slews 9 y z hy hz
  have hS : ∃ a b e, servo_Step.f s0 s1 p i x y = some (a, b, e) ∧ fuseeref16_Step.f 10 s0 s1 p i x y = some (a, b, numE e) := by
    by_cases hg : _root_.Go.Proofs.YtfipgpfmlkfkfaaDoor.MSv.okGain p i x
    · exact ⟨_, _, none, step_eq s0 s1 p i x y hs1 hy hg, rstep_eq 9 s0 s1 p i x y hs1 hy hg⟩
    · exact ⟨_, _, some 1, step_bad s0 s1 p i x y hg, rstep_bad 10 s0 s1 p i x y hg⟩
  have hP : ∃ re im n m e, servo_Pull.f p i y z = some ((re, im), e) ∧ fuseeref16_Pull.f p i y z = some (n, m, numE e) ∧ floatToIntVal .f64 re .i64 = some n ∧ floatToIntVal .f64 im .i64 = some m := by
    by_cases h : _root_.Go.Proofs.YtfipgpfmlkfkfaaDoor.MSv.okGain p i 0 ∧ _root_.Go.Proofs.YtfipgpfmlkfkfaaDoor.MSv.small y ∧ _root_.Go.Proofs.YtfipgpfmlkfkfaaDoor.MSv.small z
    · obtain ⟨re, im, h1, h2, h3⟩ := pull_eq p i y z h.1 h.2.1 h.2.2
      exact ⟨re, im, _, _, none, h1, rpull_eq p i y z h.1 h.2.1 h.2.2, h2, h3⟩
    · exact ⟨0, 0, 0, 0, some 1, ppull_bad p i y z h, rpull_bad p i y z h, by decide +kernel, by decide +kernel⟩
  obtain ⟨a, b, e1, r1, r2⟩ := hS
  obtain ⟨re, im, n, m, e2, r3, r4, r5, r6⟩ := hP
  unfold fuseelaw16_ServoSteps.f
  rw [r1, Option.bind_some, r2, Option.bind_some, r3, Option.bind_some, r4, Option.bind_some, q1, Option.bind_some, q2, Option.bind_some]
  simp only [beq_self_eq_true, Bool.and_self, if_true, fuseelaw16_num.f, Option.bind_some, r5, r6, Option.isSome_some, Option.getD_some]
  rw [check_eq, may_eq, sure_ok]
  by_cases hg : _root_.Go.Proofs.YtfipgpfmlkfkfaaDoor.MSv.okGain p i x
  · rw [if_pos hg, decide_eq_true hg]; rfl
  · rw [if_neg hg, decide_eq_false hg]; rfl
end Go.Proofs.YtfipgpfmlkfkfaaDoor.MServoSteps
