/-
  ServoHolds in plain numbers.
-/
import Derived.Test.YtfipgpfmlkfkfaaDoorK
import Derived.Test.YtfipgpfmlkfkfaaDoorMath
import Derived.Test.YtfipgpfmlkfkfaaDoorMServoHoldsx
namespace Go.Proofs.YtfipgpfmlkfkfaaDoor.MServoHolds
open Go.RowKit Go.Proofs.YtfipgpfmlkfkfaaDoorW.PrintWords Go.Proofs.YtfipgpfmlkfkfaaDoorW.PrintMore
set_option linter.unusedVariables false
set_option linter.unusedSimpArgs false

/-- the printed error is the error as a value -/
theorem errW_errV (o : Option Int) : errW o = errV o := by cases o <;> rfl
theorem pSub (a b : Int) (ha : R64 a) (hb : R64 b) : num_Sub.f a b = some (if R64 (a - b) then (a - b, none) else (0, some 2)) := by
  unfold num_Sub.f
  by_cases h : R64 (a - b)
  · rw [if_pos h, h.wrap, if_neg]
    unfold R64 at *
    by_cases h0 : b < 0 <;> simp [h0] <;> omega
  · rw [if_neg h, if_pos]
    unfold R64 at *
    by_cases h0 : b < 0
    · have : ¬ wrap64 (a - b) > a := by unfold wrap64; omega
      simp [h0]; omega
    · have : wrap64 (a - b) > a := by unfold wrap64; omega
      simp [h0]; omega
theorem pSubSat (a b : Int) (ha : R64 a) (hb : R64 b) : num_SubSat.f a b = some (sat (a - b)) := by
  unfold num_SubSat.f num_edge.f
  rw [pSub a b ha hb]
  by_cases h : R64 (a - b)
  · rw [if_pos h, sat_of h]; rfl
  · rw [if_neg h]
    unfold R64 at *
    by_cases h0 : b > 0
    · simp [h0]; unfold sat; rw [if_pos (by omega)]
    · simp [h0]; unfold sat; rw [if_neg (by omega), if_pos (by omega)]
theorem pDiv (a b : Int) (ha : R64 a) (hb : R64 b) (h : 1 ≤ b) : num_Div.f a b = some (a / b, a % b, none) := by
  unfold num_Div.f
  have hr0 := Int.emod_nonneg a (show b ≠ 0 by omega)
  have hr1 := Int.emod_lt_of_pos a (show 0 < b by omega)
  have hq := div_bounds ha h
  have ht := (tdiv_range ha h).wrap
  rw [if_neg (by omega), if_neg (by omega), ht]
  rcases Int.lt_or_le a 0 with h0 | h0
  · have e1 := tdiv_neg h0 h
    have e2 := tmod_neg h0 h
    by_cases hz : a % b = 0
    · rw [if_pos hz] at e1 e2
      rw [if_neg (by omega), e1, e2]; simp
    · rw [if_neg hz] at e1 e2
      rw [if_pos (by omega), e1, e2, R64.wrap (by simpa using hq.1), R64.wrap (by unfold R64 at *; omega)]; simp
  · rw [Int.tmod_eq_emod_of_nonneg h0, tdiv_of_nonneg h0, if_neg (by omega)]
theorem pDivBad (a b : Int) (h : b < 1) : num_Div.f a b = some (0, 0, some 1) := by unfold num_Div.f; rw [if_pos h]

def cl (x : Int) : Int := mx (-1048576) (mn x 1048576)
theorem cl_small (x : Int) : -1048576 ≤ cl x ∧ cl x ≤ 1048576 := by unfold cl mx mn; repeat' split
                                                                    all_goals omega
theorem cl_id (x : Int) (h0 : -1048576 ≤ x) (h1 : x ≤ 1048576) : cl x = x := by unfold cl mx mn; repeat' split
                                                                                all_goals omega
/-- a servo's step: how it is pulled, and the sum -/
def stepV (s1 p i limit off : Int) : Int × Int :=
  (mx (-limit) (mn ((p * cl (off / 1024) + i * cl (cl s1 + cl (off / 1024))) / 1024) limit), cl (cl s1 + cl (off / 1024)))
theorem prod_bound (x y a b : Int) (hx : -a ≤ x ∧ x ≤ a) (hy : -b ≤ y ∧ y ≤ b) (ha : 0 ≤ a) (hb : 0 ≤ b) : -(a * b) ≤ x * y ∧ x * y ≤ a * b := by
  have h1 : (x * y).natAbs ≤ (a * b).natAbs := by
    rw [Int.natAbs_mul, Int.natAbs_mul]
    exact Nat.mul_le_mul (by omega) (by omega)
  have h2 : 0 ≤ a * b := Int.mul_nonneg ha hb
  generalize x * y = u at *
  generalize a * b = v at *
  omega
theorem pull_eq (p i n s : Int) (hg : _root_.Go.Proofs.YtfipgpfmlkfkfaaDoor.MSv.okGain p i 0) (hn : -1048576 ≤ n ∧ n ≤ 1048576) (hs : -1048576 ≤ s ∧ s ≤ 1048576) :
    ∃ re im, servo_Pull.f p i n s = some ((re, im), none) ∧ floatToIntVal .f64 re .i64 = some (p * n + i * s) ∧ floatToIntVal .f64 im .i64 = some (i * n - p * s) := by
  obtain ⟨g1, g2, g3, g4, _, _⟩ := hg
  obtain ⟨re, im, h1, h2, h3⟩ := cmul_whole (WB.ofInt p (by omega)) (WB.ofInt i (by omega)) (WB.ofInt n (by omega)) ((WB.ofInt s (by omega)).neg) (by omega) (by omega) (by omega) (by omega)
  have b1 := prod_bound p n 1024 1048576 (by omega) (by omega) (by omega) (by omega)
  have b2 := prod_bound i s 1024 1048576 (by omega) (by omega) (by omega) (by omega)
  have b3 := prod_bound p s 1024 1048576 (by omega) (by omega) (by omega) (by omega)
  have b4 := prod_bound i n 1024 1048576 (by omega) (by omega) (by omega) (by omega)
  have e1 : p * n - i * -s = p * n + i * s := by rw [Int.mul_neg]; omega
  have e2 : p * -s + i * n = i * n - p * s := by rw [Int.mul_neg]; omega
  rw [e1] at h2
  rw [e2] at h3
  refine ⟨re, im, ?_, h2.int (by omega) (by omega), h3.int (by omega) (by omega)⟩
  unfold servo_Pull.f _root_.Go.Proofs.YtfipgpfmlkfkfaaDoor.MSv.servo_Pull.f
  rw [if_pos ⟨⟨g1, g2, g3, g4, by omega, by omega⟩, hn, hs⟩, h1]
  rfl
theorem check_eq (p i limit : Int) : servo_Check.f p i limit = some (if _root_.Go.Proofs.YtfipgpfmlkfkfaaDoor.MSv.okGain p i limit then none else some 1) := rfl
theorem within_eq (x : Int) : servo_within.f x = some (cl x) := rfl
theorem down_eq (x : Int) (hx : R64 x) : servo_down.f x = some (x / 1024) := by
  unfold servo_down.f
  rw [pDiv x 1024 hx (by unfold R64; omega) (by omega)]
  rfl
theorem step_eq (s0 s1 p i limit off : Int) (hs1 : R64 s1) (ho : R64 off) (hg : _root_.Go.Proofs.YtfipgpfmlkfkfaaDoor.MSv.okGain p i limit) : servo_Step.f s0 s1 p i limit off = some ((stepV s1 p i limit off).1, (stepV s1 p i limit off).2, none) := by
  have hg' : _root_.Go.Proofs.YtfipgpfmlkfkfaaDoor.MSv.okGain p i 0 := ⟨hg.1, hg.2.1, hg.2.2.1, hg.2.2.2.1, by omega, by omega⟩
  have c1 := cl_small (off / 1024)
  have c2 := cl_small s1
  have c3 := cl_small (cl s1 + cl (off / 1024))
  obtain ⟨re, im, h1, h2, _⟩ := pull_eq p i _ _ hg' c1 c3
  have b1 := prod_bound p (cl (off / 1024)) 1024 1048576 (by have := hg.1; have := hg.2.1; omega) (by omega) (by omega) (by omega)
  have b2 := prod_bound i (cl (cl s1 + cl (off / 1024))) 1024 1048576 (by have := hg.2.2.1; have := hg.2.2.2.1; omega) (by omega) (by omega) (by omega)
  have hl := hg.2.2.2.2
  unfold servo_Step.f
  rw [check_eq, if_pos hg]
  simp only [Option.bind_some, Option.isNone_none, if_true]
  rw [down_eq off ho]
  simp only [Option.bind_some, within_eq]
  rw [show wrap64 (cl s1 + cl (off / 1024)) = cl s1 + cl (off / 1024) by unfold wrap64; omega, h1]
  simp only [Option.bind_some, Option.isNone_none, if_true, h2, Option.isSome_some, Option.getD_some]
  unfold stepV
  generalize p * cl (off / 1024) = u at *
  generalize i * cl (cl s1 + cl (off / 1024)) = v at *
  rw [down_eq _ (by unfold R64; omega)]
  simp only [Option.bind_some, num_Clamp.f]
  rw [show wrap64 (-limit) = -limit by unfold wrap64; omega]
theorem sure_ok : fuseelaw16_sure.f = some true := by decide +kernel

theorem wf_i16 {x : Int} (h : (Lit.int .i16 x).wf = true) : -32768 ≤ x ∧ x ≤ 32767 := by
  simp [Lit.wf, IntKind.min, IntKind.max, IntKind.signed, IntKind.bits] at h
  omega
theorem cl_neg (x : Int) : cl (-x) = -cl x := by unfold cl mx mn; repeat' split
                                                 all_goals omega
theorem both (p i limit S n : Int) (hg : _root_.Go.Proofs.YtfipgpfmlkfkfaaDoor.MSv.okGain p i limit) (hS : -1048576 ≤ S ∧ S ≤ 1048576) (hn : -32768 ≤ n ∧ n ≤ 32768) :
    (stepV S p i limit (n * 1024)).2 = -(stepV (-S) p i limit (-(n * 1024))).2 ∧ -limit ≤ (stepV S p i limit (n * 1024)).1 ∧ (stepV S p i limit (n * 1024)).1 ≤ limit ∧ -limit ≤ (stepV (-S) p i limit (-(n * 1024))).1 ∧ (stepV (-S) p i limit (-(n * 1024))).1 ≤ limit ∧ -1 ≤ (stepV S p i limit (n * 1024)).1 + (stepV (-S) p i limit (-(n * 1024))).1 ∧ (stepV S p i limit (n * 1024)).1 + (stepV (-S) p i limit (-(n * 1024))).1 ≤ 0 ∧ -1048576 ≤ (stepV S p i limit (n * 1024)).2 ∧ (stepV S p i limit (n * 1024)).2 ≤ 1048576 := by
  have hl := hg.2.2.2.2
  have e1 : n * 1024 / 1024 = n := by omega
  have e2 : -(n * 1024) / 1024 = -n := by omega
  have e3 : cl n = n := cl_id n (by omega) (by omega)
  have e4 : cl (-n) = -n := cl_id (-n) (by omega) (by omega)
  have e5 : cl S = S := cl_id S (by omega) (by omega)
  have e6 : cl (-S) = -S := cl_id (-S) (by omega) (by omega)
  have e7 : cl (-S + -n) = -cl (S + n) := by rw [show -S + -n = -(S + n) by omega, cl_neg]
  have c := cl_small (S + n)
  unfold stepV
  simp only [e1, e2, e3, e4, e5, e6, e7, Int.mul_neg]
  generalize cl (S + n) = T at *
  generalize p * n = u
  generalize i * T = v
  clear e1 e2 e3 e4 e5 e6 e7
  refine ⟨by omega, ?_, ?_, ?_, ?_, ?_, ?_, by omega, by omega⟩
  all_goals
    unfold mx mn
    repeat' split
    all_goals omega
theorem rounds (p i limit : Int) (l : List Int) (hg : _root_.Go.Proofs.YtfipgpfmlkfkfaaDoor.MSv.okGain p i limit) (hl : l.length ≤ 40) (hw : ∀ x ∈ l, (Lit.int .i16 x).wf = true) : ∀ (d k : Nat) (j a0 S b0 : Int), 0 ≤ j → j = (l.length : Int) - d → d + 2 ≤ k → -1048576 ≤ S ∧ S ≤ 1048576 → fuseelaw16_ServoHolds.l0 k limit l j p i a0 S b0 (-S) 0 0 = some true := by
  intro d
  have hz : stepV 0 p i limit 0 = (0, 0) := by
    have hl := hg.2.2.2.2
    unfold stepV
    have e : cl 0 = 0 := by decide
    simp only [show (0 : Int) / 1024 = 0 from rfl, e, Int.add_zero, Int.mul_zero]
    have : mx (-limit) (mn 0 limit) = 0 := by unfold mx mn; repeat' split
                                              all_goals omega
    rw [this]
  induction d with
  | zero =>
    intro k j a0 S b0 h0 h1 h2 h3
    obtain ⟨k, rfl⟩ : ∃ m, k = m + 1 := ⟨k - 1, by omega⟩
    simp only [fuseelaw16_ServoHolds.l0]
    rw [if_neg (by omega), sure_ok]; rfl
  | succ d ih =>
    intro k j a0 S b0 h0 h1 h2 h3
    obtain ⟨k, rfl⟩ : ∃ m, k = m + 1 := ⟨k - 1, by omega⟩
    have hr : -32768 ≤ rd l j ∧ rd l j ≤ 32767 := by
      refine wf_i16 (hw _ ?_)
      unfold rd
      rw [List.getD_eq_getElem?_getD, List.getElem?_eq_getElem (show j.toNat < l.length by omega)]
      exact List.getElem_mem _
    have hb := both p i limit S (rd l j) hg h3 (by omega)
    obtain ⟨b1, b2, b3, b4, b5, b6, b7, b8, b9⟩ := hb
    have hlim := hg.2.2.2.2
    simp only [fuseelaw16_ServoHolds.l0]
    rw [if_pos (by omega), if_pos h0, show wrap64 (wrap64 (rd l j) * 1024) = rd l j * 1024 by unfold wrap64; omega, show wrap64 (-(rd l j * 1024)) = -(rd l j * 1024) by unfold wrap64; omega]
    rw [step_eq a0 S p i limit _ (by unfold R64; omega) (by unfold R64; omega) hg, step_eq b0 (-S) p i limit _ (by unfold R64; omega) (by unfold R64; omega) hg, step_eq 0 0 p i limit 0 (by unfold R64; omega) (by unfold R64; omega) hg, hz]
    simp only [Option.bind_some, Option.isNone_none, if_true]
    have hx : (stepV S p i limit (rd l j * 1024)).2 = wrap64 (-(stepV (-S) p i limit (-(rd l j * 1024))).2) := by rw [b1]; unfold wrap64; omega
    rw [if_neg (by decide), if_pos hx]
    have hS2 : (stepV (-S) p i limit (-(rd l j * 1024))).2 = -(stepV S p i limit (rd l j * 1024)).2 := by omega
    rw [hS2]
    generalize (stepV S p i limit (rd l j * 1024)).1 = f1 at *
    generalize (stepV (-S) p i limit (-(rd l j * 1024))).1 = f2 at *
    rw [show wrap64 (-limit) = -limit by unfold wrap64; omega, if_neg (by omega), if_neg (by omega), show wrap64 (f1 + f2) = f1 + f2 by unfold wrap64; omega, if_neg (by omega), if_neg (by omega)]
    rw [show wrap64 (j + 1) = j + 1 by unfold wrap64; omega]
    exact ih k (j + 1) f1 _ f2 (by omega) (by omega) (by omega) ⟨b8, b9⟩
theorem done (p i limit : Int) (l : List Int) (h0 : (Lit.int .i64 p).wf = true) (h1 : (Lit.int .i64 i).wf = true) (h2 : (Lit.int .i64 limit).wf = true) (hm : l.length ≤ maxLen) (hw : ∀ x ∈ l, (Lit.int .i16 x).wf = true) : ∃ k, fuseelaw16_ServoHolds.f k p i limit l = some true := by
  refine ⟨50, ?_⟩
  unfold fuseelaw16_ServoHolds.f
  have hs : fuseelaw16_ServoHolds.j0 50 limit l true p i = some true := by
    simp only [fuseelaw16_ServoHolds.j0]
    rw [if_pos trivial, sure_ok]; rfl
  by_cases c : (l.length : Int) > 40
  · rw [if_pos c]; exact hs
  · rw [if_neg c, check_eq]
    simp only [Option.bind_some]
    by_cases g : _root_.Go.Proofs.YtfipgpfmlkfkfaaDoor.MSv.okGain p i limit
    · rw [if_pos g]
      simp only [Option.isNone_none, if_true, fuseelaw16_ServoHolds.j0]
      rw [if_neg (by simp)]
      exact rounds p i limit l g (by omega) hw l.length 49 0 0 0 0 (by omega) (by omega) (by omega) (by omega)
    · rw [if_neg g]
      simp only [Option.isNone_some, Bool.false_eq_true, if_false]
      exact hs
end Go.Proofs.YtfipgpfmlkfkfaaDoor.MServoHolds
