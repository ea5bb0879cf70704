/-
  What the functions of package leap, and those of its reference, tell of any table and day, in plain numbers.
-/
import Derived.Test.YtnlaiiophongmaaDoorK
import Derived.Test.YtnlaiiophongmaaDoorMath
import Derived.Test.YtnlaiiophongmaaDoorPLeapDaysx
namespace Go.Proofs.YtnlaiiophongmaaDoor.PLeapDays
open Go.RowKit Go.Proofs.YtnlaiiophongmaaDoorW.PrintWords Go.Proofs.YtnlaiiophongmaaDoorW.PrintMore
set_option linter.unusedVariables false
set_option linter.unusedSimpArgs false

/-- the printed error is the error as a value -/
theorem errW_errV (o : Option Int) : errW o = errV o := by cases o <;> rfl
theorem pDiv (a b : Int) (ha : R64 a) (hb : R64 b) (h : 1 ≤ b) : num_Div.f a b = some (a / b, a % b, none) := by
  unfold num_Div.f
  have hr0 := Int.emod_nonneg a (show b ≠ 0 by omega)
  have hr1 := Int.emod_lt_of_pos a (show 0 < b by omega)
  have hq := div_bounds ha h
  have ht := (tdiv_range ha h).wrap
  rw [if_neg (by omega), if_neg (by omega), ht]
  rcases Int.lt_or_le a 0 with h0 | h0
  · have e1 := tdiv_neg h0 h
    have e2 := tmod_neg h0 h
    by_cases hz : a % b = 0
    · rw [if_pos hz] at e1 e2
      rw [if_neg (by omega), e1, e2]; simp
    · rw [if_neg hz] at e1 e2
      rw [if_pos (by omega), e1, e2, R64.wrap (by simpa using hq.1), R64.wrap (by unfold R64 at *; omega)]; simp
  · rw [Int.tmod_eq_emod_of_nonneg h0, tdiv_of_nonneg h0, if_neg (by omega)]
theorem pDivBad (a b : Int) (h : b < 1) : num_Div.f a b = some (0, 0, some 1) := by unfold num_Div.f; rw [if_pos h]

/-- may element i be -/
def rowOk (l : Int) (L : List Int) (i : Nat) : Bool := decide (-50000 ≤ rd L i) && decide (rd L i < l) && (decide (i = 0) || decide (rd L ((i : Int) - 1) < rd L i))
/-- may the d elements from i on be -/
def rowsOk (l : Int) (L : List Int) : Nat → Nat → Bool
  | 0, _ => true
  | d + 1, i => rowOk l L i && rowsOk l L d (i + 1)
def headOk (b l : Int) (L : List Int) : Bool := decide (0 ≤ b) && decide (b ≤ 100) && decide (-50000 ≤ l) && decide (l ≤ 50000) && decide ((L.length : Int) ≤ 32)
def tabOk (b l : Int) (L : List Int) : Bool := headOk b l L && rowsOk l L L.length 0
theorem wrapS {i : Nat} (h : i < 1000) : wrap64 ((i : Int) + 1) = ((i + 1 : Nat) : Int) := by unfold wrap64; omega
theorem check_l0 (b l : Int) (L : List Int) (hL : L.length ≤ 60) : ∀ (d k i : Nat), i + d = L.length → d < k → leap_Check.l0 k L (L.length : Int) (i : Int) b l L = some (if rowsOk l L d i = true then none else some 1) := by
  intro d
  induction d with
  | zero =>
    intro k i hi hk
    obtain ⟨k, rfl⟩ : ∃ m, k = m + 1 := ⟨k - 1, by omega⟩
    simp only [leap_Check.l0]
    rw [if_neg (by omega)]; simp [rowsOk]
  | succ d ih =>
    intro k i hi hk
    obtain ⟨k, rfl⟩ : ∃ m, k = m + 1 := ⟨k - 1, by omega⟩
    have ih' := ih k (i + 1) (by omega) (by omega)
    simp only [leap_Check.l0]
    rw [if_pos (by omega), if_pos (by omega), if_pos (by omega), wrapS (by omega), ih']
    simp only [rowsOk, rowOk]
    by_cases h1 : rd L i < -50000
    · rw [if_pos h1]; simp [show ¬ (-50000 ≤ rd L i) by omega]
    · rw [if_neg h1]
      by_cases h2 : rd L i ≥ l
      · rw [if_pos h2]; simp [show ¬ (rd L i < l) by omega]
      · rw [if_neg h2]
        by_cases h3 : i = 0
        · rw [if_neg (by omega)]; subst h3; simp at h1 h2 ⊢; simp [h1, h2]
        · rw [if_pos (by omega), show wrap64 ((i : Int) - 1) = (i : Int) - 1 from R64.wrap (by unfold R64; omega), if_pos (by omega), if_pos (by omega)]
          by_cases h4 : rd L ((i : Int) - 1) ≥ rd L i
          · rw [if_pos h4]; simp [show ¬ (rd L ((i : Int) - 1) < rd L i) by omega, h3]
          · rw [if_neg h4]; simp [show rd L ((i : Int) - 1) < rd L i by omega, show -50000 ≤ rd L i by omega, show rd L i < l by omega]
theorem check_eq (k : Nat) (b l : Int) (L : List Int) (hL : L.length ≤ 60) (hk : 70 ≤ k) : leap_Check.f k b l L = some (if tabOk b l L = true then none else some 1) := by
  obtain ⟨k, rfl⟩ : ∃ m, k = m + 1 := ⟨k - 1, by omega⟩
  have h0 := check_l0 b l L hL L.length k 0 (by omega) (by omega)
  unfold leap_Check.f tabOk headOk
  by_cases h1 : b < 0
  · rw [if_pos h1]; simp [leap_Check.j0, show ¬ (0 ≤ b) by omega]
  rw [if_neg h1]
  by_cases h2 : b > 100
  · rw [if_pos h2]; simp [leap_Check.j0, show ¬ (b ≤ 100) by omega]
  rw [if_neg h2]
  by_cases h3 : l < -50000
  · rw [if_pos h3]; simp [leap_Check.j0, show ¬ (-50000 ≤ l) by omega]
  rw [if_neg h3]
  by_cases h4 : l > 50000
  · rw [if_pos h4]; simp [leap_Check.j0, show ¬ (l ≤ 50000) by omega]
  rw [if_neg h4]
  simp only [leap_Check.j0]
  by_cases h5 : (L.length : Int) > 32
  · rw [if_pos (by simpa using h5)]; simp [show ¬ ((L.length : Int) ≤ 32) by omega]
  · rw [if_neg (by simpa using h5)]
    refine h0.trans ?_
    simp [show 0 ≤ b by omega, show b ≤ 100 by omega, show -50000 ≤ l by omega, show l ≤ 50000 by omega, show (L.length : Int) ≤ 32 by omega]
theorem may_l0 (b l : Int) (L : List Int) (hL : L.length ≤ 60) : ∀ (d k i : Nat), i + d = L.length → d < k → fuseeref09_May.l0 k (i : Int) b l L = some (headOk b l L && rowsOk l L d i) := by
  intro d
  induction d with
  | zero =>
    intro k i hi hk
    obtain ⟨k, rfl⟩ : ∃ m, k = m + 1 := ⟨k - 1, by omega⟩
    simp only [fuseeref09_May.l0]
    rw [if_neg (by omega)]
    unfold headOk
    by_cases h1 : b ≥ 0 <;> by_cases h2 : b ≤ 100 <;> by_cases h3 : l ≥ -50000 <;> by_cases h4 : l ≤ 50000 <;> simp [rowsOk, h1, h2, h3, h4] <;> omega
  | succ d ih =>
    intro k i hi hk
    obtain ⟨k, rfl⟩ : ∃ m, k = m + 1 := ⟨k - 1, by omega⟩
    have ih' := ih k (i + 1) (by omega) (by omega)
    simp only [fuseeref09_May.l0]
    rw [if_pos (by omega), if_pos (by omega), wrapS (by omega), ih']
    simp only [rowsOk, rowOk]
    by_cases h1 : rd L i < -50000
    · rw [if_pos h1]; simp [show ¬ (-50000 ≤ rd L i) by omega]
    · rw [if_neg h1]
      by_cases h2 : rd L i ≥ l
      · rw [if_pos h2]; simp [show ¬ (rd L i < l) by omega]
      · rw [if_neg h2]
        by_cases h3 : i = 0
        · rw [if_neg (by omega)]; subst h3; simp at h1 h2 ⊢; simp [h1, h2]
        · rw [if_pos (by omega), show wrap64 ((i : Int) - 1) = (i : Int) - 1 from R64.wrap (by unfold R64; omega), if_pos (by omega), if_pos (by omega)]
          by_cases h4 : rd L i ≤ rd L ((i : Int) - 1)
          · rw [if_pos h4]; simp [show ¬ (rd L ((i : Int) - 1) < rd L i) by omega, h3]
          · rw [if_neg h4]; simp [show rd L ((i : Int) - 1) < rd L i by omega, show -50000 ≤ rd L i by omega, show rd L i < l by omega]
theorem may_eq (k : Nat) (b l : Int) (L : List Int) (hL : L.length ≤ 60) (hk : 70 ≤ k) : fuseeref09_May.f k b l L = some (tabOk b l L) := by
  unfold fuseeref09_May.f tabOk
  exact may_l0 b l L hL L.length k 0 (by omega) (by omega)
/-- the error of a day -/
def wr (b l : Int) (L : List Int) (day : Int) : Option Int := if tabOk b l L = true then (if day < -50000 then some 2 else if day ≥ l then some 10 else none) else some 1
theorem known_eq (k : Nat) (b l : Int) (L : List Int) (day : Int) (hL : L.length ≤ 60) (hk : 70 ≤ k) : leap_known.f k b l L day = some (wr b l L day) := by
  unfold leap_known.f wr
  rw [check_eq k b l L hL hk]
  cases tabOk b l L <;> simp
  split <;> (try split) <;> rfl
theorem wrong_eq (k : Nat) (b l : Int) (L : List Int) (day : Int) (hL : L.length ≤ 60) (hk : 70 ≤ k) : fuseeref09_Wrong.f k b l L day = some (numE (wr b l L day)) := by
  unfold fuseeref09_Wrong.f wr
  rw [may_eq k b l L hL hk]
  cases tabOk b l L
  · simp [numE]
  · by_cases h1 : day < -50000
    · simp [h1, numE]
    · by_cases h2 : day ≥ l <;> simp [h1, h2, numE]
/-- how many of the first i elements are below x -/
def cnt (L : List Int) (x : Int) : Nat → Nat
  | 0 => 0
  | i + 1 => cnt L x i + (if rd L i < x then 1 else 0)
theorem cnt_le (L : List Int) (x : Int) : ∀ i, cnt L x i ≤ i
  | 0 => Nat.le_refl _
  | i + 1 => by have := cnt_le L x i; unfold cnt; split <;> omega
theorem cnt_split (L : List Int) (x : Int) (p : Nat) (h1 : ∀ i, i < p → rd L (i : Nat) < x) : ∀ n, p ≤ n → (∀ i, p ≤ i → i < n → ¬ rd L (i : Nat) < x) → cnt L x n = p := by
  have base : ∀ m, m ≤ p → cnt L x m = m := by
    intro m
    induction m with
    | zero => intro _; rfl
    | succ m ih => intro hm; unfold cnt; rw [ih (by omega), if_pos (h1 m (by omega))]
  intro n
  induction n with
  | zero => intro hp _; have e : p = 0 := by omega
            rw [e]; rfl
  | succ n ih =>
    intro hp h2
    by_cases e : p = n + 1
    · rw [e] at base ⊢; exact base _ (Nat.le_refl _)
    · unfold cnt
      rw [ih (by omega) (fun i a c => h2 i a (by omega)), if_neg (h2 n (by omega) (by omega))]; rfl
theorem rows_at {l : Int} {L : List Int} : ∀ (d i : Nat), rowsOk l L d i = true → ∀ j, i ≤ j → j < i + d → rowOk l L j = true
  | 0, i, _, j, h1, h2 => by omega
  | d + 1, i, h, j, h1, h2 => by
    simp only [rowsOk, Bool.and_eq_true] at h
    by_cases e : j = i
    · rw [e]; exact h.1
    · exact rows_at d (i + 1) h.2 j (by omega) (by omega)
theorem sorted_of {l : Int} {L : List Int} (h : rowsOk l L L.length 0 = true) : ∀ j i : Nat, i < j → j < L.length → rd L (i : Nat) < rd L (j : Nat) := by
  intro j
  induction j with
  | zero => intro i hi; omega
  | succ j ih =>
    intro i hi hj
    have hr := rows_at L.length 0 h (j + 1) (by omega) (by omega)
    simp only [rowOk, Bool.and_eq_true, Bool.or_eq_true, decide_eq_true_eq] at hr
    have h3 : rd L (j : Nat) < rd L ((j + 1 : Nat) : Int) := by
      rcases hr.2 with e | e
      · omega
      · have e2 : ((j + 1 : Nat) : Int) - 1 = (j : Int) := by omega
        rw [e2] at e; exact e
    by_cases e : i = j
    · rw [e]; exact h3
    · have := ih i (by omega) (by omega); omega
theorem less_eq (a b : Int) : cmp_Less_int64.f a b = some (decide (a < b)) := by
  unfold cmp_Less_int64.f cmp_isNaN_int64.f; simp
theorem bs_l0 (L : List Int) (x : Int) (hL : L.length ≤ 60) (hs : ∀ j i : Nat, i < j → j < L.length → rd L (i : Nat) < rd L (j : Nat)) :
    ∀ (d k i j : Nat), i + d = j → j ≤ L.length → d < k → (∀ m : Nat, m < i → rd L (m : Nat) < x) → (∀ m : Nat, j ≤ m → m < L.length → ¬ rd L (m : Nat) < x) →
    ∃ f, slices_BinarySearch_int64_int64.l0 k L x (L.length : Int) (i : Int) (j : Int) = some ((cnt L x L.length : Int), f) := by
  intro d
  induction d using Nat.strongRecOn with
  | ind d ih =>
    intro k i j hij hj hk h1 h2
    obtain ⟨k, rfl⟩ : ∃ m, k = m + 1 := ⟨k - 1, by omega⟩
    simp only [slices_BinarySearch_int64_int64.l0]
    by_cases hlt : i < j
    · have hw : wrap64 ((IntKind.u64.wrap (wrap64 ((i : Int) + (j : Int)))) / 2) = (((i + j) / 2 : Nat) : Int) := by
        have e1 : wrap64 ((i : Int) + (j : Int)) = (i : Int) + (j : Int) := R64.wrap (by unfold R64; omega)
        have e2 : IntKind.u64.wrap ((i : Int) + (j : Int)) = (i : Int) + (j : Int) := by
          simp only [IntKind.wrap, IntKind.bits, IntKind.signed]
          simp; omega
        rw [e1, e2, R64.wrap (by unfold R64; omega)]; omega
      rw [if_pos (by omega), hw, if_pos (by omega), if_pos (by omega), less_eq]
      simp only [Option.bind_some]
      by_cases hx : rd L (((i + j) / 2 : Nat) : Int) < x
      · rw [if_pos (by simpa using hx), wrapS (by omega)]
        refine ih (j - ((i + j) / 2 + 1)) (by omega) k ((i + j) / 2 + 1) j (by omega) hj (by omega) ?_ h2
        intro m hm
        by_cases e : m = (i + j) / 2
        · rw [e]; exact hx
        · have := hs ((i + j) / 2) m (by omega) (by omega); omega
      · rw [if_neg (by simpa using hx)]
        refine ih ((i + j) / 2 - i) (by omega) k i ((i + j) / 2) (by omega) (by omega) (by omega) h1 ?_
        intro m hm hm2
        by_cases e : m = (i + j) / 2
        · rw [e]; exact hx
        · have := hs m ((i + j) / 2) (by omega) hm2; omega
    · have hij' : i = j := by omega
      subst hij'
      have hc := cnt_split L x i h1 L.length hj h2
      rw [if_neg (by omega), hc]
      by_cases h3 : (i : Int) < (L.length : Int)
      · rw [if_pos h3, if_pos (by omega), if_pos h3]
        by_cases h4 : rd L (i : Int) = x
        · rw [if_pos h4]; exact ⟨_, rfl⟩
        · rw [if_neg h4]; unfold slices_isNaN_int64.f; simp
      · rw [if_neg h3]; exact ⟨_, rfl⟩
theorem ahead_eq (k : Nat) (b l : Int) (L : List Int) (day : Int) (hL : L.length ≤ 60) (hk : 70 ≤ k) (ht : tabOk b l L = true) : leap_ahead.f k b l L day = some (b + (cnt L day L.length : Int)) := by
  unfold leap_ahead.f slices_BinarySearch_int64_int64.f
  simp only [tabOk, headOk, Bool.and_eq_true, decide_eq_true_eq] at ht
  obtain ⟨f, hf⟩ := bs_l0 L day hL (sorted_of ht.2) L.length k 0 L.length (by omega) (Nat.le_refl _) (by omega) (fun m hm => by omega) (fun m h1 h2 => by omega)
  have := cnt_le L day L.length
  rw [show ((0 : Nat) : Int) = 0 from rfl] at hf
  rw [hf]
  simp only [Option.bind_some]
  rw [R64.wrap (by unfold R64; omega)]
/-- when a day begins -/
def beg (b : Int) (L : List Int) (day : Int) : Int := 86400 * day + (b + (cnt L day L.length : Int))
theorem begin_eq (k : Nat) (b l : Int) (L : List Int) (day : Int) (hL : L.length ≤ 60) (hk : 70 ≤ k) (ht : tabOk b l L = true) (hd : -60000 ≤ day ∧ day ≤ 1000000000) : leap_begin.f k b l L day = some (beg b L day) := by
  unfold leap_begin.f beg
  rw [ahead_eq k b l L day hL hk ht]
  simp only [tabOk, headOk, Bool.and_eq_true, decide_eq_true_eq] at ht
  have := cnt_le L day L.length
  simp only [Option.bind_some]
  rw [show wrap64 (day * 86400) = 86400 * day from by rw [Int.mul_comm]; exact R64.wrap (by unfold R64; omega), R64.wrap (by unfold R64; omega)]
theorem second_l0 (b l : Int) (L : List Int) (x : Int) (hL : L.length ≤ 60) : ∀ (d k i : Nat) (s : Int), i + d = L.length → d < k → -1000000000000000 ≤ s → s + d ≤ 1000000000000100 →
    fuseeref09_Second.l0 k x s (i : Int) b l L = some (s + (cnt L x L.length : Int) - (cnt L x i : Int)) := by
  intro d
  induction d with
  | zero =>
    intro k i s hi hk _ _
    obtain ⟨k, rfl⟩ : ∃ m, k = m + 1 := ⟨k - 1, by omega⟩
    simp only [fuseeref09_Second.l0]
    rw [if_neg (by omega), show L.length = i by omega]; congr 1; omega
  | succ d ih =>
    intro k i s hi hk hs1 hs2
    obtain ⟨k, rfl⟩ : ∃ m, k = m + 1 := ⟨k - 1, by omega⟩
    simp only [fuseeref09_Second.l0]
    rw [if_pos (by omega), if_pos (by omega), wrapS (by omega)]
    have hc : cnt L x (i + 1) = cnt L x i + (if rd L i < x then 1 else 0) := rfl
    by_cases hx : rd L (i : Int) < x
    · rw [if_pos hx] at hc ⊢
      rw [show wrap64 (s + 1) = s + 1 from R64.wrap (by unfold R64; omega), ih k (i + 1) (s + 1) (by omega) (by omega) (by omega) (by omega), hc]; congr 1; omega
    · rw [if_neg hx] at hc ⊢
      rw [ih k (i + 1) s (by omega) (by omega) hs1 (by omega), hc]; simp
theorem second_eq (k : Nat) (b l : Int) (L : List Int) (day : Int) (hL : L.length ≤ 60) (hk : 70 ≤ k) (ht : tabOk b l L = true) (hd : -60000 ≤ day ∧ day ≤ 1000000000) : fuseeref09_Second.f k b l L day = some (beg b L day) := by
  unfold fuseeref09_Second.f beg
  simp only [tabOk, headOk, Bool.and_eq_true, decide_eq_true_eq] at ht
  rw [show wrap64 (86400 * day) = 86400 * day from R64.wrap (by unfold R64; omega), R64.wrap (by unfold R64; omega)]
  have := second_l0 b l L day hL L.length k 0 (86400 * day + b) (by omega) (by omega) (by omega) (by omega)
  rw [show ((0 : Nat) : Int) = 0 from rfl] at this
  rw [this]; congr 1; show 86400 * day + b + (cnt L day L.length : Int) - ((0 : Nat) : Int) = _; omega
theorem wr_none {b l : Int} {L : List Int} {day : Int} (h : wr b l L day = none) : tabOk b l L = true ∧ -50000 ≤ day ∧ day < l ∧ l ≤ 50000 ∧ -50000 ≤ l ∧ 0 ≤ b ∧ b ≤ 100 := by
  unfold wr at h
  by_cases ht : tabOk b l L = true
  · rw [if_pos ht] at h
    have ht' := ht
    simp only [tabOk, headOk, Bool.and_eq_true, decide_eq_true_eq] at ht'
    split at h
    · cases h
    · split at h
      · cases h
      · exact ⟨ht, by omega, by omega, by omega, by omega, by omega, by omega⟩
  · rw [if_neg ht] at h; cases h
/-- the value, if there is no error -/
def val (o : Option Int) (v : Int) : Int := match o with | none => v | some _ => 0
theorem Ahead_eq (k : Nat) (b l : Int) (L : List Int) (day : Int) (hL : L.length ≤ 60) (hk : 70 ≤ k) : leap_Ahead.f k b l L day = some (val (wr b l L day) (b + (cnt L day L.length : Int)), wr b l L day) := by
  unfold leap_Ahead.f
  rw [known_eq k b l L day hL hk]
  cases h : wr b l L day with
  | some c => simp [val]
  | none =>
    have hw := wr_none h
    simp only [Option.bind_some, Option.isNone_none, if_true]
    rw [ahead_eq k b l L day hL hk hw.1]; simp [val]
theorem Length_eq (k : Nat) (b l : Int) (L : List Int) (day : Int) (hL : L.length ≤ 60) (hk : 70 ≤ k) : leap_Length.f k b l L day = some (val (wr b l L day) (beg b L (day + 1) - beg b L day), wr b l L day) := by
  unfold leap_Length.f
  rw [known_eq k b l L day hL hk]
  cases h : wr b l L day with
  | some c => simp [val]
  | none =>
    have hw := wr_none h
    have c1 := cnt_le L day L.length
    have c2 := cnt_le L (day + 1) L.length
    simp only [Option.bind_some, Option.isNone_none, if_true]
    rw [show wrap64 (day + 1) = day + 1 from R64.wrap (by unfold R64; omega), begin_eq k b l L (day + 1) hL hk hw.1 (by omega), begin_eq k b l L day hL hk hw.1 (by omega)]
    simp only [Option.bind_some, val]
    rw [R64.wrap (by unfold R64 beg; omega)]
theorem Begin_eq (k : Nat) (b l : Int) (L : List Int) (day : Int) (hL : L.length ≤ 60) (hk : 70 ≤ k) : leap_Begin.f k b l L day = some (val (wr b l L day) (beg b L day * 1000000000), wr b l L day) := by
  unfold leap_Begin.f
  rw [known_eq k b l L day hL hk]
  cases h : wr b l L day with
  | some c => simp [val]
  | none =>
    have hw := wr_none h
    have c1 := cnt_le L day L.length
    simp only [Option.bind_some, Option.isNone_none, if_true]
    rw [begin_eq k b l L day hL hk hw.1 (by omega)]
    simp only [Option.bind_some, val]
    rw [R64.wrap (by unfold R64 beg; omega)]
theorem isTable_l0 (b l : Int) (L : List Int) (hL : L.length ≤ 60) : ∀ (d k i : Nat), i + d = L.length → d < k → fuseelaw09_isTable.l0 k (i : Int) b l L b l L = some true := by
  intro d
  induction d with
  | zero =>
    intro k i hi hk
    obtain ⟨k, rfl⟩ : ∃ m, k = m + 1 := ⟨k - 1, by omega⟩
    simp only [fuseelaw09_isTable.l0]
    rw [if_neg (by omega)]
  | succ d ih =>
    intro k i hi hk
    obtain ⟨k, rfl⟩ : ∃ m, k = m + 1 := ⟨k - 1, by omega⟩
    simp only [fuseelaw09_isTable.l0]
    rw [if_pos (by omega), if_pos (by omega), if_pos (by omega), if_pos trivial, wrapS (by omega)]
    exact ih k (i + 1) (by omega) (by omega)
theorem isTable_eq (k : Nat) (b l : Int) (L : List Int) (hL : L.length ≤ 60) (hk : 70 ≤ k) : fuseelaw09_isTable.f k b l L b l L = some true := by
  obtain ⟨k, rfl⟩ : ∃ m, k = m + 1 := ⟨k - 1, by omega⟩
  unfold fuseelaw09_isTable.f
  rw [if_pos rfl, if_pos rfl]
  simp only [fuseelaw09_isTable.j0]
  rw [if_neg (by simp)]
  exact isTable_l0 b l L hL L.length k 0 (by omega) (by omega)
end Go.Proofs.YtnlaiiophongmaaDoor.PLeapDays
